import Derived.Lib.UnsafeStr
import Derived.Lib.Builder
import Derived.ScopeJumps
import Derived.Test.YtdaajghondabnaaGreatDoorP02
set_option linter.all false
set_option maxHeartbeats 100000000
noncomputable section
namespace Go.Abs
open Go.RowKit
section
variable{f:AV->AV->Bool}{K:KV}{es:IH}{y ym:Value}
def gF:Value->Value->Bool
 |.string a,.string b=>eqbL a.data.toList b.data.toList
 |.int k a,.int c b=>decide (k=c)&&decide (a=b)
 |.bool a,.bool b=>a==b
 |.slice none 0 0,.slice none 0 0=>true
 |.pointer none,.pointer none=>true
 |.map none,.map none=>true
 |.nilFunc,.nilFunc=>true
 |_,_=>false
where eqbL:Ha->Ha->Bool
 |[],[]=>true
 |a::l,b::m=>Nat.beq a.toNat b.toNat&&eqbL l m
 |_,_=>false
def wI(f:AV->AV->Bool):Is->Is->Bool
 |[],[]=>true
 |a::l,b::m=>f a b&&wI f l m
 |_,_=>false
def fnB:AV->AV->Bool
 |.fn (.func f) [] [],.fn (.func g) [] []=>Nat.beq f g
 |_,_=>false
def C0m{a b:AV}(h:fnB a b=true):a=b:=by
 unfold fnB at h;split at h
 ·rw[Z5 h]
 ·cases h
def A8d(f:AV->AV->Bool):IH->IH->Bool
 |[],[]=>true
 |a::l,b::m=>gF a.1 b.1&&(f a.2 b.2&&A8d f l m)
 |_,_=>false
def VS:Nat->AV->AV->Bool
 |_,.v x,.v y=>gF x y
 |d+1,.list n cs,.list m es=>Nat.beq n m&&wI (VS d) cs es
 |d+1,.agg cs,.agg es=>wI (VS d) cs es
 |d+1,.tup cs,.tup es=>wI (VS d) cs es
 |d+1,.imap es,.imap a=>A8d (VS d) es a
 |_+1,.fn f b cs,.fn g a ds=>fnB (.fn f b cs) (.fn g a ds)
 |_,_,_=>false
def A5r(a b:Af):Af:=
 match a with
 |some (v,[])=>(match b with
  |some (u,[])=>(match VS 6 v u with|true=>some (v,[])|false=>none)
  |_=>none)
 |_=>none
def Ur(F:Value×AV->IH->Af)(l:IH):IH->Af:=
 @List.rec (Value×AV) (λ_=>IH->Af) (λ_=>none)
  (λe rest ih pre=>@List.rec (Value×AV) (λ_=>Af) (F e pre) (λ_ _ _=>A5r (F e (pre++rest)) (ih (pre++[e]))) rest) l
def A5V(x:Row)(K:IH->Af):Af:=match x with|.iter l _=>K l|_=>none
def Xw(m:AV)(H:Hp)(K:KV):Af:=
 match m with
 |.imap es=>Io H λs=>K (.it s) ((s,.iter es none)::H)
 |.v (.map none)=>Io H λs=>K (.it s) ((s,.iter [] none)::H)
 |.mp s=>IR H s λx=>mF x λes _=>ck (es.all λp=>fB 3 p.2) (XA4 H s .gone λa=>Io a λt=>K (.it t) ((t,.iter es none)::a))
 |_=>none
def Zd(it:AV)(H:Hp)(K:KV):Af:=
 match it with
 |.it s=>IR H s λx=>A5V x λl=>@List.rec (Value×AV) (λ_=>Af) (K (.tup [.v (.bool false)]) H)
  (λ_ _ _=>Ur (λe rest=>XA4 H s (.iter rest (some e)) λa=>K (.tup [.v (.bool true),tS e.1,e.2]) a) l []) l
 |_=>none
def B0M(x:Row)(K:Value×AV->Af):Af:=match x with|.iter _ (some p)=>K p|_=>none
def dE(it:AV)(H:Hp)(K:K2):Af:=
 match it with
 |.it s=>IR H s λx=>B0M x λp=>K (.tup [tS p.1,p.2])
 |_=>none
def B5v:∀{a b:Ha},gF.eqbL a b=true->a=b:=by
 intro a
 induction a with
 |nil=>intro b h;cases b<;>simp[gF.eqbL]at h;rfl
 |cons x a ih=>
  intro b h;cases b with
  |nil=>simp[gF.eqbL]at h
  |cons y b=>
   simp only[gF.eqbL,KF]at h;rw[ih h.2,UInt8.toNat_inj.1 (Z5 h.1)]
def qR{a b:Value}(h:gF a b=true):a=b:=by
 unfold gF at h;split at h
 ·rename_i x y;obtain⟨⟨x⟩⟩:=x;obtain⟨⟨y⟩⟩:=y;have:=B5v h;simp at this;rw[this]
 ·simp only[KF,decide_eq_true_eq]at h;rw[h.1,h.2]
 ·rw[eq_of_beq h]
 ·rfl
 ·rfl
 ·rfl
 ·rfl
 ·cases h
def rN(c:∀a b,f a b=true->a=b):∀{l m:Is},wI f l m=true->l=m:=by
 intro l
 induction l with
 |nil=>intro m h;cases m<;>simp[wI]at h;rfl
 |cons a l ih=>
  intro m h;cases m with
  |nil=>simp[wI]at h
  |cons b m=>
   simp only[wI,KF]at h;rw[c a b h.1,ih h.2]
def B5S(c:∀a b,f a b=true->a=b):∀{l m:IH},A8d f l m=true->l=m:=by
 intro l
 induction l with
 |nil=>intro m h;cases m<;>simp[A8d]at h;rfl
 |cons a l ih=>
  intro m h;cases m with
  |nil=>simp[A8d]at h
  |cons b m=>
   simp only[A8d,KF]at h;rw[show a=b from Prod.ext (qR h.1) (c _ _ h.2.1),ih h.2.2]
def A4Z:∀(d:Nat)(a b:AV),VS d a b=true->a=b:=by
 intro d
 induction d with
 |zero=>
  intro a b h;cases a<;>cases b<;>simp[VS]at h
  rw[qR h]
 |succ d ih=>
  intro a b h;cases a<;>cases b<;>simp only[VS]at h<;>first|(cases h;done)|skip
  ·rw[qR h]
  ·simp only[KF]at h;rw[Z5 h.1,rN ih h.2]
  ·exact C0m h
  ·rw[rN ih h]
  ·rw[rN ih h]
  ·rw[B5S ih h]
def A3A{a b:Af}{r:AV×Hp}(h:A5r a b=some r):a=some r/\b=some r:=by
 unfold A5r at h;split at h
 ·split at h
  ·split at h
   ·rename_i hq;rw[<-A4Z _ _ _ hq];exact⟨h,h⟩
   ·cases h
  ·cases h
 ·cases h
section
variable{r:AV×Hp}
def oC(F:Value×AV->IH->Af)(e a:Value×AV)(l pre:IH):Ur F (e::a::l) pre=A5r (F e (pre++a::l)) (Ur F (a::l) (pre++[e])):=rfl
def tO(F:Value×AV->IH->Af)(e:Value×AV)(pre:IH):Ur F [e] pre=F e pre:=rfl
def A1s{F:Value×AV->IH->Af}:∀(l pre:IH),Ur F l pre=some r->∀(j:Nat)(e:Value×AV),l[j]?=some e->F e (pre++l.eraseIdx j)=some r:=by
 intro l
 induction l with
 |nil=>intro pre h;cases h
 |cons e l ih=>
  intro pre h j a he;cases l with
  |nil=>
   rw[tO]at h;cases j with
   |zero=>simp at he;subst he;simpa using h
   |succ j=>simp at he
  |cons b l=>
   rw[oC]at h;obtain⟨h1,h2⟩:=A3A h;cases j with
   |zero=>simp at he;subst he;simpa using h1
   |succ j=>
    have:=ih _ h2 j a (by simpa using he);simpa using this
variable{P:Program}{G:Gl}{w0:Base}{C:Ctx}{H:Hp}{w:World}
def Ext.weak{C':Ctx}{w':World}{O:Nat->Prop}(h:Ext (λ_=>False) C w C' w'):Ext O C w C' w':=
 ⟨h.π,h.F,h.keep,h.B,h.keepB,h.size,λb i a=>(h.new b i a).imp id False.elim,λb a=>(h.newB b a).imp id False.elim,h.grow⟩
def oM{mt A t:TypeId}(N:P.underlying mt=some (.map A t))(hr:Rel G w0 C H w)(hm:VRel C w (.imap es) ym)(h:(Io H λs=>K (.it s) ((s,.iter es none)::H))=some r):
 ∃v n y D B,K v n=some r/\(Instr.range mt ym).run P w=.ok y B/\KE G w0 C w v n y D B:=by
 rw[Ca]at h;cases hm with
 |@imap _ _ _ b clock ms u hb L J hn hc hv=>
  have c:=NP w (.mapIter (some b) clock #[] clock);refine⟨_,_,.pointer (some ⟨w.heap.size,0,none⟩),_,w.alloc (.mapIter (some b) clock #[] clock),h,run_range_map w mt A t b ms clock N hb,.it (C.put_n _ _),hr.new_row c ⟨w.heap.size,some b,clock,#[],clock,C.put_n _ _,World.alloc_heap_new _ _,.inr ⟨b,ms,clock,rfl,rfl,rfl,u,(c.block b (hr.finB b u)).trans hb,?_,?_,trivial⟩⟩,hr.new_ext c⟩
  ·refine⟨?_,λm hm=>?_⟩
   ·rw[l26];intro i j d x g;have:=hn i j g (by simpa using x);have a:i<ms.size:=by simpa using d
    have k:j<ms.size:=by simpa using x
    simpa [fO,a,k] using this
   ·obtain⟨i,d,rfl⟩:=List.mem_iff_getElem.1 hm;have a:i<ms.size:=by simpa using d
    have:=hc i a;simpa [fO,a] using this
  ·have F:(ms.toList.filter λe=>!(#[]:Array Nat).contains e.born)=ms.toList:=by simp
   rw[F];refine⟨by simpa using L,λi p M=>?_⟩;obtain⟨d,rfl⟩:=zT.1 M;have a:i<ms.size:=by omega
   have q:(ms.getD i default)=ms[i]:=by simp[fO,a]
   refine⟨ms[i],by simp[a],?_,?_⟩
   ·have:=J i d;rwa[q]at this
   ·have:=hv i d;rw[q]at this;exact(this.mono (hr.new_ext (O:=λ_=>True) c).bare)
def Ctx.fixM(C:Ctx)(b:Nat):Ctx:={C with B:=λk=>C.B k\/k=b}
def Rel.freezeM{s b:Nat}{q:Bool}{F:Option (Hb×Nat)}(h:Rel G w0 C H w)(p:Ai H s=some (.map q es F))(u:C.π s=some (some (b,0))):Rel G w0 (C.fixM b) (cut H s) w/\Ext w0.own C w (C.fixM b) w:=by
 have m:=h.own s _ b 0 p u;have e:Ext w0.own C w (C.fixM b) w:=⟨λ_ _=>rfl,λ_ _ h=>h,λ_ _ _=>rfl,λ_ h=>.inl h,λ_ _=>rfl,λ_ a _ f h=>⟨a,f,h,rfl⟩,λ_ _ h=>.inl h,λk h=>by rcases h with h|h;exact .inl h;exact .inr (h▸m.1),Mh _⟩
 have c:∀t x,Ai (cut H s) t=some x->t≠s/\Ai H t=some x:=λt x d=>by
  by_cases v:t=s
  ·subst v;rw[ML]at d;cases d
  ·rw[Qw v]at d;exact⟨v,d⟩
 refine⟨⟨h.glob.mono e,h.below,λt x d=>h.lt t x (c t x d).2,λt x d=>(h.rows t x (c t x d).2).mono e (λ_ _ _=>rfl),?_,?_,h.fin,?_,?_⟩,e⟩
 ·intro t x k J d i;have j:=h.own t x k J (c t x d).2 i;refine⟨j.1,j.2.1,λg=>?_⟩;rcases g with g|g
  ·exact j.2.2 g
  ·subst g;exact(c t x d).1 (h.sep t s x _ _ _ _ (c t x d).2 p i u)
 ·intro t B x D k L M d A i n;exact h.sep t B x D k L M (c t x d).2 (c B D A).2 i n
 ·intro k g;rcases g with g|g
  ·exact h.finB k g
  ·subst g;exact(h.rows s _ p).block (λe=>by cases e) u
 ·intro k j;rw[cut,B4]at j;exact h.nx k j
def A4u{mt O L:TypeId}{m:AV}(D:P.underlying mt=some (.map O L))(hr:Rel G w0 C H w)(hm:VRel C w m ym)(h:Xw m H K=some r):
 ∃v n y C' p,K v n=some r/\(Instr.range mt ym).run P w=.ok y p/\KE G w0 C w v n y C' p:=by
 unfold Xw at h;split at h
 ·exact oM D hr hm h
 ·rw[Ca]at h;have F:=AN.1 hm;subst F;have d:=NP w (.mapIter none 0 #[] 0);exact⟨_,_,.pointer (some ⟨w.heap.size,0,none⟩),_,w.alloc (.mapIter none 0 #[] 0),h,run_range_nilMap w mt O L D,.it (C.put_n _ _),hr.new_row d ⟨w.heap.size,none,0,#[],0,C.put_n _ _,World.alloc_heap_new _ _,.inl ⟨rfl,rfl,rfl⟩⟩,hr.new_ext d⟩
 ·rename_i s;obtain⟨x,N,h1⟩:=I0 rfl h;obtain⟨es,bo,rfl,h2⟩:=RE h1;obtain⟨hc,M⟩:=B7 h2;obtain⟨b,ms,clock,rfl,hp,hb,k,he, -⟩:=eO hr N hm;rw[Dg]at M;obtain⟨B,J⟩:=hr.freezeM N hp;have A:VRel (C.fixM b) w (.imap es) (.map (some b)):=by
   refine .imap ms (.inr rfl) hb (by rw[<-he.1];simp) (λi e=>?_) (λi j u hj=>?_) (λi e=>?_) (λi e=>?_)
   ·obtain⟨m,t,V, -⟩:=he.2 i _ (KL e);have c:ms[i]?=some m:=by simpa using t
    simp[fO,c,V]
   ·have g:j<ms.size:=by have:=he.1;simp at this;omega
    have a:i<ms.size:=by omega
    have:=(l26.1 k.born) i j (by simpa using a) (by simpa using g) u;simpa [fO,a,g] using this
   ·have a:i<ms.size:=by have:=he.1;simp at this;omega
    have:=k.lt ms[i] (by simp);simpa [fO,a] using this
   ·obtain⟨m,t, -,X⟩:=he.2 i _ (KL e);have c:ms[i]?=some m:=by simpa using t
    have Y:(ms.getD i default)=m:=by simp[fO,c]
    rw[Y];have Z:=VRel.down (C:=C) (C':=C.bare) rfl rfl 3 _ _ (GG.1 hc _ (Qk e)) X;exact Z.mono J.bare
  obtain⟨v,n,y,C',p,Q,R,q⟩:=oM D B A M;exact⟨v,n,y,C',p,Q,R,q.1,q.2.1,J.trans q.2.2⟩
 ·cases h
def A7I{l:List MapEntry}(h:l.Pairwise λa b=>a.born≠b.born):∀(j:Nat)(e:MapEntry),l[j]?=some e->l.filter (λx=>decide (x.born≠e.born))=l.eraseIdx j:=by
 induction l with
 |nil=>intro j e he;simp at he
 |cons a l ih=>
  intro j e he;rw[l2p]at h;cases j with
  |zero=>
   simp at he;subst he;rw[l2m,CF (by simp),List.eraseIdx_cons_zero,List.filter_eq_self];intro x c;have:=h.1 x c;simpa using λe=>this e.symm
  |succ j=>
   have he:l[j]?=some e:=by simpa using he
   rw[l2m,Dq (by have:=h.1 e (l1m he);simpa using this),List.eraseIdx_cons_succ,ih h.2 j e he]
def A16(w:World)(n:Nat)(hn:0<n):∃(j:Nat)(w1:World),j<n/\w1.heap=w.heap/\w1.os=w.os/\w1.tape=w.tape/\w1.output=w.output/\(choose (.mapNext n)).run P w=.ok j w1:=by
 by_cases a:n<=1
 ·exact⟨0,w,hn,rfl,rfl,rfl,rfl,by simp[choose,Sem.run,Question.forced,a]⟩
 ·exact⟨_,w.drew,Nat.mod_lt _ hn,rfl,rfl,rfl,rfl,by
   simp only[choose,Sem.run,Question.forced,decide_eq_true_eq,a,if_false,Question.cut];rfl⟩
def Below.of_heap{w w1:World}(h:w1.heap=w.heap)(a:w1.os=w.os)(c:w1.tape=w.tape)(b:w1.output=w.output):Below w.heap.size w w1:=
 ⟨a,c,b,by rw[h];exact Mh _,λ_ _=>by rw[h]⟩
def A4w{ty:TypeId}{it:AV}(hr:Rel G w0 C H w)(hv:VRel C w it y)(h:Zd it H K=some r):
 ∃v H' z w',K v H'=some r/\(Instr.next y false ty).run P w=.ok z w'/\KE G w0 C w v H' z C w':=by
 unfold Zd at h;split at h
 ·rename_i s;obtain⟨x,hl,h1⟩:=I0 rfl h;clear h;unfold A5V at h1;split at h1
  ·rename_i l aq;cases hv with
   |@it _ _ _ b ap hp=>
    obtain⟨c,mo,since,seen,last,g1,g2,g3⟩:=hr.rows s _ hl;have R:=g1.symm.trans hp;injection R with R;injection R with R;injection R with e1 e2;subst e1 e2
    have q:(getObj c).run P w=.ok (.mapIter mo since seen last) w:=by simp[getObj,Sem.run,g2]
    rcases g3 with⟨rfl,rfl,_⟩|⟨m,ms,clock,e4,e5,e6,hB,hm,J,he,ah⟩
    ·have h1:K (.tup [.v (.bool false)]) H=some r:=h1;refine⟨_,_,.tuple #[.bool false],w,h1,?_,DO.2 ⟨[.bool false],rfl,.cons (.v _) .nil⟩,hr,.refl _ _ _⟩;simp only[Instr.next];rw[Dm,q];rfl
    ·have e5:=e5.symm;have e6:=e6.symm;subst e4;subst e5;subst e6;have ag:(getObj m).run P w=.ok (.map ms clock) w:=l2q hm;have g:∀x∈ms.toList,x.born<clock:=J.lt;have N:=next_test_false seen ms clock clock g (Mh _);have Y:((ms.filter λe=>!seen.contains e.born).filter λx=>decide (x.born<clock))=ms.filter λe=>!seen.contains e.born:=by
      rw[Array.filter_eq_self];intro x Q;have:=g x (by simp at Q⊢;exact Q.1);simpa using this
     have Z:((ms.filter λe=>!seen.contains e.born).filter λx=>decide (x.born≥clock))= #[]:=by
      rw[Array.filter_eq_empty_iff];intro x Q;have:=g x (by simp at Q⊢;exact Q.1);simp;omega
     obtain⟨L,hL⟩:∃L,L=ms.filter λe=>!seen.contains e.born:=⟨_,rfl⟩
     rw[<-hL]at Y Z;have n:L.toList=ms.toList.filter λe=>!seen.contains e.born:=by rw[hL,Array.toList_filter]
     rw[<-n]at he;have u:∀(res:Result Value),(do
      let x<-choose (.mapNext ((if L.isEmpty then #[none] else #[])++L.map some).size)
      match((if L.isEmpty then #[none] else #[])++L.map some)[x]? with
      |some (some e)=>do
       setObj c (.mapIter (some m) clock (seen.push e.born) clock)
       pure (.tuple #[.bool true,e.key,e.val])
      |some none=>pure (.tuple #[.bool false])
      |none=>stuck "Next: no such candidate" :Sem Value).run P w=res->(Instr.next (.pointer (some ⟨c,0,none⟩)) false ty).run P w=res:=by
      intro res ab;unfold Instr.next;simp only;rw[Dm,q];simp only[Gc];rw[Dm,ag];simp only[Gc,N,yG,if_false,<-hL,Y,Z,Array.append_empty];exact ab
     cases l with
     |nil=>
      have h1:K (.tup [.v (.bool false)]) H=some r:=h1;have ac:L= #[]:=by
       have:=he.nil_inv;exact Array.toList_inj.1 (by simpa using this)
      refine⟨_,_,.tuple #[.bool false],w,h1,u _ ?_,DO.2 ⟨[.bool false],rfl,.cons (.v _) .nil⟩,hr,.refl _ _ _⟩;subst ac;simp[choose,Sem.run,Question.forced]
     |cons V l0=>
      have h1:Ur (λe rest=>XA4 H s (.iter rest (some e)) λH'=>K (.tup [.v (.bool true),tS e.1,e.2]) H') (V::l0) []=some r:=h1;have d:L.size=(V::l0).length:=by have:=he.1;simpa using this
      have ak:L.isEmpty=false:=by simp[Array.isEmpty,d]
      obtain⟨j,w1,hj,a1,a2,a3,a4,ae⟩:=A16 (P:=P) w L.size (by rw[d];simp);have aa:j<(V::l0).length:=by rw[<-d];exact hj
      have i:=A1s _ _ h1 j _ (KL aa);simp only[l3b,Dg]at i;obtain⟨a,F,t,A⟩:=he.2 j _ (KL aa);have ad:L[j]?=some a:=by simpa using F
      have D:w1.heap[c]?=some (.mapIter (some m) clock seen clock):=by rw[a1];exact g2
      have ai:c<w1.heap.size:=(l1v.1 D).1;have p:=Below.of_heap a1 a2 a3 a4;have am:=hr.of_below p;have k:Ext w0.own C w C w1:=hr.ext_below p;have M:SameObj w1 (w1.putObj c (.mapIter (some m) clock (seen.push a.born) clock)) c (.mapIter (some m) clock (seen.push a.born) clock):=SameObj.putObj ai _;have aj:m≠c:=λe=>by subst e;rw[hm]at g2;cases g2
      have af:(ms.toList.filter λx=>!(seen.push a.born).contains x.born)=L.toList.eraseIdx j:=by
       rw[<-A7I (l:=L.toList) (by rw[n];exact J.born.filter _) j a F,n,List.filter_filter];apply List.filter_congr;intro x _;rw[Array.contains_push];by_cases Q:x.born=a.born<;>simp[Q]
      obtain⟨ao,X⟩:=am.set_obj (O:=w0.own) (y:=.iter ((V::l0).eraseIdx j) (some (V::l0)[j])) hl hp M (λarr T fz hc=>by rw[D]at hc;cases hc) (λex=>by
       refine⟨c,some m,clock,seen.push a.born,clock,hp,M.here,.inr ⟨m,ms,clock,rfl,rfl,rfl,hB,(M.others m aj).trans (by rw[a1];exact hm),J,?_,?_⟩⟩
       ·rw[af];exact(he.mono (k.trans ex.weak).bare).eraseIdx j
       ·refine⟨a,?_,Array.back?_push,t,A.mono (k.trans ex.weak).bare⟩;have:=l1m F;rw[n]at this;exact(l2z.1 this).1)
      refine⟨_,_,.tuple #[.bool true,a.key,a.val],_,i,u _ ?_,DO.2 ⟨[.bool true,a.key,a.val],rfl,.cons (.v _) (.cons ?_ (.cons ?_ .nil))⟩,ao,k.trans X⟩
      ·rw[ak];simp only[yG,if_false,Array.empty_append,Array.size_map];rw[Dm,ae];simp only[Gc,Array.getElem?_map,ad,zQ];rw[Dm];have:(setObj c (.mapIter (some m) clock (seen.push a.born) clock)).run P w1=.ok () (w1.putObj c (.mapIter (some m) clock (seen.push a.born) clock)):=by simp[setObj,Sem.run,D,World.putObj]
       rw[this];rfl
      ·rw[t];exact iA _
      ·exact((A.up rfl rfl).mono (k.trans X))
  ·cases h1
 ·cases h
def A4C{it:AV}{K:K2}(hr:Rel G w0 C H w)(hv:VRel C w it y)(h:dE it H K=some r):
 ∃v z,K v=some r/\(Instr.entry y).run P w=.ok z w/\VRel C w v z:=by
 unfold dE at h;split at h
 ·rename_i s;obtain⟨x,J,h1⟩:=I0 rfl h;clear h;unfold B0M at h1;split at h1
  ·rename_i left p;cases hv with
   |@it _ _ _ b i L=>
    obtain⟨j,O,since,seen,last,A,B,D⟩:=hr.rows s _ J;have c:=A.symm.trans L;injection c with c;injection c with c;injection c with k n;subst k n
    have d:(getObj j).run P w=.ok (.mapIter O since seen last) w:=by simp[getObj,Sem.run,B]
    rcases D with⟨_,_,u⟩|⟨m,ms,clock,q,Q,t,R,hm,g,he,a,k1,M,k3,N⟩
    ·cases u
    ·subst q;have e:(getObj m).run P w=.ok (.map ms clock) w:=l2q hm;have F:ms.find? (·.born==a.born)=some a:=by
      rw[<-Array.find?_toList];exact find_born a ms.toList (by rw[List.nodup_iff_pairwise_ne,List.pairwise_map];exact g.born) k1
     refine⟨_,.tuple #[a.key,a.val],h1,?_,DO.2 ⟨[a.key,a.val],rfl,.cons (by rw[k3];exact iA _) (.cons (N.up rfl rfl) .nil)⟩⟩;simp only[Instr.entry];rw[Dm,d];simp only[Gc,M];rw[Dm,e];simp[t,F]
  ·cases h1
 ·cases h
end
end
section
variable{dst:AV}{K:K2}{op:BinOp}{q:Bool}{b base esz n s:Nat}{fz:Nat×Nat}{i ie:TI}{y:Value}
section
variable{P:Program}{G:Gl}{w0:Base}{C:Ctx}{H:Hp}{w:World}{r:AV×Hp}
def Rel.set_row(h:Rel G w0 C H w){x y:Row}(p:Ai H s=some x)(B:To C w s y):Rel G w0 C (upd H s y) w:=by
 have key:∀t z,Ai (upd H s y) t=some z->(t=s/\z=y)\/(t≠s/\Ai H t=some z):=λt z hz=>by
  by_cases d:t=s
  ·subst d;rw[BH p]at hz;exact .inl ⟨rfl,(iK hz).1.symm⟩
  ·rw[Ag d]at hz;exact .inr ⟨d,hz⟩
 have c:∀t z,Ai (upd H s y) t=some z->∃e,Ai H t=some e:=λt z hz=>by
  rcases key t z hz with⟨rfl,_⟩|⟨_,h⟩
  ·exact⟨x,p⟩
  ·exact⟨z,h⟩
 refine⟨h.glob,h.below,?_,?_,?_,?_,h.fin,h.finB,λk f=>h.nx k (by rw[B4]at f;exact f)⟩
 ·intro t z hz;obtain⟨e,a⟩:=c t z hz;exact h.lt t e a
 ·intro t z hz;rcases key t z hz with⟨rfl,rfl⟩|⟨_,hz⟩
  ·exact B
  ·exact h.rows t z hz
 ·intro t z k m hz f;obtain⟨e,a⟩:=c t z hz;exact h.own t e k m a f
 ·intro t v z e k m D hz a f g;obtain⟨u,A⟩:=c t z hz;obtain⟨F,j⟩:=c v e a;exact h.sep t v u F k m D A j f g
theorem Laid.take{T:TypeId}{cs:Is}{arr:Array Value}(h:Laid C w s q T cs b base arr fz)(n:Nat):Laid C w s false T (cs.take n) b base arr fz:=
 ⟨h.at_,h.block,h.free,by have:=h.fits;rw[l0h];omega,by
  have:=h.vals.unsel.take n;rw[List.take_take]at this;rw[l0h];exact this,λh=>by cases h⟩
theorem To.take{T:TypeId}{cs:Is}(h:To C w s (.cells q T cs))(n:Nat):To C w s (.cells false T (cs.take n)):=by
 rcases h with⟨rfl,h⟩|⟨b,base,arr,fz,h⟩
 ·exact .inl ⟨by simp,h⟩
 ·exact .inr ⟨b,base,arr,fz,h.take n⟩
def A5o(s:AV)(H:Hp)(K:Ru):Af:=
 match s with
 |.sl sz r o n=>IR H r λx=>Ki x λE cs=>HK cs 0 λcl=>@Bool.rec (λ_=>Af) (SU (Nat.add o (Nat.mul n sz)) cs λa=>XA4 H r (.cells false E a) K) (K H) (Nat.beq (Nat.add o (Nat.mul n sz)) cl)
 |_=>K H
def sT{s:AV}{K:Ru}(h:A5o s H K=some r):∃a,K a=some r/\As a=As H/\∀{G:Gl}{w0:Base}{C:Ctx}{w:World},Rel G w0 C H w->Rel G w0 C a w:=by
 unfold A5o at h;split at h
 ·rename_i sz r1 o n;obtain⟨q,E,cs,c,h1⟩:=JS h;rw[Cy,Kd]at h1;cases hb:Nat.beq (Nat.add o (Nat.mul n sz)) cs.length
  ·rw[hb]at h1;simp only[OJ,Dg]at h1;exact⟨_,h1,B4 _ _ _,λhr=>hr.set_row c ((hr.rows _ _ c).take _)⟩
  ·rw[hb]at h1;exact⟨H,h1,rfl,λhr=>hr⟩
 ·exact⟨H,h,rfl,λhr=>hr⟩
def DK(e:TypeId)(esz:Nat)(ie i2:TI)(s x:AV)(H:Hp)(K:KV):Af:=A5o s H λa=>VJ e esz ie i2 s x a K
def E!(e:TypeId)(esz:Nat)(ie i2:TI)(s x:AV)(H:Hp)(K:KV):Af:=match x with
 |.sl sz r o n=>Tz H (.sl sz r o n) λm c=>A5o s H λa=>VJ e esz ie i2 s (.list m c) a K
 |x=>DK e esz ie i2 s x H K
def A2l(esz:Nat)(dst src:AV)(H:Hp)(K:KV):Af:=
 Tz H src λm c=>HK c 0 λk=>match dst with
  |.sl sz r o n=>ck (Nat.beq k (Nat.mul m esz)&&(Nat.beq sz esz&&(Nat.blt 0 n&&(Nat.ble m n&&(NT c&&T6 esz src))))) (IR H r λx=>gM x λq E cs=>Ey o c cs λa=>XA4 H r (.cells q E a) λd=>K (.v (.int .i64 (.ofNat m))) d)
  |_=>none
def vS(esz:Nat)(ie:TI)(dst:AV)(H:Hp)(K:Ru):Af:=
 match dst with
 |.v (.slice none 0 0)=>K H
 |.sl _ _ _ 0=>K H
 |.sl sz r o n=>GY ie.zero λz=>HK z 0 λk=>ck (Nat.beq k esz&&(Nat.beq sz esz&&NT z)) (YW n z λc=>IR H r λx=>gM x λq E cs=>Ey o c cs λa=>XA4 H r (.cells q E a) K)
 |_=>none
def yN(n esz:Nat)(x:AV)(c a:Option AV)(H:Hp)(K:K2):Af:=
 match x with
 |.ptr s p k=>IR H s λy=>Ki y λ_ cs=>HK cs 0 λcl=>ck (Nat.ble (Nat.add (Nat.add p k) (Nat.mul n esz)) cl)
  (XX c 0 λl=>XX a n λh=>ck (Nat.ble l h&&Nat.ble h n) (fN (Nat.add (Nat.add p k) (Nat.mul l esz)) λd=>fN (Nat.sub h l) λm=>K (.sl esz s d m)))
 |_=>none
def R7(ks:List LK)(op:BinOp)(a b:AV)(K:K2):Af:=
 match a,b with
 |.agg c,.agg d=>dM c λxs=>dM d λe=>ck (fits ks xs) (match Yb xs e,op with
  |some q,.eql=>bB q K
  |some q,.neq=>bB (!q) K
  |_,_=>none)
 |_,_=>none
def R6(i ie:TI)(op:BinOp)(a b:AV)(K:K2):Af:=
 match a,b with
 |.ptr r p k,.ptr e d c=>ck (Nat.beq r e&&(Nat.beq (Nat.add p k) (Nat.add d c)&& !Nat.beq ie.size 0)) (match op with|.eql=>K (.v (.bool true))|.neq=>K (.v (.bool false))|_=>none)
 |a,b=>Ar i op a b K
def zC{s o:Nat}{E:TypeId}{cs ys:Is}{arr:Array Value}{vs:Hx}(hr:Rel G w0 C H w)(h:Ai H s=some (.cells q E cs))(f:Laid C w s q E cs b base arr fz)(a:o+ys.length<=cs.length)(hv:CG C w ys vs)(c:ys.all AV.one=true):
 ∃e,(storeCells ⟨b,base+o,none⟩ vs 0).run P w=.ok () e/\Rel G w0 C (upd H s (.cells q E (splice cs o ys))) e/\Ext w0.own C w C e:=by
 have k:=f.fits;have g:vs.length=ys.length:=hv.1;obtain⟨e,d,j⟩:=Nf (P:=P) vs w arr (base+o) 0 f.block f.free (by omega) (A1E hv c);have:=hr.store (O:=w0.own) h f a hv (by simpa using j);exact⟨e,d,this.1,this.2⟩
def A3x{sz s o n:Nat}{E:TypeId}{cs:Is}(hr:Rel G w0 C H w)(A:Ai H s=some (.cells q E cs))(hv:VRel C w (.sl sz s o n) y)(hn:n≠0):∃b base arr fz cap,y=.slice (some ⟨b,base+o,none⟩) n cap/\n<=cap/\Laid C w s q E cs b base arr fz/\base+o+cap*sz<=arr.size:=by
 cases hv with
 |slz=>exact absurd rfl hn
 |@sl _ _ _ _ _ _ b base cap arr T fz j e hb hsz=>
  rcases hr.rows s _ A with⟨_,x⟩|⟨k,a,c,g,h⟩
  ·rw[x]at j;cases j
  ·have d:=h.at_.symm.trans j;injection d with d;injection d with d;injection d with m p;subst m p
   have f:=h.block.symm.trans hb;injection f with f;injection f with t u v
   subst t u v;exact⟨k,a,c,g,cap,rfl,e,h,hsz⟩
def A4D{T:Ty}(X:jX P T){B ty e:TypeId}{ts:Array TypeId}{dst src:AV}{y z:Value}{K:KV}(L:ts[0]?=some B)(Z:T B=some i)(Y:i.d=.slice e esz)(J:esz≠0)(hr:Rel G w0 C H w)(hv:VRel C w dst y)(hs:VRel C w src z)(h:A2l esz dst src H K=some r):
 ∃v N u A,K v N=some r/\(Builtin.copy_ ts ty #[y,z]).run P w=.ok u A/\KE G w0 C w v N u C A:=by
 unfold A2l at h;obtain⟨m,ys,q0,x,h1⟩:=ZB h;rw[Cy,Kd]at h1;split at h1
 ·rename_i sz s o n;obtain⟨hc,h2⟩:=B7 h1;simp only[KF,rC,Xi,kC,FP]at hc;obtain⟨c1,c2,c3,c4,c5,c6⟩:=hc;obtain⟨q,E,cs,R,V⟩:=Vl h2;obtain⟨g,O⟩:=OK _ _ _ _ _ V;rw[Dg]at O;obtain⟨b,base,arr,fz,cap,rfl,Q,D,hsz⟩:=A3x hr R hv (by omega);obtain⟨j,vs,M,a⟩:=XC (P:=P) (esz:=esz) hr hs x c1 (λq hq=>by subst hq;exact Z5 c6);obtain⟨A,t,p,F⟩:=zC (P:=P) hr R D g M c5;obtain⟨hu,f⟩:=(X B i Z).elem_slice Y;have c:(sizeOf e).run P w=.ok esz w:=by rw[<-f];exact BZ w (by rw[f];exact J)
  refine⟨_,_,goInt m,A,O,?_,.v _,p,F⟩;unfold Builtin.copy_;simp only[L,l15,l21,l0r];rw[Dm,run_underlying hu w];simp only[Gc];rw[Dm,j];simp only[Gc];rw[Dm,c];simp only[Gc];have k:Nat.min m n=m:=l22 c4;rw[Dm,k,a w (λ_ _=>rfl)];simp only[Gc];rw[Dm,t];rfl
 ·cases h1
def A4F{T:Ty}(Q:jX P T){v ty e:TypeId}{ts:Array TypeId}{K:Ru}(p:ts[0]?=some v)(hi:T v=some i)(hd:i.d=.slice e esz)(B:T e=some ie)(hr:Rel G w0 C H w)(hv:VRel C w dst y)(h:vS esz ie dst H K=some r):
 ∃N u,K N=some r/\(Builtin.clear_ ts ty #[y]).run P w=.ok (.tuple #[]) u/\Rel G w0 C N u/\Ext w0.own C w C u:=by
 obtain⟨X,aa⟩:=(Q v i hi).elem_slice hd;have hz:∀{a:Option Addr}{c:Nat},(Builtin.clear_ ts ty #[.slice a 0 c]).run P w=.ok (.tuple #[]) w:=by
  intro a c;unfold Builtin.clear_;simp only[p,l15,l21];rw[Dm,run_underlying X w];simp only[Gc];cases a<;>rfl
 unfold vS at h;split at h
 ·obtain rfl:=AN.1 hv;exact⟨H,w,h,hz,hr,.refl _ _ _⟩
 ·cases hv with
  |slz=>exact⟨H,w,h,hz,hr,.refl _ _ _⟩
  |sl=>exact⟨H,w,h,hz,hr,.refl _ _ _⟩
 ·rename_i sz s o n D;rw[CP,Cy,Kd]at h;obtain⟨hc,h2⟩:=B7 h;simp only[KF,rC,FP]at hc;obtain⟨c1,c2,c3⟩:=hc;rw[YV]at h2;obtain⟨q,E,cs,V,Z⟩:=Vl h2;obtain⟨f,O⟩:=OK _ _ _ _ _ Z;rw[Dg]at O;have hn:n≠0:=λe=>D e;obtain⟨b,base,arr,fz,cap,rfl,R,x,hsz⟩:=A3x hr V hv hn;obtain⟨z,L,Y⟩:=(Q e ie B).run_zero w;have F:CG C w (B3 ie.zero) z.cells.toList:=Pu (t:=e) Y;have M:CG C w (Yq n (B3 ie.zero)) ((List.range n).flatMap λ_=>z.cells.toList):=by rw[gO];exact Zz F n
  have g:(Yq n (B3 ie.zero)).all AV.one=true:=by
   rw[gO,List.all_flatMap];simp[c3]
  obtain⟨u,m,j,A⟩:=zC (P:=P) hr V x f M g;refine⟨_,u,O,?_,j,A⟩;obtain⟨n,rfl⟩:∃k,n=k+1:=⟨n-1,by omega⟩
  unfold Builtin.clear_;simp only[p,l15,l21];rw[Dm,run_underlying X w];simp only[Gc];have J:(Builtin.zeroCells z.cells (n+1)).toList=(List.range (n+1)).flatMap λ_=>z.cells.toList:=congrArg Array.toList (fV z.cells (n+1));rw[Dm,L];simp only[Gc,J];rw[Dm,m];rfl
 ·cases h
def A4r{T:Ty}(hT:jX P T){ty e:TypeId}{x:AV}{lo hi:Option AV}{yl Y:Option Value}(R:T ty=some i)(hd:i.d=.array n e esz)(X:esz≠0)(hr:Rel G w0 C H w)(hv:VRel C w x y)(V:A0b C w lo yl)(Q:A0b C w hi Y)(h:yN n esz x lo hi H K=some r):
 ∃v u,K v=some r/\(Instr.sliceAt ty y yl Y none).run P w=.ok u w/\VRel C w v u:=by
 unfold yN at h;split at h
 ·rename_i s p k;obtain⟨q,E,cs,hl,h1⟩:=JS h;rw[Cy,Kd]at h1;obtain⟨hc,h2⟩:=B7 h1;obtain⟨l,M,h3⟩:=Jt h2;obtain⟨m,N,h4⟩:=Jt h3;obtain⟨hb,Z⟩:=B7 h4;rw[Ee,Ee]at Z;simp only[KF,kC]at hb;rw[kC]at hc;have hc:p+k+n*esz<=cs.length:=hc;obtain⟨hu,t⟩:=(hT ty i R).elem_array hd;have f:(sizeOf e).run P w=.ok esz w:=by rw[<-t];exact BZ w (by rw[t];exact X)
  have O:=Th (P:=P) (isS:=false) V Q (mx:=none) (ym:=none) trivial (Mh n) M N (x:=n) (by simp[ZK]) (by omega) (by simp);cases hv with
  |@ptr _ _ _ _ _ b base J=>
   rcases hr.rows s _ hl with⟨_,h6⟩|⟨L,a,g,aa,c⟩
   ·have:=h6.symm.trans J;cases this
   ·have j:=c.at_.symm.trans J;injection j with j;injection j with j;injection j with e1 e2;subst e1 e2
    have hf:=c.fits;have F:(Instr.sliceAt ty (.pointer (some ⟨L,a+(p+k),none⟩)) yl Y none).run P w=.ok (.slice (some (if n=l then⟨L,a+(p+k),none⟩ else⟨L,a+(p+k)+l*esz,none⟩)) (m-l) (n-l)) w:=by
     unfold Instr.sliceAt;rw[Dm,run_underlying hu w];simp only[Gc,Instr.sureAddr];rw[Dm,mI];simp only[Gc];rw[Dm,O];simp only[Gc,mG];rw[Dm,f];simp only[Gc,mI,Kf]
    refine⟨_,_,Z,F,?_⟩;by_cases B:n=l
    ·have A:m-l=0:=by omega
     have D:n-l=0:=by omega
     rw[Dq B,A,D];have:Nat.sub m l=0:=A;rw[this];exact .slz (by rw[J];simp)
    ·rw[CF B];have e4:a+(p+k)+l*esz=a+(Nat.add (Nat.add p k) (Nat.mul l esz)):=by show _=a+(p+k+l*esz);omega
     rw[e4];refine .sl J (Nat.sub_le_sub_right hb.2 l) c.block ?_;show a+(p+k+l*esz)+(n-l)*esz<=g.size;have:l*esz+(n-l)*esz=n*esz:=by rw[<-l1e];congr 1;omega
     omega
 ·cases h
def A4B{t:TypeId}{ks:List LK}{a b:AV}{y z:Value}(x A:Operand)(m:EqFlat P t ks)(B:VRel C w a y)(hb:VRel C w b z)(h:R7 ks op a b K=some r):
 ∃v u,K v=some r/\(do eqGuard op t x A y z;binOp op t y z).run P w=.ok u w/\VRel C w v u:=by
 unfold R7 at h;split at h
 ·rename_i F J;obtain⟨xs,rfl,h1⟩:=eW _ _ h;obtain⟨d,rfl,h2⟩:=eW _ _ h1;obtain⟨e,c⟩:=B7 h2;have D:=sN B;have hz:=sN hb;subst D hz;have p:=run_eqGuard_agg (P:=P) w op t x A xs.toArray d.toArray m.guard;split at c
  ·rename_i q hq;rw[NO]at c;obtain⟨f,g⟩:=VN hq;refine⟨_,.bool q,c,?_,.v _⟩;rw[Dm,p];simp only[Gc];rw[run_eql_struct];have:=m.equal e (g ks e) w;have j:decide (xs=d)=q:=by rw[vA,f];simp
   rw[j]at this;have k:(Op.equalIn 10000 t (.agg xs.toArray) (.agg d.toArray)).run P w=.ok q w:=this;rw[k];rfl
  ·rename_i q hq;rw[NO]at c;obtain⟨f,g⟩:=VN hq;refine⟨_,.bool (!q),c,?_,.v _⟩;rw[Dm,p];simp only[Gc];rw[run_neq_struct];have:=m.equal e (g ks e) w;have j:decide (xs=d)=q:=by rw[vA,f];simp
   rw[j]at this;have k:(Op.equalIn 10000 t (.agg xs.toArray) (.agg d.toArray)).run P w=.ok q w:=this;rw[k];rfl
  ·cases c
 ·cases h
def A4A{T:Ty}(j:jX P T){ty e:TypeId}{a b:AV}{y z:Value}(D F:Operand)(M:T ty=some i)(R:i.d=.pointer e)(m:T e=some ie)(J:VRel C w a y)(hb:VRel C w b z)(h:R6 i ie op a b K=some r):
 ∃v u,K v=some r/\(do eqGuard op ty D F y z;binOp op ty y z).run P w=.ok u w/\VRel C w v u:=by
 unfold R6 at h;split at h
 ·rename_i s p k s' p' Z;obtain⟨hc,h1⟩:=B7 h;simp only[KF,rC,l19]at hc;obtain⟨c1,c2,c3⟩:=hc;subst c1;have c2:p+k=p'+Z:=c2;have B:y=z/\∃c,y=.pointer (some c):=by
   cases J with
   |ptr V=>
    cases hb with
    |ptr t=>
     have f:=V.symm.trans t;injection f with f;injection f with f;injection f with g N;subst g N
     exact⟨by rw[c2],_,rfl⟩
  obtain⟨rfl,c,rfl⟩:=B;obtain⟨u,X,g⟩:=(j ty i M).under;rw[R]at g;have A:u=.pointer e:=by cases u<;>simp[td]at g;rw[g]
  subst A;obtain⟨x,z0,Y,hs,_⟩:=(j e ie m).info;have heq:(Op.equal ty (.pointer (some c)) (.pointer (some c))).run P w=.ok true w:=by
   show(Op.equalIn (9999+1) ty _ _).run P w=_;unfold Op.equalIn;rw[Dm,run_underlying X w];simp[sizeOf,typeInfo,Y,sameAddr]
  have L:=oK (P:=P) (op:=op) (ty:=ty) (x:=D) (y:=F) (a:=.pointer (some c)) (b:=.pointer (some c)) w ⟨by simp,by simp⟩;split at h1
  ·exact⟨_,.bool true,h1,by rw[Dm,L];simp[binOp,heq],.v _⟩
  ·exact⟨_,.bool false,h1,by rw[Dm,L];simp[binOp,heq],.v _⟩
  ·cases h1
 ·obtain⟨v,h1,h2⟩:=E' (T:=T) (ty:=ty) M h;obtain⟨v',u,O,Q,rfl⟩:=sF j D F J hb h2;exact⟨v',u,h1,O,Q⟩
end
end
section
variable{v:AV}{K:K2}{d e s:TypeId}{y:Value}
def B4P(l:List Lie)(e n o u:Nat):Bool:=@List.rec Lie (λ_=>Bool) false (λp _ ih=>@Bool.rec (λ_=>Bool) ih true (Nat.beq p.1 e&&(Nat.beq p.2.1 n&&(Nat.beq p.2.2.1 o&&Nat.beq p.2.2.2 u)))) l
def A2b(ie:TI)(v:AV)(H:Hp)(K:K2):Af:=
 match v with
 |.ptr s p k=>IR H s λx=>Ki x λ_ cs=>HK cs 0 λcl=>ck (Nat.blt (Nat.add p k) cl&& !Nat.beq ie.size 0) (K (.ptr s p k))
 |_=>none
def A26(l:List Lie)(u:TypeId)(v:AV)(H:Hp)(K:K2):Af:=
 match v with
 |.ptr s p k=>IR H s λx=>gM x λq E cs=>HK cs 0 λcl=>ck (q&&B4P l E cl (Nat.add p k) u) (K (.ptr s p k))
 |_=>none
def A7M(s:AV)(K:K2):Af:=
 match s with
 |.sl sz r o n=>ck (Nat.beq sz 1&&Nat.blt 0 n) (K (.ptr r o 0))
 |_=>none
def A4o(e:TypeId)(p n:AV)(H:Hp)(K:KV):Af:=
 match p with
 |.ptr s o k=>U! n λz=>iN z λn=>IR H s λx=>Ki x λE cs=>ck (Nat.beq E e&&(Nat.blt 0 n&&Nat.blt n 9223372036854775807)) (EO n (Dn (Nat.add o k) cs) λb=>fu8 b λl=>XA4 H s .gone λa=>K (.v (.string ⟨⟨l⟩⟩)) a)
 |_=>none
def B0I{l:List Lie}{e n o u:Nat}(h:B4P l e n o u=true):(e,n,o,u)∈l:=by
 induction l with
 |nil=>cases h
 |cons p l ih=>
  have h:@Bool.rec (λ_=>Bool) (B4P l e n o u) true (Nat.beq p.1 e&&(Nat.beq p.2.1 n&&(Nat.beq p.2.2.1 o&&Nat.beq p.2.2.2 u)))=true:=h;cases hq:(Nat.beq p.1 e&&(Nat.beq p.2.1 n&&(Nat.beq p.2.2.1 o&&Nat.beq p.2.2.2 u)))
  ·rw[hq]at h;exact List.mem_cons_of_mem _ (ih h)
  ·simp only[KF,rC]at hq;obtain⟨h1,h2,f,g⟩:=hq;obtain⟨a,b,c,d⟩:=p;simp only at h1 h2 f g;subst h1 h2 f g;exact List.mem_cons_self
section
variable{P:Program}{G:Gl}{w0:Base}{C:Ctx}{H:Hp}{w w':World}{r:AV×Hp}
def A4v{T:Ty}(F:jX P T){i ie:TI}(V:T s=some i)(R:i.d=.pointer e)(m:T e=some ie)(A:P.underlying d=some .unsafePointer)(hr:Rel G w0 C H w)(hv:VRel C w v y)(h:A2b ie v H K=some r):
 K v=some r/\(convert s d y).run P w=.ok y w:=by
 unfold A2b at h;split at h
 ·rename_i t p k;obtain⟨q,E,cs,X,h1⟩:=JS h;rw[Cy,Kd]at h1;obtain⟨hc,h2⟩:=B7 h1;simp only[KF,Xi,l19]at hc;obtain⟨c1,c2⟩:=hc;have c1:p+k<cs.length:=c1;refine⟨h2,?_⟩;cases hv with
  |@ptr _ _ _ _ _ b B J=>
   rcases hr.rows t _ X with⟨_,Q⟩|⟨L,a,c,O,f⟩
   ·have:=Q.symm.trans J;cases this
   ·have g:=f.at_.symm.trans J;injection g with g;injection g with g;injection g with M N;subst M N
    have hf:=f.fits;obtain⟨u,Z,j⟩:=(F s i V).under;rw[R]at j;have n:u=.pointer e:=by cases u<;>simp[td]at j;rw[j]
    subst n;obtain⟨x,z0,hx,Y,_⟩:=(F e ie m).info;have hsz:x.size≠0:=λD=>by rw[Y]at D;rw[D]at c2;simp at c2
    exact Lib.run_to_unsafe w ⟨L,a+(p+k),none⟩ Z A hx hsz (e:=E) (cells:=c.size) (by simp[World.shape?,f.block]) (by show a+(p+k)<c.size;omega)
 ·cases h
def A4p{l:List Lie}(m:∀e n o u,(e,n,o,u)∈l->liesAt P P.depth e (n/P.cellsOf e) o u 1=true/\(P.info? u).isSome=true){s d u:TypeId}(A:P.underlying s=some .unsafePointer)(O:P.underlying d=some (.pointer u))(hr:Rel G w0 C H w)(hv:VRel C w v y)(h:A26 l u v H K=some r):
 K v=some r/\(convert s d y).run P w=.ok y w:=by
 unfold A26 at h;split at h
 ·rename_i t p k;obtain⟨q,E,cs,R,h1⟩:=Vl h;rw[Cy,Kd]at h1;obtain⟨hc,h2⟩:=B7 h1;simp only[KF]at hc;obtain⟨c1,c2⟩:=hc;obtain⟨c,f⟩:=m _ _ _ _ (B0I c2);refine⟨h2,?_⟩;cases hv with
  |@ptr _ _ _ _ _ b B D=>
   rcases hr.rows t _ R with⟨_,N⟩|⟨F,x,g,M,a⟩
   ·have:=N.symm.trans D;cases this
   ·have i:=a.at_.symm.trans D;injection i with i;injection i with i;injection i with J L;subst J L
    obtain⟨V,X⟩:=a.exact c1;subst V;obtain⟨j,Q⟩:=Option.isSome_iff_exists.1 f;refine Lib.run_from_unsafe w ⟨F,0+(p+k),none⟩ A O Q (e:=E) (cells:=g.size) (by simp[World.shape?,a.block]) ?_;rw[X,Kd];exact c
 ·cases h
def Rel.change(h:Rel G w0 C H w){s b base:Nat}{x:Row}(L:Ai H s=some x)(M:C.π s=some (some (b,base)))(q:w'.os=w.os)(X:w'.tape=w.tape)(B:w'.output=w.output)(hsz:w'.heap.size=w.heap.size)(g:∀k,k≠b->w'.heap[k]?=w.heap[k]?)(hb:∀arr T fz,w.heap[b]?=some (.cells arr T fz)->∃m A,w'.heap[b]?=some (.cells m T A)/\m.size=arr.size):Rel G w0 C (cut H s) w'/\Ext w0.own C w C w':=by
 have j:=h.own s x b base L M;have e:Ext w0.own C w C w':=by
  refine⟨λ_ _=>rfl,λ_ _ h=>h,λk i h=>?_,λ_ h=>h,λk h=>g k (λe=>j.2.2 (e▸h)),λk a t f h=>?_,λ_ _ h=>.inl h,λ_ h=>.inl h,Nat.le_of_eq hsz.symm⟩
  ·exact l0t (g k (λe=>j.2.1 i (e▸h)))
  ·by_cases n:k=b
   ·subst n;exact hb a t f h
   ·exact⟨a,f,(g k n).trans h,rfl⟩
 have c:∀t z,Ai (cut H s) t=some z->t≠s/\Ai H t=some z:=λt z hz=>by
  by_cases p:t=s
  ·subst p;rw[ML]at hz;cases hz
  ·rw[Qw p]at hz;exact⟨p,hz⟩
 refine⟨⟨h.glob.mono e,⟨q.trans h.below.os,X.trans h.below.tape,B.trans h.below.output,by rw[hsz];exact h.below.size,λk n J=>(g k (λe=>?_)).trans (h.below.block k n J)⟩,λt z hz=>h.lt t z (c t z hz).2,λt z hz=>(h.rows t z (c t z hz).2).mono e (λk u D=>g k (λQ=>?_)),
  λt z k o hz=>h.own t z k o (c t z hz).2,λt N z O k Y Z hz F=>h.sep t N z O k Y Z (c t z hz).2 (c N O F).2,λk i V=>hsz▸h.fin k i V,λk R=>hsz▸h.finB k R,λk n=>h.nx k (by rw[cut,B4]at n;exact n)⟩,e⟩
 ·subst e;rcases j.1 with q|q
  ·omega
  ·exact J q
 ·subst Q;exact(c t z hz).1 (h.sep t s z x _ _ _ (c t z hz).2 L D M)
def yF(hc:P.cellsOf e=1)(count off n:Nat)(hn:off+n<=count):liesAt P P.depth e count off e n=true:=by
 have a:P.depth=(2*(P.types.size+Made.depth)+1)+1:=rfl;rw[a];simp only[liesAt,l1i];left;rw[a];simp[rowAt,hc,hn,sameLayout,Nat.mod_one]
def A4n{T:Ty}(hT:jX P T){e J it ty:TypeId}{F ie:TI}{p n:AV}{y z:Value}{K:KV}(ak:T J=some F)(hd:F.d=.pointer e)(ah:T e=some ie)(ad:ie.size=1)(hr:Rel G w0 C H w)(hv:VRel C w p y)(hn:VRel C w n z)(h:A4o e p n H K=some r):
 ∃v H' u w',K v H'=some r/\(Builtin.unsafeString_ #[J,it] ty #[y,z]).run P w=.ok u w'/\KE G w0 C w v H' u C w':=by
 unfold A4o at h;split at h
 ·rename_i s o k;obtain⟨kk,zz,rfl,h1⟩:=PZ h;obtain⟨m,rfl,h2⟩:=Xl h1;obtain⟨q,E,cs,hl,h3⟩:=JS h2;obtain⟨hc,h4⟩:=B7 h3;simp only[KF,rC,Xi]at hc;obtain⟨c1,c2,c3⟩:=hc;subst c1;obtain⟨x,h5⟩:=LG _ _ _ _ h4;rw[CA]at x h5;obtain⟨f,Z,h6⟩:=A1V _ _ h5;rw[Dg]at h6;obtain rfl:=AN.1 hn;have ay:o+k+m<=cs.length:=by
   have:m<=(cs.drop (o+k)).length:=x;simp at this;omega
  cases hv with
  |@ptr _ _ _ _ _ b aq hp=>
   rcases hr.rows s _ hl with⟨_,h7⟩|⟨g,c,t,ar,i⟩
   ·have:=h7.symm.trans hp;cases this
   ·have L:=i.at_.symm.trans hp;injection L with L;injection L with L;injection L with e1 e2;subst e1 e2
    have hf:=i.fits;have aj:f.length=m:=by
     have:=congrArg List.length Z;simp at this;have:(cs.drop (o+k)).length=cs.length-(o+k):=by simp
     simp_all
    have A:∀j(R:j<f.length),w.cell? ⟨g,c+(o+k)+j,none⟩=some (.int .u8 (f[j]:Int)):=λj R=>by
     have ag:cs[o+k+j]?=some (.v (.int .u8 (f[j]:Int))):=by
      have:=congrArg (λl=>l[j]?) Z;simp only[zR,qH,yH]at this;rw[Dq (by omega),KL R]at this;simpa using this
     obtain⟨hi,af⟩:=zT.1 ag;obtain⟨y,hy,aa⟩:=i.get _ hi;rw[af]at aa;rw[<-AN.1 aa];rw[<-hy]
     congr 2
     omega
    obtain⟨hu,N⟩:P.underlying J=some (.pointer E)/\P.cellsOf E=1:=by
     obtain⟨u,hu,eu⟩:=(hT J F ak).under;rw[hd]at eu;have ao:u=.pointer E:=by cases u<;>simp[td]at eu;rw[eu]
     subst ao;exact⟨hu,by rw[(hT E ie ah).cellsOf,ad]⟩
    have D:∀(f:Hb)(off:Nat)(acc:ByteArray),(∀j(R:j<f.length),w.cell? ⟨g,off+j,none⟩=some (.int .u8 (f[j]:Int)))->
     (loadBytes ⟨g,off,none⟩ acc f.length).run P w=.ok ⟨acc.data++(f.map UInt8.ofNat).toArray⟩ w:=by
     intro f
     induction f with
     |nil=>intro off acc _;simp[loadBytes]
     |cons n f ih=>
      intro off acc hc;have h0:w.cell? ⟨g,off,none⟩=some (.int .u8 (n:Int)):=hc 0 (by simp);have ap:=ih (off+1) (acc.push (UInt8.ofNat n)) (λj R=>by
       have:=hc (j+1) (by simpa using R);simpa [kD,Nat.add_comm 1 j] using this)
      have hx:((n:Int).toNat).toUInt8=UInt8.ofNat n:=by simp
      simp only[Mi,loadBytes,Dm,run_load,h0,Result.andThen,hx,Kf];rw[ap]
      congr 1
      apply ByteArray.ext;simp[ByteArray.push]
    have V:=D f (c+(o+k)) .empty A;rw[aj]at V;have B:liesAt P P.depth E (t.size/P.cellsOf E) (c+(o+k)) E m=true:=yF N _ _ _ (by rw[N,Nat.div_one];omega);have O:=hr.change (w':=w.freeze ⟨g,c+(o+k),none⟩ m) hl hp (by unfold World.freeze;split<;>rfl) (by unfold World.freeze;split<;>rfl) (by unfold World.freeze;split<;>rfl) (by unfold World.freeze;split<;>simp) (λk' ai=>by
     unfold World.freeze;split
     ·rfl
     ·simp only[l0s];rw[CF (λe=>ai e.symm)]) (λarr T0 ax ae=>by
     unfold World.freeze;rw[CF (by omega)];simp only[l0s,if_true,ae,zQ];exact⟨arr,_,rfl,rfl⟩)
    refine⟨_,_,.string ⟨⟨f.map UInt8.ofNat⟩⟩,_,h6,?_,.v _,O.1,O.2⟩;have X:IntKind.i64.max=9223372036854775807:=rfl;have Q:Builtin.unsafeString_ #[J,it] ty #[.pointer (some ⟨g,c+(o+k),none⟩),.int kk m]=
     (do
      let n<-asInt (.int kk m)
      if n<0 then runtimePanic (.error "unsafe.String: len out of range")
      if n>IntKind.i64.max then unsupported (.unsafePointer "String: a length above the largest int")
      if n=0 then pure (.string .empty)
      else if<-variablesAt ⟨g,c+(o+k),none⟩ (<-elemOf J) n.toNat then do
       let s<-loadBytes ⟨g,c+(o+k),none⟩ .empty n.toNat
       freeze ⟨g,c+(o+k),none⟩ n.toNat
       pure (.string s)
      else unsupported (.unsafePointer "String: not so many bytes at ptr")):=rfl
    rw[Q];have Y:¬(m:Int)<0:=by omega
    have M:¬(9223372036854775807:Int)<(m:Int):=by omega
    have hz:¬m=0:=by omega
    have am:w.shape? g=some (E,t.size):=by simp[World.shape?,i.block]
    simp[asInt,asIntOf,X,Y,M,hz,variablesAt,am,elemOf,run_underlying hu,B,V]
 ·cases h
def A6n{t:Tm}{N:Nat}{ro:Option Nat}{o:Oper}{c:Call}{f:FuncId}{h:Operand}{first cap:Is}{K:AV->Hp->Prop}(B:jZ P f)(p:o.op=.call c)(g:c.callee=.value h)(i:JN G t h=.fn (.func f) first cap)(A:first++c.args.toList.map (JN G t)++cap=[v])(x:K v H):TO P G ro N o t H K:=by
 refine UT (λc hc=>by rw[p]at hc;cases hc) λw0 L C N a w s=>?_;have hv:=Bb s h;rw[i]at hv;obtain⟨D,J,he,m,n⟩:=Ju.1 hv;have b:=(m.append (wD s c.args.toList)).append n;rw[A]at b;obtain⟨y,F,q,k,j⟩:=b.cons_inv;have u:=j.nil_inv;subst u;refine⟨v,H,y,C,w,x,.inl ?_,k,s.rel,.refl _ _ _⟩;have:(D++c.args.toList.map a.eval++J).toArray= #[y]:=by rw[q]
 have hr:=B y w;simp only[execOp,p,resolve,g,he,Deferred.ofValue,Dm,mI,Gc,invoke];rw[<-hr]
 congr 2
 rw[<-this];apply qI;simp
end
end
section
variable{a:Act}{c rest:Code}{w:World}
def rQ(P:Program)(c rest:Code)(Q:Exit->Act->World->Prop)(a:Act)(w:World):Prop:=
 ∀(b:Frame)(k:List Item)(cs:List Frame),∃e d f,Q e d f/\Arrives P (lone (b.at a (.code rest:: .inScope c::k)) cs w) b k cs e d f
def A4d{P:Program}{Q s:Exit->Act->World->Prop}(x:∀l a w,s (.goto l) a w->∃i,findLabel c l=some i/\rQ P c i Q a w)(hq:∀e a w,(∀l,e≠.goto l)->s e a w->Q e a w)(h:rest.wp P s a w):rQ P c rest Q a w:=by
 intro b k cs;obtain⟨e,d,g,h1,f⟩:=h b (.inScope c::k) cs;cases e with
 |normal=>exact⟨.normal,d,g,hq _ _ _ (by simp) h1,Steps.trans f (.one step_inScope)⟩
 |exit id=>exact⟨.exit id,d,g,hq _ _ _ (by simp) h1,λB y=>f B (by simp[exitTo,y])⟩
 |goto l=>
  obtain⟨i,v,A⟩:=x l d g h1;have u:gotoIn l (.inScope c::k)=some (.code i:: .inScope c::k):=by simp[gotoIn,v]
  obtain⟨q,p,r,n,j⟩:=A b k cs;exact⟨q,p,r,n,.of_steps (f _ u) j⟩
 |ret=>exact⟨_,d,g,hq _ _ _ (by simp) h1,f⟩
 |panic C=>exact⟨_,d,g,hq _ _ _ (by simp) h1,f⟩
 |outgrown=>exact⟨_,d,g,hq _ _ _ (by simp) h1,f⟩
def A0E{P:Program}{Q:Exit->Act->World->Prop}(h:rQ P c c Q a w):(Code.scope c).wp P Q a w:=by
 intro b k cs;obtain⟨e,d,g,hq,f⟩:=h b k cs;exact⟨e,d,g,hq,.of_steps (.one step_scope) f⟩
section
variable{P:Program}{G:Gl}{m N:Nat}{t:Tm}{H:Hp}{Q:Exit->Tm->Hp->Prop}
def A0c(P:Program)(G:Gl)(m N:Nat)(c rest:Code)(Q:Exit->Tm->Hp->Prop)(t:Tm)(H:Hp):Prop:=
 ∀w0 b C a w,St G w0 b C N t H a w->rQ P c rest (MR G w0 b m C N w Q) a w
def A84(h:A0c P G m N c c Q t H):QB P G none m N (.scope c) Q t H:=λw0 b C a w s=>wpIn_wide.2 (A0E (h w0 b C a w s))
def F?{n:Exit->Tm->Hp->Prop}(F:∀l t H,n (.goto l) t H->∃d,findLabel c l=some d/\A0c P G m N c d Q t H)(hq:∀e t H,(∀l,e≠.goto l)->n e t H->Q e t H)(h:QB P G none m N rest n t H):A0c P G m N c rest Q t H:=by
 intro w0 y C a w s;refine A4d ?_ ?_ (wpIn_wide.1 (h w0 y C a w s))
 ·rintro l x A ⟨j,i,g,v,u,p⟩;obtain⟨d,D,J⟩:=F l i g p;refine⟨d,D,?_⟩;intro b k cs;obtain⟨B,a2,K,r,f⟩:=J w0 y j x A v b k cs;exact⟨B,a2,K,r.later u,f⟩
 ·rintro e x A q ⟨j,i,g,v,u,p⟩;exact⟨j,i,g,v,u,hq e i g q p⟩
end
end
section
variable{K:K2}
def SW(a:AV):Bool:=match a with
 |.v (.map _)=>false
 |.v _=>true
 |_=>false
def SO(f:AV->K2->Af)(l:Is):(Is->Af)->Af:=
 @List.rec AV (λ_=>(Is->Af)->Af) (λK=>K []) (λa _ ih K=>f a λb=>ih λc=>K (b::c)) l
def A49(a:AV)(K:K2):Af:=
 match a with
 |.v x=>K (.v x)
 |.list n cs=>ck (cs.all SW) (K (.list n cs))
 |_=>none
def A48(H:Hp)(ih:AV->K2->Af)(a:AV)(K:K2):Af:=
 match a with
 |.v x=>K (.v x)
 |.list n cs=>ck (cs.all SW) (K (.list n cs))
 |.agg cs=>SO ih cs λb=>K (.agg b)
 |.tup cs=>SO ih cs λb=>K (.tup b)
 |.sl sz r o n=>IR H r λx=>Ki x λ_ cs=>EO (Nat.mul n sz) (Dn o cs) λc=>SO ih c λd=>K (.list n d)
 |_=>none
def NI(H:Hp)(D:Nat):AV->K2->Af:=@Nat.rec (λ_=>AV->K2->Af) A49 (λ_ ih=>A48 H ih) D
def JR(R:Rt)(f:Nat)(args:Is)(H:Hp)(K:K2):Af:=
 match args with
 |[.ptr s 0 0]=>IR H s λx=>gM x λq _ cs=>match q,cs with
  |true,[.mp m]=>IR H m λy=>qG y λa=>ck (a.all λp=>fB 3 p.2) (Au (R.call f [.iptr [.imap a]] [] λv b=>NI b depth v λc=>some (c,[])) K)
  |_,_=>none
 |_=>Ap R f args H K
section
variable{G:Gl}{w0:Base}{C C2:Ctx}{H:Hp}{w:World}{r:AV×Hp}
def S_{f:AV->K2->Af}(m:∀a y K,VRel C w a y->f a K=some r->∃b,VRel C2 w b y/\K b=some r):
 ∀(l:Is)(ys:Hx)(K:Is->Af),CG C w l ys->SO f l K=some r->∃c,CG C2 w c ys/\K c=some r:=by
 intro l
 induction l with
 |nil=>intro ys K d h;exact⟨[],by rw[d.nil_inv];exact .nil,h⟩
 |cons a l ih=>
  intro ys K d h;obtain⟨y,e,rfl,h1,h2⟩:=d.cons_inv;have h:(f a λb=>SO f l λc=>K (b::c))=some r:=h;obtain⟨b,g,i⟩:=m a y _ h1 h;obtain⟨c,j,k⟩:=ih e _ h2 i;exact⟨_,.cons g j,k⟩
def A1F(hr:Rel G w0 C H w)(h2:C2.bare=C2)(u:∀s x k o,Ai H s=some x->C.π s=some (some (k,o))->∀i,C2.F k i)(q:∀n cs y,cs.all SW=true->VRel C w (.list n cs) y->VRel C2 w (.list n cs) y):∀(D:Nat)(a:AV)(y:Value)(K:K2),VRel C w a y->NI H D a K=some r->∃X,VRel C2 w X y/\K X=some r:=by
 intro D
 induction D with
 |zero=>
  intro a y K hv h;change A49 a K=some r at h;unfold A49 at h;split at h
  ·exact⟨_,by rw[AN.1 hv];exact .v _,h⟩
  ·obtain⟨h1,h⟩:=B7 h;exact⟨_,q _ _ _ h1 hv,h⟩
  ·cases h
 |succ D ih=>
  intro a y K hv h;have M:=λl A K=>S_ (f:=NI H D) (C:=C) (C2:=C2) (w:=w) (r:=r) ih l A K;change A48 H (NI H D) a K=some r at h;unfold A48 at h;split at h
  ·exact⟨_,by rw[AN.1 hv];exact .v _,h⟩
  ·obtain⟨h1,h⟩:=B7 h;exact⟨_,q _ _ _ h1 hv,h⟩
  ·obtain⟨A,rfl,Q⟩:=ET.1 hv;obtain⟨V,h1,h2⟩:=M _ _ _ Q h;exact⟨_,ET.2 ⟨A,rfl,h1⟩,h2⟩
  ·obtain⟨A,rfl,Q⟩:=DO.1 hv;obtain⟨V,h1,h2⟩:=M _ _ _ Q h;exact⟨_,DO.2 ⟨A,rfl,h1⟩,h2⟩
  ·rename_i sz s o n;obtain⟨q0,e,cs,t,h1⟩:=JS h;obtain⟨c,g⟩:=LG _ _ _ _ h1;rw[CA]at c g;cases hv with
   |slz ad=>
    have g:SO (NI H D) ((cs.drop o).take (0*sz)) (λc'=>K (.list 0 c'))=some r:=g;rw[Nat.zero_mul,List.take_zero]at g;exact⟨_,.list0,g⟩
   |@sl _ _ _ _ _ _ bk Y cap arr T fz L p ab Z=>
    rcases hr.rows s _ t with⟨_,h6⟩|⟨b',b,j,aa,B⟩
    ·rw[h6]at L;cases L
    ·have m:=B.at_.symm.trans L;injection m with m;injection m with m;injection m with e1 e2;subst e1 e2
     have d:CG C w ((cs.drop o).take (n*sz)) ((((j.toList.drop b).take cs.length).drop o).take (n*sz)):=(B.vals.unsel.drop o).take _;obtain⟨V,g,h4⟩:=M _ _ _ d g;have ac:V.length=n*sz:=by
      rw[<-g.1,d.1,l0h];have:n*sz<=(cs.drop o).length:=c;omega
     refine⟨_,.list p (λi=>((((j.toList.drop b).take cs.length).drop o).take (n*sz)).getD i undef) (λi J=>u s _ _ _ t L _) (λi J=>?_) (λi J=>?_),h4⟩
     ·have N:i<n*sz:=by omega
      have O:o+i<cs.length:=by have:n*sz<=(cs.drop o).length:=c;simp at this;omega
      rw[kD,B.cell];rw[UW,zR,Dq N,qH,zR,Dq O,qH,l27];have hf:=B.fits;rw[l1p (by omega)];rfl
     ·have:=g.get i J;rw[h2,UW,KL (by rw[g.1];exact J)];exact this
  ·cases h
variable{D:XE->Cf->Nat->List Oper->Bool}{E:XE}{P:Program}{R:Rt}{f:Nat}{args:Is}
def A09(hR:RSound D E P R)(h:JR R f args H K=some r):dF P f/\Ra P E.G f args H (λv H'=>H'=H/\K v=some r):=by
 unfold JR at h;split at h
 rotate_left
 ·exact Zn hR h
 rename_i s;obtain⟨q,T,cs,a4,h⟩:=Vl h;split at h
 rotate_left
 ·cases h
 rename_i _ _ m;obtain⟨x,a3,h⟩:=I0 rfl h;unfold qG at h;split at h
 rotate_left
 ·cases h
 rename_i _ es bo;obtain⟨ax,h⟩:=B7 h;obtain⟨v0,H0,V,am⟩:=RH h;have hc:=(hR.call _ _ _ _ _ V).2;refine⟨(hR.call _ _ _ _ _ V).1,?_⟩;intro w0 C w ys hr ha;obtain⟨y,bc,rfl,ap,aq⟩:=ha.cons_inv;have:=aq.nil_inv;subst this;cases ap with
 |@ptr _ _ _ _ _ b ac L=>
 rcases hr.rows s _ a4 with⟨h1,_⟩|⟨b',ak,arr,fz,hd⟩
 ·cases h1
 have e':=hd.at_.symm.trans L;injection e' with e';injection e' with e';injection e' with e1 e2;subst e1 e2
 obtain⟨ar,hsz⟩:=hd.exact rfl;subst ar;have hsz:arr.size=1:=hsz;obtain⟨vm,ab,Z⟩:=hd.vals.2 0 _ (by rfl:([AV.mp m])[0]?=some (.mp m));have Z:VRel C w (.mp m) vm:=Z;have ab:arr[0]?=some vm:=by simpa using ab
 obtain⟨bm,ms,clock,rfl,ba,ad,ah,he, -⟩:=eO hr a3 Z;have A:w.cell? ⟨b',0,none⟩=some (.map (some bm)):=by rw[hd.cell];exact ab
 have aa:∀i,i≠0->w.cell? ⟨b',i,none⟩=none:=λi c=>by rw[hd.cell];exact Array.getElem?_eq_none (by omega)
 let X:Ctx:={π:=λ_=>none,F:=λk i=>C.F k i\/k=b',B:=λk=>C.B k\/k=bm}
 have ag:bm<w.heap.size:=(l1v.1 ad).1;have J:(∀k i,X.F k i->k<w.heap.size)/\∀k,X.B k->k<w.heap.size:=
  ⟨λk i d=>d.elim (hr.fin k i) λe=>e▸hd.lt,λk hB=>hB.elim (hr.finB k) λe=>e▸ag⟩
 have eb:Ext (λ_=>True) C.bare w X.bare w:=⟨λ_ h=>absurd rfl h,λ_ _ h=>.inl h,λ_ _ _=>rfl,λ_ h=>.inl h,λ_ _=>rfl,λ_ a _ f h=>⟨a,f,h,rfl⟩,λ_ _ _=>.inr trivial,λ_ _=>.inr trivial,Mh _⟩
 have a6:VRel X w (.imap es) (.map (some bm)):=by
  refine .imap ms (.inr rfl) ad (by rw[<-he.1];simp) (λi c=>?_) (λi j az hj=>?_) (λi c=>?_) (λi c=>?_)
  ·obtain⟨mm,u,N, -⟩:=he.2 i _ (KL c);have Y:ms[i]?=some mm:=by simpa using u
   simp[fO,Y,N]
  ·have af:j<ms.size:=by have:=he.1;simp at this;omega
   have O:i<ms.size:=by omega
   have:=(l26.1 ah.born) i j (by simpa using O) (by simpa using af) az;simpa [fO,O,af] using this
  ·have O:i<ms.size:=by have:=he.1;simp at this;omega
   have:=ah.lt ms[i] (by simp);simpa [fO,O] using this
  ·obtain⟨mm,u, -,h6⟩:=he.2 i _ (KL c);have Y:ms[i]?=some mm:=by simpa using u
   have h7:(ms.getD i default)=mm:=by simp[fO,Y]
   rw[h7];have h8:=VRel.down (C:=C) (C':=C.bare) rfl rfl 3 _ _ (GG.1 ax _ (Qk c)) h6;exact h8.mono eb
 have a7:VRel X w (.iptr [.imap es]) (.pointer (some ⟨b',0+(0+0),none⟩)):=
  .iptr (λ_=>.map (some bm)) (λ_ _=>.inr rfl) (λi c=>by
   have:i=0:=by simpa using c
   subst this;exact A) (λi c=>by
   have:i=0:=by simpa using c
   subst this;exact a6)
 have ao:Rel E.G ⟨w,λ_=>False⟩ X [] w:=
  ⟨λg cs hg i v hv=>⟨.inl (hr.glob g cs hg i v hv).1,(hr.glob g cs hg i v hv).2⟩,.refl _ _,λ_ _ h=>by simp[Ai]at h,λ_ _ h=>by simp[Ai]at h,λ_ _ _ _ h=>by simp[Ai]at h,λ_ _ _ _ _ _ _ h=>by simp[Ai]at h,J.1,J.2,λ_ _=>rfl⟩
 refine(hc _ X w _ ao (.cons a7 .nil)).mono ?_;rintro e w' ⟨v,y,C',H',rfl,M,hv,hx,t⟩;have hb:Below w.heap.size w w':=M.below.toBelow;have Q:∀k,Base.own ⟨w,λ_=>False⟩ k->w.heap.size<=k:=λk h=>h.elim id (λh=>h.elim)
 let C2:Ctx:={π:=C.π,F:=λk i=>C.F k i\/(w.heap.size<=k/\(C'.F k i\/∃s x o,Ai H' s=some x/\C'.π s=some (some (k,o)))),B:=C.B}
 have e:Ext w0.own C w C2 w':=⟨λ_ _=>rfl,λ_ _ h=>.inl h,λk i h=>hb.cell (p:=⟨k,i,none⟩) (hr.fin k i h),λ_ h=>h,λk h=>hb.block k (hr.finB k h),
  λk arr T fz h=>⟨arr,fz,(hb.block k (l1v.1 h).1).trans h,rfl⟩,λk i h=>h.imp id (λh=>.inl (XV hr.below.size h.1)),λk h=>.inl h,hb.size⟩
 have ai:Rel E.G w0 C2 H w':=by
  refine⟨hr.glob.mono e,hr.below.below hb,hr.lt,λs x t=>(hr.rows s x t).mono e (λk ac L=>hb.block k ((hr.rows s x t).block (EC t) L)),λs x k o t L=>?_,hr.sep,λk i d=>?_,λk hB=>l2r (hr.finB k hB) hb.size,hr.nx⟩
  ·have h1:=hr.own s x k o t L;have h2:=(hr.rows s x t).block (EC t) L;refine⟨h1.1,λi d=>?_,h1.2.2⟩;rcases d with d|d
   ·exact h1.2.1 i d
   ·have:=d.1;omega
  ·rcases d with d|⟨_,d|⟨s,x,o,t,L⟩⟩
   ·exact l2r (hr.fin k i d) hb.size
   ·exact M.fin k i d
   ·exact(M.rows s x t).block (EC t) L
 obtain⟨v',a5,hK⟩:=A1F (C2:=C2.bare) M rfl (λs x k o t L i=>.inr ⟨Q k (M.own s x k o t L).1,.inr ⟨s,x,o,t,L⟩⟩) (λn cs y ay hy=>by
  cases hy with
  |list0=>exact .list0
  |@list _ _ _ cap _ bb o h vs d ae a8=>
   have aj:∀i(c:i<cs.length),∃z:Value,cs[i]=.v z/\vs i=z/\∀k,z≠.map k:=λi c=>by
    have h1:=GG.1 ay _ (Qk c);have h2:=a8 i c;cases hq:cs[i] with
    |v z=>
     rw[hq]at h1 h2;refine⟨z,rfl,AN.1 h2,λk e=>?_⟩;subst e;simp[SW]at h1
    |_=>rw[hq]at h1;simp[SW]at h1
   refine .list h vs (λi c=>?_) ae (λi c=>?_)
   ·obtain⟨z,_,h2,h3⟩:=aj i c;rcases hx.new _ _ (d i c) with u|u
    ·rcases u with u|u
     ·exact .inl u
     ·exfalso;have N:=hx.keep bb (o+i) (.inr u);rw[ae i c]at N;subst u;by_cases ho:o+i=0
      ·rw[ho,A]at N;injection N with N
       exact h3 _ (h2.symm.trans N)
      ·rw[aa _ ho]at N;cases N
    ·exact .inr ⟨Q _ u,.inl (d i c)⟩
   ·obtain⟨z,h1,h2,_⟩:=aj i c;rw[h1,<-h2];exact .v _) depth v y _ hv t
 injection hK with hK
 injection hK with hK a9
 subst hK;exact⟨v',y,C2,H,rfl,ai,a5.up rfl rfl,e.frm,rfl,am⟩
def zpm(E:XE)(g:Nat)(R:Rt)(all:Is)(H:Hp)(K:K2):Af:=(λ(_:Unit)=>@Bool.rec (λ_=>Af) (Ap R g all H K) (JR R g all H K) (E.lm g)) HY
def fG{X:XE}(a:RSound D E P R)(h:zpm X f R args H K=some r):dF P f/\Ra P E.G f args H (λv b=>b=H/\K v=some r):=by
 change @Bool.rec (λ_=>Af) (Ap R f args H K) (JR R f args H K) (X.lm f)=some r at h;cases hq:X.lm f
 ·rw[hq]at h;exact Zn a h
 ·rw[hq]at h;exact A09 a h
end
end
section
variable{K:K2}{x:Operand}{i:TI}{kt:TypeId}
def Ko(E:XE)(t:Tm)(x:Operand)(K:K2):Af:=
 match x with
 |.tmp i=>gtm t i K
 |.const v=>K (tS v)
 |.global g=>E.gl.getK g λcs=>K (.iptr cs)
 |.func f=>K (.fn (.func f) [] [])
def rV(E:XE)(t:Tm)(l:List Operand):(Is->Af)->Af:=
 @List.rec Operand (λ_=>(Is->Af)->Af) (λK=>K []) (λx _ ih K=>Ko E t x λv=>ih λvs=>K (v::vs)) l
def rS(E:XE)(t:Tm)(x:Option Operand)(K:Option AV->Af):Af:=
 match x with
 |none=>K none
 |some x=>Ko E t x λv=>K (some v)
def plK(i:TI)(j:Nat)(K:Nat->Nat->Af):Af:=(λ(_:Unit)=>match Rj i j with|some (o,s)=>fNS o λo=>K o s|none=>none) HY
def kF(E:XE)(t:Tm)(i:TI)(l:List (Nat×Operand)):(List (Nat×Nat×AV)->Af)->Af:=
 @List.rec (Nat×Operand) (λ_=>(List (Nat×Nat×AV)->Af)->Af) (λK=>K []) (λp _ ih K=>plK i p.1 λo s=>Ko E t p.2 λv=>ih λa=>K ((o,s,v)::a)) l
def B5m(i:TI)(f:Nat)(K:Nat->Nat->TypeId->Af):Af:=(λ(_:Unit)=>match i.d with|.struct a=>(match a[f]? with|some (o,s,ft)=>K o s ft|none=>none)|_=>none) HY
def M!(i:TI)(K:TypeId->Nat->Af):Af:=(λ(_:Unit)=>match i.d with|.slice e a=>K e a|_=>none) HY
def A68(i:TI):TypeId:=match i.d with|.slice e _=>e|_=>0
def elK(E:XE)(i:TI)(K:TI->Af):Af:=(λ(_:Unit)=>match jF i with|some e=>E.ty.getK e K|none=>K i) HY
def Lu(v:AV)(K:K2):Af:=match v with|.ptr r p k=>K (.ptr r p k)|.iptr cs=>K (.iptr cs)|.fn (.func f) a b=>K (.fn (.func f) a b)|_=>none
def Ch(q a b:AV)(K:K2):Af:=match q with|.v (.bool true)=>K a|.v (.bool false)=>K b|_=>none
def A4b:TD->Bool
 |.int .u8=>true
 |_=>false
def cvK(E:XE)(s d:TypeId)(i j:TI)(a:AV)(H:Hp)(K:K2):Af:=
 (λ(_:Unit)=>match i.d with
  |.slice e _=>(match j.d with
   |.string=>E.ty.getK e λb=>ckS (A4b b.d) (vV a H K)
   |_=>none)
  |.pointer e=>ckS (Nat.beq d E.up&& !E.lie.isEmpty) (E.ty.getK e λb=>A2b b a H K)
  |.other=>(match j.d with
   |.pointer u=>ckS (Nat.beq s E.up&& !E.lie.isEmpty) (A26 E.lie u a H K)
   |_=>none)
  |_=>Hg i j a K) HY
def S!(i:TI)(K:TypeId->TypeId->Af):Af:=(λ(_:Unit)=>match i.d with|.map k e=>K k e|_=>none) HY
def A7w(E:XE)(kt:TypeId)(a:AV)(K:Value->Af):Af:=
 E.ty.getK kt λb=>(λ(_:Unit)=>match b.d with
  |.string=>Mj a K
  |.int q=>Xj q a K
  |.struct _=>E.eqt.getK kt λks=>B4Z ks a K
  |.array .. =>E.eqt.getK kt λks=>B4Z ks a K
  |_=>none) HY
def A4c:Operand->Bool
 |.const .nilIface=>true
 |_=>false
def B6F(op:BinOp)(a:AV)(K:K2):Af:=
 match a,op with
 |.v .nilIface,.eql=>K (.v (.bool true))
 |.v .nilIface,.neq=>K (.v (.bool false))
 |_,_=>none
def C1z(E:XE)(op:BinOp)(ty:TypeId)(f:Bool)(a b:AV)(K:K2):Af:=
 E.ty.getK ty λi=>(λ(_:Unit)=>match i.d with
  |.struct _=>E.eqt.getK ty λks=>R7 ks op a b K
  |.array .. =>E.eqt.getK ty λks=>R7 ks op a b K
  |.pointer e=>E.ty.getK e λc=>R6 i c op a b K
  |.iface=>ckS f (B6F op a K)
  |_=>Ar i op a b K) HY
def A2R(i:TI)(v:AV)(l h m:Option AV)(H:Hp)(K:K2):Af:=
 (λ(_:Unit)=>match i.d with
  |.array n _ a=>(match m with|none=>yN n a v l h H K|some _=>none)
  |_=>Es i v l h m K) HY
def B2O(i:TI)(v:AV)(H:Hp)(K:K2):Af:=
 (λ(_:Unit)=>match i.d with
  |.map .. =>Ze v H K
  |_=>Bh i v K) HY
def A8A(E:XE)(R:Rt)(f:AV)(b:Is)(H:Hp)(K:K2):Af:=
 match f with
 |.fn (.func g) first cap=>ckS (!E.imp g) (SX b cap λa=>SX first a λall=>zpm E g R all H K)
 |_=>none
def I?(E:XE)(R:Rt)(t:Tm)(H:Hp)(c:Call)(K:K2):Af:=
 match c.callee with
 |.value e=>Ko E t e λf=>rV E t c.args.toList λd=>A8A E R f d H K
 |.builtin .len=>match c.args.toList,c.argTypes.toList with
  |[x],[ty]=>Ko E t x λv=>E.ty.getK ty λi=>B2O i v H K
  |_,_=>none
 |.builtin .unsafeSliceData=>match c.args.toList with
  |[x]=>Ko E t x λv=>A7M v K
  |_=>none
 |.builtin .min=>match c.args.toList with
  |[x,y]=>Ko E t x λa=>Ko E t y λb=>eMM true a b K
  |_=>none
 |.builtin .max=>match c.args.toList with
  |[x,y]=>Ko E t x λa=>Ko E t y λb=>eMM false a b K
  |_=>none
 |_=>none
def RJ(E:XE)(R:Rt)(t:Tm)(H:Hp)(o:Op)(K:K2):Af:=
 match o with
 |.move x=>Ko E t x K
 |.assign x=>Ko E t x K
 |.pick c a b=>Ko E t c λq=>Ko E t a λa=>Ko E t b λb=>Ch q a b K
 |.load ty x=>Ko E t x λv=>E.ty.getK ty λi=>AD i v H K
 |.nilCheck x=>Ko E t x λv=>Lu v K
 |.binOp op ty x y _=>Ko E t x λa=>Ko E t y λb=>C1z E op ty (A4c y) a b K
 |.unOp op _ x=>Ko E t x λa=>MC op a K
 |.convert s d x=>Ko E t x λa=>E.ty.getK s λi=>E.ty.getK d λj=>cvK E s d i j a H K
 |.makeFunc fn first cap=>rV E t first.toList λw=>rV E t cap.toList λcs=>K (.fn fn w cs)
 |.fieldAddr ty x f=>Ko E t x λv=>E.ty.getK ty λi=>B5m i f λoff sz _=>ckS (!Nat.beq sz 0) (CD off v K)
 |.field ty x f=>Ko E t x λv=>E.ty.getK ty λi=>B5m i f λoff _ ft=>E.ty.getK ft λj=>B1J off j v K
 |.indexAddr ty x e=>Ko E t x λv=>Ko E t e λn=>E.ty.getK ty λi=>DC i v n K
 |.index ty x e=>Ko E t x λv=>Ko E t e λn=>E.ty.getK ty λi=>elK E i λj=>jK i j v n K
 |.slice ty x C A mx=>Ko E t x λv=>rS E t C λl=>rS E t A λh=>rS E t mx λm=>E.ty.getK ty λi=>A2R i v l h m H K
 |.extract x k=>Ko E t x λv=>CM v k K
 |.build ty parts=>E.ty.getK ty λi=>ckS (A03 i) (kF E t i parts.toList λl=>BP i l K)
 |.call c=>I? E R t H c K
 |.buildSlice ty n parts=>E.ty.getK ty λi=>M! i λ_ g=>E.ty.getK (A68 i) λp=>kF E t i parts.toList λl=>Zh g p n l K
 |.lookup ty x e ok=>Ko E t x λm=>Ko E t e λk=>E.ty.getK ty λi=>S! i λkt u=>A7w E kt k λB=>E.ty.getK u λp=>ZE p ok m B H K
 |.entry it=>Ko E t it λv=>dE v H K
 |_=>none
section
variable{D:XE->Cf->Nat->List Oper->Bool}{E:XE}{P:Program}{R:Rt}{t:Tm}{H:Hp}{r:AV×Hp}{ro:Option Nat}{N:Nat}
def A6o{cs:Is}(h:cs.all isV=true):(cs.map unV).map AV.v=cs:=by
 induction cs with
 |nil=>rfl
 |cons c cs ih=>
  simp only[oF,KF]at h;simp only[XI,ih h.2];cases c<;>simp[isV]at h
  rfl
def Bg(a:XE.Ok D E P)(h:Ko E t x K=some r):K (JN E.G t x)=some r:=by
 unfold Ko at h;split at h
 ·rwa[UI]at h
 ·exact h
 ·obtain⟨cs,h1,h2⟩:=Bi h;have:=a.gl _ _ h1;simp only[JN,XE.G,h1,zQ,A6o this];exact h2
 ·exact h
def RL(a:XE.Ok D E P):∀(l:List Operand)(K:Is->Af),rV E t l K=some r->K (l.map (JN E.G t))=some r:=by
 intro l
 induction l with
 |nil=>intro K h;exact h
 |cons x l ih=>
  intro K h;have h:(Ko E t x λv=>rV E t l λvs=>K (v::vs))=some r:=h;exact ih _ (Bg a h)
def kG(a:XE.Ok D E P){x:Option Operand}{K:Option AV->Af}(h:rS E t x K=some r):K (x.map (JN E.G t))=some r:=by
 unfold rS at h;split at h
 ·exact h
 ·exact Bg a h
def Yd(b:XE.Ok D E P):∀(l:List (Nat×Operand))(K:List (Nat×Nat×AV)->Af),kF E t i l K=some r->
 ∃a,K a=some r/\((l.map λp=>(p.1,JN E.G t p.2)).map λp=>(Rj i p.1).map λq=>(q.1,q.2,p.2))=a.map some:=by
 intro l
 induction l with
 |nil=>intro K h;exact⟨[],h,rfl⟩
 |cons p l ih=>
  intro K h;have h:(plK i p.1 λo s=>Ko E t p.2 λv=>kF E t i l λa=>K ((o,s,v)::a))=some r:=h;unfold plK at h;split at h
  ·rename_i o s c;simp only[B1m]at h;obtain⟨a,h1,h2⟩:=ih _ (Bg b h);refine⟨_,h1,?_⟩;simp only[XI,c,zQ,h2]
  ·cases h
def rd(b:XE.Ok D E P){o:Oper}{v:AV}{K:K2}(e:∀c,o.op≠.defer c)(f:rZ (E.env P) o.op t H (λg a=>g=v/\a=H))(d:K v=some r):TO P E.G ro N o t H (λv a=>a=H/\K v=some r):=
 TO.mono (UT e (yS (E:=E.env P) b.env f)) (by rintro _ _ ⟨rfl,rfl⟩;exact⟨rfl,d⟩)
def PU{K:TypeId->TypeId->Af}(h:S! i K=some r):∃k e,i.d=.map k e/\K k e=some r:=by
 unfold S! at h;split at h
 ·rename_i a;exact⟨_,_,a,h⟩
 ·cases h
def PT(b:XE.Ok D E P){mt kt a:TypeId}(f:E.ty.get mt=some i)(c:i.d=.map kt a):P.underlying mt=some (.map kt a):=by
 obtain⟨u,g,e⟩:=(b.ty mt i f).under;rw[c]at e;cases u<;>simp[td]at e
 rw[g,e.1,e.2]
def VA(j:XE.Ok D E P){a:AV}{K:Value->Af}(h:A7w E kt a K=some r):∃k,QZ P kt k/\K k=some r/\∀{C:Ctx}{w:World}{y:Value},VRel C w a y->y=k:=by
 obtain⟨p,f,h⟩:=Bi h;obtain⟨u,m,e⟩:=(j.ty kt p f).under;have g:∀ks,E.eqt.get kt=some ks->B4Z ks a K=some r->∃k,QZ P kt k/\K k=some r/\∀{C:Ctx}{w:World}{y:Value},VRel C w a y->y=k:=λks b h=>by
  unfold B4Z at h;split at h
  ·obtain⟨vs,rfl,h1⟩:=eW _ _ h;obtain⟨h2,n⟩:=LP h1;exact⟨_,.inr (.inr ⟨ks,vs,j.eq kt ks b,h2,rfl⟩),n,λhv=>sN hv⟩
  ·cases h
 simp only at h;split at h
 ·rename_i d;rw[d]at e;have c:u=.string:=by cases u<;>simp[td]at e;rfl
  subst c;unfold Mj at h;split at h
  ·exact⟨_,.inl ⟨m,_,rfl⟩,h,λhv=>AN.1 hv⟩
  ·cases h
 ·rename_i q d;rw[d]at e;have c:u=.int q:=by cases u<;>simp[td]at e;rw[e]
  subst c;unfold Xj at h;split at h
  ·obtain⟨h1,h2⟩:=LP h;have h1:_=q:=l2y h1;subst h1;exact⟨_,.inr (.inl ⟨_,_,m,rfl⟩),h2,λhv=>AN.1 hv⟩
  ·cases h
 ·obtain⟨ks,b,h⟩:=Bi h;exact g ks b h
 ·obtain⟨ks,b,h⟩:=Bi h;exact g ks b h
 ·cases h
def Qi{o:Oper}(e:∀c,o.op≠.defer c)(h:∀(w0:Base)(s0:Nat)(C:Ctx)(N:Nat)(a:Act)(w:World),St E.G w0 s0 C N t H a w->∃v y,K v=some r/\(execOp a.eval o).run P w=.ok (.value y) w/\VRel C w v y):TO P E.G ro N o t H (λv b=>b=H/\K v=some r):=
 UT e λw0 s0 C N a w s=>let⟨v,y,h1,h2,d⟩:=h w0 s0 C N a w s;⟨v,H,y,C,w,⟨rfl,h1⟩,.inl h2,d,s.rel,.refl _ _ _⟩
def A32(f:XE.Ok D E P){o:Oper}{op:BinOp}{ty L:TypeId}{x y:Operand}(d:o.op=.binOp op ty x y L)(h:C1z E op ty (A4c y) (JN E.G t x) (JN E.G t y) K=some r):TO P E.G ro N o t H (λv g=>g=H/\K v=some r):=by
 obtain⟨i,m,h⟩:=Bi h;have nd:∀c,o.op≠.defer c:=λc hc=>by rw[d]at hc;cases hc
 have q:∀ks,E.eqt.get ty=some ks->R7 ks op (JN E.G t x) (JN E.G t y) K=some r->TO P E.G ro N o t H (λv g=>g=H/\K v=some r):=λks b h=>by
  refine Qi nd λw0 B C N a w s=>?_;obtain⟨v,u,h1,h2,j⟩:=A4B (P:=P) x y (f.eq ty ks b) (Bb s x) (Bb s y) h;refine⟨v,u,h1,?_,j⟩;simp only[execOp,d];rw[Dm,h2];rfl
 simp only at h;split at h
 ·obtain⟨ks,b,h⟩:=Bi h;exact q ks b h
 ·obtain⟨ks,b,h⟩:=Bi h;exact q ks b h
 ·rename_i e k;obtain⟨M,n,h⟩:=Bi h;refine Qi nd λw0 B C N a w s=>?_;obtain⟨v,u,h1,h2,j⟩:=A4A (P:=P) (T:=E.T) f.ty x y m k n (Bb s x) (Bb s y) h;refine⟨v,u,h1,?_,j⟩;simp only[execOp,d];rw[Dm,h2];rfl
 ·rename_i k;obtain⟨hc,h⟩:=LP h;have J:y=.const .nilIface:=by
   unfold A4c at hc;split at hc
   ·rfl
   ·cases hc
  subst J;obtain⟨u,p,e⟩:=(f.ty ty i m).under;rw[k]at e;obtain⟨ms,rfl⟩:∃ms,u=.interface ms:=by cases u<;>simp[td]at e;exact⟨_,rfl⟩
  have he:∀w,(Op.equal ty .nilIface .nilIface).run P w=.ok true w:=λw=>by
   show(Op.equalIn (9999+1) ty _ _).run P w=_;unfold Op.equalIn;rw[Dm,run_underlying p w];rfl
  have A:∀(op:BinOp)(z:Operand)(w:World),(eqGuard op ty z (.const .nilIface) .nilIface .nilIface).run P w=.ok () w:=λop z w=>by
   unfold eqGuard;rw[Sem.run_ite];refine B0Y (by simp) ?_;simp
  refine Qi nd λw0 B C N a w s=>?_;have hv:=Bb s x;have hz:a.eval (.const .nilIface)=.nilIface:=rfl;unfold B6F at h;split at h
  ·rename_i hq _ _;rw[hq]at hv;have hv:=AN.1 hv;refine⟨_,.bool true,h,?_,.v _⟩;simp only[execOp,d];rw[hv,hz,Dm,Dm,A];simp[binOp,he]
  ·rename_i hq _ _;rw[hq]at hv;have hv:=AN.1 hv;refine⟨_,.bool false,h,?_,.v _⟩;simp only[execOp,d];rw[hv,hz,Dm,Dm,A];simp[binOp,he]
  ·cases h
 ·obtain⟨u,p,F⟩:=E' (T:=E.T) (ty:=ty) m h;exact rd f nd (by rw[d];simpa [rZ,XE.env] using F) p
def RA{K:TypeId->Nat->Af}(h:M! i K=some r):∃e a,i.d=.slice e a/\K e a=some r:=by
 unfold M! at h;split at h
 ·rename_i b;exact⟨_,_,b,h⟩
 ·cases h
def A81(j:XE.Ok D E P){o:Oper}{ty:TypeId}{n:Nat}{parts:Array (Nat×Operand)}(k:o.op=.buildSlice ty n parts)(h:(E.ty.getK ty λi=>M! i λ_ b=>E.ty.getK (A68 i) λm=>kF E t i parts.toList λl=>Zh b m n l K)=some r):TO P E.G ro N o t H (λv u=>u=H/\K v=some r):=by
 obtain⟨i,B,h⟩:=Bi h;obtain⟨e,b,f,h⟩:=RA h;have he:A68 i=e:=by simp[A68,f]
 rw[he]at h;obtain⟨m,g,h⟩:=Bi h;obtain⟨l,h1,h2⟩:=Yd j _ _ h;refine UT (λc hc=>by rw[k]at hc;cases hc) λw0 M C N a w s=>?_;obtain⟨F,hq⟩:=lO s parts;obtain⟨v,y,q,L,A,d,hv,hr,J⟩:=A7X (P:=P) (T:=E.T) j.ty B f g (by rw[<-h2];simp[Rj,f]) h1 F hq s.rel;refine⟨v,H,y,q,L,⟨rfl,A⟩,.inl ?_,hv,hr,J⟩;have:(parts.map λ(i,x)=>(i,a.eval x))=(parts.toList.map λp=>(p.1,a.eval p.2)).toArray:=by apply qI;simp
 simp only[execOp,k];rw[this,Dm,d];rfl
def A83(q:XE.Ok D E P){o:Oper}{s d:TypeId}(O:o.op=.convert s d x){i j ie:TI}{e z:Nat}(Z:E.ty.get s=some i)(hj:E.ty.get d=some j)(Y:i.d=.slice e z)(A:j.d=.string)(B:E.ty.get e=some ie)(f:A4b ie.d=true)(h:vV (JN E.G t x) H K=some r):TO P E.G ro N o t H (λv V=>V=H/\K v=some r):=by
 refine UT (λc hc=>by rw[O]at hc;cases hc) λw0 s0 C N a w st=>?_;obtain⟨h1,l,X,b⟩:=A4H (P:=P) st.rel (Bb st x) h;refine⟨.v (.string ⟨⟨l⟩⟩),H,.string ⟨⟨l⟩⟩,C,w,⟨rfl,X⟩,.inl ?_,.v _,st.rel,.refl _ _ _⟩;have u:(convert s d (a.eval x)).run P w=.ok (.string ⟨⟨l⟩⟩) w:=by
  obtain⟨F,_⟩:=(q.ty s i Z).elem_slice Y;obtain⟨Q,J,M⟩:=(q.ty d j hj).under;obtain⟨u3,L,p⟩:=(q.ty e ie B).under;rw[A]at M;have g:Q=.string:=by cases Q<;>simp[td]at M;rfl
  subst g;have m:u3=.int .u8:=by
   cases hq:ie.d with
   |int k=>
    rw[hq]at f p;cases k<;>simp[A4b]at f
    cases u3<;>simp[td]at p
    rw[p]
   |_=>rw[hq]at f;simp[A4b]at f
  subst m;unfold convert;rw[Dm,run_underlying F w];simp only[Gc];rw[Dm,run_underlying J w];simp only[Gc];generalize a.eval x=y at h1 b;cases y with
  |slice ad n cap=>
   simp only;rw[Dm,run_underlying L w];simp only[Gc];exact b
  |string s=>exact absurd rfl (h1 s)
  |_=>simp[Conv.bytesToString]at b
 simp only[execOp,O];rw[Dm,u];rfl
def A!{f:Nat}{K:Nat->Nat->TypeId->Af}(h:B5m i f K=some r):∃a o s ft,i.d=.struct a/\a[f]?=some (o,s,ft)/\K o s ft=some r:=by
 unfold B5m at h;split at h
 ·rename_i a b;split at h
  ·rename_i c;exact⟨a,_,_,_,b,c,h⟩
  ·cases h
 ·cases h
def fZ(f:XE.Ok D E P)(M:RSound D E P R){o:Oper}{c:Call}(p:o.op=.call c)(h:I? E R t H c K=some r):TO P E.G ro N o t H (λv L=>L=H/\K v=some r):=by
 have nd:∀c,o.op≠.defer c:=λc hc=>by rw[p]at hc;cases hc
 unfold I? at h;split at h
 ·rename_i Z d;have h:=RL f _ _ (Bg f h);unfold A8A at h;split at h
  ·rename_i g first cap Q;obtain⟨_,h⟩:=B7 h;rw[Jx,Jx,<-fQ]at h;obtain⟨⟨fn,h1,h2,B⟩,hc⟩:=fG M h;exact TO.mono (Ti p d Q h1 h2 B hc) (λ_ _ h=>h)
  ·cases h
 ·rename_i d;split at h
  ·rename_i x ty m q;obtain⟨i,J,h⟩:=Bi (Bg f h);unfold B2O at h;split at h
   ·rename_i kt Y O;refine Qi nd λw0 X C N a w s=>?_;obtain⟨v,y,h1,h2,B⟩:=A2g (P:=P) (ty:=o.type) (ts:=c.argTypes) (by rw[<-l27,q];rfl) (PT f J O) s.rel (Bb s x) h;refine⟨v,y,h1,?_,B⟩;have e:c.args.map a.eval= #[a.eval x]:=by apply qI;simp[m]
    rw[ID p _ d,e];show(do pure (Next.value (<-Builtin.len_ c.argTypes o.type #[a.eval x]))).run P w=_;rw[Dm,h2];rfl
   ·obtain⟨u,A,j⟩:=A7S (T:=E.T) J h;exact rd f nd (by rw[p];simp only[rZ,d,m,q];simpa [XE.env] using j) A
  ·cases h
 ·rename_i d;split at h
  ·rename_i x m;have h:=Bg f h;unfold A7M at h;split at h
   ·rename_i sz rr oo n hq;obtain⟨hc,h1⟩:=B7 h;simp only[KF,rC,Xi]at hc;refine Qi nd λw0 X C N a w s=>?_;have hv:=Bb s x;rw[hq]at hv;have e:c.args.map a.eval= #[a.eval x]:=by apply qI;simp[m]
    rw[ID p _ d,e];generalize a.eval x=y at hv;cases hv with
    |slz=>exact absurd hc.2 (by simp)
    |@sl _ _ _ _ _ _ b k cap arr T fz V F hb hsz=>
     refine⟨_,.pointer (some ⟨b,k+oo,none⟩),h1,?_,.ptr V⟩;show(do pure (Next.value (<-Builtin.unsafeSliceData_ c.argTypes o.type #[.slice (some ⟨b,k+oo,none⟩) n cap]))).run P w=_;rw[Dm,Lib.run_unsafeSliceData_row _ _ _ _ _ _ (by omega)];rfl
   ·cases h
  ·cases h
 ·rename_i d;split at h
  ·rename_i x y m;obtain⟨u,A,j⟩:=A2e (Bg f (Bg f h));exact rd f nd (by rw[p];simp only[rZ,d,m];simpa [XE.env] using j) A
  ·cases h
 ·rename_i d;split at h
  ·rename_i x y m;obtain⟨u,A,j⟩:=A2e (Bg f (Bg f h));exact rd f nd (by rw[p];simp only[rZ,d,m];simpa [XE.env] using j) A
  ·cases h
 ·cases h
def T3(m:XE.Ok D E P)(hR:RSound D E P R){o:Oper}(h:RJ E R t H o.op K=some r):TO P E.G ro N o t H (λv Z=>Z=H/\K v=some r):=by
 unfold RJ at h;split at h
 all_goals try (cases h;done)
 case h_1 x g=>exact rd m (λc hc=>by rw[g]at hc;cases hc) (by rw[g];exact⟨rfl,rfl⟩) (Bg m h)
 case h_2 x g=>exact rd m (λc hc=>by rw[g]at hc;cases hc) (by rw[g];exact⟨rfl,rfl⟩) (Bg m h)
 case h_3 c a b g=>
  have h:=Bg m (Bg m (Bg m h));unfold Ch at h;split at h
  ·rename_i hq;exact rd m (λc hc=>by rw[g]at hc;cases hc) (by rw[g];simp[rZ,XE.env,hq]) h
  ·rename_i hq;exact rd m (λc hc=>by rw[g]at hc;cases hc) (by rw[g];simp[rZ,XE.env,hq]) h
  ·cases h
 case h_4 ty x g=>
  obtain⟨i,p,h⟩:=Bi (Bg m h);obtain⟨u,q,A⟩:=A2j (T:=E.T) (ty:=ty) p h;exact rd m (λc hc=>by rw[g]at hc;cases hc) (by rw[g];simpa [rZ,XE.env] using A) q
 case h_5 x g=>
  have h:=Bg m h;unfold Lu at h;split at h
  ·rename_i hq;exact rd m (λc hc=>by rw[g]at hc;cases hc) (by rw[g];simp[rZ,XE.env,hq,A8D]) h
  ·rename_i hq;exact rd m (λc hc=>by rw[g]at hc;cases hc) (by rw[g];simp[rZ,XE.env,hq,A8D]) h
  ·rename_i hq;exact rd m (λc hc=>by rw[g]at hc;cases hc) (by rw[g];simp[rZ,XE.env,hq,A8D]) h
  ·cases h
 case h_6 op ty x y yt g=>exact A32 m g (Bg m (Bg m h))
 case h_7 op ty x g=>
  obtain⟨u,q,A⟩:=B1u (Bg m h);exact rd m (λc hc=>by rw[g]at hc;cases hc) (by rw[g];simpa [rZ,XE.env] using A) q
 case h_8 s d x g=>
  obtain⟨i,p,h⟩:=Bi (Bg m h);obtain⟨j,L,h⟩:=Bi h;unfold cvK at h;simp only at h;split at h
  ·rename_i e z J;split at h
   ·rename_i O;obtain⟨ie,F,h⟩:=Bi h;obtain⟨q,h⟩:=LP h;exact A83 m g p L J O F q h
   ·cases h
  ·rename_i e J;obtain⟨hc,h⟩:=LP h;simp only[KF,rC,l19]at hc;obtain⟨ie,F,h⟩:=Bi h;refine Qi (λc hc=>by rw[g]at hc;cases hc) λw0 Y C N a w st=>?_;obtain⟨h1,h2⟩:=A4v (P:=P) (T:=E.T) m.ty p J F (d:=d) (by rw[hc.1];exact m.up hc.2) st.rel (Bb st x) h;refine⟨_,_,h1,?_,Bb st x⟩;simp only[execOp,g];rw[Dm,h2];rfl
  ·rename_i J;split at h
   ·rename_i u O;obtain⟨hc,h⟩:=LP h;simp only[KF,rC,l19]at hc;have ab:P.underlying d=some (.pointer u):=by
     obtain⟨u',ae,V⟩:=(m.ty d j L).under;rw[O]at V;cases u'<;>simp[td]at V
     rw[ae,V]
    refine Qi (λc hc=>by rw[g]at hc;cases hc) λw0 Y C N a w st=>?_;obtain⟨h1,h2⟩:=A4p (P:=P) m.lie (s:=s) (by rw[hc.1];exact m.up hc.2) ab st.rel (Bb st x) h;refine⟨_,_,h1,?_,Bb st x⟩;simp only[execOp,g];rw[Dm,h2];rfl
   ·cases h
  ·obtain⟨u,q,A⟩:=A4E (T:=E.T) p L h;exact rd m (λc hc=>by rw[g]at hc;cases hc) (by rw[g];simpa [rZ,XE.env] using A) q
 case h_9 fn first cap g=>
  have h:=RL m _ _ (RL m _ _ h);exact rd m (λc hc=>by rw[g]at hc;cases hc) (by rw[g];exact⟨rfl,rfl⟩) h
 case h_10 ty x f g=>
  obtain⟨i,p,h⟩:=Bi (Bg m h);obtain⟨fs,off,s,ft,h1,h2,h⟩:=A! h;obtain⟨hz,h⟩:=B7 h;obtain⟨u,q,A⟩:=B1K (T:=E.T) (ty:=ty) p h1 h2 (λe=>by rw[e]at hz;simp at hz) h;exact rd m (λc hc=>by rw[g]at hc;cases hc) (by rw[g];simpa [rZ,XE.env] using A) q
 case h_11 ty x f g=>
  obtain⟨i,p,h⟩:=Bi (Bg m h);obtain⟨fs,off,s,ft,h1,h2,h⟩:=A! h;obtain⟨j,L,h⟩:=Bi h;obtain⟨u,q,A⟩:=A7U (T:=E.T) (ty:=ty) p h1 h2 L h;exact rd m (λc hc=>by rw[g]at hc;cases hc) (by rw[g];simpa [rZ,XE.env] using A) q
 case h_12 ty x X g=>
  obtain⟨i,p,h⟩:=Bi (Bg m (Bg m h));obtain⟨u,q,A⟩:=B1F (T:=E.T) (ty:=ty) p h;exact rd m (λc hc=>by rw[g]at hc;cases hc) (by rw[g];simpa [rZ,XE.env] using A) q
 case h_13 ty x X g=>
  obtain⟨i,p,h⟩:=Bi (Bg m (Bg m h));unfold elK at h;have fin:∀j,(∀e,jF i=some e->E.T e=some j)->jK i j (JN E.G t x) (JN E.G t X) K=some r->TO P E.G ro N o t H (λv Z=>Z=H/\K v=some r):=λj L h=>by
   obtain⟨u,q,A⟩:=A7T (T:=E.T) (ty:=ty) p L h;exact rd m (λc hc=>by rw[g]at hc;cases hc) (by rw[g];simpa [rZ,XE.env] using A) q
  split at h
  ·rename_i e he;obtain⟨j,L,h⟩:=Bi h;exact fin j (λV B=>by rw[he]at B;injection B with B;subst B;exact L) h
  ·rename_i he;exact fin i (λV B=>by rw[he]at B;cases B) h
 case h_14 ty x lo p mx g=>
  have h0:=Bi (kG m (kG m (kG m (Bg m h))));clear h;obtain⟨i,Q,h⟩:=h0;unfold A2R at h;split at h
  ·rename_i n e aa J;split at h
   ·rename_i hm;have ad:mx=none:=by cases mx with
     |none=>rfl
     |some _=>cases hm
    subst ad;refine Qi (λc hc=>by rw[g]at hc;cases hc) λw0 Y C N a w st=>?_;obtain⟨v,u,h1,h2,M⟩:=A4r (P:=P) (T:=E.T) m.ty Q J (m.pos ty i e aa Q (.inr ⟨n,J⟩)) st.rel (Bb st x) (YB st lo) (YB st p) h;refine⟨v,u,h1,?_,M⟩;simp only[execOp,g];rw[Dm];have:(Instr.sliceAt ty (a.eval x) (lo.map a.eval) (p.map a.eval) (Option.map a.eval none)).run P w=.ok u w:=h2;rw[this];rfl
   ·cases h
  ·obtain⟨u,q,A⟩:=A28 (T:=E.T) (ty:=ty) Q h;exact rd m (λc hc=>by rw[g]at hc;cases hc) (by rw[g];simpa [rZ,XE.env] using A) q
 case h_15 x k g=>
  obtain⟨vs,u,h1,h2,M⟩:=A7V (Bg m h);exact rd m (λc hc=>by rw[g]at hc;cases hc) (by rw[g];simp only[rZ,XE.env,h1,h2,Mb];exact⟨trivial,trivial⟩) M
 case h_16 ty parts g=>
  obtain⟨i,p,h⟩:=Bi h;obtain⟨hb,h⟩:=B7 h;obtain⟨l,h1,h2⟩:=Yd m _ _ h;obtain⟨u,q,A⟩:=A2n (T:=E.T) (ty:=ty) p hb h2 h1;exact rd m (λc hc=>by rw[g]at hc;cases hc) (by rw[g];simpa [rZ,XE.env] using A) q
 case h_17 c g=>exact fZ m hR g h
 case h_18 ty n parts g=>exact A81 m g h
 case h_19 ty x X ok g=>
  obtain⟨i,p,h⟩:=Bi (Bg m (Bg m h));obtain⟨kt,et,J,h⟩:=PU h;obtain⟨kv,hk,h,ac⟩:=VA m h;obtain⟨ie,F,h⟩:=Bi h;refine Qi (λc hc=>by rw[g]at hc;cases hc) λw0 Y C N a w st=>?_;obtain⟨v,y,h1,h2,M⟩:=A7R (P:=P) (PT m p J) (m.ty et ie F) hk st.rel (Bb st x) h;refine⟨v,y,h1,?_,M⟩;simp only[execOp,g];rw[Dm,ac (Bb st X),h2];rfl
 case h_20 it g=>
  have h:=Bg m h;refine Qi (λc hc=>by rw[g]at hc;cases hc) λw0 Y C N a w st=>?_;obtain⟨v,y,h1,h2,M⟩:=A4C (P:=P) st.rel (Bb st it) h;refine⟨v,y,h1,?_,M⟩;simp only[execOp,g];rw[Dm,h2];rfl
end
end
section
variable{aZ bd:Code}
def B96(r:Nat)(K:AV->Hp->Prop):Exit->Tm->Hp->Prop
 |.normal,_,H=>∃N t ps aZ bd,Ai H r=some (.loop N t ps aZ bd none)/\K (.v (.bool true)) (upd H r (.loop N t ps aZ bd (some none)))
 |.ret,_,H=>∃N t ps aZ bd,Ai H r=some (.loop N t ps aZ bd none)/\K (.v (.bool false)) (upd H r (.loop N t ps aZ bd (some (some .ret))))
 |.exit id,_,H=>∃N t ps aZ bd,Ai H r=some (.loop N t ps aZ bd none)/\K (.v (.bool false)) (upd H r (.loop N t ps aZ bd (some (some (.exit id)))))
 |.goto l,_,H=>∃N t ps aZ bd,Ai H r=some (.loop N t ps aZ bd none)/\K (.v (.bool false)) (upd H r (.loop N t ps aZ bd (some (some (.goto l)))))
 |_,_,_=>False
section
variable{P:Program}{G:Gl}{ro:Option Nat}{N:Nat}{t:Tm}{H:Hp}
def A4X{o:Oper}{c:Call}{fv:Operand}{r:Nat}{K:AV->Hp->Prop}(R:o.op=.call c)(M:c.callee=.value fv)(hf:JN G t fv=.yl r){D:Nat}{t':Tm}{ps:Array Tmp}{args:Is}(m:c.args.toList.map (JN G t)=args)(hl:Ai H r=some (.loop D t' ps aZ bd (some none)))(ae:ps.size=args.length)(ad:∀p∈ps.toList,p<D)(h:∀b,QB P G (some b) (As H) D aZ (B0d (λt1 H1=>∃N1 k j g i,Ai H1 r=some (.loop N1 k j g i (some none))/\QB P G (some b) (As H) D bd (B96 r K) t1 (upd H1 r (.loop N1 k j g i none))) (λ_ _ _=>False)) (yW t' ps.toList args) H):TO P G ro N o t H K:=by
 intro w0 s0 C a w Q s;have hv:=Bb s fv;rw[hf]at hv;generalize hy:a.eval fv=y at hv;cases hv with
 |yl L=>
 rename_i b am;obtain⟨F,l,h1,h2,h3,h4,h5,h6,h7,h8,h9⟩:=s.rel.rows r _ hl;have e:=h1.symm.trans L;injection e with e;injection e with e;injection e with e1 J;subst e1 J
 have V:r<As H:=zN s.rel (by rw[L];simp);have d:=wD s c.args.toList;rw[m]at d;have A:(c.args.map a.eval).size=l.params.size:=by
  have:=d.1;simp at this;simp[h6,ae,this]
 refine⟨λf _=>trivial,?_⟩;rw[Oper.semAt_eq _ _ _ (by rw[R];intro c hc;cases hc)];have X:(execOp a.eval o).run P w=.ok (.round F l.fn ((l.params.zip (c.args.map a.eval)).foldl (λtmps(t,a)=>tmps.setIfInBounds t a) l.tmps) l.assign l.body) w:=by
  simp only[execOp,R,resolve,M,hy,Deferred.ofValue,Dm,mI,Gc,invoke];have:=run_yield (P:=P) (w:=w) (args:= #[]++c.args.map a.eval) h2 (by simpa using A);simpa using this
 rw[X];refine⟨λhd=>by simp[wN]at hd,?_⟩;have ht:=A6Y (C:=C) (w:=w) l.params.toList args (c.args.toList.map a.eval) t' l.tmps (λp L=>by rw[h5];exact ad p (h6▸L)) d h9;have ah:(l.params.zip (c.args.map a.eval)).foldl (λtmps(x:Tmp×Value)=>match x with|(t,a)=>tmps.setIfInBounds t a) l.tmps=(l.params.toList.zip (c.args.toList.map a.eval)).foldl (λt(p:Tmp×Value)=>t.setIfInBounds p.1 p.2) l.tmps:=by
  have hz:(l.params.zip (c.args.map a.eval)).foldl (λtmps(p:Tmp×Value)=>tmps.setIfInBounds p.1 p.2) l.tmps=(l.params.toList.zip (c.args.toList.map a.eval)).foldl (λt(p:Tmp×Value)=>t.setIfInBounds p.1 p.2) l.tmps:=by
   rw[<-Array.foldl_toList];simp
  exact hz
 refine roundIn_of_wpIn trivial ?_;rw[ah,h7,h8];have ai:St G w0 0 C D (yW t' ps.toList args) H {tmps:=(l.params.toList.zip (c.args.toList.map a.eval)).foldl (λt(p:Tmp×Value)=>t.setIfInBounds p.1 p.2) l.tmps,defers:=[]} w:=
  ⟨s.rel,by rw[ht.2];exact h5,by rw[<-h6];exact ht.1,.nil,l1h _⟩
 refine wpIn_mono (h F w0 0 C _ w ai) ?_;rintro e a1 w1 ⟨C1,t1,H1,s1,x1,q1⟩;cases e with
 |normal=>
  obtain⟨N1,k,j,g,i,aa,n⟩:=q1;have q:C1.π r=some (some (F,0)):=(x1.π r V (by rw[L];simp)).trans L;obtain⟨l1,g1,g2,g3,g4,g5,g6,g7,g8,Y⟩:=s1.rel.set_loop (pend':=none) (O:=w0.own) aa q;obtain⟨af,J⟩:=Y {l1 with state:=.busy} rfl (by rw[g3];rfl) rfl rfl rfl rfl;refine⟨_,run_beginRound g1 g2,?_⟩;have aj:St G w0 0 C1 D t1 (upd H1 r (.loop N1 k j g i none)) a1 (w1.putObj F (.loop {l1 with state:=.busy})):=⟨af,s1.size,s1.tmps.mono J,s1.defers.mono J.B J.keepB,l1h _⟩
  refine wpIn_mono (n w0 0 C1 a1 _ aj) ?_;rintro e a3 w3 ⟨C3,t3,H3,s3,x3,q3⟩;have ac:C3.π r=some (some (F,0)):=(x3.π r V (by rw[q];simp)).trans q;have ak:Frm (As H) w0.own C w C3 w3:=(x1.trans J.frm).trans x3;have fin:∀jump:Option Code,(∃N t ps aZ bd,Ai H3 r=some (.loop N t ps aZ bd none)/\K (.v (.bool jump.isNone)) (upd H3 r (.loop N t ps aZ bd (some jump))))->
   ∃v w4,(Instr.endRound F jump).run P w3=.ok v w4/\∃Z y C' H',a.put o.dst v=a.put o.dst y/\K Z H'/\VRel C' w4 Z y/\Rel G w0 C' H' w4/\Ext w0.own C w C' w4:=by
   rintro jump ⟨N3,ar,aq,ao,ap,ab,hK⟩;obtain⟨l3,k1,k2,k3,k4,k5,k6,k7,k8,u⟩:=s3.rel.set_loop (pend':=some jump) (O:=w0.own) ab ac;obtain⟨ag,e4⟩:=u {l3 with state:=if jump.isNone then .ready else .done,pending:=jump} (by cases jump<;>rfl) rfl rfl rfl rfl rfl;exact⟨_,_,run_endRound jump k1,_,_,C3,_,rfl,hK,.v _,ag,(ak.trans e4.frm).ext_of s.rel⟩
  cases e with
  |normal=>exact fin none q3
  |ret=>exact fin (some .ret) q3
  |exit id=>exact fin (some (.exit id)) q3
  |goto l=>exact fin (some (.goto l)) q3
  |panic ch=>exact q3.elim
  |outgrown=>exact q3.elim
 |_=>exact q1.elim
def A4V{m:Nat}{Q:Exit->Tm->Hp->Prop}{g:Operand}{ps:Array Tmp}{f:FuncId}{first cap:Is}(hg:JN G t g=.fn (.func f) first cap){fn:Func}(aq:P.funcs[f]?=some fn)(F:fn.body.isNone=false)(K:(fn.name== "runtime.NumGoroutine")=false)(h:Ra P G f (first++[.yl (As H)]++cap) ((As H,.loop N t ps aZ bd (some none))::H) (λ_ H2=>∃N' t' aj V X d,Ai H2 (As H)=some (.loop N' t' aj V X (some d))/\B99 Q t (cut H2 (As H)) d)):QB P G none m N (.rangeFunc g ps aZ bd) Q t H:=by
 intro w0 s0 C a w s;refine wpIn_rangeFunc ?_;intro aa _;have hv:=Bb s g;rw[hg]at hv;obtain⟨ys,zs,he,ax,ay⟩:=Ju.1 hv;have af:=NP w (.deferred (some []));have k:(w.alloc (.deferred (some []))).heap.size=w.heap.size+1:=World.size_alloc _ _;have rD:Rel G w0 C H (w.alloc (.deferred (some []))):=s.rel.of_below af;have A:(w.alloc (.deferred (some []))).heap[w.heap.size]?=some (.deferred (some [])):=World.alloc_heap_new w _;obtain⟨ak,am⟩:=rD.addB (b:=w.heap.size) (by rw[k];omega) (.inl s.rel.below.size) (λr x o hx hp=>l1l _ ((s.rel.rows r x hx).block (EC hx) hp));have eD:Ext w0.own C w (C.addB w.heap.size) (w.alloc (.deferred (some []))):=(s.rel.ext_below af).trans am;obtain⟨lp,i⟩:∃lp:Loop,lp={state:=.ready,pending:=none,fn:=aa,tmps:=a.tmps,params:=ps,assign:=aZ,body:=bd,defers:=w.heap.size}:=⟨_,rfl⟩
 have D:=NP (w.alloc (.deferred (some []))) (.loop lp);have eL:Ext w0.own (C.addB w.heap.size) (w.alloc (.deferred (some []))) ((C.addB w.heap.size).put (As H) (some ((w.alloc (.deferred (some []))).heap.size,0))) ((w.alloc (.deferred (some []))).alloc (.loop lp)):=ak.new_ext D;have j:((w.alloc (.deferred (some []))).alloc (.loop lp)).heap[(w.alloc (.deferred (some []))).heap.size]?=some (.loop lp):=World.alloc_heap_new _ _;have L:=eD.trans eL;have r1:=ak.new_row (x:=.loop N t ps aZ bd (some none)) D ⟨_,lp,Ctx.put_n _ _ _,j,by rw[i];rfl,by rw[i];rfl,by rw[i];exact s.size,by rw[i],by rw[i],by rw[i],(show lp.tmps=a.tmps by rw[i])▸s.tmps.mono L⟩;generalize ac:(C.addB w.heap.size).put (As H) (some ((w.alloc (.deferred (some []))).heap.size,0))=R at r1 L;generalize ad:(w.alloc (.deferred (some []))).alloc (.loop lp)=q at r1 L j;have ai:R.π (As H)=some (some (w.heap.size+1,0)):=by rw[<-ac,Ctx.put_n,k]
 have ab:R.B w.heap.size:=by rw[<-ac];exact .inr rfl
 have ao:q.heap[w.heap.size]?=some (.deferred (some [])):=by
  rw[<-ad];exact(D.block _ (by rw[k];omega)).trans A
 have ae:CG R q (first++[.yl (As H)]++cap) (ys++[.func (.yield (w.heap.size+1)) #[] #[]]++zs):=((ax.mono L).append (.cons (.yl ai) .nil)).append (ay.mono L);have J:=h w0 R q _ r1 ae;refine⟨w.heap.size+1,[{target:=.collected w.heap.size,args:= #[]}],q,{target:=.fn (.func f) zs.toArray,args:=ys.toArray++ #[Value.func (.yield (w.heap.size+1)) #[] #[]]},q,f,(ys++[Value.func (.yield (w.heap.size+1)) #[] #[]]++zs).toArray,q,?_,?_,λ_ _=>trivial,?_,λhd=>by simp[wN]at hd,?_⟩
 ·rw[<-ad,i];exact run_enterLoop_outer _ _ _ _ _
 ·simp only[resolve,rangeCall,he,Deferred.ofValue,mI];simp[Act.eval]
 ·simp only[invoke,callFunc,Dm,run_program,Gc,aq,K,F,yG,if_false,mI]
  congr 2
  apply qI;simp
 ·refine CallsIn.mono (callsIn_wide.2 J) ?_;rintro e w2 ⟨v,y,n,H2,rfl,r2,az,x2,N',t',aj,V,X,d,ag,hq⟩;have u:Ext w0.own R q n w2:=x2.ext_of r1;have ah:n.π (As H)=some (some (w.heap.size+1,0)):=u.at ai;obtain⟨b',M,k1,k2,k3,k4,_⟩:=r2.rows (As H) _ ag;have Y:=k1.symm.trans ah;injection Y with Y;injection Y with Y;injection Y with e3 e4;subst e3
  have ar:=(l1v.1 k2).1;obtain⟨r3,Z⟩:=r2.set_obj (O:=w0.own) (y:=.gone) ag ah (SameObj.putObj ar (.loop {M with state:=.exhausted})) (λarr T fz hc=>by rw[k2]at hc;cases hc) (λ_=>trivial);have ex:Ext w0.own C w n (w2.putObj (w.heap.size+1) (.loop {M with state:=.exhausted})):=(L.trans u).trans Z;have p:=u.trans Z;have ap:DOk w0 s0 n (w2.putObj (w.heap.size+1) (.loop {M with state:=.exhausted})) (S' w.heap.size::a.defers):=by
   obtain⟨bs,d1,d2,d3⟩:=s.defers;refine⟨w.heap.size::bs,List.nodup_cons.2 ⟨λhm=>l1l _ (s.rel.finB _ (d3 _ hm).2.2.1),d1⟩,by rw[d2];rfl,λb hb=>?_⟩;rcases Xh.1 hb with rfl|hb
   ·exact⟨s.le,.inl s.rel.below.size,p.B _ ab,(p.keepB _ ab).trans ao⟩
   ·obtain⟨g1,g2,g3,g4⟩:=d3 b hb;exact⟨g1,g2,ex.B _ g3,(ex.keepB _ g3).trans g4⟩
  have st:St G w0 s0 n N t (cut H2 (As H)) {a with defers:=[S' w.heap.size]++a.defers} (w2.putObj (w.heap.size+1) (.loop {M with state:=.exhausted})):=
   ⟨r3,s.size,s.tmps.mono ex,ap,XV s.le ex.grow⟩
  refine⟨d,w2.putObj (w.heap.size+1) (.loop {M with state:=.exhausted}),?_,?_⟩
  ·have:=run_endLoop (P:=P) k2 (by rw[k3];cases d<;>simp[B3P]);have hj:M.pending=d:=by rw[k4];cases d<;>rfl
   rw[this,hj]
  ·cases d with
   |none=>exact⟨n,t,_,st,ex.frm,hq⟩
   |some c=>
    cases c with
    |ret=>exact wpIn_ret ⟨n,t,_,st,ex.frm,hq⟩
    |exit id=>exact wpIn_exit ⟨n,t,_,st,ex.frm,hq⟩
    |goto l=>exact wpIn_goto ⟨n,t,_,st,ex.frm,hq⟩
    |_=>exact hq.elim
end
end
section
variable{c:Call}{s:Nat}
def dL(x:Row)(K:Nat->Tm->Array Tmp->Code->Code->Option (Option Code)->Af):Af:=match x with|.loop N t ps b d a=>K N t ps b d a|_=>none
def EB(H:Hp)(r:Nat)(ready:Bool)(to:Option (Option Code))(K:Ru):Af:=
 IR H r λx=>dL x λN t ps b d a=>match ready,a with
  |true,some none=>XA4 H r (.loop N t ps b d to) K
  |false,none=>XA4 H r (.loop N t ps b d to) K
  |_,_=>none
def A3o(t:Tm)(ps:List Tmp):Is->(Tm->Af)->Af:=
 @List.rec Tmp (λ_=>Tm->Is->(Tm->Af)->Af) (λt b K=>@List.rec AV (λ_=>Af) (K t) (λ_ _ _=>none) b)
  (λp _ ih t b K=>@List.rec AV (λ_=>Af) none (λa b _=>ih ((p,a)::t) b K) b) ps t
def zP(N:Nat)(ps:List Tmp):Bool:=@List.rec Tmp (λ_=>Bool) true (λp _ ih=>@Bool.rec (λ_=>Bool) false ih (Nat.blt p N)) ps
def NY(R:Rt)(r:Nat)(args:Is)(H:Hp)(K:KV):Af:=
 IR H r λx=>dL x λN t ps i j b=>match b with
  |some none=>ck (zP N ps.toList) (A3o t ps.toList args λf=>R.run ⟨true,f.map (·.1),false,N,[]⟩ i f H λe k g=>match e with
   |.normal=>EB g r true none λh=>R.run ⟨true,f.map (·.1),false,N,[]⟩ j k h λe _ d=>match e with
    |.normal=>EB d r false (some none) λa=>K (.v (.bool true)) a
    |.ret=>EB d r false (some (some .ret)) λa=>K (.v (.bool false)) a
    |.exit id=>EB d r false (some (some (.exit id))) λa=>K (.v (.bool false)) a
    |.goto l=>EB d r false (some (some (.goto l))) λa=>K (.v (.bool false)) a
    |_=>none
   |_=>none)
  |_=>none
def A8B(E:XE)(R:Rt)(f:AV)(b:Is)(H:Hp)(K:KV):Af:=
 match f with
 |.fn (.func g) first cap=>ck (E.imp g) (Za b cap λa=>Za first a λall=>R.call g all H K)
 |.yl r=>NY R r b H K
 |_=>none
def C2D(i:TI)(K:TypeId->Af):Af:=(λ(_:Unit)=>match i.d with|.pointer e=>K e|_=>none) HY
def C4W(E:XE)(e:TypeId)(esz:Nat)(ie i2:TI)(s x:AV)(H:Hp)(K:KV):Af:=(λ(_:Unit)=>@Bool.rec (λ_=>Af) (DK e esz ie i2 s x H K) (E! e esz ie i2 s x H K) (E.ov e)) HY
def Ye(E:XE)(R:Rt)(t:Tm)(H:Hp)(c:Call)(K:KV):Af:=
 match c.callee with
 |.value h=>Ko E t h λf=>rV E t c.args.toList λg=>A8B E R f g H K
 |.builtin .append=>match c.args.toList,c.argTypes.toList with
  |[s,x],[v,w]=>Ko E t s λs=>Ko E t x λx=>E.ty.getK v λi1=>E.ty.getK w λi2=>M! i1 λe a=>E.ty.getK e λb=>C4W E e a b i2 s x H K
  |_,_=>none
 |.builtin .copy=>match c.args.toList,c.argTypes.toList with
  |[s,x],ty::_=>Ko E t s λs=>Ko E t x λx=>E.ty.getK ty λi=>M! i λ_ a=>A2l a s x H K
  |_,_=>none
 |.builtin .clear=>match c.args.toList,c.argTypes.toList with
  |[s],[ty]=>Ko E t s λs=>E.ty.getK ty λi=>M! i λe a=>E.ty.getK e λb=>vS a b s H λd=>K (.tup []) d
  |_,_=>none
 |.builtin .delete=>match c.args.toList,c.argTypes.toList with
  |[m,k],ty::_=>Ko E t m λm=>Ko E t k λk=>E.ty.getK ty λi=>S! i λj _=>A7w E j k λq=>jH m q H λd=>K (.tup []) d
  |_,_=>none
 |.builtin .unsafeString=>match c.args.toList,c.argTypes.toList with
  |[p,n],[u,_]=>Ko E t p λp=>Ko E t n λn=>E.ty.getK u λi=>C2D i λe=>E.ty.getK e λb=>ckS (Nat.beq b.size 1) (A4o e p n H K)
  |_,_=>none
 |_=>none
def fX(E:XE)(R:Rt)(t:Tm)(H:Hp)(o:Op)(K:KV):Af:=
 match o with
 |.store ty x y=>Ko E t x λp=>Ko E t y λv=>E.ty.getK ty λi=>DF i p v H λa=>K (.v undef) a
 |.alloc ty=>E.ty.getK ty λi=>Bx ty i H K
 |.box ty x=>Ko E t x λv=>FN ty v H K
 |.buildSlice ty n parts=>E.ty.getK ty λi=>M! i λe b=>E.ty.getK e λd=>kF E t i parts.toList λl=>FU e b d n l H K
 |.call c=>Ye E R t H c K
 |.makeSlice ty l c=>Ko E t l λl=>Ko E t c λc=>E.ty.getK ty λi=>M! i λe b=>E.ty.getK e λd=>eMk e b d l c H K
 |.makeMap ty none=>E.ty.getK ty λi=>S! i λ_ h=>E.ty.getK h λd=>LN d H K
 |.mapUpdate ty m k v=>Ko E t m λm=>Ko E t k λk=>Ko E t v λv=>E.ty.getK ty λi=>S! i λf _=>A7w E f k λg=>My m g v H λa=>K (.v undef) a
 |.insert ty m k v=>Ko E t m λm=>Ko E t k λk=>Ko E t v λv=>E.ty.getK ty λi=>S! i λf _=>A7w E f k λg=>My m g v H λa=>K (.v undef) a
 |.mapEntry ty m k=>Ko E t m λm=>Ko E t k λk=>E.ty.getK ty λi=>S! i λf h=>A7w E f k λg=>E.ty.getK h λd=>B1B d m g H K
 |.entryStore _ m st v=>Ko E t m λm=>Ko E t st λst=>Ko E t v λv=>B1A m st v H λa=>K (.v undef) a
 |.range ty x=>Ko E t x λm=>E.ty.getK ty λi=>S! i λ_ _=>Xw m H K
 |.next it false=>Ko E t it λv=>Zd v H K
 |_=>none
section
variable{D:XE->Cf->Nat->List Oper->Bool}{E:XE}{P:Program}{R:Rt}{t:Tm}{H:Hp}{r:AV×Hp}{ro:Option Nat}{N:Nat}
def eQ{x:Row}{K:Nat->Tm->Array Tmp->Code->Code->Option (Option Code)->Af}(h:dL x K=some r):∃N t ps b d a,x=.loop N t ps b d a/\K N t ps b d a=some r:=by
 unfold dL at h;split at h
 ·exact⟨_,_,_,_,_,_,rfl,h⟩
 ·cases h
def Oc{ready:Bool}{to:Option (Option Code)}{K:Ru}(h:EB H s ready to K=some r):
 ∃N t ps a b,Ai H s=some (.loop N t ps a b (if ready then some none else none))/\K (upd H s (.loop N t ps a b to))=some r:=by
 unfold EB at h;obtain⟨x,h1,h2⟩:=I0 rfl h;obtain⟨N,t,ps,a,b,e,rfl,d⟩:=eQ h2;clear h h2;have h:=d;clear d;split at h
 ·rw[Dg]at h;exact⟨N,t,ps,a,b,h1,h⟩
 ·rw[Dg]at h;exact⟨N,t,ps,a,b,h1,h⟩
 ·cases h
def A0Y:∀(ps:List Tmp)(t:Tm)(b:Is)(K:Tm->Af),A3o t ps b K=some r->ps.length=b.length/\K (yW t ps b)=some r:=by
 intro ps
 induction ps with
 |nil=>
  intro t b K h;cases b with
  |nil=>exact⟨rfl,h⟩
  |cons a b=>cases h
 |cons p ps ih=>
  intro t b K h;cases b with
  |nil=>cases h
  |cons a b=>
   obtain⟨h1,h2⟩:=ih ((p,a)::t) b K h;exact⟨by simpa using h1,h2⟩
def A7r{ps:List Tmp}(h:zP N ps=true):∀p∈ps,p<N:=by
 induction ps with
 |nil=>intro p a;simp at a
 |cons q ps ih=>
  have e:zP N (q::ps)=@Bool.rec (λ_=>Bool) false (zP N ps) (Nat.blt q N):=rfl;rw[e]at h;cases hq:Nat.blt q N
  ·rw[hq]at h;cases h
  ·rw[hq]at h;intro p a;rcases Xh.1 a with rfl|a
   ·rwa[Xi]at hq
   ·exact ih h p a
def VT(m:RSound D E P R){o:Oper}{j:Operand}{K:KV}(B:o.op=.call c)(a:c.callee=.value j)(y:JN E.G t j=.yl s)(h:NY R s (c.args.toList.map (JN E.G t)) H K=some r):TO P E.G ro N o t H (λv p=>K v p=some r):=by
 unfold NY at h;obtain⟨x,A,h2⟩:=I0 rfl h;obtain⟨L,O,ps,u,w,n,rfl,k⟩:=eQ h2;clear h h2;have h:=k;clear k;split at h
 ·obtain⟨h1,h⟩:=B7 h;obtain⟨h2,h⟩:=A0Y _ _ _ _ h;refine A4X B a y rfl A (by simpa using h2) (A7r h1) λb=>?_;refine QB.mono (m.run (some b) _ u _ H _ r (As H) (λ_=>rfl) (λh=>by cases h) h) λe Q F hq=>?_;cases e with
  |normal=>
   obtain⟨q,C,i,d,f,g,hq⟩:=Oc hq;refine⟨q,C,i,d,f,g,QB.mono (m.run (some b) _ w _ _ _ r (As H) (λ_=>rfl) (λh=>by cases h) hq) λe V J hq=>?_⟩;cases e with
   |normal=>exact Oc hq
   |ret=>exact Oc hq
   |exit id=>exact Oc hq
   |goto l=>exact Oc hq
   |panic M=>cases hq
   |outgrown=>cases hq
  |_=>cases hq
 ·cases h
def wr(b:XE.Ok D E P){o:Oper}{v:AV}{H':Hp}{K:KV}(e:∀c,o.op≠.defer c)(f:B2Q (E.env P) o.op t H (As H) (λg a=>g=v/\a=H'))(d:K v H'=some r):TO P E.G ro N o t H (λv H'=>K v H'=some r):=
 TO.mono (UT e (A35 (E:=E.env P) b.env f)) (by rintro _ _ ⟨rfl,rfl⟩;exact d)
def B2l{o:Oper}{K:AV->Hp->Prop}{d:Hp}(b:∀{G:Gl}{w0:Base}{C:Ctx}{w:World},Rel G w0 C H w->Rel G w0 C d w)(h:TO P E.G ro N o t d K):TO P E.G ro N o t H K:=
 λw0 e C a w Q s=>h w0 e C a w Q ⟨b s.rel,s.size,s.tmps,s.defers,s.le⟩
def QV{o:Oper}{K:KV}(g:∀c,o.op≠.defer c)(h:∀(w0:Base)(s0:Nat)(C:Ctx)(N:Nat)(a:Act)(w:World),St E.G w0 s0 C N t H a w->∃v b y e d,K v b=some r/\((execOp a.eval o).run P w=.ok (.value y) d\/((execOp a.eval o).run P w=.ok .skip d/\y=undef))/\KE E.G w0 C w v b y e d):TO P E.G ro N o t H (λv b=>K v b=some r):=
 UT g λw0 s0 C N a w s=>let⟨v,b,y,e,d,h1,h2,f⟩:=h w0 s0 C N a w s;⟨v,b,y,e,d,h1,h2,f.1,f.2.1,f.2.2⟩
def XA5(j:XE.Ok D E P)(hR:RSound D E P R){o:Oper}(O:o.op=.call c){K:KV}(h:Ye E R t H c K=some r):TO P E.G ro N o t H (λv y=>K v y=some r):=by
 have nd:∀c,o.op≠.defer c:=λc hc=>by rw[O]at hc;cases hc
 unfold Ye at h;split at h
 ·rename_i fv b;have h:=RL j _ _ (Bg j h);unfold A8B at h;split at h
  ·rename_i g first cap hf;obtain⟨_,h⟩:=B7 h;rw[MX,MX,<-fQ]at h;obtain⟨⟨fn,h1,h2,F⟩,hc⟩:=hR.call _ _ _ _ _ h;exact Ti O b hf h1 h2 F hc
  ·rename_i s hf;exact VT hR O b hf h
  ·cases h
 ·rename_i b;split at h
  ·rename_i s x t1 t2 M f;obtain⟨i1,ab,h⟩:=Bi (Bg j (Bg j h));obtain⟨i2,ac,h⟩:=Bi h;obtain⟨e,A,J,h⟩:=RA h;obtain⟨Y,B,h⟩:=Bi h;have main:DK e A Y i2 (JN E.G t s) (JN E.G t x) H K=some r->TO P E.G ro N o t H (λv y=>K v y=some r):=λh=>by
    unfold DK at h;obtain⟨H1,h,aj,L⟩:=sT h;obtain⟨v,y,hK,X⟩:=E? (T:=E.T) ab ac J B h;refine B2l L ?_;exact wr j nd (by rw[O];simp only[B2Q,b,M,f];exact X) hK
   change @Bool.rec (λ_=>Af) (DK e A Y i2 (JN E.G t s) (JN E.G t x) H K) (E! e A Y i2 (JN E.G t s) (JN E.G t x) H K) (E.ov e)=some r at h;cases ad:E.ov e
   ·rw[ad]at h;exact main h
   rw[ad]at h;change E! e A Y i2 (JN E.G t s) (JN E.G t x) H K=some r at h;unfold E! at h;split at h
   rotate_left
   ·exact main h
   rename_i sz r1 o1 n1 ak;obtain⟨m,ys,q,ae,h⟩:=ZB h;obtain⟨H1,h,aj,L⟩:=sT h;obtain⟨v,y,hK,X⟩:=E? (T:=E.T) ab ac J B h;refine QV nd λw0 s0 C N a w st=>?_;have af:=Bb st x;rw[ak]at af;obtain⟨v,y,u,C',Q,⟨h1,h2⟩,F,Z⟩:=Yf (P:=P) (ty:=o.type) (ts:=c.argTypes) (T:=E.T) j.ty (t1:=t1) (t2:=t2) (by rw[<-l27,f];rfl) (by rw[<-l27,f];rfl) (L st.rel) (Bb st s) (z:=a.eval x) (λao m' ap q' ha ai _=>by
    injection ha with ha
    injection ha with e1 e2
    injection e2 with e2 e3
    subst e1 e2 e3;exact XC st.rel af (q:=q) ae ai (λs hs=>by cases hs)) X
   subst h1 h2;refine⟨v,y,u,C',Q,hK,.inl ?_,Z⟩;have d:c.args.map a.eval= #[a.eval s,a.eval x]:=by apply qI;simp[M]
   rw[ID O _ b,d];show(do pure (Next.value (<-Builtin.append_ c.argTypes o.type #[a.eval s,a.eval x]))).run P w=_;rw[Dm,F];rfl
  ·cases h
 ·rename_i b;split at h
  ·rename_i s x ty am M f;obtain⟨i,V,h⟩:=Bi (Bg j (Bg j h));obtain⟨e,A,J,h⟩:=RA h;refine QV nd λw0 s0 C N a w st=>?_;obtain⟨v,y,u,Q,h1,h2,F⟩:=A4D (P:=P) (T:=E.T) (ty:=o.type) (ts:=c.argTypes) j.ty (by rw[<-l27,f];rfl) V J (j.pos ty i e A V (.inl J)) st.rel (Bb st s) (Bb st x) h;refine⟨v,y,u,C,Q,h1,.inl ?_,F⟩;have d:c.args.map a.eval= #[a.eval s,a.eval x]:=by apply qI;simp[M]
   rw[ID O _ b,d];show(do pure (Next.value (<-Builtin.copy_ c.argTypes o.type #[a.eval s,a.eval x]))).run P w=_;rw[Dm,h2];rfl
  ·cases h
 ·rename_i b;split at h
  ·rename_i s ty M f;obtain⟨i,V,h⟩:=Bi (Bg j h);obtain⟨e,A,J,h⟩:=RA h;obtain⟨Y,B,h⟩:=Bi h;refine QV nd λw0 s0 C N a w st=>?_;obtain⟨y,Q,h1,h2,F,Z⟩:=A4F (P:=P) (T:=E.T) (ty:=o.type) (ts:=c.argTypes) j.ty (by rw[<-l27,f];rfl) V J B st.rel (Bb st s) h;refine⟨_,y,.tuple #[],C,Q,h1,.inl ?_,DO.2 ⟨[],rfl,.nil⟩,F,Z⟩;have d:c.args.map a.eval= #[a.eval s]:=by apply qI;simp[M]
   rw[ID O _ b,d];show(do pure (Next.value (<-Builtin.clear_ c.argTypes o.type #[a.eval s]))).run P w=_;rw[Dm,h2];rfl
  ·cases h
 ·rename_i b;split at h
  ·rename_i m k ty am M f;obtain⟨i,V,h⟩:=Bi (Bg j (Bg j h));obtain⟨kt,et,J,h⟩:=PU h;obtain⟨kv,hk,h,ah⟩:=VA j h;refine QV nd λw0 s0 C N a w st=>?_;obtain⟨y,Q,h1,h2,F,Z⟩:=A2i (P:=P) (ty:=o.type) (ts:=c.argTypes) (by rw[<-l27,f];rfl) (PT j V J) hk st.rel (Bb st m) h;refine⟨_,y,.tuple #[],C,Q,h1,.inl ?_,DO.2 ⟨[],rfl,.nil⟩,F,Z⟩;have d:c.args.map a.eval= #[a.eval m,kv]:=by apply qI;simp[M,ah (Bb st k)]
   rw[ID O _ b,d];show(do pure (Next.value (<-Builtin.delete_ c.argTypes o.type #[a.eval m,kv]))).run P w=_;rw[Dm,h2];rfl
  ·cases h
 ·rename_i b;split at h
  ·rename_i p n pt it M f;obtain⟨i,V,h⟩:=Bi (Bg j (Bg j h));unfold C2D at h;split at h
   ·rename_i e J;obtain⟨Y,B,h⟩:=Bi h;obtain⟨ag,h⟩:=LP h;refine QV nd λw0 s0 C N a w st=>?_;obtain⟨v,y,u,Q,h1,h2,F⟩:=A4n (P:=P) (T:=E.T) (it:=it) (ty:=o.type) j.ty V J B (Z5 ag) st.rel (Bb st p) (Bb st n) h;refine⟨v,y,u,C,Q,h1,.inl ?_,F⟩;have d:c.args.map a.eval= #[a.eval p,a.eval n]:=by apply qI;simp[M]
    have aa:c.argTypes= #[pt,it]:=by apply qI;simp[f]
    rw[ID O _ b,d,aa];show(do pure (Next.value (<-Builtin.unsafeString_ #[pt,it] o.type #[a.eval p,a.eval n]))).run P w=_;rw[Dm,h2];rfl
   ·cases h
  ·cases h
 ·cases h
def Ig(d:XE.Ok D E P)(hR:RSound D E P R){o:Oper}{K:KV}(h:fX E R t H o.op K=some r):TO P E.G ro N o t H (λv f=>K v f=some r):=by
 unfold fX at h;split at h
 all_goals try (cases h;done)
 case h_1 ty x y b=>
  obtain⟨i,g,h⟩:=Bi (Bg d (Bg d h));obtain⟨f,F,J⟩:=B1v (T:=E.T) (ty:=ty) g h;refine TO.mono (UT (λc hc=>by rw[b]at hc;cases hc) (yS (E:=E.env P) (K:=λv aa=>v=.v undef/\aa=f) d.env (by rw[b];simpa [rZ,XE.env] using J))) ?_;rintro _ _ ⟨rfl,rfl⟩;exact F
 case h_2 ty b=>
  obtain⟨i,g,h⟩:=Bi h;obtain⟨v,f,F,J⟩:=A2p (T:=E.T) g h;exact wr d (λc hc=>by rw[b]at hc;cases hc) (by rw[b];exact J) F
 case h_3 ty x b=>
  obtain⟨v,f,F,J⟩:=A7W (ty:=ty) (Bg d h);exact wr d (λc hc=>by rw[b]at hc;cases hc) (by rw[b];exact J) F
 case h_4 ty n parts b=>
  obtain⟨i,g,h⟩:=Bi h;obtain⟨e,ab,u,h⟩:=RA h;obtain⟨Y,A,h⟩:=Bi h;obtain⟨l,h1,h2⟩:=Yd d _ _ h;obtain⟨v,f,F,J⟩:=B1P (T:=E.T) (ps:=parts.toList.map λp=>(p.1,JN E.G t p.2)) g u A (by rw[<-h2];simp[Rj,u]) h1;exact wr d (λc hc=>by rw[b]at hc;cases hc) (by rw[b];exact J) F
 case h_5 c b=>exact XA5 d hR b h
 case h_6 ty l c b=>
  obtain⟨i,g,h⟩:=Bi (Bg d (Bg d h));obtain⟨e,ab,u,h⟩:=RA h;obtain⟨Y,A,h⟩:=Bi h;refine UT (λc hc=>by rw[b]at hc;cases hc) λw0 L C N a w s=>?_;obtain⟨v,f,y,M,j,F,X,hv,hr,J⟩:=A7Q (P:=P) (T:=E.T) d.ty g u A (Bb s l) (Bb s c) s.rel h;refine⟨v,f,y,M,j,F,.inl ?_,hv,hr,J⟩;simp only[execOp,b];rw[Dm,X];rfl
 case h_7 ty b=>
  obtain⟨i,g,h⟩:=Bi h;obtain⟨Z,O,u,h⟩:=PU h;obtain⟨Y,A,h⟩:=Bi h;refine QV (λc hc=>by rw[b]at hc;cases hc) λw0 L C N a w st=>?_;obtain⟨v,f,y,M,j,h1,h2,q⟩:=A2d (P:=P) (ty:=ty) st.rel h;refine⟨v,f,y,M,j,h1,.inl ?_,q⟩;simp only[execOp,b];have:(Instr.makeMap ty (Option.map a.eval none)).run P w=.ok y j:=h2;rw[Dm,this];rfl
 case h_8 ty m k v b=>
  obtain⟨i,g,h⟩:=Bi (Bg d (Bg d (Bg d h)));obtain⟨Z,O,u,h⟩:=PU h;obtain⟨kv,V,h,B⟩:=VA d h;refine QV (λc hc=>by rw[b]at hc;cases hc) λw0 L C N a w st=>?_;obtain⟨f,j,h1,h2,q,Q⟩:=vQ (P:=P) (PT d g u) V st.rel (Bb st m) (Bb st v) h;refine⟨_,f,undef,C,j,h1,.inr ⟨?_,rfl⟩,.v _,q,Q⟩;simp only[execOp,b];rw[Dm,B (Bb st k),h2];rfl
 case h_9 ty m k v b=>
  obtain⟨i,g,h⟩:=Bi (Bg d (Bg d (Bg d h)));obtain⟨Z,O,u,h⟩:=PU h;obtain⟨kv,V,h,B⟩:=VA d h;refine QV (λc hc=>by rw[b]at hc;cases hc) λw0 L C N a w st=>?_;obtain⟨f,j,h1,h2,q,Q⟩:=vQ (P:=P) (PT d g u) V st.rel (Bb st m) (Bb st v) h;refine⟨_,f,undef,C,j,h1,.inr ⟨?_,rfl⟩,.v _,q,Q⟩;simp only[execOp,b];rw[Dm,B (Bb st k),h2];rfl
 case h_10 ty m k b=>
  obtain⟨i,g,h⟩:=Bi (Bg d (Bg d h));obtain⟨Z,O,u,h⟩:=PU h;obtain⟨kv,V,h,B⟩:=VA d h;obtain⟨Y,A,h⟩:=Bi h;refine QV (λc hc=>by rw[b]at hc;cases hc) λw0 L C N a w st=>?_;obtain⟨v,f,y,j,h1,h2,q⟩:=A2h (P:=P) (PT d g u) (d.ty O Y A) V st.rel (Bb st m) h;refine⟨v,f,y,C,j,h1,.inl ?_,q⟩;simp only[execOp,b];rw[Dm,B (Bb st k),h2];rfl
 case h_11 ty m s v b=>
  have h:=Bg d (Bg d (Bg d h));refine QV (λc hc=>by rw[b]at hc;cases hc) λw0 L C N a w st=>?_;obtain⟨f,j,h1,h2,q,Q⟩:=A2c (P:=P) (mt:=ty) st.rel (Bb st m) (Bb st s) (Bb st v) h;refine⟨_,f,undef,C,j,h1,.inr ⟨?_,rfl⟩,.v _,q,Q⟩;simp only[execOp,b];rw[Dm,h2];rfl
 case h_12 ty x b=>
  obtain⟨i,g,h⟩:=Bi (Bg d h);obtain⟨Z,O,u,h⟩:=PU h;refine QV (λc hc=>by rw[b]at hc;cases hc) λw0 L C N a w st=>?_;obtain⟨v,f,y,M,j,h1,h2,q⟩:=A4u (P:=P) (PT d g u) st.rel (Bb st x) h;refine⟨v,f,y,M,j,h1,.inl ?_,q⟩;simp only[execOp,b];rw[Dm,h2];rfl
 case h_13 it b=>
  have h:=Bg d h;refine QV (λc hc=>by rw[b]at hc;cases hc) λw0 L C N a w st=>?_;obtain⟨v,f,y,j,h1,h2,q⟩:=A4w (P:=P) (ty:=o.type) st.rel (Bb st it) h;refine⟨v,f,y,C,j,h1,.inl ?_,q⟩;simp only[execOp,b];rw[Dm,h2];rfl
end
end
end Go.Abs
end
