import Derived.RangeFuncIn
import Derived.RangeFuncStops
import Derived.RangeFuncLeaves
import Derived.OrdersIn
import Derived.ChangeKeysEq
import Derived.Laws.StructEq
import Derived.Laws.BytesString
import Derived.Test.YtjbpmepbnkbmfaaGreatDoorP00
set_option linter.all false
set_option maxHeartbeats 0
noncomputable section
namespace Go.Abs
open Go.RowKit
section
variable{K:AV->Hp->Prop}{a:Act}{w0:Base}{C:Ctx}{N s0:Nat}{w:World}
structure Env where
 P:Program
 G:Gl
 T:Ty
structure Env.Ok(E:Env):Prop where
 ty:kU E.P E.T
 pos:∀t i e esz,E.T t=some i->(i.d=.slice e esz\/∃n,i.d=.array n e esz)->esz≠0
 mix:E.P.follows .mixedOrders=true
def xmm(c:Bool)(a b:AV)(K:AV->Prop):Prop:=
 match a,b with
 |.v (.int k x),.v (.int d y)=>k=d/\K (.v (.int k (if c then(if y<x then y else x) else(if y>x then y else x))))
 |.v (.string s),.v (.string u)=>K (.v (.string (if(if c then(Op.bytesLess s.toList u.toList||s.toList==u.toList) else !Op.bytesLess s.toList u.toList) then s else u)))
 |_,_=>False
def sO(E:Env)(o:Op)(t:Tm)(H:Hp)(K:AV->Hp->Prop):Prop:=
 match o with
 |.move x=>K (JX E.G t x) H
 |.assign x=>K (JX E.G t x) H
 |.pick c a b=>match JX E.G t c with
  |.v (.bool q)=>K (if q then JX E.G t a else JX E.G t b) H
  |_=>False
 |.load ty x=>A10 E.T ty (JX E.G t x) H (λv=>K v H)
 |.store ty x y=>sM E.T ty (JX E.G t x) (JX E.G t y) H (λe=>K (.v undef) e)
 |.nilCheck x=>A9c (JX E.G t x) (λv=>K v H)
 |.binOp op ty x y _=>sU E.T op ty (JX E.G t x) (JX E.G t y) (λv=>K v H)
 |.unOp op _ x=>xun op (JX E.G t x) (λv=>K v H)
 |.convert s d x=>zP E.T s d (JX E.G t x) (λv=>K v H)
 |.makeFunc fn first cap=>K (.fn fn (first.toList.map (JX E.G t)) (cap.toList.map (JX E.G t))) H
 |.fieldAddr ty x f=>lH E.T ty (JX E.G t x) f (λv=>K v H)
 |.field ty x f=>sR E.T ty (JX E.G t x) f (λv=>K v H)
 |.indexAddr ty x i=>sQ E.T ty (JX E.G t x) (JX E.G t i) (λv=>K v H)
 |.index ty x i=>sP E.T ty (JX E.G t x) (JX E.G t i) (λv=>K v H)
 |.slice ty x g hi mx=>sN E.T ty (JX E.G t x) (g.map (JX E.G t)) (hi.map (JX E.G t)) (mx.map (JX E.G t)) (λv=>K v H)
 |.extract x k=>match JX E.G t x with
  |.tup vs=>Mu (vs[k]?) (λv=>K v H)
  |_=>False
 |.build ty parts=>sS E.T ty (parts.toList.map λp=>(p.1,JX E.G t p.2)) (λv=>K v H)
 |.call c=>match c.callee with
  |.builtin .len=>match c.args.toList,c.argTypes.toList with
   |[x],[ty]=>A9d E.T ty (JX E.G t x) (λv=>K v H)
   |_,_=>False
  |.builtin .min=>match c.args.toList with
   |[x,y]=>xmm true (JX E.G t x) (JX E.G t y) (λv=>K v H)
   |_=>False
  |.builtin .max=>match c.args.toList with
   |[x,y]=>xmm false (JX E.G t x) (JX E.G t y) (λv=>K v H)
   |_=>False
  |_=>False
 |_=>False
def B3u(E:Env)(o:Op)(t:Tm)(H:Hp)(r:Nat)(K:AV->Hp->Prop):Prop:=
 match o with
 |.alloc ty=>sV E.T ty H r K
 |.box ty x=>B7G ty (JX E.G t x) H r K
 |.buildSlice ty n parts=>hC E.T ty n (parts.toList.map λp=>(p.1,JX E.G t p.2)) H r K
 |.call c=>match c.callee with
  |.builtin .append=>match c.args.toList,c.argTypes.toList with
   |[s,x],[b,d]=>ZE E.T b d (JX E.G t s) (JX E.G t x) H r K
   |_,_=>False
  |_=>False
 |_=>False
section
variable{E:Env}{t:Tm}{H:Hp}
def YR{G:Gl}(s:St G w0 s0 C N t H a w)(x:Option Operand):A0B C w (x.map (JX G t)) (x.map a.eval):=by
 cases x with
 |none=>trivial
 |some x=>exact Bc s x
def mN{G:Gl}(s:St G w0 s0 C N t H a w)(parts:Array (Nat×Operand)):
 (parts.toList.map λp=>(p.1,JX G t p.2)).length=(parts.toList.map λp=>(p.1,a.eval p.2)).length/\
 ∀(j:Nat)(p:Nat×AV),(parts.toList.map λp=>(p.1,JX G t p.2))[j]?=some p->∃z,(parts.toList.map λp=>(p.1,a.eval p.2))[j]?=some (p.1,z)/\VRel C w p.2 z:=by
 refine⟨by simp,λj p b=>?_⟩;rw[yY]at b⊢;cases h:parts.toList[j]? with
 |none=>rw[h]at b;simp at b
 |some q=>rw[h]at b;simp at b;subst b;exact⟨_,rfl,Bc s q.2⟩
def B58{r p k:Nat}{y:Value}(h:VRel C w (.ptr r p k) y):∃b c,y=.pointer (some ⟨b,c,none⟩):=by
 cases h with
 |ptr d=>exact⟨_,_,rfl⟩
def ID{o:Oper}{c:Call}(d:o.op=.call c)(b:Builtin)(hb:c.callee=.builtin b):execOp a.eval o=builtin b c.argTypes o.type (c.args.map λ|.const _=>true|_=>false) (c.args.map a.eval):=by
 simp only[execOp,d,resolve,hb];rfl
def zN(D:E.Ok){o:Oper}(h:sO E o.op t H K):B36 E.P E.G o t H K:=by
 intro w0 s0 C N a w s;have g:∀{sm:Sem Value}{v:AV}{u:Value},execOp a.eval o=(do pure (.value (<-sm)))->sm.run E.P w=.ok u w->VRel C w v u->K v H->
  ∃v M y O L,K v M/\((execOp a.eval o).run E.P w=.ok (.value y) L\/((execOp a.eval o).run E.P w=.ok .skip L/\y=undef))/\VRel O L v y/\Rel E.G w0 O M L/\Ext w0.own C w O L:=by
  intro sm v u he hr hv Z;exact⟨v,H,u,C,w,Z,.inl (by rw[he,Dr,hr];rfl),hv,s.rel,.refl _ _ _⟩
 unfold sO at h;split at h
 ·rename_i x j;exact⟨_,H,_,C,w,h,.inl (by simp[execOp,j]),Bc s x,s.rel,.refl _ _ _⟩
 ·rename_i x j;exact⟨_,H,_,C,w,h,.inl (by simp[execOp,j]),Bc s x,s.rel,.refl _ _ _⟩
 ·rename_i c x y j;split at h
  ·rename_i q hq;have hc:=Bc s c;rw[hq]at hc;have Q:=AQ.1 hc;refine⟨_,H,if q then a.eval x else a.eval y,C,w,h,.inl (by simp[execOp,j,Q,asBool]),?_,s.rel,.refl _ _ _⟩;cases q
   ·exact Bc s y
   ·exact Bc s x
  ·exact h.elim
 ·rename_i ty x j;have⟨v,z,h1,h2,A⟩:=oO D.ty s.rel (Bc s x) h;exact g (by simp only[execOp,j]) h1 h2 A
 ·rename_i ty x y j;have⟨M,L,h1,h2,A,Y⟩:=P_ D.ty s.rel (Bc s x) (Bc s y) h;exact⟨_,M,undef,C,L,Y,.inr ⟨by simp only[execOp,j];rw[Dr,h1];rfl,rfl⟩,.v _,h2,A⟩
 ·rename_i x j;have B:=Bc s x;unfold A9c at h;split at h
  ·rename_i hq;rw[hq]at B;refine⟨_,H,a.eval x,C,w,h,.inl ?_,by rw[hq];exact B,s.rel,.refl _ _ _⟩;have⟨b,o',e⟩:=B58 B;simp only[execOp,j,e];rfl
  ·rename_i hq;rw[hq]at B;refine⟨_,H,a.eval x,C,w,h,.inl ?_,by rw[hq];exact B,s.rel,.refl _ _ _⟩;have⟨b,o',e⟩:=vS B;simp only[execOp,j,e];rfl
  ·rename_i hq;rw[hq]at B;refine⟨_,H,a.eval x,C,w,h,.inl ?_,by rw[hq];exact B,s.rel,.refl _ _ _⟩;have⟨X,zs,e,_⟩:=Jy.1 B;simp only[execOp,j,e];rfl
  ·rename_i hq;rw[hq]at B;refine⟨_,H,a.eval x,C,w,h,.inl ?_,by rw[hq];exact B,s.rel,.refl _ _ _⟩;have⟨X,zs,e,_⟩:=Jy.1 B;simp only[execOp,j,e];rfl
  ·exact h.elim
 ·rename_i op ty x y yt j;have⟨v,u,h1,h2,A⟩:=sT D.ty x y (Bc s x) (Bc s y) h;exact g (by simp only[execOp,j]) h1 h2 A
 ·rename_i op ty x j;have⟨v,u,h1,h2,A⟩:=A76 (P:=E.P) (Bc s x) h;exact g (by simp only[execOp,j]) h1 h2 A
 ·rename_i sr d x j;have⟨v,u,h1,h2,A⟩:=A11 D.ty (Bc s x) h;exact g (by simp only[execOp,j]) h1 h2 A
 ·rename_i fn first cap j;refine⟨_,H,.func fn (first.map a.eval) (cap.map a.eval),C,w,h,.inl (by simp[execOp,j,Instr.makeFunc]),?_,s.rel,.refl _ _ _⟩;have key:∀l:List Operand,CJ C w (l.map (JX E.G t)) (l.map a.eval):=by
   intro l
   induction l with
   |nil=>exact .nil
   |cons x l ih=>exact .cons (Bc s x) ih
  refine Jy.2 ⟨first.toList.map a.eval,cap.toList.map a.eval,?_,key _,key _⟩
  congr 1<;>(apply qY;simp)
 ·rename_i ty x f j;have⟨v,u,h1,h2,A⟩:=R! D.ty (Bc s x) h;exact g (by simp only[execOp,j]) h1 h2 A
 ·rename_i ty x f j;have⟨v,u,h1,h2,A⟩:=R' D.ty (Bc s x) h;exact g (by simp only[execOp,j]) h1 h2 A
 ·rename_i ty x i j;have⟨v,u,h1,h2,A⟩:=Q_ D.ty D.pos (Bc s x) (Bc s i) h;exact g (by simp only[execOp,j]) h1 h2 A
 ·rename_i ty x i j;have⟨v,u,h1,h2,A⟩:=Q? D.ty D.pos (Bc s x) (Bc s i) h;exact g (by simp only[execOp,j]) h1 h2 A
 ·rename_i ty x lo hi mx j;have⟨v,u,h1,h2,A⟩:=Q! D.ty D.pos (Bc s x) (YR s lo) (YR s hi) (YR s mx) h;exact g (by simp only[execOp,j]) h1 h2 A
 ·rename_i x k j;have B:=Bc s x;split at h
  ·rename_i vs hq;rw[hq]at B;have⟨X,e,R⟩:=DQ.1 B;unfold Mu at h;split at h
   ·rename_i v hv;have⟨y,hy,hr⟩:=R.2 k v hv;refine g (sm:=Instr.extract (a.eval x) k) (by simp only[execOp,j]) ?_ hr h;rw[e];simp[Instr.extract,hy]
   ·exact h.elim
  ·exact h.elim
 ·rename_i ty parts j;have⟨R,hq⟩:=mN s parts;have⟨v,u,h1,h2,A⟩:=R? D.ty R hq h;refine g (sm:=Instr.build ty (parts.map λ(i,x)=>(i,a.eval x))) (by simp only[execOp,j]) ?_ h2 A;have:(parts.map λ(i,x)=>(i,a.eval x))=(parts.toList.map λp=>(p.1,a.eval p.2)).toArray:=by apply qY;simp
  rw[this];exact h1
 ·rename_i c j;have call:=λb hb=>ID (a:=a) j b hb;split at h
  ·rename_i hb;split at h
   ·rename_i x ty B V;have⟨v,u,h1,h2,A⟩:=A3w (P:=E.P) (rt:=o.type) (ts:=c.argTypes) D.ty (by rw[<-l27,V];rfl) (Bc s x) h;have r:c.args.map a.eval= #[a.eval x]:=by apply qY;simp[B]
    refine g (sm:=Builtin.len_ c.argTypes o.type #[a.eval x]) (by rw[call _ hb,r];rfl) h1 h2 A
   ·exact h.elim
  ·rename_i hb;split at h
   ·rename_i x y B;have r:c.args.map a.eval= #[a.eval x,a.eval y]:=by apply qY;simp[B]
    have h1:=Bc s x;have h2:=Bc s y;unfold xmm at h;split at h
    ·rename_i k m k' n F J;rw[F]at h1;rw[J]at h2;obtain⟨rfl,h⟩:=h;refine g (sm:=Builtin.min_ c.argTypes o.type #[a.eval x,a.eval y]) (by rw[call _ hb,r];rfl) ?_ (.v _) h;rw[AQ.1 h1,AQ.1 h2];rfl
    ·rename_i m n F J;rw[F]at h1;rw[J]at h2;refine g (sm:=Builtin.min_ c.argTypes o.type #[a.eval x,a.eval y]) (by rw[call _ hb,r];rfl) ?_ (.v _) h;rw[AQ.1 h1,AQ.1 h2];rfl
    ·exact h.elim
   ·exact h.elim
  ·rename_i hb;split at h
   ·rename_i x y B;have r:c.args.map a.eval= #[a.eval x,a.eval y]:=by apply qY;simp[B]
    have h1:=Bc s x;have h2:=Bc s y;unfold xmm at h;split at h
    ·rename_i k m k' n F J;rw[F]at h1;rw[J]at h2;obtain⟨rfl,h⟩:=h;refine g (sm:=Builtin.max_ c.argTypes o.type #[a.eval x,a.eval y]) (by rw[call _ hb,r];rfl) ?_ (.v _) h;rw[AQ.1 h1,AQ.1 h2];rfl
    ·rename_i m n F J;rw[F]at h1;rw[J]at h2;refine g (sm:=Builtin.max_ c.argTypes o.type #[a.eval x,a.eval y]) (by rw[call _ hb,r];rfl) ?_ (.v _) h;rw[AQ.1 h1,AQ.1 h2];rfl
    ·exact h.elim
   ·exact h.elim
  ·exact h.elim
 ·exact h.elim
def A3v(q:E.Ok){o:Oper}(h:B3u E o.op t H (Ar H) K):B36 E.P E.G o t H K:=by
 intro w0 s0 C N a w s;have fin:∀{sm:Sem Value}{v:AV}{e:Hp}{u:Value}{d:Ctx}{b:World},execOp a.eval o=(do pure (.value (<-sm)))->sm.run E.P w=.ok u b->KU E.G w0 C w v e u d b->K v e->
  ∃v e y d b,K v e/\((execOp a.eval o).run E.P w=.ok (.value y) b\/((execOp a.eval o).run E.P w=.ok .skip b/\y=undef))/\VRel d b v y/\Rel E.G w0 d e b/\Ext w0.own C w d b:=by
  intro sm v e u d b he hr f g;exact⟨v,e,u,d,b,g,.inl (by rw[he,Dr,hr];rfl),f.1,f.2.1,f.2.2⟩
 unfold B3u at h;split at h
 ·rename_i ty k;have⟨v,e,y,d,b,g,hr,f⟩:=R_ q.ty s.rel h;exact fin (by simp only[execOp,k]) hr f g
 ·rename_i ty x k;have⟨v,e,y,d,b,g,hr,f⟩:=A3x (P:=E.P) s.rel (Bc s x) h;exact fin (by simp only[execOp,k]) hr f g
 ·rename_i ty n parts k;have⟨r,hq⟩:=mN s parts;have⟨v,e,y,d,b,g,hr,f⟩:=xL q.ty r hq s.rel h;refine fin (sm:=Instr.buildSlice ty n (parts.map λ(i,x)=>(i,a.eval x))) (by simp only[execOp,k]) ?_ f g;have:(parts.map λ(i,x)=>(i,a.eval x))=(parts.toList.map λp=>(p.1,a.eval p.2)).toArray:=by apply qY;simp
  rw[this];exact hr
 ·rename_i c k;split at h
  ·rename_i hb;split at h
   ·rename_i x y t1 t2 A m;have j:c.args.map a.eval= #[a.eval x,a.eval y]:=by apply qY;simp[A]
    have⟨v,e,z,d,b,g,hr,f⟩:=xM (P:=E.P) (ty:=o.type) (ts:=c.argTypes) q.ty (t1:=t1) (t2:=t2) (by rw[<-l27,m];rfl) (by rw[<-l27,m];rfl) s.rel (Bc s x) (Bc s y) h;refine fin (sm:=Builtin.append_ c.argTypes o.type #[a.eval x,a.eval y]) ?_ hr f g;rw[ID k _ hb,j];rfl
   ·exact h.elim
  ·exact h.elim
 ·exact h.elim
end
end
structure SameObj(w w':World)(b:Nat)(o':Obj):Prop where
 os:w'.os=w.os
 tape:w'.tape=w.tape
 output:w'.output=w.output
 size:w'.heap.size=w.heap.size
 here:w'.heap[b]?=some o'
 others:∀k,k≠b->w'.heap[k]?=w.heap[k]?
section
variable{G:Gl}{w0:Base}{C:Ctx}{H:Hp}{w w':World}{O:Nat->Prop}{r:Nat}{b o:Nat}{x y:Row}{o':Obj}
def Keep.same_obj{B:Base}(h:Keep B w)(a:SameObj w w' b o')(c:B.own b):Keep B w':=
 ⟨a.os.trans h.os,a.tape.trans h.tape,a.output.trans h.output,by rw[a.size];exact h.size,λk f d=>(a.others k (λe=>by
  subst e;rcases c with c|c
  ·omega
  ·exact d c)).trans (h.block k f d)⟩
def SameObj.ext(c:SameObj w w' b o')(d:∀arr T fz,w.heap[b]?≠some (.cells arr T fz))(j:∀i,¬C.F b i)(g:¬C.B b):Ext O C w C w':=
 ⟨λ_ _=>rfl,λ_ _ h=>h,λk i h=>l0t (c.others k (λe=>j i (e▸h))),λ_ h=>h,λk h=>c.others k (λe=>g (e▸h)),
  λk a t f h=>⟨a,f,(c.others k (λe=>d a t f (e▸h))).trans h,rfl⟩,λ_ _ h=>.inl h,λ_ h=>.inl h,Nat.le_of_eq c.size.symm⟩
def Rel.set_obj(h:Rel G w0 C H w)(p:Ah H r=some x)(F:C.π r=some (some (b,o)))(m:SameObj w w' b o')(n:∀arr T fz,w.heap[b]?≠some (.cells arr T fz))(R:Ext (λ_=>False) C w C w'->TF C w' r y):Rel G w0 C (upd H r y) w'/\Ext O C w C w':=by
 have a:=h.own r x b o p F;have e:Ext O C w C w':=m.ext n a.2.1 a.2.2;have key:∀s z,Ah (upd H r y) s=some z->(s=r/\z=y)\/(s≠r/\Ah H s=some z):=λs z hz=>by
  by_cases g:s=r
  ·subst g;rw[BC p]at hz;exact .inl ⟨rfl,(jF hz).1.symm⟩
  ·rw[Ag g]at hz;exact .inr ⟨g,hz⟩
 have d:∀s z,Ah (upd H r y) s=some z->∃j,Ah H s=some j:=λs z hz=>by
  rcases key s z hz with⟨rfl,_⟩|⟨_,h⟩
  ·exact⟨x,p⟩
  ·exact⟨z,h⟩
 refine⟨⟨h.glob.mono e,h.below.same_obj m a.1,?_,?_,?_,?_,λk i M=>m.size▸h.fin k i M,λk L=>m.size▸h.finB k L,λk f=>h.nx k (by rw[B9]at f;exact f)⟩,e⟩
 ·intro s z hz;have⟨j,c⟩:=d s z hz;exact h.lt s j c
 ·intro s z hz;rcases key s z hz with⟨rfl,rfl⟩|⟨v,hz⟩
  ·exact R (m.ext n a.2.1 a.2.2)
  ·refine(h.rows s z hz).mono e (λk D f=>m.others k (λK=>?_));subst K;exact v (h.sep s r z x _ _ _ hz p f F)
 ·intro s z k B hz f;have⟨j,c⟩:=d s z hz;exact h.own s j k B c f
 ·intro s J z j k B V hz c f q;have⟨u,Q⟩:=d s z hz;have⟨X,A⟩:=d J j c;exact h.sep s J u X k B V Q A f q
def SameObj.putObj{l:Nat}(d:l<w.heap.size)(a:Obj):SameObj w (w.putObj l a) l a:=
 ⟨rfl,rfl,rfl,by simp,World.putObj_heap_same d,λk c=>World.putObj_heap_other (λe=>c e)⟩
end
def zV:Tm->List Tmp->Is->Tm
 |t,p::ps,a::c=>zV ((p,a)::t) ps c
 |t,_,_=>t
def A7q{C:Ctx}{w:World}:∀(ps:List Tmp)(c:Is)(ys:Hx)(t:Tm)(tmps:Array Value),(∀p∈ps,p<tmps.size)->CJ C w c ys->XU C w t tmps->
 XU C w (zV t ps c) ((ps.zip ys).foldl (λt(p:Tmp×Value)=>t.setIfInBounds p.1 p.2) tmps)/\((ps.zip ys).foldl (λt(p:Tmp×Value)=>t.setIfInBounds p.1 p.2) tmps).size=tmps.size:=by
 intro ps
 induction ps with
 |nil=>intro c ys t tmps _ _ d;exact⟨d,rfl⟩
 |cons p ps ih=>
  intro c ys t tmps j h d;cases c with
  |nil=>rw[h.nil_inv];exact⟨d,rfl⟩
  |cons a c=>
   obtain⟨y,g,rfl,hv,e⟩:=h.cons_inv;simp only[List.zip_cons_cons,List.foldl_cons,zV];have⟨h1,h2⟩:=ih c g ((p,a)::t) (tmps.setIfInBounds p y) (λq hq=>by simpa using j q (by simp[hq])) e (λi=>by
    simp only[HR];by_cases hi:i=p
    ·subst hi;have f:i<tmps.size:=j i (by simp);rw[Dv rfl];simp[gO,f];exact hv
    ·rw[CL hi];have:=d i;simp only[gO]at this⊢;rw[Array.getElem?_setIfInBounds_ne (by omega)];exact this)
   exact⟨h1,by rw[h2];simp⟩
section
variable{G:Gl}{t:Tm}{H:Hp}
def Rel.set_loop{w0:Base}{C:Ctx}{w:World}{r b:Nat}{f:Nat}{k:Tm}{ps:Array Tmp}{g i:Code}{a pend':Option (Option Code)}{O:Nat->Prop}(h:Rel G w0 C H w)(u:Ah H r=some (.loop f k ps g i a))(j:C.π r=some (some (b,0))):
 ∃l:Loop,w.heap[b]?=some (.loop l)/\l.state=B4r a/\l.pending=a.join/\l.tmps.size=f/\l.params=ps/\l.assign=g/\l.body=i/\XU C w k l.tmps/\
  ∀c:Loop,c.state=B4r pend'->c.pending=pend'.join->c.tmps=l.tmps->c.params=l.params->c.assign=l.assign->c.body=l.body->
   Rel G w0 C (upd H r (.loop f k ps g i pend')) (w.putObj b (.loop c))/\Ext O C w C (w.putObj b (.loop c)):=by
 have⟨v,l,h1,h2,B,D,m,n,p,q,s⟩:=h.rows r _ u;have e:=h1.symm.trans j;injection e with e;injection e with e;injection e with A M;subst A
 refine⟨l,h2,B,D,m,n,p,q,s,λc k1 F k3 J K L=>?_⟩;have d:=(l1v.1 h2).1;exact h.set_obj u j (SameObj.putObj d _) (λarr T fz hc=>by rw[h2]at hc;cases hc) (λe=>⟨v,c,j,World.putObj_heap_same d,k1,F,by rw[k3];exact m,J.trans n,K.trans p,L.trans q,by rw[k3];exact s.mono e⟩)
def Ctx.addB(C:Ctx)(b:Nat):Ctx:={C with B:=λk=>C.B k\/k=b}
def Rel.addB{w0:Base}{C:Ctx}{w:World}{b:Nat}(h:Rel G w0 C H w)(i:b<w.heap.size)(j:w0.own b)(hn:∀r x o,Ah H r=some x->C.π r≠some (some (b,o))):Rel G w0 (C.addB b) H w/\Ext w0.own C w (C.addB b) w:=by
 have e:Ext w0.own C w (C.addB b) w:=⟨λ_ _=>rfl,λ_ _ h=>h,λ_ _ _=>rfl,λ_ h=>.inl h,λ_ _=>rfl,λ_ a _ f h=>⟨a,f,h,rfl⟩,λ_ _ h=>.inl h,λk h=>by rcases h with h|h;exact .inl h;exact .inr (h▸j),MC _⟩
 refine⟨⟨h.glob,h.below,h.lt,λr x d=>(h.rows r x d).mono e (λ_ _ _=>rfl),λr x k o d g=>⟨(h.own r x k o d g).1,(h.own r x k o d g).2.1,λc=>?_⟩,h.sep,h.fin,λk c=>?_,h.nx⟩,e⟩
 ·rcases c with c|c
  ·exact(h.own r x k o d g).2.2 c
  ·subst c;exact hn r x o d g
 ·rcases c with c|c
  ·exact h.finB k c
  ·subst c;exact i
def B9W(Q:Exit->Tm->Hp->Prop)(t:Tm)(H:Hp):Option Code->Prop
 |none=>Q .normal t H
 |some .ret=>Q .ret t H
 |some (.exit id)=>Q (.exit id) t H
 |some (.goto l)=>Q (.goto l) t H
 |_=>False
def NZ(w:World)(a:Obj):Below w.heap.size w (w.alloc a):=(Below.refl _ w).alloc (MC _) _
end
section
variable{i j u:Nat}
def kR(ops:List Oper)(i j:Nat):Bool:=
 match ops[i]? with
 |some o=>o.after.toList.any λe=>Region.binds .any e&&Nat.beq e.on j
 |none=>false
def OT(ops:List Oper)(o:Oper):List Tmp:=
 (o.op.operands.toList.filterMap λ|.tmp t=>some t|_=>none)++
 (match o.guard with
  |some (g,_)=>((ops[g]?).bind (·.dst)).toList
  |none=>[])
def tQ(ops:List Oper)(x y:Oper):Bool:=
 (match x.dst with|some d=>(OT ops y).elem d||y.dst==some d|none=>false)||(match y.dst with|some d=>(OT ops x).elem d|none=>false)
inductive Rch(ops:List Oper):Nat->Nat->Prop
 |one {i j:Nat} (h:kR ops i j=true):Rch ops i j
 |more {i k j:Nat} (h:kR ops i k=true) (h':Rch ops k j):Rch ops i j
def kQ{ops:List Oper}:kR ops i j=true↔∃o,ops[i]?=some o/\∃e∈o.after.toList,Region.binds .any e=true/\e.on=j:=by
 unfold kR;cases ops[i]? with
 |none=>simp
 |some o=>simp only[List.any_eq_true,KW,rU,l0z,exists_eq_left']
def Rch.mem{ops:List Oper}{L:Nat->Bool}(a:∀i j,L i=true->kR ops i j=true->L j=true)(h:Rch ops i j):L i=true->L j=true:=by
 induction h with
 |one h=>intro hi;exact a _ _ hi h
 |more h _ ih=>intro hi;exact ih (a _ _ hi h)
def Rch.mem'{ops:List Oper}{L:Nat->Bool}(a:∀i j,L i=true->kR ops i j=true->L j=true)(hr:∀j,kR ops i j=true->L j=true)(h:Rch ops i j):L j=true:=by
 cases h with
 |one h=>exact hr _ h
 |more h b=>exact b.mem a (hr _ h)
def C3u(acc:Hb)(es:List Edge):Nat:=es.foldl (λm e=>if Region.binds .any e then Nat.lor m (Nat.lor (Nat.pow 2 e.on) (acc.getD e.on 0)) else m) 0
def nH:Hb->List Oper->Hb
 |acc,[]=>acc
 |acc,o::l=>nH (acc++[C3u acc o.after.toList]) l
def TU(ops:List Oper):Hb:=nH [] ops
def A4v{acc:Hb}{ops:List Oper}{o:Oper}(r:ops[i]?=some o)(d:∀k j,(acc.getD k 0).testBit j=true->Rch ops k j):
 ∀(es:List Edge),(∀e∈es,e∈o.after.toList)->∀m:Nat,(∀j,m.testBit j=true->Rch ops i j)->∀j,(es.foldl (λm e=>if Region.binds .any e then Nat.lor m (Nat.lor (Nat.pow 2 e.on) (acc.getD e.on 0)) else m) m).testBit j=true->Rch ops i j:=by
 intro es
 induction es with
 |nil=>intro _ m hm j c;exact hm j c
 |cons e es ih=>
  intro f m hm;refine ih (λp g=>f p (by simp[g])) _ ?_;intro j c;simp only at c;split at c
  ·rename_i hb;have n:kR ops i e.on=true:=kQ.2 ⟨o,r,e,f e (by simp),hb,rfl⟩;have h:∀a b:Nat,Nat.lor a b=a|||b:=λ_ _=>rfl
   have q:∀a b:Nat,Nat.pow a b=a^b:=λ_ _=>rfl;rw[h,h,q,Nat.testBit_or,Nat.testBit_or,Nat.testBit_two_pow]at c;simp only[l1i,decide_eq_true_eq]at c;rcases c with c|c|c
   ·exact hm j c
   ·subst c;exact .one n
   ·exact .more n (d _ _ c)
  ·exact hm j c
def vM{ops:List Oper}:∀(l:List Oper)(acc:Hb),ops.drop acc.length=l->acc.length<=ops.length->(∀k j,(acc.getD k 0).testBit j=true->Rch ops k j)->∀k j,((nH acc l).getD k 0).testBit j=true->Rch ops k j:=by
 intro l
 induction l with
 |nil=>intro acc _ _ h;exact h
 |cons o l ih=>
  intro acc d f a;have e:ops[acc.length]?=some o:=by
   have:=congrArg (λl=>l[0]?) d;simpa using this
  have g:acc.length<ops.length:=(E'.1 e).1;refine ih _ ?_ (by simp;omega) ?_
  ·rw[EN,List.length_singleton];have:=congrArg (List.drop 1) d;simpa [Nat.add_comm] using this
  ·intro k j b;rcases Nat.lt_trichotomy k acc.length with c|c|c
   ·rw[TV,l0m c,<-TV]at b;exact a k j b
   ·subst c;rw[TV,l0o (MC _)]at b;simp at b;exact A4v e a _ (λ_ h=>h) 0 (by simp) j b
   ·rw[TV,l0o (by omega),l1j (by simp;omega)]at b;simp at b
def Qi{ops:List Oper}{k j:Nat}(h:((TU ops).getD k 0).testBit j=true):Rch ops k j:=
 vM ops [] rfl (l1h _) (λk j h=>by simp at h) k j h
def tb(m j:Nat):Bool:=Nat.beq (Nat.land (Nat.shiftRight m j) 1) 1
def zY(m j:Nat):tb m j=m.testBit j:=by
 unfold tb Nat.testBit;have e:Nat.land (Nat.shiftRight m j) 1=(m>>>j)&&&1:=rfl;rw[e,Nat.and_comm,Nat.one_and_eq_mod_two];rcases Nat.mod_two_eq_zero_or_one (m>>>j) with h|h<;>rw[h]<;>rfl
def oI(ms:Hb):Hb->Bool
 |[]=>true
 |[_]=>true
 |a::b::l=>Nat.blt a b&&tb (ms.getD b 0) a&&oI ms (b::l)
def A6O:Nat->List Oper->Bool
 |_,[]=>true
 |i,o::l=>o.after.toList.all (λe=>!Region.binds .any e||Nat.blt e.on i)&&A6O (i+1) l
def rL(ops:List Oper)(m:Nat)(o:Oper):Nat->List Oper->Bool
 |_,[]=>true
 |j,p::l=>(!tQ ops p o||tb m j)&&rL ops m o (j+1) l
def B5i(ops:List Oper)(ms:Hb):Nat->List Oper->Bool
 |_,[]=>true
 |i,o::l=>rL ops (ms.getD i 0) o 0 (ops.take i)&&B5i ops ms (i+1) l
def B'(ops:List Oper)(efs:Hb):Bool:=
 A6O 0 ops&&B5i ops (TU ops) 0 ops&&oI (TU ops) efs&&efs.all λe=>Nat.blt e ops.length
structure RegOk(ops:List Oper)(efs:Hb):Prop where
 back:∀(i j:Nat),kR ops i j=true->j<i
 ord:∀(i j:Nat)(o p:Oper),j<i->ops[i]?=some o->ops[j]?=some p->(∃d,p.dst=some d/\(d∈OT ops o\/o.dst=some d))\/(∃d,o.dst=some d/\d∈OT ops p)->Rch ops i j
 chain:∀(a e e':Nat),efs[a]?=some e->efs[a+1]?=some e'->Rch ops e' e
 inj:∀(a a' e:Nat),efs[a]?=some e->efs[a']?=some e->a=a'
 lt:∀(a e:Nat),efs[a]?=some e->e<ops.length
def L!{ms:Hb}:∀{l:Hb},oI ms l=true->∀(a b e c:Nat),a<b->l[a]?=some e->l[b]?=some c->e<c:=by
 intro l
 induction l with
 |nil=>intro _ a b e c _ h;simp at h
 |cons x l ih=>
  intro h a b e c d h1 h2;cases l with
  |nil=>
   cases b with
   |zero=>omega
   |succ b=>simp at h2
  |cons y l=>
   simp only[oI,KW,Wg]at h;cases b with
   |zero=>omega
   |succ b=>
    cases a with
    |zero=>
     simp at h1;subst h1;cases b with
     |zero=>simp at h2;subst h2;exact h.1.1
     |succ b=>exact Nat.lt_trans h.1.1 (ih h.2 0 (b+1) y c (by omega) (by simp) (by simpa using h2))
    |succ a=>exact ih h.2 a b e c (by omega) (by simpa using h1) (by simpa using h2)
def A5e{ops:List Oper}:∀{l:Hb},oI (TU ops) l=true->∀(a e b:Nat),l[a]?=some e->l[a+1]?=some b->Rch ops b e:=by
 intro l
 induction l with
 |nil=>intro _ a e b h;simp at h
 |cons x l ih=>
  intro h a e b h1 h2;cases l with
  |nil=>simp at h2
  |cons y l=>
   simp only[oI,KW,zY]at h;cases a with
   |zero=>simp at h1 h2;subst h1 h2;exact Qi h.1.2
   |succ a=>exact ih h.2 a e b (by simpa using h1) (by simpa using h2)
def A5k:∀(l:List Oper)(i:Nat),A6O i l=true->∀(k:Nat)(o:Oper),l[k]?=some o->∀e∈o.after.toList,Region.binds .any e=true->e.on<i+k:=by
 intro l
 induction l with
 |nil=>intro i _ k o h;simp at h
 |cons p l ih=>
  intro i h k o a e he hb;simp only[A6O,KW,G9]at h;cases k with
  |zero=>
   simp at a;subst a;have:=h.1 e he;simpa [hb,Wg] using this
  |succ k=>
   have:=ih (i+1) h.2 k o (by simpa using a) e he hb;omega
def U'{ops:List Oper}{m:Nat}{o:Oper}:∀(l:List Oper)(j:Nat),rL ops m o j l=true->∀(k:Nat)(p:Oper),l[k]?=some p->tQ ops p o=true->m.testBit (j+k)=true:=by
 intro l
 induction l with
 |nil=>intro j _ k p h;simp at h
 |cons q l ih=>
  intro j h k p a b;simp only[rL,KW,l1i,l19,zY]at h;cases k with
  |zero=>
   simp at a;subst a;rcases h.1 with h1|h1
   ·rw[b]at h1;cases h1
   ·exact h1
  |succ k=>
   have:=ih (j+1) h.2 k p (by simpa using a) b;rw[show j+(k+1)=j+1+k from by omega];exact this
def A7P{ops:List Oper}:∀(l:List Oper)(i:Nat),B5i ops (TU ops) i l=true->∀(k:Nat)(o:Oper),l[k]?=some o->∀(j:Nat)(p:Oper),j<i+k->ops[j]?=some p->tQ ops p o=true->Rch ops (i+k) j:=by
 intro l
 induction l with
 |nil=>intro i _ k o h;simp at h
 |cons q l ih=>
  intro i h k o a j p d b c;simp only[B5i,KW]at h;cases k with
  |zero=>
   simp at a;subst a;have:=U' _ 0 h.1 j p (by rw[D_,Dv (by simpa using d)];exact b) c;rw[JZ]at this;exact Qi this
  |succ k=>
   have:=ih (i+1) h.2 k o (by simpa using a) j p (by omega) b c;rw[show i+(k+1)=i+1+k from by omega];exact this
def tS{ops:List Oper}{efs:Hb}(h:B' ops efs=true):RegOk ops efs:=by
 simp only[B',KW,G9]at h;have⟨⟨⟨s,h1⟩,h2⟩,v⟩:=h;refine⟨λi j f=>?_,λi j o p w q x y=>?_,A5e h2,λa k e f g=>?_,λa e f=>?_⟩
 ·obtain⟨o,q,e,he,hb,rfl⟩:=kQ.1 f;have:=A5k ops 0 s i o q e he hb;omega
 ·have r:tQ ops p o=true:=by
   unfold tQ;rcases y with⟨d,n,c⟩|⟨d,n,c⟩
   ·rw[n];rcases c with c|c
    ·simp[c]
    ·simp[c]
   ·rw[n];simp[c]
  have:=A7P ops 0 h1 i o q j p (by omega) x r
  rwa[JZ]at this
 ·rcases Nat.lt_trichotomy a k with b|b|b
  ·exact absurd (L! h2 a k e e b f g) (l1l _)
  ·exact b
  ·exact absurd (L! h2 k a e e b g f) (l1l _)
 ·have:=v e (l1m f);simpa [Wg] using this
def IN(ops:List Oper)(val:Nat->AV)(t:Tm)(L:Nat->Bool):Nat->Tm
 |0=>t
 |j+1=>match L j,ops[j]? with
  |true,some o=>Sh (IN ops val t L j) o.dst (val j)
  |_,_=>IN ops val t L j
def Vy{t:Tm}{d:Option Tmp}{v:AV}:HR (Sh t d v) u=if d=some u then v else HR t u:=by
 cases d with
 |none=>simp[Sh]
 |some d=>
  simp only[Sh,HR];by_cases h:u=d
  ·simp[h]
  ·rw[CL h,CL (λe=>h (by injection e with e;exact e.symm))]
section
variable{ops:List Oper}{efs:Hb}{val:Nat->AV}{t:Tm}{L:Nat->Bool}
def A3T(k:RegOk ops efs)(b:∀i j,L i=true->kR ops i j=true->L j=true){o:Oper}(q:ops[i]?=some o)(hr:∀j,kR ops i j=true->L j=true)(hi:L i=false)(r:u∈OT ops o)(n:Nat)(hn:i<=n):
 HR (IN ops val t L n) u=HR (IN ops val t (λ_=>true) i) u:=by
 have h1:∀j,j<=i->HR (IN ops val t L j) u=HR (IN ops val t (λ_=>true) j) u:=by
  intro j
  induction j with
  |zero=>intro _;rfl
  |succ j ih=>
   intro s;have:=ih (by omega);simp only[IN];cases c:ops[j]? with
   |none=>cases L j<;>simpa [c] using this
   |some p=>
    by_cases a:p.dst=some u
    ·have e:=k.ord i j o p (by omega) q c (.inl ⟨u,a,.inl r⟩);rw[e.mem' b hr];simp only[Vy,Dv a]
    ·cases d:L j
     ·simp only[Vy,CL a];exact this
     ·simp only[Vy,CL a];exact this
 have h2:∀j,i<=j->HR (IN ops val t L j) u=HR (IN ops val t L i) u:=by
  intro j
  induction j with
  |zero=>
   intro h;have:i=0:=by omega
   subst this;rfl
  |succ j ih=>
   intro s;by_cases g:i=j+1
   ·subst g;rfl
   ·have:=ih (by omega);simp only[IN];cases c:ops[j]? with
    |none=>cases L j<;>simpa [c] using this
    |some p=>
     cases d:L j
     ·simpa using this
     ·simp only[Vy];by_cases a:p.dst=some u
      ·exfalso;by_cases f:i=j
       ·subst f;rw[d]at hi;cases hi
       ·have e:=k.ord j i p o (by omega) c q (.inr ⟨u,a,r⟩);rw[e.mem b d]at hi;cases hi
      ·rw[CL a];exact this
 rw[h2 n hn,h1 i (MC _)]
def A9X(w:RegOk ops efs)(d:∀i j,L i=true->kR ops i j=true->L j=true){o:Oper}(g:ops[i]?=some o)(hi:L i=false)(u:Nat)(n:Nat)(hn:i<n):
 HR (Sh (IN ops val t L n) o.dst (val i)) u=HR (IN ops val t (λk=>if k=i then true else L k) n) u:=by
 have h1:∀j,j<=i->IN ops val t (λk=>if k=i then true else L k) j=IN ops val t L j:=by
  intro j
  induction j with
  |zero=>intro _;rfl
  |succ j ih=>
   intro v;have a:j≠i:=by omega
   simp only[IN,CL a,ih (by omega)]
 have h2:∀j,i<j->HR (Sh (IN ops val t L j) o.dst (val i)) u=HR (IN ops val t (λk=>if k=i then true else L k) j) u:=by
  intro j
  induction j with
  |zero=>intro h;omega
  |succ j ih=>
   intro v;by_cases c:i=j
   ·subst c;simp only[IN,hi,if_true,g,h1 i (MC _)]
   ·have:=ih (by omega);have a:j≠i:=λe=>c e.symm;simp only[IN,CL a];cases q:ops[j]? with
    |none=>cases L j<;>simpa [q] using this
    |some p=>
     cases r:L j
     ·simpa using this
     ·simp only[Vy]at this⊢;by_cases b:p.dst=some u
      ·have f:o.dst≠some u:=λh=>by
        have s:=w.ord j i p o (by omega) q g (.inl ⟨u,h,.inr b⟩);rw[s.mem d r]at hi;cases hi
       rw[CL f,Dv b,Dv b]
      ·rw[CL b,CL b];exact this
 exact h2 n hn
end
def IR(ops:List Oper)(o:Oper)(t:Tm):Tm:=(OT ops o).map λu=>(u,HR t u)
def A3P{ops:List Oper}{o:Oper}{t:Tm}(u:Nat):HR (IR ops o t) u=.dk\/(u∈OT ops o/\HR (IR ops o t) u=HR t u):=by
 unfold IR
 induction OT ops o with
 |nil=>exact .inl rfl
 |cons x l ih=>
  simp only[X0,HR];by_cases h:u=x
  ·subst h;rw[Dv rfl];exact .inr ⟨by simp,rfl⟩
  ·rw[CL h];rcases ih with ih|⟨h1,h2⟩
   ·exact .inl ih
   ·exact .inr ⟨List.mem_cons_of_mem _ h1,h2⟩
def C3f(ops:List Oper)(efs:Hb)(i m:Nat):Prop:=(∀(a e:Nat),efs[a]?=some e->Rch ops i e->a<m)/\(∀(a e:Nat),efs[a]?=some e->Rch ops e i->m<=a)
def B6C(P:Program)(G:Gl)(ro:Option Nat)(N:Nat)(ops:List Oper)(o:Oper)(t:Tm)(H:Hp)(v:AV)(H':Hp):Prop:=
 ((Hf ops t o=.run\/Hf ops t o=.dep true)/\Uf P G ro N o t H (λb a=>b=v/\a=H'))\/((Hf ops t o=.skip\/Hf ops t o=.dep false)/\v=.v undef/\H'=H)
section
variable{P:Program}{G:Gl}{ro:Option Nat}{m N:Nat}{Q:Exit->Tm->Hp->Prop}{t:Tm}
def St.congr{w0:Base}{s0:Nat}{C:Ctx}{b:Tm}{H:Hp}{a:Act}{w:World}(s:St G w0 s0 C N t H a w)(h:∀u,HR b u=HR t u\/HR b u=.dk):St G w0 s0 C N b H a w:=
 ⟨s.rel,s.size,λu=>by
  rcases h u with e|e
  ·rw[e];exact s.tmps u
  ·rw[e];exact .dk _,s.defers,s.le⟩
def Wc(L:Nat->Bool):Nat->Nat
 |0=>0
 |j+1=>Wc L j+(if L j then 0 else 1)
def B2A{L:Nat->Bool}(hi:L i=false):∀n,Wc (λk=>if k=i then true else L k) n+(if i<n then 1 else 0)=Wc L n:=by
 intro n
 induction n with
 |zero=>simp[Wc]
 |succ n ih=>
  have b:Wc (λk=>if k=i then true else L k) (n+1)=Wc (λk=>if k=i then true else L k) n+(if(if n=i then true else L n)=true then 0 else 1):=rfl;have c:Wc L (n+1)=Wc L n+(if L n=true then 0 else 1):=rfl;rw[b,c];generalize Wc (λk=>if k=i then true else L k) n=x at*;generalize Wc L n=y at*;by_cases h:n=i
  ·subst h;rw[CL (l1l _)]at ih;rw[Dv rfl,Dv rfl,Dv (Nat.lt_succ_self _),hi,CL (by simp)];omega
  ·rw[CL h];by_cases a:i<n
   ·rw[Dv a]at ih;rw[Dv (by omega:i<n+1)];omega
   ·rw[CL a]at ih;rw[CL (by omega:¬i<n+1)];omega
def L'{L:Nat->Bool}:∀{n:Nat},Wc L n=0->∀i,i<n->L i=true:=by
 intro n
 induction n with
 |zero=>intro _ i h;omega
 |succ n ih=>
  intro h i hi;simp only[Wc]at h;by_cases e:i=n
  ·subst e;by_cases a:L i=true
   ·exact a
   ·simp[a]at h
  ·exact ih (by omega) i (by omega)
def B2B{L:Nat->Bool}:∀{n:Nat},0<Wc L n->∃i,i<n/\L i=false/\∀j,j<i->L j=true:=by
 intro n
 induction n with
 |zero=>intro h;simp[Wc]at h
 |succ n ih=>
  intro h;by_cases e:0<Wc L n
  ·have⟨i,h1,h2,b⟩:=ih e;exact⟨i,by omega,h2,b⟩
  ·have a:Wc L n=0:=by omega
   simp only[Wc,a]at h;refine⟨n,by omega,?_,λj c=>L' a j c⟩;cases d:L n
   ·rfl
   ·simp[d]at h
def A9Y{ops:List Oper}{val:Nat->AV}{L:Nat->Bool}:∀{n:Nat},(∀i,i<n->L i=true)->IN ops val t L n=IN ops val t (λ_=>true) n:=by
 intro n
 induction n with
 |zero=>intro _;rfl
 |succ n ih=>
  intro h;simp only[IN,h n (by omega),ih (λi hi=>h i (by omega))]
def A2Y{id:Nat}{ops:List Oper}{efs:Hb}{val:Nat->AV}{Hs:Nat->Hp}(hm:P.follows .mixedOrders=true)(hk:RegOk ops efs)(hd:∀o∈ops,dok N o.dst)(a3:∀(i:Nat)(o:Oper),ops[i]?=some o->(∀a:Nat,efs[a]?≠some i)->∀k,k<=efs.length->C3f ops efs i k->B6C P G ro N ops o (IR ops o (IN ops val t (λ_=>true) i)) (Hs k) (val i) (Hs k))(ax:∀(a i:Nat)(o:Oper),ops[i]?=some o->efs[a]?=some i->B6C P G ro N ops o (IR ops o (IN ops val t (λ_=>true) i)) (Hs a) (val i) (Hs (a+1)))(hq:Q .normal (IN ops val t (λ_=>true) ops.length) (Hs efs.length)):QU P G ro m N (.region id ops.toArray true) Q t (Hs 0):=by
 intro w0 s0 O a w s;refine wpIn_region_any hm ?_;have key:∀(f:Nat)(Ls:Array Bool)(C:Ctx)(a:Act)(w1:World)(k:Nat),Ls.size=ops.length->Wc (λi=>Ls.getD i false) ops.length=f->(∀i j,Ls.getD i false=true->kR ops i j=true->Ls.getD j false=true)->
  k<=efs.length->(∀(b e:Nat),efs[b]?=some e->(Ls.getD e false=true↔b<k))->St G w0 s0 C N (IN ops val t (λi=>Ls.getD i false) ops.length) (Hs k) a w1->Frm m w0.own O w C w1->
  wpAnyIn (Fe ro) 0 P .any ops.toArray (Nc G w0 s0 m O N w Q) f Ls a w1:=by
  intro f
  induction f with
  |zero=>
   intro Ls C a w1 k hsz hc g ad d J ab;have A:=L' hc;have ay:k=efs.length:=by
    rcases Nat.lt_or_ge k efs.length with h|h
    ·exfalso;have:=(d k _ (KJ h)).1 (A _ (hk.lt k _ (KJ h)));omega
    ·omega
   refine⟨?_,⟨C,_,_,J,ab,?_⟩⟩
   ·unfold Region.ready;rw[List.filter_eq_nil_iff];intro i hi;simp only[List.size_toArray,Lf]at hi;have h1:=A i hi;have:Ls.getD i true=true:=by
     simp only[gO]at h1⊢;rw[l1p (by omega)]at h1⊢;exact h1
    simp[this]
   ·rw[ay,A9Y A];exact hq
  |succ f ih=>
   intro Ls C a w1 k hsz hc g ad d J ab;have R:∀i,i<ops.length->Ls.getD i true=Ls.getD i false:=λi hi=>by
    simp only[gO];rw[l1p (by omega)];rfl
   refine⟨λai=>?_,λi hi=>?_⟩
   ·exfalso;have⟨i,h1,h2,h3⟩:=B2B (L:=λi=>Ls.getD i false) (n:=ops.length) (by omega);have:i∈Region.ready .any ops.toArray Ls:=by
     unfold Region.ready;rw[l2z];refine⟨by simpa using h1,?_⟩;simp only[R i h1,h2,Bool.not_false,l1b,l15,KJ h1,D?,l1q];rw[Array.all_eq_true_iff_forall_mem];intro e he;cases hb:Region.binds .any e
     ·rfl
     ·simp only[Bool.not_true,Bool.false_or];exact h3 e.on (hk.back i e.on (kQ.2 ⟨_,KJ h1,e,by simpa using he,hb,rfl⟩))
    rw[ai]at this;simp at this
   ·unfold Region.ready at hi;rw[l2z]at hi;have⟨p,aj⟩:=hi;simp only[List.size_toArray,Lf]at p;have K:ops[i]?=some ops[i]:=KJ p;generalize ops[i]=o at K;simp only[R i p,l15,K,D?,l1q,KW,l19]at aj;have⟨r,af⟩:=aj;rw[Array.all_eq_true_iff_forall_mem]at af;have hr:∀j,kR ops i j=true->Ls.getD j false=true:=λj hj=>by
     obtain⟨o',M,e,he,hb,rfl⟩:=kQ.1 hj;rw[K]at M;injection M with M;subst M
     have:=af e (by simpa using he);simpa [hb] using this
    have c:∀k,(Ls.setIfInBounds i true).getD k false=if k=i then true else Ls.getD k false:=by
     intro k;simp only[gO,Array.getElem?_setIfInBounds];by_cases h:i=k
     ·subst h;simp[hsz,p]
     ·rw[CL h,CL (λe=>h e.symm)]
    have V:(λk=>(Ls.setIfInBounds i true).getD k false)= λk=>if k=i then true else Ls.getD k false:=funext c
    have X:St G w0 s0 C N (IR ops o (IN ops val t (λ_=>true) i)) (Hs k) a w1:=J.congr λu=>by
     rcases A3P (ops:=ops) (o:=o) (t:=IN ops val t (λ_=>true) i) u with h|⟨h1,h2⟩
     ·exact .inr h
     ·exact .inl (by rw[h2];exact(A3T hk g K hr r h1 ops.length (by omega)).symm)
    have ar:=hd o (l1m K);have next:∀(q:Nat)(Z:Ctx)(y:Value)(Y:World),(q=k/\(∀b:Nat,efs[b]?≠some i)\/q=k+1/\efs[k]?=some i)->VRel Z Y (val i) y->Rel G w0 Z (Hs q) Y->Ext w0.own C w1 Z Y->
     wpAnyIn (Fe ro) 0 P .any ops.toArray (Nc G w0 s0 m O N w Q) f (Ls.setIfInBounds i true) (a.put o.dst y) Y:=by
     intro q Z y Y D hv F e;refine ih (Ls.setIfInBounds i true) Z _ Y q (by simpa using hsz) ?_ ?_ ?_ ?_ ?_ (ab.trans e.frm)
     ·rw[V];have:=B2A (L:=λk=>Ls.getD k false) r ops.length;rw[Dv p]at this;omega
     ·intro x y hx ao;rw[c x]at hx;rw[c y];split
      ·rfl
      ·by_cases am:x=i
       ·subst am;exact hr y ao
       ·rw[CL am]at hx;exact g x y hx ao
     ·rcases D with⟨rfl,_⟩|⟨rfl,h⟩
      ·exact ad
      ·exact(E'.1 h).1
     ·intro b e' hb;rw[c e'];rcases D with⟨rfl,h⟩|⟨rfl,h⟩
      ·rw[CL (λe:e'=i=>h b (by rw[hb,e]))];exact d b e' hb
      ·by_cases aa:e'=i
       ·subst aa;have:=hk.inj b k _ hb h;simp[this]
       ·rw[CL aa,d b e' hb];have:b≠k:=λe=>aa (by rw[e,h]at hb;injection hb with hb;exact hb.symm);omega
     ·exact(A3V J F e hv ar).congr λu=>.inl (by rw[V];exact(A9X hk g K r u ops.length p).symm)
    have fin:∀(q:Nat),(q=k/\(∀b:Nat,efs[b]?≠some i)\/q=k+1/\efs[k]?=some i)->B6C P G ro N ops o (IR ops o (IN ops val t (λ_=>true) i)) (Hs k) (val i) (Hs q)->
     wpOpIn (Fe ro) 0 P ops.toArray (Nc G w0 s0 m O N w Q) i (wpAnyIn (Fe ro) 0 P .any ops.toArray (Nc G w0 s0 m O N w Q) f (Ls.setIfInBounds i true)) a w1:=by
     intro q D hG;have hg:=xB X.tmps ops o;unfold wpOpIn;simp only[l15,K];rcases hG with⟨ac,hA⟩|⟨ac,ak,hH⟩
     ·have hw:Region.wanted o (yielded ops.toArray a.tmps)=true:=by
       rcases ac with h|h
       ·exact hg.1 h
       ·exact hg.2.2 _ h
      rw[Dv hw];refine SM ?_ (hA w0 s0 C a w1 _ X);rintro a' Y ⟨v,y,Z,H',rfl,⟨rfl,rfl⟩,hv,F,e⟩;exact next q Z y Y D hv F e
     ·have hw:Region.wanted o (yielded ops.toArray a.tmps)=false:=by
       rcases ac with h|h
       ·exact hg.2.1 h
       ·exact hg.2.2 _ h
      rw[CL (by rw[hw];simp)];exact⟨λ_ _=>trivial,next q C undef w1 D (by rw[ak];exact .v _) (by rw[hH];exact J.rel) (.refl _ _ _)⟩
    by_cases hi:∃b:Nat,efs[b]?=some i
    ·have⟨b,hb⟩:=hi;have ap:b=k:=by
      have h1:¬b<k:=λh=>by
       have:=(d b i hb).2 h;rw[r]at this;cases this
      rcases Nat.eq_zero_or_pos b with h0|h0
      ·omega
      ·have ag:b-1<efs.length:=by have:=(E'.1 hb).1;omega
       have aq:=hk.chain (b-1) _ i (KJ ag) (by rw[Nat.sub_add_cancel h0];exact hb);have:=(d (b-1) _ (KJ ag)).1 (aq.mem' (L:=λi=>Ls.getD i false) g hr);omega
     subst ap;exact fin (b+1) (.inr ⟨rfl,hb⟩) (ax b i o K hb)
    ·have ah:∀b:Nat,efs[b]?≠some i:=λb hb=>hi ⟨b,hb⟩;refine fin k (.inl ⟨rfl,ah⟩) (a3 i o K ah k ad ⟨λb e hb ha=>(d b e hb).1 (ha.mem' (L:=λi=>Ls.getD i false) g hr),λb e hb ha=>?_⟩);rcases Nat.lt_or_ge b k with h|h
     ·have:=ha.mem (L:=λi=>Ls.getD i false) g ((d b e hb).2 h);simp only[r]at this;cases this
     ·exact h
 have H:(λi=>(Array.replicate ops.length false).getD i false)= λ_=>false:=by
  funext i
  simp only[gO,Array.getElem?_replicate];split<;>rfl
 have az:∀n,IN ops val t (λ_=>false) n=t:=by
  intro n
  induction n with
  |zero=>rfl
  |succ n ih=>simp only[IN];exact ih
 have ae:∀n,Wc (λ_=>false) n=n:=by
  intro n
  induction n with
  |zero=>rfl
  |succ n ih=>simp[Wc,ih]
 have hb:Below w.heap.size w {w with drawn:=w.drawn+1}:=A2W w _;have e0:Ext w0.own O w O {w with drawn:=w.drawn+1}:=s.rel.ext_below hb;have hz:∀i,(Array.replicate ops.length false).getD i false=false:=λi=>congrFun H i;have:=key ops.length (Array.replicate ops.length false) O a {w with drawn:=w.drawn+1} 0 (by simp) (by rw[H];exact ae _) (λi j h=>by rw[hz]at h;cases h) (l1h _) (λb e _=>by rw[hz];simp) (by rw[H,az];exact⟨s.rel.of_below hb,s.size,s.tmps.mono e0,s.defers.mono e0.B e0.keepB,fR s.le e0.grow⟩) e0.frm;simpa using this
end
end
section
variable{r:AV×Hp}{b:Bool}{α:Type}
def C2N:Unit:=()
def C2M:Unit:=C2N
def C2L:Unit:=C2M
def C2K:Unit:=C2L
def C2J:Unit:=C2K
def C2I:Unit:=C2J
def C2H:Unit:=C2I
def C2G:Unit:=C2H
def C2F:Unit:=C2G
def C2E:Unit:=C2F
def B9H:Unit:=C2E
def B9G:Unit:=B9H
def B9F:Unit:=B9G
def B9E:Unit:=B9F
def B9D:Unit:=B9E
def B9C:Unit:=B9D
def B9B:Unit:=B9C
def B9A:Unit:=B9B
def B9z:Unit:=B9A
def B9y:Unit:=B9z
def B9x:Unit:=B9y
def B9w:Unit:=B9x
def B9v:Unit:=B9w
def B9u:Unit:=B9v
def B9t:Unit:=B9u
def B9s:Unit:=B9t
def B9r:Unit:=B9s
def B9q:Unit:=B9r
def B9p:Unit:=B9q
def B9o:Unit:=B9p
def B9n:Unit:=B9o
def B9m:Unit:=B9n
def B9l:Unit:=B9m
def B9k:Unit:=B9l
def B9j:Unit:=B9k
def B9i:Unit:=B9j
def B9h:Unit:=B9i
def B9g:Unit:=B9h
def B9f:Unit:=B9g
def B9e:Unit:=B9f
def B9d:Unit:=B9e
def B9c:Unit:=B9d
def B9b:Unit:=B9c
def B9a:Unit:=B9b
def B99:Unit:=B9a
def B98:Unit:=B99
def B97:Unit:=B98
def B96:Unit:=B97
def B95:Unit:=B96
def B94:Unit:=B95
def B93:Unit:=B94
def B92:Unit:=B93
def B91:Unit:=B92
def B90:Unit:=B91
def B8Z:Unit:=B90
def B8Y:Unit:=B8Z
def B8X:Unit:=B8Y
def B8W:Unit:=B8X
def B8V:Unit:=B8W
def B8U:Unit:=B8V
def B8T:Unit:=B8U
def B8S:Unit:=B8T
def B8R:Unit:=B8S
def B8Q:Unit:=B8R
def B8P:Unit:=B8Q
def B8O:Unit:=B8P
def B8N:Unit:=B8O
def B8M:Unit:=B8N
def B8L:Unit:=B8M
def B8K:Unit:=B8L
def B8J:Unit:=B8K
def B8I:Unit:=B8J
def B8H:Unit:=B8I
def B8G:Unit:=B8H
def B8F:Unit:=B8G
def B8E:Unit:=B8F
def B8D:Unit:=B8E
def B8C:Unit:=B8D
def B8B:Unit:=B8C
def B8A:Unit:=B8B
def B8z:Unit:=B8A
def B8y:Unit:=B8z
def B8x:Unit:=B8y
def B8w:Unit:=B8x
def B8v:Unit:=B8w
def B8u:Unit:=B8v
def B8t:Unit:=B8u
def B8s:Unit:=B8t
def B8r:Unit:=B8s
def B8q:Unit:=B8r
def B8p:Unit:=B8q
def B8o:Unit:=B8p
def B8n:Unit:=B8o
def B8m:Unit:=B8n
def B8l:Unit:=B8m
def B8k:Unit:=B8l
def B8j:Unit:=B8k
def B8i:Unit:=B8j
def B8h:Unit:=B8i
def B8g:Unit:=B8h
def B4q:Unit:=B8g
def B4p:Unit:=B4q
def B4o:Unit:=B4p
def B4n:Unit:=B4o
def B4m:Unit:=B4n
def B4l:Unit:=B4m
def B4k:Unit:=B4l
def B4j:Unit:=B4k
def B4i:Unit:=B4j
def B4h:Unit:=B4i
def B4g:Unit:=B4h
def B4f:Unit:=B4g
def B4e:Unit:=B4f
def B4d:Unit:=B4e
def B4c:Unit:=B4d
def B4b:Unit:=B4c
def B4a:Unit:=B4b
def B49:Unit:=B4a
def B48:Unit:=B49
def B47:Unit:=B48
def HW:Unit:=B47
abbrev Af:=Option (AV×Hp)
abbrev KV:=AV->Hp->Af
abbrev Ru:=Hp->Af
abbrev K2:=AV->Af
abbrev B38:=Nat->Is->Hp->KV->Af
inductive BT(α:Type) where
 |leaf
 |node (k:Nat) (v:α) (l r:BT α)
def BT.get:BT α->Nat->Option α
 |.leaf,_=>none
 |.node k v l r,i=>match Nat.beq i k with
  |true=>some v
  |false=>match Nat.blt i k with
   |true=>l.get i
   |false=>r.get i
def BT.getK(b:BT α):Nat->(α->Af)->Af:=
 (λ(_:Unit)=>@BT.rec α (λ_=>Nat->(α->Af)->Af) (λ_ _=>none)
  (λk v _ _ a c i K=>@Bool.rec (λ_=>Af) (@Bool.rec (λ_=>Af) (c i K) (a i K) (Nat.blt i k)) (K v) (Nat.beq i k)) b) HW
def BT.getK_eq(b:BT α)(i:Nat)(K:α->Af):b.getK i K=match b.get i with|some v=>K v|none=>none:=by
 induction b with
 |leaf=>rfl
 |node k v l r a c=>
  simp only[BT.getK,BT.get];cases Nat.beq i k
  ·cases Nat.blt i k
   ·exact c
   ·exact a
  ·rfl
structure Cf where
 b:Bool
 lv:Hb
 fz:Bool
 n:Nat
 rc:List (Nat×List (Nat×Nat))
structure XFn where
 n:Nat
 rs:List ResultVar
 c:Code
 lv:Hb
 fz:Bool
 rc:List (Nat×List (Nat×Nat))
inductive LK where
 |int (k:IntKind)|str|bool
abbrev Lie:=Nat×Nat×Nat×Nat
structure XE where
 ft:BT XFn
 ty:BT TI
 gl:BT Is
 imp:Nat->Bool
 lf:Nat
 eqt:BT (List LK)
 lie:List Lie
 up:Nat
 ne:Nat->Bool
 lm:Nat->Bool
 ov:Nat->Bool
def fN(n:Nat)(K:Nat->Af):Af:=@Nat.rec (λ_=>Af) (K 0) (λm _=>K (Nat.succ m)) n
def fI(z:Int)(K:Int->Af):Af:=@Int.rec (λ_=>Af) (λn=>fN n λn=>K (.ofNat n)) (λn=>fN n λn=>K (.negSucc n)) z
def ck(b:Bool)(K:Af):Af:=@Bool.rec (λ_=>Af) none K b
def DF(n:Nat)(K:Nat->Af):fN n K=K n:=by cases n<;>rfl
def VW(z:Int)(K:Int->Af):fI z K=K z:=by cases z<;>simp[fI,DF]
def ckS(b:Bool)(K:Af):Af:=(λ(_:Unit)=>@Bool.rec (λ_=>Af) none K b) HW
def fNS(n:Nat)(K:Nat->Af):Af:=(λ(_:Unit)=>@Nat.rec (λ_=>Af) (K 0) (λm _=>K (Nat.succ m)) n) HW
def Tq(a:List α):List α->(List α->Af)->Af:=
 (λ(_:Unit)=>@List.rec α (λ_=>List α->(List α->Af)->Af) (λl K=>K l) (λx _ ih l K=>ih l λy=>K (x::y)) a) HW
def A6t(l:List α):Nat->(Nat->Af)->Af:=(λ(_:Unit)=>@List.rec α (λ_=>Nat->(Nat->Af)->Af) (λn K=>K n) (λ_ _ ih n K=>ih (Nat.succ n) K) l) HW
def B20(n:Nat)(K:Nat->Af):fNS n K=K n:=DF n K
def J2(a l:List α):∀K:List α->Af,Tq a l K=K (a++l):=by
 induction a with
 |nil=>intro K;rfl
 |cons x a ih=>intro K;exact ih _
def B1N(l:List α):∀(n:Nat)(K:Nat->Af),A6t l n K=K (n+l.length):=by
 induction l with
 |nil=>intro n K;rfl
 |cons a l ih=>
  intro n K;have:A6t (a::l) n K=A6t l (Nat.succ n) K:=rfl;rw[this,ih]
  congr 1
  simp;omega
def B7{K:Af}(h:ck b K=some r):b=true/\K=some r:=by cases b;cases h;exact⟨rfl,h⟩
def Mj{K:Af}(h:ckS b K=some r):b=true/\K=some r:=B7 h
def gtm(t:Tm):Nat->K2->Af:=
 (λ(_:Unit)=>@List.rec (Nat×AV) (λ_=>Nat->K2->Af) (λ_ K=>K .dk)
  (λp _ ih=>@Prod.rec Nat AV (λ_=>Nat->K2->Af) (λk v i K=>@Bool.rec (λ_=>Af) (ih i K) (K v) (Nat.beq i k)) p) t) HW
def Vb(t:Tm)(i:Nat)(K:K2):gtm t i K=K (HR t i):=by
 induction t with
 |nil=>rfl
 |cons p t ih=>
  have⟨k,v⟩:=p;simp only[gtm,HR];cases h:Nat.beq i k
  ·rw[CL (λe=>by rw[e,oW]at h;cases h)];exact ih
  ·rw[Dv (ZR h)]
def IP(H:Hp):Nat->(Row->Af)->Af:=
 @List.rec (Nat×Row) (λ_=>Nat->(Row->Af)->Af) (λ_ _=>none)
  (λp _ ih=>@Prod.rec Nat Row (λ_=>Nat->(Row->Af)->Af) (λk v i K=>@Bool.rec (λ_=>Af) (ih i K) (K v) (Nat.beq i k)) p) H
def Iz{H:Hp}{i:Nat}{K:Row->Af}(a:K .gone=none)(h:IP H i K=some r):∃x,Ah H i=some x/\K x=some r:=by
 induction H with
 |nil=>cases h
 |cons p H ih=>
  have⟨k,v⟩:=p;simp only[IP]at h;simp only[Ah];cases hb:Nat.beq i k
  ·rw[hb]at h;rw[CL (λe=>by rw[e,oW]at hb;cases hb)];exact ih h
  ·rw[hb]at h;rw[Dv (ZR hb)];cases v with
   |gone=>exact absurd (a▸h) (by simp)
   |_=>exact⟨_,rfl,h⟩
def LJ(H:Hp):Nat->Row->Ru->Af:=
 @List.rec (Nat×Row) (λ_=>Nat->Row->Ru->Af) (λ_ _ K=>K [])
  (λp l ih=>@Prod.rec Nat Row (λ_=>Nat->Row->Ru->Af) (λk x r y K=>@Bool.rec (λ_=>Af) (ih r y λa=>K ((k,x)::a)) (K ((k,y)::l)) (Nat.beq r k)) p) H
def Dh(H:Hp)(r:Nat)(y:Row):∀K:Ru,LJ H r y K=K (upd H r y):=by
 induction H with
 |nil=>intro K;rfl
 |cons p H ih=>
  intro K;have⟨k,x⟩:=p;simp only[LJ,upd];cases hb:Nat.beq r k
  ·rw[CL (λe=>by rw[e,oW]at hb;cases hb)];exact ih _
  ·rw[Dv (ZR hb)]
def HE(H:Hp)(K:Nat->Af):Af:=
 @List.rec (Nat×Row) (λ_=>Af) (K 0) (λp _ _=>@Prod.rec Nat Row (λ_=>Af) (λk _=>fN (Nat.succ k) K) p) H
def BS(H:Hp)(K:Nat->Af):HE H K=K (Ar H):=by
 cases H with
 |nil=>rfl
 |cons p H=>have⟨k,x⟩:=p;exact DF (k+1) K
def Zu(a:List α):List α->(List α->Af)->Af:=
 @List.rec α (λ_=>List α->(List α->Af)->Af) (λl K=>K l) (λx _ ih l K=>ih l λy=>K (x::y)) a
def Ni(a l:List α):∀K:List α->Af,Zu a l K=K (a++l):=by
 induction a with
 |nil=>intro K;rfl
 |cons x a ih=>intro K;exact ih _
def Dn(n:Nat):List α->List α:=
 @Nat.rec (λ_=>List α->List α) (λl=>l) (λ_ ih l=>@List.rec α (λ_=>List α) [] (λ_ l _=>ih l) l) n
def CA(n:Nat):∀l:List α,Dn n l=l.drop n:=by
 induction n with
 |zero=>intro l;rfl
 |succ n ih=>
  intro l;cases l with
  |nil=>rfl
  |cons a l=>exact ih l
def To(n:Nat):List α->(List α->Af)->Af:=
 @Nat.rec (λ_=>List α->(List α->Af)->Af) (λ_ K=>K []) (λ_ ih l K=>@List.rec α (λ_=>Af) (K []) (λa l _=>ih l λc=>K (a::c)) l) n
def OY(n:Nat):∀(l:List α)(K:List α->Af),To n l K=K (l.take n):=by
 induction n with
 |zero=>intro l K;rfl
 |succ n ih=>
  intro l K;cases l with
  |nil=>rfl
  |cons a l=>exact ih l _
def HN(l:List α):Nat->(Nat->Af)->Af:=@List.rec α (λ_=>Nat->(Nat->Af)->Af) (λn K=>K n) (λ_ _ ih n K=>fN (Nat.succ n) λm=>ih m K) l
def C4(l:List α):∀(n:Nat)(K:Nat->Af),HN l n K=K (n+l.length):=by
 induction l with
 |nil=>intro n K;rfl
 |cons a l ih=>
  intro n K;have:HN (a::l) n K=fN (Nat.succ n) λm=>HN l m K:=rfl;rw[this,DF,ih]
  congr 1
  simp;omega
def B5Q(vs:Is):Is->(Is->Af)->Af:=
 @List.rec AV (λ_=>Is->(Is->Af)->Af) (λl K=>K l) (λv _ ih l K=>@List.rec AV (λ_=>Af) none (λ_ l _=>ih l λa=>K (v::a)) l) vs
def A8b(vs:Is):∀(l:Is)(K:Is->Af)(r:AV×Hp),B5Q vs l K=some r->vs.length<=l.length/\K (vs++l.drop vs.length)=some r:=by
 induction vs with
 |nil=>intro l K r h;exact⟨l1h _,h⟩
 |cons v vs ih=>
  intro l K r h;cases l with
  |nil=>cases h
  |cons a l=>
   have⟨h1,h2⟩:=ih l _ r h;exact⟨by simpa using h1,h2⟩
def B5P(vs:Is):∀(l:Is)(K:Is->Af),vs.length<=l.length->B5Q vs l K=K (vs++l.drop vs.length):=by
 induction vs with
 |nil=>intro l K h;rfl
 |cons v vs ih=>
  intro l K h;cases l with
  |nil=>simp at h
  |cons a l=>exact ih l _ (by simpa using h)
def Ey(n:Nat):Is->Is->(Is->Af)->Af:=
 @Nat.rec (λ_=>Is->Is->(Is->Af)->Af) (λvs l K=>B5Q vs l K) (λ_ ih vs l K=>@List.rec AV (λ_=>Af) none (λa l _=>ih vs l λc=>K (a::c)) l) n
def OZ(n:Nat):∀(vs l:Is)(K:Is->Af)(r:AV×Hp),Ey n vs l K=some r->n+vs.length<=l.length/\K (splice l n vs)=some r:=by
 induction n with
 |zero=>
  intro vs l K r h;have⟨h1,h2⟩:=A8b vs l K r h;exact⟨by omega,by simpa [splice] using h2⟩
 |succ n ih=>
  intro vs l K r h;cases l with
  |nil=>cases h
  |cons a l=>
   have⟨h1,h2⟩:=ih vs l _ r h;refine⟨by simp;omega,?_⟩;have:splice (a::l) (n+1) vs=a::splice l n vs:=by simp[splice,Nat.add_right_comm]
   rw[this];exact h2
def It(n:Nat):∀(vs l:Is)(K:Is->Af),n+vs.length<=l.length->Ey n vs l K=K (splice l n vs):=by
 induction n with
 |zero=>
  intro vs l K h;have:=B5P vs l K (by omega);have e:Ey 0 vs l K=B5Q vs l K:=rfl;rw[e,this];simp[splice]
 |succ n ih=>
  intro vs l K h;cases l with
  |nil=>simp at h
  |cons a l=>
   have:splice (a::l) (n+1) vs=a::splice l n vs:=by simp[splice,Nat.add_right_comm]
   rw[this];exact ih vs l _ (by simp at h;omega)
def iN(z:Int)(K:Nat->Af):Af:=@Int.rec (λ_=>Af) (λn=>fN n K) (λ_=>none) z
def XC{z:Int}{K:Nat->Af}(h:iN z K=some r):∃n:Nat,z=n/\K n=some r:=by
 cases z with
 |ofNat n=>exact⟨n,rfl,by simpa [iN,DF] using h⟩
 |negSucc n=>cases h
def JU(n:Nat)(K:Nat->Af):iN n K=K n:=DF n K
def qZ(a b:Int):Bool:=@Int.rec (λ_=>Bool) (λm=>@Int.rec (λ_=>Bool) (λn=>Nat.ble m n) (λ_=>false) b) (λm=>@Int.rec (λ_=>Bool) (λ_=>true) (λn=>Nat.ble n m) b) a
def ieq(a b:Int):Bool:=@Int.rec (λ_=>Bool) (λm=>@Int.rec (λ_=>Bool) (λn=>Nat.beq m n) (λ_=>false) b) (λm=>@Int.rec (λ_=>Bool) (λ_=>false) (λn=>Nat.beq m n) b) a
def LZ(a b:Int):qZ a b=decide (a<=b):=by
 cases a<;>cases b<;>simp only[qZ]
 ·rw[qW];simp[kZ]
 ·rw[qW];simp;omega
 ·rw[qW];simp;omega
 ·rw[qW];simp[kZ];omega
def Rk(a b:Int):ieq a b=decide (a=b):=by
 cases a<;>cases b<;>simp only[ieq]
 ·rw[qW];simp[rU,Int.ofNat_inj]
 ·rw[qW];simp
 ·rw[qW];simp
 ·rw[qW];simp[rU]
def bB(b:Bool)(K:K2):Af:=@Bool.rec (λ_=>Af) (K (.v (.bool false))) (K (.v (.bool true))) b
def NY(b:Bool)(K:K2):bB b K=K (.v (.bool b)):=by cases b<;>rfl
end
section
variable{v:AV}{K:K2}{i:TI}{α:Type}
def E9(n:Nat):List α->(List α->Af)->Af:=
 @Nat.rec (λ_=>List α->(List α->Af)->Af) (λ_ K=>K []) (λ_ ih l K=>@List.rec α (λ_=>Af) none (λa l _=>ih l λb=>K (a::b)) l) n
def Ma(n:Nat):∀(l:List α)(K:List α->Af)(r:AV×Hp),E9 n l K=some r->n<=l.length/\K (l.take n)=some r:=by
 induction n with
 |zero=>intro l K r h;exact⟨l1h _,h⟩
 |succ n ih=>
  intro l K r h;cases l with
  |nil=>cases h
  |cons a l=>
   have⟨h1,h2⟩:=ih l _ r h;exact⟨by simpa using h1,h2⟩
def Km(n:Nat):∀(l:List α)(K:List α->Af),n<=l.length->E9 n l K=K (l.take n):=by
 induction n with
 |zero=>intro l K _;rfl
 |succ n ih=>
  intro l K h;cases l with
  |nil=>simp at h
  |cons a l=>exact ih l _ (by simpa using h)
def hdK(l:Is)(K:K2):Af:=@List.rec AV (λ_=>Af) none (λa _ _=>K a) l
def A2e{l:Is}{r:AV×Hp}(h:hdK l K=some r):∃a b,l=a::b/\K a=some r:=by
 cases l with
 |nil=>cases h
 |cons a l=>exact⟨a,l,rfl,h⟩
def Kb(x:Row)(K:TypeId->Is->Af):Af:=match x with|.cells _ e cs=>K e cs|_=>none
def iK(x:Row)(K:Bool->TypeId->Is->Af):Af:=match x with|.cells q e cs=>K q e cs|_=>none
def A6K(v:AV)(H:Hp)(K:Is->Af):Af:=
 match v with
 |.ptr r p k=>IP H r λx=>Kb x λ_ cs=>K (Dn (Nat.add p k) cs)
 |.iptr cs=>K cs
 |_=>none
section
variable{T:Ty}{H:Hp}{r:AV×Hp}
def Ka{i:Nat}{K:TypeId->Is->Af}(h:(IP H i λx=>Kb x K)=some r):∃q e cs,Ah H i=some (.cells q e cs)/\K e cs=some r:=by
 have⟨x,h1,h2⟩:=Iz rfl h;unfold Kb at h2;split at h2
 ·exact⟨_,_,_,h1,h2⟩
 ·cases h2
def VB{i:Nat}{K:Bool->TypeId->Is->Af}(h:(IP H i λx=>iK x K)=some r):∃q e cs,Ah H i=some (.cells q e cs)/\K q e cs=some r:=by
 have⟨x,h1,h2⟩:=Iz rfl h;unfold iK at h2;split at h2
 ·exact⟨_,_,_,h1,h2⟩
 ·cases h2
def pA(i:TI)(cs:Is)(K:K2):Af:=@Bool.rec (λ_=>Af) (hdK cs K) (E9 i.size cs λc=>K (.agg c)) i.d.isAgg
def XN{ty:TypeId}{cs:Is}(c:T ty=some i)(h:pA i cs K=some r):∃v,K v=some r/\Zh T ty cs (λe=>e=v):=by
 unfold pA at h;cases b:i.d.isAgg
 ·rw[b]at h;obtain⟨a,l,rfl,h2⟩:=A2e h;exact⟨a,h2,by simp[Zh,c,b]⟩
 ·rw[b]at h;have⟨h1,h2⟩:=Ma _ _ _ _ h;exact⟨_,h2,by simp[Zh,c,b,h1]⟩
def AE(i:TI)(v:AV)(H:Hp)(K:K2):Af:=A6K v H λcs=>pA i cs K
def A2I{ty:TypeId}(c:T ty=some i)(h:AE i v H K=some r):∃u,K u=some r/\A10 T ty v H (λd=>d=u):=by
 unfold AE A6K at h;split at h
 ·have⟨q,e,cs,h1,h2⟩:=Ka h;rw[CA]at h2;have⟨u,a,b⟩:=XN (T:=T) (ty:=ty) c h2;exact⟨u,a,by simp only[A10,h1];exact b⟩
 ·have⟨u,a,b⟩:=XN (T:=T) (ty:=ty) c h;exact⟨u,a,b⟩
 ·cases h
def Oe(l:Is):Bool:=@List.rec AV (λ_=>Bool) true (λa _ ih=>@Bool.rec (λ_=>Bool) false ih (AV.one a)) l
def FM(l:Is):Oe l=l.all AV.one:=by
 induction l with
 |nil=>rfl
 |cons a l ih=>
  have e:Oe (a::l)=@Bool.rec (λ_=>Bool) false (Oe l) (AV.one a):=rfl;rw[e,qU,<-ih];cases AV.one a<;>rfl
def He(a:AV)(K:Is->Af):Af:=match a with|.agg cs=>K cs|a=>K [a]
def CP(a:AV)(K:Is->Af):He a K=K (B4 a):=by cases a<;>rfl
def DE(i:TI)(p v:AV)(H:Hp)(K:Ru):Af:=
 match p with
 |.ptr s p k=>IP H s λx=>iK x λq e cs=>He v λvs=>HN vs 0 λn=>ck (Nat.beq n i.size) (ck (Oe vs) (Ey (Nat.add p k) vs cs λa=>LJ H s (.cells q e a) K))
 |_=>none
def B29{ty:TypeId}{p v:AV}{K:Ru}(g:T ty=some i)(h:DE i p v H K=some r):∃b,K b=some r/\sM T ty p v H (λa=>a=b):=by
 unfold DE at h;split at h
 ·have⟨q,e,cs,h1,h2⟩:=VB h;rw[CP,C4]at h2;have⟨d,h2⟩:=B7 h2;have⟨c,h2⟩:=B7 h2;have⟨f,h2⟩:=OZ _ _ _ _ _ h2;rw[Dh]at h2;rw[FM]at c;refine⟨_,h2,?_⟩;simp only[sM,h1,g];exact⟨by have:=ZR d;omega,c,f,rfl⟩
 ·cases h
def Bx(ty:TypeId)(i:TI)(H:Hp)(K:KV):Af:=He i.zero λcs=>HE H λs=>K (.ptr s 0 0) ((s,.cells true ty cs)::H)
def A2O{ty:TypeId}{K:KV}(c:T ty=some i)(h:Bx ty i H K=some r):∃v b,K v b=some r/\sV T ty H (Ar H) (λd a=>d=v/\a=b):=by
 rw[Bx,CP,BS]at h;exact⟨_,_,h,by simp[sV,c]⟩
def FV(ty:TypeId)(v:AV)(H:Hp)(K:KV):Af:=He v λcs=>ck (Oe cs) (HE H λs=>K (.ptr s 0 0) ((s,.cells true ty cs)::H))
def A8s{ty:TypeId}{K:KV}(h:FV ty v H K=some r):∃u b,K u b=some r/\B7G ty v H (Ar H) (λc a=>c=u/\a=b):=by
 rw[FV,CP]at h;have⟨h1,h⟩:=B7 h;rw[BS]at h;rw[FM]at h1;exact⟨_,_,h,h1,rfl,rfl⟩
def fY(l:List (Nat×Nat×AV)):Is->(Is->Af)->Af:=
 @List.rec (Nat×Nat×AV) (λ_=>Is->(Is->Af)->Af) (λcs K=>K cs)
  (λp _ ih cs K=>He p.2.2 λvs=>HN vs 0 λn=>ck (Nat.beq n p.2.1) (ck (Oe vs) (Ey p.1 vs cs λa=>ih a K))) l
def Zr{place:Nat->Option (Nat×Nat)}:∀(l:List (Nat×Nat×AV))(ps:List (Nat×AV))(cs:Is)(K:Is->Af),(ps.map λp=>(place p.1).map λq=>(q.1,q.2,p.2))=l.map some->fY l cs K=some r->∃b,K b=some r/\TA place ps cs=some b:=by
 intro l
 induction l with
 |nil=>
  intro ps cs K he h;cases ps with
  |nil=>exact⟨cs,h,rfl⟩
  |cons p ps=>simp at he
 |cons x l ih=>
  intro ps cs K he h;cases ps with
  |nil=>simp at he
  |cons p ps=>
   simp only[X0,List.cons.injEq]at he;have⟨c,e⟩:=he;cases hq:place p.1 with
   |none=>rw[hq]at c;simp at c
   |some q=>
    rw[hq]at c;simp only[D?,l0z]at c;have m:fY (x::l) cs K=He x.2.2 λvs=>HN vs 0 λn=>ck (Nat.beq n x.2.1) (ck (Oe vs) (Ey x.1 vs cs λb=>fY l b K)):=rfl;rw[m,CP,C4]at h;have⟨d,h⟩:=B7 h;have⟨f,h⟩:=B7 h;have⟨g,h⟩:=OZ _ _ _ _ _ h;rw[FM]at f;have⟨b,j,k⟩:=ih ps _ K e h;refine⟨b,j,?_⟩;have⟨i,a⟩:=p;subst c;have d:=ZR d;simp only[TA,hq];rw[Dv ⟨by simpa using d,g,f⟩];exact k
def Cb(i:TI)(l:List (Nat×Nat×AV))(K:K2):Af:=He i.zero λz=>fY l z λcs=>K (.agg cs)
def Rz(i:TI)(j:Nat):Option (Nat×Nat):=
 match i.d with
 |.struct b=>(b[j]?).map λf=>(f.1,f.2.1)
 |.array _ _ a=>some (j*a,a)
 |.slice _ a=>some (j*a,a)
 |_=>none
def A0t(i:TI):Bool:=
 match i.d with
 |.struct b=>b.all λf=>f.2.1 !=0
 |.array _ _ a=>a !=0
 |_=>false
def A2M{ty:TypeId}{l:List (Nat×Nat×AV)}{ps:List (Nat×AV)}(k:T ty=some i)(hb:A0t i=true)(he:(ps.map λp=>(Rz i p.1).map λq=>(q.1,q.2,p.2))=l.map some)(h:Cb i l K=some r):
 ∃v,K v=some r/\sS T ty ps (λm=>m=v):=by
 rw[Cb,CP]at h;have⟨c,h1,h2⟩:=Zr l ps _ _ he h;refine⟨_,h1,?_⟩;unfold sS;rw[k];simp only;unfold A0t at hb;cases b:i.d with
 |struct g=>
  rw[b]at hb;simp only;refine⟨hb,?_⟩;have:Rz i= λj=>(g[j]?).map λf=>(f.1,f.2.1):=by funext j;simp[Rz,b]
  rw[this]at h2;rw[h2];rfl
 |array n e a=>
  rw[b]at hb;simp only;refine⟨by simpa using hb,?_⟩;have:Rz i= λj=>some (j*a,a):=by funext j;simp[Rz,b]
  rw[this]at h2;rw[h2];rfl
 |_=>rw[b]at hb;cases hb
end
end
section
variable{a:AV}{K:K2}{op:BinOp}{i:TI}
section
variable{T:Ty}{r:AV×Hp}
def B5M(z:Int)(K:Int->Af):Af:=
 @Int.rec (λ_=>Af) (λn=>fN n λn=>@Bool.rec (λ_=>Af) (fI (IntKind.i64.wrap (.ofNat n)) K) (K (.ofNat n)) (Nat.blt n 9223372036854775808))
  (λn=>fN n λn=>@Bool.rec (λ_=>Af) (fI (IntKind.i64.wrap (.negSucc n)) K) (K (.negSucc n)) (Nat.blt n 9223372036854775808)) z
def B5L(z:Int)(K:Int->Af):B5M z K=K (IntKind.i64.wrap z):=by
 have key:∀x:Int, -9223372036854775808<=x->x<9223372036854775808->IntKind.i64.wrap x=x:=λx h1 h2=>by
  simp only[IntKind.wrap,IntKind.bits,IntKind.signed];have b:(2^64:Int)=18446744073709551616:=by decide
  have c:(2^(64-1):Int)=9223372036854775808:=by decide
  simp only[b,c,l1b,decide_eq_true_eq];split<;>omega
 cases z with
 |ofNat n=>
  simp only[B5M,DF];cases h:Nat.blt n 9223372036854775808
  ·simp only[VW]
  ·rw[Wg]at h;rw[key _ (by simp only[Int.ofNat_eq_natCast];omega) (by simp only[Int.ofNat_eq_natCast];omega)]
 |negSucc n=>
  simp only[B5M,DF];cases h:Nat.blt n 9223372036854775808
  ·simp only[VW]
  ·rw[Wg]at h;rw[key _ (by omega) (by omega)]
def OX(k:IntKind)(z:Int)(K:Int->Af):Af:=match k with|.i64=>B5M z K|k=>fI (k.wrap z) K
def IX(k:IntKind)(z:Int)(K:Int->Af):OX k z K=K (k.wrap z):=by
 cases k<;>first|exact B5L _ _|exact VW _ _
abbrev IT:=IntKind->Int->Int->K2->Af
def B5F:IT:=λk a b K=>OX k (Int.add a b) λz=>K (.v (.int k z))
def C3T:IT:=λk a b K=>OX k (Int.sub a b) λz=>K (.v (.int k z))
def C3Z:IT:=λk a b K=>OX k (Int.mul a b) λz=>K (.v (.int k z))
def C3X:IT:=λk a b K=>ck (!ieq b 0) (OX k (Int.tdiv a b) λz=>K (.v (.int k z)))
def C3W:IT:=λk a b K=>ck (!ieq b 0) (fI (Int.tmod a b) λz=>K (.v (.int k z)))
def B5E:IT:=λk a b K=>fI (k.wrap ((BitVec.ofInt k.bits a&&&BitVec.ofInt k.bits b).toNat)) λz=>K (.v (.int k z))
def iOr:IT:=λk a b K=>fI (k.wrap ((BitVec.ofInt k.bits a|||BitVec.ofInt k.bits b).toNat)) λz=>K (.v (.int k z))
def B5D:IT:=λk a b K=>fI (k.wrap ((BitVec.ofInt k.bits a^^^BitVec.ofInt k.bits b).toNat)) λz=>K (.v (.int k z))
def C45:IT:=λk a b K=>fI (k.wrap ((BitVec.ofInt k.bits a&&& ~~~BitVec.ofInt k.bits b).toNat)) λz=>K (.v (.int k z))
def C44:IT:=λ_ a b K=>bB (ieq a b) K
def C3Y:IT:=λ_ a b K=>bB (!ieq a b) K
def C40:IT:=λ_ a b K=>bB (!qZ b a) K
def C41:IT:=λ_ a b K=>bB (qZ a b) K
def C42:IT:=λ_ a b K=>bB (!qZ a b) K
def C43:IT:=λ_ a b K=>bB (qZ b a) K
def C3V:IT:=λk a b K=>ck (qZ 0 b) (OX k (a*2^(min b.toNat k.bits)) λz=>K (.v (.int k z)))
def C3U:IT:=λk a b K=>ck (qZ 0 b) (fI (a.fdiv (2^(min b.toNat k.bits))) λz=>K (.v (.int k z)))
def A4Z(op:BinOp):IT:=match op with
 |.add=>B5F|.sub=>C3T|.mul=>C3Z|.quo=>C3X|.rem=>C3W|.and=>B5E|.or=>iOr|.xor=>B5D|.andNot=>C45
 |.eql=>C44|.neq=>C3Y|.lss=>C40|.leq=>C41|.gtr=>C42|.geq=>C43|.shl=>C3V|.shr=>C3U
def J'{k:IntKind}{a b:Int}(h:A4Z op k a b K=some r):∃v,K (.v v)=some r/\(if Je op then mJ op k a b=some v else qA op k a b=some v):=by
 have hq:∀{x:Af},ck (!ieq b 0) x=some r->b≠0/\x=some r:=λh=>by
  obtain⟨h1,h2⟩:=B7 h;refine⟨λe=>?_,h2⟩;subst e;simp[Rk]at h1
 have c:∀{x:Af},ck (qZ 0 b) x=some r->0<=b/\x=some r:=λh=>by
  obtain⟨h1,h2⟩:=B7 h;rw[LZ]at h1;exact⟨by simpa using h1,h2⟩
 cases op<;>simp only[A4Z,B5F,C3T,C3Z,C3X,C3W,B5E,iOr,B5D,C45,C44,C3Y,C40,C41,C42,C43,C3V,C3U,IX,VW,NY]at h<;>try (cases h;done)
 case add=>exact⟨_,h,rfl⟩
 case sub=>exact⟨_,h,rfl⟩
 case mul=>exact⟨_,h,rfl⟩
 case quo=>
  obtain⟨h1,h2⟩:=hq h;exact⟨_,h2,by simp[Je,qA,h1]⟩
 case rem=>
  obtain⟨h1,h2⟩:=hq h;exact⟨_,h2,by simp[Je,qA,h1]⟩
 case and=>exact⟨_,h,rfl⟩
 case or=>exact⟨_,h,rfl⟩
 case xor=>exact⟨_,h,rfl⟩
 case andNot=>exact⟨_,h,rfl⟩
 case shl=>
  obtain⟨h1,h2⟩:=c h;exact⟨_,h2,by simp only[Je,if_true,mJ];rw[CL (by omega)]⟩
 case shr=>
  obtain⟨h1,h2⟩:=c h;exact⟨_,h2,by simp only[Je,if_true,mJ];rw[CL (by omega)]⟩
 case eql=>exact⟨_,h,by simp only[Je,qA,Rk];rw[show(a==b)=decide (a=b) from by by_cases e:a=b<;>simp[e]];simp⟩
 case neq=>exact⟨_,h,by simp only[Je,qA,Rk,bne];rw[show(a==b)=decide (a=b) from by by_cases e:a=b<;>simp[e]];simp⟩
 case lss=>exact⟨_,h,by simp only[Je,qA,LZ];rw[show(!decide (b<=a))=decide (a<b) from by rw[qW];simp];simp⟩
 case leq=>exact⟨_,h,by simp[Je,qA,LZ]⟩
 case gtr=>exact⟨_,h,by simp only[Je,qA,LZ];rw[show(!decide (a<=b))=decide (a>b) from by rw[qW];simp];simp⟩
 case geq=>exact⟨_,h,by simp[Je,qA,LZ]⟩
def eqB(a:Ha):Ha->Bool:=
 @List.rec UInt8 (λ_=>Ha->Bool) (λb=>@List.rec UInt8 (λ_=>Bool) true (λ_ _ _=>false) b)
  (λx _ ih b=>@List.rec UInt8 (λ_=>Bool) false (λy l _=>@Bool.rec (λ_=>Bool) false (ih l) (Nat.beq x.toNat y.toNat)) b) a
def Rm(a:Ha):∀b,eqB a b=(a==b):=by
 induction a with
 |nil=>intro b;cases b<;>rfl
 |cons x a ih=>
  intro b;cases b with
  |nil=>rfl
  |cons y b=>
   have e:eqB (x::a) (y::b)=@Bool.rec (λ_=>Bool) false (eqB a b) (Nat.beq x.toNat y.toNat):=rfl;rw[e,ih];cases h:Nat.beq x.toNat y.toNat
   ·have:x≠y:=λe=>by rw[e,oW]at h;cases h
    simp[this]
   ·have:x=y:=UInt8.toNat_inj.1 (ZR h);simp[this]
def ltB(a:Ha):Ha->Bool:=
 @List.rec UInt8 (λ_=>Ha->Bool) (λb=>@List.rec UInt8 (λ_=>Bool) false (λ_ _ _=>true) b)
  (λx _ ih b=>@List.rec UInt8 (λ_=>Bool) false (λy l _=>@Bool.rec (λ_=>Bool) (@Bool.rec (λ_=>Bool) false (ih l) (Nat.beq x.toNat y.toNat)) true (Nat.blt x.toNat y.toNat)) b) a
def Z!(a:Ha):∀b,ltB a b=Op.bytesLess a b:=by
 induction a with
 |nil=>intro b;cases b<;>rfl
 |cons x a ih=>
  intro b;cases b with
  |nil=>rfl
  |cons y b=>
   have e:ltB (x::a) (y::b)=@Bool.rec (λ_=>Bool) (@Bool.rec (λ_=>Bool) false (ltB a b) (Nat.beq x.toNat y.toNat)) true (Nat.blt x.toNat y.toNat):=rfl;rw[e,ih,Op.bytesLess];have h1:(Nat.blt x.toNat y.toNat)=decide (x<y):=by
    rw[qW];simp[Wg,UInt8.lt_iff_toNat_lt]
   have h2:(Nat.beq x.toNat y.toNat)=(x==y):=by
    rw[qW];simp[rU,UInt8.toNat_inj]
   rw[h1,h2];cases decide (x<y)
   ·cases (x==y)<;>rfl
   ·rfl
def C1h(op:BinOp)(a b:ByteArray)(K:K2):Af:=
 match op with
 |.add=>Zu a.data.toList b.data.toList λl=>ck (Nat.blt l.length 9223372036854775808) (K (.v (.string ⟨⟨l⟩⟩)))
 |.eql=>bB (eqB a.data.toList b.data.toList) K
 |.neq=>bB (!eqB a.data.toList b.data.toList) K
 |.lss=>bB (ltB a.data.toList b.data.toList) K
 |.leq=>bB (ltB a.data.toList b.data.toList||eqB a.data.toList b.data.toList) K
 |.gtr=>bB (!(ltB a.data.toList b.data.toList||eqB a.data.toList b.data.toList)) K
 |.geq=>bB (!ltB a.data.toList b.data.toList) K
 |_=>none
def YB(a:ByteArray):a.toList=a.data.toList:=ByteArray.toList_eq a
def A8j{a b:ByteArray}(h:C1h op a b K=some r):∃v,K (.v v)=some r/\A7G op a b=some v:=by
 cases op<;>simp only[C1h,NY,Ni,Rm,Z!]at h<;>try (cases h;done)
 case add=>
  obtain⟨h1,h2⟩:=B7 h;refine⟨_,h2,?_⟩;rw[Wg]at h1;have c:IntKind.i64.max=9223372036854775807:=by decide
  have d:a.size+b.size=(a.data.toList++b.data.toList).length:=by rw[EN];rfl
  simp only[A7G];rw[CL (by rw[c];omega)]
  congr 2
 all_goals exact⟨_,h,by simp[A7G,YB]⟩
def Aq(i:TI)(op:BinOp)(a b:AV)(K:K2):Af:=
 match a,b with
 |.v (.int k m),.v (.int c n)=>@Bool.rec (λ_=>Af) (ck (decide (k=c)) (A4Z op k m n K)) (A4Z op k m n K) (Je op)
 |.v (.string s),.v (.string u)=>C1h op s u K
 |.v (.bool p),.v (.bool q)=>match i.d,op with
  |.bool,.eql=>bB (p==q) K
  |.bool,.neq=>bB (!(p==q)) K
  |_,_=>none
 |a,b=>match A1V i.d a b,op with
  |some q,.eql=>bB q K
  |some q,.neq=>bB (!q) K
  |_,_=>none
def K!{ty:TypeId}{a b:AV}(j:T ty=some i)(h:Aq i op a b K=some r):∃v,K v=some r/\sU T op ty a b (λu=>u=v):=by
 unfold Aq at h;split at h
 ·rename_i k m w n;cases g:Je op
  ·rw[g]at h;obtain⟨h1,h2⟩:=B7 h;obtain⟨v,e,c⟩:=J' h2;rw[g]at c;exact⟨_,e,by simp only[sU,g,D!,if_false];exact⟨by simpa using h1,by simp only[D!,if_false]at c;rw[c];rfl⟩⟩
  ·rw[g]at h;obtain⟨v,e,c⟩:=J' h;rw[g]at c;exact⟨_,e,by simp only[sU,g,if_true];simp only[if_true]at c;rw[c];rfl⟩
 ·obtain⟨v,e,c⟩:=A8j h;exact⟨_,e,by simp only[sU];rw[c];rfl⟩
 ·rename_i p q;split at h
  ·rename_i s;rw[NY]at h;exact⟨_,h,by simp only[sU];exact⟨⟨i,j,s⟩,trivial⟩⟩
  ·rename_i s;rw[NY]at h;exact⟨_,h,by simp only[sU];exact⟨⟨i,j,s⟩,trivial⟩⟩
  ·cases h
 ·rename_i h1 h2 e;have t:∀Kp:AV->Prop,(∃q,A1V i.d a b=some q/\((op=.eql/\Kp (.v (.bool q)))\/(op=.neq/\Kp (.v (.bool (!q))))))->sU T op ty a b Kp:=λKp f=>by
   obtain⟨q,hq,f⟩:=f;unfold sU;split
   ·exact(h1 _ _ _ _ rfl rfl).elim
   ·exact(h2 _ _ rfl rfl).elim
   ·exact(e _ _ rfl rfl).elim
   ·rw[j];simp only[hq];rcases f with⟨rfl,f⟩|⟨rfl,f⟩<;>exact f
  cases hq:A1V i.d a b with
  |none=>rw[hq]at h;cases h
  |some q=>
   rw[hq]at h;cases op<;>first|(cases h;done)|skip
   ·simp only[NY]at h;exact⟨_,h,t _ ⟨q,hq,.inl ⟨rfl,rfl⟩⟩⟩
   ·simp only[NY]at h;exact⟨_,h,t _ ⟨q,hq,.inr ⟨rfl,rfl⟩⟩⟩
def MJ(op:UnOp)(a:AV)(K:K2):Af:=
 match op,a with
 |.neg,.v (.int k n)=>OX k (Int.sub 0 n) λz=>K (.v (.int k z))
 |.xor,.v (.int k n)=>fI (k.wrap ((BitVec.ofInt k.bits (if k.signed then-1 else k.max)^^^BitVec.ofInt k.bits n).toNat)) λz=>K (.v (.int k z))
 |.not,.v (.bool b)=>bB (!b) K
 |_,_=>none
def B28{op:UnOp}(h:MJ op a K=some r):∃v,K v=some r/\xun op a (λb=>b=v):=by
 unfold MJ at h;split at h
 ·rw[IX]at h;exact⟨_,h,rfl⟩
 ·rw[VW]at h;exact⟨_,h,rfl⟩
 ·rw[NY]at h;exact⟨_,h,rfl⟩
 ·cases h
def Jk(i j:TI)(a:AV)(K:K2):Af:=
 match j.d,a with
 |.int k,.v (.int _ n)=>OX k n λz=>K (.v (.int k z))
 |.string,.v (.string s)=>match i.d with|.string=>K (.v (.string s))|_=>none
 |_,_=>none
def A55{s d:TypeId}{i j:TI}(hi:T s=some i)(c:T d=some j)(h:Jk i j a K=some r):∃v,K v=some r/\zP T s d a (λf=>f=v):=by
 unfold Jk at h;split at h
 ·rename_i b;rw[IX]at h;exact⟨_,h,by simp only[zP,hi,c,b]⟩
 ·rename_i b;split at h
  ·rename_i e;exact⟨_,h,by simp only[zP,hi,c,b,e];exact⟨trivial,trivial⟩⟩
  ·cases h
 ·cases h
end
end
section
variable{a ix v x:AV}{K:K2}{fs:List (Nat×Nat×TypeId)}{f ft off sz:Nat}{i j:TI}
section
variable{T:Ty}{r:AV×Hp}
def CI(off:Nat)(v:AV)(K:K2):Af:=
 match v with
 |.ptr s p k=>fN (Nat.add (Nat.add p k) off) λo=>K (.ptr s o 0)
 |.iptr cs=>K (.iptr (Dn off cs))
 |_=>none
def B2o{ty:TypeId}(b:T ty=some i)(c:i.d=.struct fs)(e:fs[f]?=some (off,sz,ft))(hz:sz≠0)(h:CI off v K=some r):∃u,K u=some r/\lH T ty v f (λg=>g=u):=by
 unfold CI at h;split at h
 ·rw[DF]at h;refine⟨_,h,?_⟩;simp only[lH,b,c,e];exact⟨hz,_,0,by simp[lB],rfl⟩
 ·rw[CA]at h;refine⟨_,h,?_⟩;simp only[lH,b,c,e];exact⟨hz,trivial⟩
 ·cases h
def A0l(off:Nat)(j:TI)(v:AV)(K:K2):Af:=
 match v with
 |.agg cs=>pA j (Dn off cs) K
 |_=>none
def A8q{ty:TypeId}(b:T ty=some i)(c:i.d=.struct fs)(e:fs[f]?=some (off,sz,ft))(g:T ft=some j)(h:A0l off j v K=some r):∃u,K u=some r/\sR T ty v f (λk=>k=u):=by
 unfold A0l at h;split at h
 ·rw[CA]at h;have⟨u,h1,h2⟩:=XN (T:=T) (ty:=ft) g h;exact⟨u,h1,by simp only[sR,b,c,e];exact h2⟩
 ·cases h
def A03(a:AV)(K:Int->Af):Af:=match a with|.v (.int _ n)=>K n|_=>none
def Qp{K:Int->Af}(h:A03 a K=some r):∃k n,a=.v (.int k n)/\K n=some r:=by
 unfold A03 at h;split at h
 ·exact⟨_,_,rfl,h⟩
 ·cases h
def D4(i:TI)(x ix:AV)(K:K2):Af:=
 A03 ix λz=>iN z λn=>match i.d,x with
  |.slice _ b,.list m cs=>ck (Nat.blt n m) (To b (Dn (Nat.mul n b) cs) λc=>K (.iptr c))
  |.slice _ b,.sl _ s o m=>ck (Nat.blt n m) (fN (Nat.add o (Nat.mul n b)) λp=>K (.ptr s p 0))
  |.array m _ b,.ptr s p k=>ck (Nat.blt n m) (fN (Nat.add (Nat.add p k) (Nat.mul n b)) λq=>K (.ptr s q 0))
  |.array m _ b,.iptr cs=>ck (Nat.blt n m) (To b (Dn (Nat.mul n b) cs) λc=>K (.iptr c))
  |_,_=>none
def B2k{ty:TypeId}(d:T ty=some i)(h:D4 i x ix K=some r):∃u,K u=some r/\sQ T ty x ix (λe=>e=u):=by
 unfold D4 at h;obtain⟨k,z,rfl,c⟩:=Qp h;clear h;obtain⟨n,rfl,h⟩:=XC c;clear c;unfold sQ;rw[d];simp only;split at h
 ·rename_i b;have⟨h1,h⟩:=B7 h;rw[OY,CA]at h;rw[Wg]at h1;exact⟨_,h,by simp only[b,kY];exact⟨⟨by omega,by omega⟩,rfl⟩⟩
 ·rename_i b;have⟨h1,h⟩:=B7 h;rw[DF]at h;rw[Wg]at h1;exact⟨_,h,by simp only[b,kY];exact⟨⟨by omega,by omega⟩,rfl⟩⟩
 ·rename_i b;have⟨h1,h⟩:=B7 h;rw[DF]at h;rw[Wg]at h1;exact⟨_,h,by simp only[b,kY];exact⟨⟨by omega,by omega⟩,_,0,by simp[lB],rfl⟩⟩
 ·rename_i b;have⟨h1,h⟩:=B7 h;rw[OY,CA]at h;rw[Wg]at h1;exact⟨_,h,by simp only[b,kY];exact⟨⟨by omega,by omega⟩,rfl⟩⟩
 ·cases h
def B7z(l:Ha)(K:K2):Af:=@List.rec UInt8 (λ_=>Af) none (λb _ _=>fN b.toNat λn=>K (.v (.int .u8 (.ofNat n)))) l
def kG(i j:TI)(x ix:AV)(K:K2):Af:=
 A03 ix λz=>iN z λn=>match i.d,x with
  |.string,.v (.string s)=>B7z (Dn n s.data.toList) K
  |.array m _ b,.agg cs=>ck (Nat.blt n m) (pA j (Dn (Nat.mul n b) cs) K)
  |_,_=>none
def kB(i:TI):Option TypeId:=match i.d with|.array _ e _=>some e|.slice e _=>some e|_=>none
def A8p{ty:TypeId}(t:T ty=some i)(w:∀e,kB i=some e->T e=some j)(h:kG i j x ix K=some r):∃u,K u=some r/\sP T ty x ix (λA=>A=u):=by
 unfold kG at h;obtain⟨k,z,rfl,g⟩:=Qp h;clear h;obtain⟨n,rfl,h⟩:=XC g;clear g;unfold sP;rw[t];simp only;split at h
 ·rename_i s c;rw[CA]at h;cases d:s.data.toList.drop n with
  |nil=>rw[d]at h;cases h
  |cons b l=>
   rw[d]at h;have h:(fN b.toNat λn=>K (.v (.int .u8 (.ofNat n))))=some r:=h;rw[DF]at h;have y:n<s.data.toList.length:=by
    have:=congrArg List.length d;simp at this;simp;omega
   have hb:s.data.toList[n]?=some b:=by
    have:=congrArg (λl=>l[0]?) d;simpa using this
   refine⟨_,h,?_⟩;simp only[c,kY];refine⟨⟨by omega,?_⟩,?_⟩
   ·have:s.size=s.data.toList.length:=rfl;omega
   ·rw[TV,hb];rfl
 ·rename_i m e p cs c;have⟨h1,h⟩:=B7 h;rw[CA]at h;rw[Wg]at h1;have⟨u,h2,q⟩:=XN (T:=T) (ty:=e) (w e (by simp[kB,c])) h;exact⟨u,h2,by simp only[c,kY];exact⟨⟨by omega,by omega⟩,q⟩⟩
 ·cases h
def Yp(x:Option AV)(d:Nat)(K:Nat->Af):Af:=
 match x with
 |none=>fN d K
 |some a=>A03 a λz=>iN z K
def Jx{x:Option AV}{d:Nat}{K:Nat->Af}(h:Yp x d K=some r):∃n:Nat,dC x d=some (n:Int)/\K n=some r:=by
 unfold Yp at h;split at h
 ·rw[DF]at h;exact⟨d,rfl,h⟩
 ·obtain⟨k,z,rfl,h1⟩:=Qp h;obtain⟨n,rfl,h2⟩:=XC h1;exact⟨n,rfl,h2⟩
def D3(i:TI)(x:AV)(g hi mx:Option AV)(K:K2):Af:=
 match i.d,x with
 |.string,.v (.string s)=>ck mx.isNone (Yp g 0 λl=>HN s.data.toList 0 λm=>Yp hi m λh=>ck (Nat.ble l h&&Nat.ble h m) (To (Nat.sub h l) (Dn l s.data.toList) λb=>K (.v (.string ⟨⟨b⟩⟩))))
 |.slice _ e,.list m cs=>Yp g 0 λl=>Yp hi m λh=>Yp mx m λx=>ck ((mx.isNone||hi.isSome)&&(Nat.ble l h&&(Nat.ble h x&&Nat.ble x m))) (fN (Nat.sub h l) λn=>To (Nat.mul n e) (Dn (Nat.mul l e) cs) λc=>K (.list n c))
 |.slice _ e,.sl sz s o m=>ck (Nat.beq e sz) (Yp g 0 λl=>Yp hi m λh=>Yp mx m λx=>ck ((mx.isNone||hi.isSome)&&(Nat.ble l h&&(Nat.ble h x&&Nat.ble x m))) (fN (Nat.add o (Nat.mul l e)) λk=>fN (Nat.sub h l) λn=>K (.sl sz s k n)))
 |.slice _ _,.v (.slice none 0 0)=>ck mx.isNone (Yp g 0 λl=>Yp hi 0 λh=>ck (Nat.beq l 0&&Nat.beq h 0) (K (.v (.slice none 0 0))))
 |_,_=>none
def A2x{ty:TypeId}{q hi mx:Option AV}(t:T ty=some i)(h:D3 i x q hi mx K=some r):∃u,K u=some r/\sN T ty x q hi mx (λw=>w=u):=by
 unfold D3 at h;unfold sN;rw[t];simp only;split at h
 ·rename_i s b;have⟨g,h⟩:=B7 h;have⟨l,c,h⟩:=Jx h;rw[C4]at h;have⟨n,hn,h⟩:=Jx h;have⟨h1,h⟩:=B7 h;rw[OY,CA]at h;simp only[KW,kZ]at h1;have hz:0+s.data.toList.length=s.size:=JZ _;rw[hz]at hn h1;refine⟨_,h,?_⟩;simp only[b,c,hn,Mu,kY];refine⟨g,⟨by omega,by omega,by omega⟩,?_⟩
  congr 2
  apply ByteArray.ext;apply qY;simp only[ByteArray.data_extract,Array.toList_extract,List.extract];rfl
 ·rename_i e d m cs b;have⟨l,c,h⟩:=Jx h;have⟨n,hn,h⟩:=Jx h;have⟨y,p,h⟩:=Jx h;have⟨h1,h⟩:=B7 h;rw[DF,OY,CA]at h;simp only[KW,kZ]at h1;refine⟨_,h,?_⟩;have k:((n:Int)-l).toNat=n-l:=by omega
  simp only[b,c,hn,p,Mu,kY,k];refine⟨⟨by omega,by omega,by omega,by omega⟩,λhm=>?_,rfl⟩;cases mx with
  |none=>simp at hm
  |some _=>simpa using h1.1
 ·rename_i e d sz s o m b;have⟨g,h⟩:=B7 h;have⟨l,c,h⟩:=Jx h;have⟨n,hn,h⟩:=Jx h;have⟨y,p,h⟩:=Jx h;have⟨h1,h⟩:=B7 h;rw[DF,DF]at h;simp only[KW,kZ]at h1;refine⟨_,h,?_⟩;have k:((n:Int)-l).toNat=n-l:=by omega
  simp only[b,c,hn,p,Mu,kY,k];refine⟨ZR g,⟨by omega,by omega,by omega,by omega⟩,λhm=>?_,rfl⟩;cases mx with
  |none=>simp at hm
  |some _=>simpa using h1.1
 ·rename_i e d b;have⟨g,h⟩:=B7 h;have⟨l,c,h⟩:=Jx h;have⟨n,hn,h⟩:=Jx h;have⟨h1,h⟩:=B7 h;simp only[KW,rU]at h1;refine⟨_,h,?_⟩;simp only[b,c,hn,Mu];exact⟨g,⟨by omega,by omega⟩,trivial⟩
 ·cases h
def C9(v:AV)(k:Nat)(K:K2):Af:=match v with|.tup vs=>hdK (Dn k vs) K|_=>none
def A8r{k:Nat}(h:C9 v k K=some r):∃vs u,v=.tup vs/\vs[k]?=some u/\K u=some r:=by
 unfold C9 at h;split at h
 ·rename_i vs;rw[CA]at h;have⟨a,l,b,h⟩:=A2e h;refine⟨vs,a,rfl,?_,h⟩;have:=congrArg (λl=>l[0]?) b;simpa using this
 ·cases h
def Ba(i:TI)(x:AV)(K:K2):Af:=
 match i.d,x with
 |.string,.v (.string s)=>HN s.data.toList 0 λn=>K (.v (.int .i64 (.ofNat n)))
 |.slice _ _,.list n _=>K (.v (.int .i64 (.ofNat n)))
 |.slice _ _,.sl _ _ _ n=>K (.v (.int .i64 (.ofNat n)))
 |.slice _ _,.v (.slice none 0 0)=>K (.v (.int .i64 (.ofNat 0)))
 |.array n _ _,_=>K (.v (.int .i64 (.ofNat n)))
 |_,_=>none
def A8o{ty:TypeId}(c:T ty=some i)(h:Ba i x K=some r):∃u,K u=some r/\A9d T ty x (λd=>d=u):=by
 unfold Ba at h;unfold A9d;rw[c];simp only;split at h
 ·rename_i s b;rw[C4]at h;refine⟨_,h,?_⟩;simp only[b];rw[JZ];rfl
 ·rename_i b;exact⟨_,h,by simp only[b];rfl⟩
 ·rename_i b;exact⟨_,h,by simp only[b];rfl⟩
 ·rename_i b;exact⟨_,h,by simp only[b];rfl⟩
 ·rename_i b;exact⟨_,h,by simp only[b];rfl⟩
 ·cases h
def eMM(c:Bool)(a b:AV)(K:K2):Af:=
 match a,b with
 |.v (.int k x),.v (.int d y)=>ck (decide (k=d)) (@Bool.rec (λ_=>Af) (@Bool.rec (λ_=>Af) (K (.v (.int k y))) (K (.v (.int k x))) (qZ y x)) (@Bool.rec (λ_=>Af) (K (.v (.int k y))) (K (.v (.int k x))) (qZ x y)) c)
 |.v (.string s),.v (.string u)=>@Bool.rec (λ_=>Af) (K (.v (.string u))) (K (.v (.string s))) (@Bool.rec (λ_=>Bool) (!ltB s.data.toList u.data.toList) (ltB s.data.toList u.data.toList||eqB s.data.toList u.data.toList) c)
 |_,_=>none
def A2D{c:Bool}{a b:AV}(h:eMM c a b K=some r):∃u,K u=some r/\xmm c a b (λm=>m=u):=by
 unfold eMM at h;split at h
 ·rename_i k x g y;have⟨h1,h⟩:=B7 h;simp only[xmm];have e:k=g:=by simpa using h1
  cases c
  ·rw[LZ]at h;by_cases d:y<=x
   ·rw[Hu d]at h;exact⟨_,h,e,by rw[CL (by simp),CL (by omega)]⟩
   ·rw[Ir d]at h;exact⟨_,h,e,by rw[CL (by simp),Dv (by omega)]⟩
  ·rw[LZ x y]at h;by_cases d:x<=y
   ·rw[Hu d]at h;exact⟨_,h,e,by rw[Dv rfl,CL (by omega)]⟩
   ·rw[Ir d]at h;exact⟨_,h,e,by rw[Dv rfl,Dv (by omega)]⟩
 ·rename_i s u;simp only[xmm];cases c
  ·simp only[Z!,YB]at h⊢;cases hb:(!Op.bytesLess s.data.toList u.data.toList)<;>(rw[hb]at h;exact⟨_,h,rfl⟩)
  ·simp only[Z!,Rm,YB]at h⊢;cases hb:(Op.bytesLess s.data.toList u.data.toList||s.data.toList==u.data.toList)<;>(rw[hb]at h;exact⟨_,h,rfl⟩)
 ·cases h
end
end
section
variable{r:AV×Hp}{tmps:Array Value}{fn:Func}{args:Is}{ys:Hx}{i k m:Nat}{t:Tm}{wa:World}
def Ctx.delB(C:Ctx)(b:Nat):Ctx:={C with B:=λk=>C.B k/\k≠b}
section
variable{P:Program}{G:Gl}{w0:Base}{C:Ctx}{H:Hp}{w w':World}{b:Nat}{o o':Obj}
def A0r(hb:w.heap[b]?=some o)(a:∀arr T fz,o≠.cells arr T fz){v:Value}(h:w.cell? ⟨k,i,none⟩=some v):k≠b:=by
 intro e;subst e;simp only[World.cell?,hb]at h;cases o<;>simp at h
 exact a _ _ _ rfl
def SameObj.cell(c:SameObj w w' b o')(a:k≠b):w'.cell? ⟨k,i,none⟩=w.cell? ⟨k,i,none⟩:=l0t (c.others k a)
def VRel.shut(hb:w.heap[b]?=some (.deferred (some [])))(d:SameObj w w' b o'){a:AV}{y:Value}(h:VRel C w a y):VRel (C.delB b) w' a y:=by
 have n:∀arr T fz,(Obj.deferred (some []):Obj)≠.cells arr T fz:=λ_ _ _ h=>by cases h
 induction h with
 |v x=>exact .v x
 |ptr h=>exact .ptr h
 |iptr vs p hc _ ih=>exact .iptr vs p (λi hi=>(d.cell (A0r hb n (hc i hi))).trans (hc i hi)) (λi hi=>ih i hi hb d)
 |list0=>exact .list0
 |list h vs p hc _ ih=>exact .list h vs p (λi hi=>(d.cell (A0r hb n (hc i hi))).trans (hc i hi)) (λi hi=>ih i hi hb d)
 |sl h g c hsz=>exact .sl h g ((d.others _ (λe=>by subst e;rw[hb]at c;cases c)).trans c) hsz
 |slz hr=>exact .slz hr
 |fn ys D f q _ _ s u=>exact .fn ys D f q (λi hi=>s i hi hb d) (λi hi=>u i hi hb d)
 |agg ys f _ ih=>exact .agg ys f (λi hi=>ih i hi hb d)
 |tup ys f _ ih=>exact .tup ys f (λi hi=>ih i hi hb d)
 |mp h=>exact .mp h
 |@imap C w F b2 clock ms A c f B hn hc _ ih=>
  have j:b2≠b:=λe=>by subst e;rw[hb]at c;cases c
  exact .imap ms ⟨A,j⟩ ((d.others _ j).trans c) f B hn hc (λi hi=>ih i hi hb d)
 |yl h=>exact .yl h
 |it h=>exact .it h
 |dk y=>exact .dk y
def CJ.shut(hb:w.heap[b]?=some (.deferred (some [])))(e:SameObj w w' b o'){c:Is}(h:CJ C w c ys):CJ (C.delB b) w' c ys:=
 ⟨h.1,λi a d=>let⟨y,f,hv⟩:=h.2 i a d;⟨y,f,hv.shut hb e⟩⟩
def Ml.shut(hb:w.heap[b]?=some (.deferred (some [])))(d:SameObj w w' b o'){es:IH}{ms:List MapEntry}(h:Ml C w es ms):Ml (C.delB b) w' es ms:=
 ⟨h.1,λi p c=>let⟨m,hm,a,hv⟩:=h.2 i p c;⟨m,hm,a,hv.shut hb d⟩⟩
def gI.shut(hb:w.heap[b]?=some (.deferred (some [])))(d:SameObj w w' b o'){ms:Array MapEntry}{seen:Array Nat}:∀{x:Option (Value×AV)},gI C w ms seen x->gI (C.delB b) w' ms seen x
 |none,_=>trivial
 |some _,⟨m,h1,h2,a,c⟩=>⟨m,h1,h2,a,c.shut hb d⟩
def XU.shut(hb:w.heap[b]?=some (.deferred (some [])))(a:SameObj w w' b o')(h:XU C w t tmps):XU (C.delB b) w' t tmps:=λi=>(h i).shut hb a
def A1q(q:Bool):(C.delB b).sel q=(C.sel q).delB b:=by cases q<;>rfl
def TF.shut(hb:w.heap[b]?=some (.deferred (some [])))(a:SameObj w w' b o'){r:Nat}{x:Row}(h:TF C w r x):TF (C.delB b) w' r x:=by
 have ne:∀{k:Nat}{q:Obj},w.heap[k]?=some q->(∀l,q≠.deferred l)->k≠b:=λn hq e=>by
  subst e;rw[hb]at n;injection n with n;exact hq _ n.symm
 cases x with
 |cells q T cs=>
  rcases h with⟨h1,h2⟩|⟨k,f,arr,fz,h⟩
  ·exact .inl ⟨h1,h2⟩
  ·refine .inr ⟨k,f,arr,fz,h.at_,(a.others k (ne h.block (λ_ e=>by cases e))).trans h.block,h.free,h.fits,?_,h.exact⟩;rw[A1q];exact h.vals.shut hb a
 |map q M L=>
  have⟨k,ms,clock,h1,c,g,d,j⟩:=h;refine⟨k,ms,clock,h1,(a.others k (ne c (λ_ e=>by cases e))).trans c,g,?_,j⟩;rw[A1q];exact d.shut hb a
 |loop N t ps J K u=>
  have⟨k,l,h1,h2,c,g,d,j,p,s,B⟩:=h;exact⟨k,l,h1,(a.others k (ne h2 (λ_ e=>by cases e))).trans h2,c,g,d,j,p,s,B.shut hb a⟩
 |iter left D=>
  have⟨k,F,since,seen,last,h1,h2,c⟩:=h;refine⟨k,F,since,seen,last,h1,(a.others k (ne h2 (λ_ e=>by cases e))).trans h2,?_⟩;rcases c with c|⟨m,ms,clock,v,y,A,g,d,j,p,s⟩
  ·exact .inl c
  ·have hm:=ne d (λ_ e=>by cases e);exact .inr ⟨m,ms,clock,v,y,A,⟨g,hm⟩,(a.others m hm).trans d,j,p.shut (C:=C.bare) hb a,s.shut (C:=C.bare) hb a⟩
 |gone=>trivial
def Rel.shut(h:Rel G w0 C H w)(hb:w.heap[b]?=some (.deferred (some [])))(n:w0.own b)(a:SameObj w w' b o'):Rel G w0 (C.delB b) H w':=by
 have d:∀arr T fz,(Obj.deferred (some []):Obj)≠.cells arr T fz:=λ_ _ _ h=>by cases h
 refine⟨λg cs j i v hv=>?_,h.below.same_obj a n,h.lt,λr x e=>(h.rows r x e).shut hb a,λr x k o e p=>?_,h.sep,λk i f=>a.size▸h.fin k i f,λk c=>a.size▸h.finB k c.1,h.nx⟩
 ·have:=h.glob g cs j i v hv;exact⟨this.1,(a.cell (A0r hb d this.2)).trans this.2⟩
 ·have:=h.own r x k o e p;exact⟨this.1,this.2.1,λc=>this.2.2 c.1⟩
def A6W(E:XE)(t:Tm)(H:Hp)(rs:List ResultVar):(Is->Af)->Af:=
 @List.rec ResultVar (λ_=>(Is->Af)->Af) (λK=>K [])
  (λr _ ih K=>match r with
   |.tmp i=>gtm t i λv=>ih λvs=>K (v::vs)
   |.cell a ty=>gtm t a λp=>E.ty.getK ty λi=>AE i p H λv=>ih λvs=>K (v::vs)) rs
def rH(vs:Is)(K:K2):Af:=
 @List.rec AV (λ_=>Af) (K (.tup [])) (λv l _=>@List.rec AV (λ_=>Af) (K v) (λu a _=>K (.tup (v::u::a))) l) vs
def B04:Is->AV
 |[v]=>v
 |vs=>.tup vs
def A3h(vs:Is)(K:K2):rH vs K=K (B04 vs):=by
 match vs with
 |[]=>rfl
 |[v]=>rfl
 |v::u::l=>rfl
def XE.T(E:XE):Ty:=λty=>E.ty.get ty
def Bk{α:Type}{b:BT α}{K:α->Af}(h:b.getK i K=some r):∃v,b.get i=some v/\K v=some r:=by
 rw[BT.getK_eq]at h;split at h
 ·exact⟨_,by assumption,h⟩
 ·cases h
def B0c(tmps:Array Value):ResultVar->Sem Value
 |.tmp t=>pure (tmps.getD t undef)
 |.cell x t=>do loadVar t (<-asAddr (tmps.getD x undef))
def A6V{E:XE}{T:Ty}(y:kU P T)(s:∀ty i,E.ty.get ty=some i->T ty=some i)(hr:Rel G w0 C H w)(f:XU C w t tmps):∀(rs:List ResultVar)(K:Is->Af),A6W E t H rs K=some r->
 ∃vs ys,(rs.mapM (B0c tmps)).run P w=.ok ys w/\CJ C w vs ys/\K vs=some r:=by
 intro rs
 induction rs with
 |nil=>intro K h;exact⟨[],[],rfl,.nil,h⟩
 |cons x rs ih=>
  intro K h;cases x with
  |tmp i=>
   have h:(gtm t i λv=>A6W E t H rs λvs=>K (v::vs))=some r:=h;rw[Vb]at h;have⟨vs,ys,h1,h2,d⟩:=ih _ h;refine⟨_,_::ys,?_,.cons (f i) h2,d⟩;rw[List.mapM_cons];simp only[B0c,Dr,nJ,Ga,h1]
  |cell x ty=>
   have h:(gtm t x λp=>E.ty.getK ty λi=>AE i p H λv=>A6W E t H rs λvs=>K (v::vs))=some r:=h;rw[Vb]at h;have⟨i,hi,h⟩:=Bk h;have⟨u,h,A⟩:=A2I (T:=T) (s _ _ hi) h;have⟨v,z,h1,h2,d⟩:=oO y hr (f x) A;subst d;have⟨vs,ys,g,j,n⟩:=ih _ h;refine⟨v::vs,z::ys,?_,.cons h2 j,n⟩;rw[List.mapM_cons];have c:(do loadVar ty (<-asAddr (tmps.getD x undef)):Sem Value).run P w=.ok z w:=by
    generalize tmps.getD x undef=q at*;cases q<;>simp only[Instr.loadAt,Instr.sureAddr,Dr,run_stuck,Result.andThen_halt]at h1<;>try (cases h1;done)
    rename_i e;cases e with
    |none=>simp at h1
    |some e=>simpa [asAddr] using h1
   have a:(B0c tmps (.cell x ty)).run P w=.ok z w:=c;rw[Dr,a];simp only[Ga,Dr,g,nJ]
def T_:Hx->Value
 |[y]=>y
 |ys=>.tuple ys.toArray
def A1x(h:(fn.results.toList.mapM (B0c tmps)).run P w=.ok ys w):
 (results fn tmps).run P w=.ok (T_ ys) w:=by
 have e:results fn tmps=(do
  let vs<-fn.results.mapM (B0c tmps)
  pure (if h:vs.size=1 then vs[0] else .tuple vs)):=by
  unfold results
  congr 1
 rw[e,Dr,Array.mapM_eq_mapM_toList,Sem.run_map,h];simp only[Ga,nJ]
 congr 1
 match ys with
 |[]=>rfl
 |[y]=>rfl
 |y::z::ys=>simp[T_]
def A3Y{vs:Is}(h:CJ C w vs ys):VRel C w (B04 vs) (T_ ys):=by
 match vs,ys,h with
 |[],[],h=>exact DQ.2 ⟨[],rfl,h⟩
 |[v],[y],h=>exact h.get 0 (by simp)
 |v::u::vs,y::z::ys,h=>exact DQ.2 ⟨_,rfl,h⟩
 |[],_::_,h=>exact absurd h.1 (by simp)
 |[v],[],h=>exact absurd h.1 (by simp)
 |[v],_::_::_,h=>exact absurd h.1 (by simp)
 |_::_::_,[],h=>exact absurd h.1 (by simp)
 |_::_::_,[_],h=>exact absurd h.1 (by simp)
def numbered:Nat->Is->Tm
 |_,[]=>[]
 |k,a::c=>(k,a)::numbered (k+1) c
def xW:∀(c:Is)(k i:Nat),HR (numbered k c) i=if k<=i/\i<k+c.length then c.getD (i-k) .dk else .dk:=by
 intro c
 induction c with
 |nil=>intro k i;simp[numbered,HR]
 |cons a c ih=>
  intro k i;simp only[numbered,HR];by_cases hi:i=k
  ·subst hi;simp
  ·rw[CL hi,ih];by_cases h:k<=i/\i<k+(a::c).length
   ·simp only[LI]at h;rw[Dv (by omega),Dv (by simp only[LI];omega)];have:i-k=(i-(k+1))+1:=by omega
    rw[this];simp
   ·simp only[LI]at h;rw[CL (by omega),CL (by simp only[LI];omega)]
def B5S(c:Is):Nat->(Tm->Af)->Af:=
 (λ(_:Unit)=>@List.rec AV (λ_=>Nat->(Tm->Af)->Af) (λ_ K=>K []) (λa _ ih k K=>fNS (Nat.succ k) λd=>ih d λt=>K ((k,a)::t)) c) HW
def B5R(c:Is):∀(k:Nat)(K:Tm->Af),B5S c k K=K (numbered k c):=by
 induction c with
 |nil=>intro k K;rfl
 |cons a c ih=>
  intro k K;have:B5S (a::c) k K=fNS (Nat.succ k) λd=>B5S c d λt=>K ((k,a)::t):=rfl;rw[this,B20,ih];rfl
def XU.numbered{n:Nat}(d:CJ C w args ys):XU C w (numbered 0 args) (ys.toArray++Array.replicate n undef):=by
 intro i;rw[xW];have c:=d.1;split
 ·rename_i hi;have a:i<args.length:=by omega
  have:=d.get i a;simp only[Nat.sub_zero,TV,KJ a,l1q,gO];rw[Array.getElem?_append_left (by simp;omega)];simp[c,a];exact this
 ·exact .dk _
def Frm.delB{O:Nat->Prop}{C0:Ctx}(h:Frm m O C0 wa C w)(a:∀k,C0.B k->k<wa.heap.size)(f:∀k i,C0.F k i->k<wa.heap.size)(hb:wa.heap.size<=b)(g:w.heap[b]?=some (.deferred (some [])))(d:SameObj w w' b o'):Frm m O C0 wa (C.delB b) w':=
 ⟨h.π,h.F,λk i j=>(d.cell (by have:=f k i j;omega)).trans (h.keep k i j),λk c=>⟨h.B k c,by have:=a k c;omega⟩,λk c=>(d.others k (by have:=a k c;omega)).trans (h.keepB k c),
  λk arr T fz n=>by
   have⟨a1,f1,h1,h2⟩:=h.size k arr T fz n;exact⟨a1,f1,(d.others k (λe=>by subst e;rw[g]at h1;cases h1)).trans h1,h2⟩,
  h.new,λk c=>h.newB k c.1,by rw[d.size];exact h.grow⟩
def Z_{R:Ending->World->Prop}{m s0:Nat}{C0:Ctx}(d:∀k,C0.B k->k<wa.heap.size)(n:∀k i,C0.F k i->k<wa.heap.size)(K:wa.heap.size<=s0)(g:∀C w,Rel G w0 C H w->XU C w t tmps->Frm m w0.own C0 wa C w->∃v,(results fn tmps).run P w=.ok v w/\R (.returned v) w):
 ∀(a:Hb)(C:Ctx)(w:World),a.Nodup->(∀b∈a,s0<=b/\w0.own b/\C.B b/\w.heap[b]?=some (.deferred (some [])))->Rel G w0 C H w->XU C w t tmps->Frm m w0.own C0 wa C w->
  LeavesInM (Fe none) 0 P fn tmps R (a.map Y_) .returning w:=by
 intro a
 induction a with
 |nil=>
  intro C w _ _ hr u j;exact g C w hr u j
 |cons b a ih=>
  intro C w hn hb hr u j;have⟨h1,h2,L,c⟩:=hb b (by simp);have⟨q,s⟩:=List.nodup_cons.1 hn;have p:=(l1v.1 c).1;have h:SameObj w (w.putObj b (.deferred none)) b (.deferred none):=SameObj.putObj p _;refine⟨by simp,.inl ⟨b,_,rfl,run_takeDeferred c,ih (C.delB b) _ s (λk x=>?_) (hr.shut c h2 h) (u.shut c h) (j.delB d n (by omega) c h)⟩⟩;have⟨y,A,D,J⟩:=hb k (by simp[x]);have f:k≠b:=λe=>q (e▸x);exact⟨y,A,⟨D,f⟩,(h.others k f).trans J⟩
def C2b(E:XE)(rs:List ResultVar)(K:KV):Exit->Tm->Ru:=λe t H=>
 match e with
 |.normal=>A6W E t H rs λvs=>rH vs λv=>K v H
 |.ret=>A6W E t H rs λvs=>rH vs λv=>K v H
 |_=>none
def A8L{E:XE}{T:Ty}(N:kU P T)(L:∀ty i,E.ty.get ty=some i->T ty=some i){f:FuncId}{c:Code}{K:KV}(O:P.funcs[f]?=some fn)(hb:fn.body=some c)(h:QU P G none (Ar H) (args.length+(fn.ntmps-args.length)) c (λe t a=>C2b E fn.results.toList K e t a=some r) (numbered 0 args) H):Rr P G f args H (λv a=>K v a=some r):=by
 intro w0 C w ys p A;refine callsIn_wide.1 (callsIn_of_wp_marks (n:=0) O hb trivial ?_);have g:=A.1;have M:St G w0 w.heap.size C (args.length+(fn.ntmps-args.length)) (numbered 0 args) H {tmps:=ys.toArray++Array.replicate (fn.ntmps-ys.toArray.size) undef,defers:=[]} w:=⟨p,by simp[g],.numbered A,.nil,MC _⟩
 have Q:=h w0 w.heap.size C _ w M;have j:Fe none=Fence.wide:=rfl;rw[<-j];refine wpIn_mono Q λe u w' ⟨d,B,a,s,V,q⟩=>?_;have fin:(A6W E B a fn.results.toList λvs=>rH vs λv=>K v a)=some r->LeavesInM (Fe none) 0 P fn u.tmps (λe w'=>∃v y d a,e=.returned y/\Rel G w0 d a w'/\VRel d w' v y/\Frm (Ar H) w0.own C w d w'/\K v a=some r) u.defers .returning w':=by
  intro q;have⟨F,d1,d2,J⟩:=s.defers;rw[d2];refine Z_ (H:=a) (t:=B) (C0:=C) (wa:=w) (m:=Ar H) (s0:=w.heap.size) p.finB p.fin (MC _) (λD w1 r1 R f1=>?_) F d w' d1 J s.rel s.tmps V;have⟨vs,X,h1,h2,x⟩:=A6V N L r1 R _ _ q;rw[A3h]at x;exact⟨_,A1x h1,_,_,D,a,rfl,r1,A3Y h2,f1,x⟩
 cases e with
 |normal=>exact fin q
 |ret=>exact fin q
 |_=>cases q
end
end
section
variable{f:AV->(Bool->K2)->Af}{q q':Bool}
def IG(f:AV->(Bool->K2)->Af)(l:Is):(Bool->Is->Af)->Af:=
 @List.rec AV (λ_=>(Bool->Is->Af)->Af) (λK=>K false [])
  (λa _ ih K=>f a λq c=>ih λq' d=>K (@Bool.rec (λ_=>Bool) q' true q) (c::d)) l
def Rs(f:AV->(Bool->K2)->Af)(l:IH):(Bool->IH->Af)->Af:=
 @List.rec (Value×AV) (λ_=>(Bool->IH->Af)->Af) (λK=>K false [])
  (λp _ ih K=>f p.2 λq a=>ih λq' c=>K (@Bool.rec (λ_=>Bool) q' true q) ((p.1,a)::c)) l
def qT(x:Row)(K:IH->Af):Af:=match x with|.map false a _=>K a|_=>none
def A27(b:Bool)(a:AV)(K:Bool->K2):Af:=
 match a with
 |.v x=>K false (.v x)
 |.list n cs=>ck b (K false (.list n cs))
 |.iptr cs=>ck b (K false (.iptr cs))
 |.imap c=>ck b (K false (.imap c))
 |_=>none
def A26(b:Bool)(H:Hp)(ih:AV->(Bool->K2)->Af)(a:AV)(K:Bool->K2):Af:=
 match a with
 |.v x=>K false (.v x)
 |.list n cs=>ck b (K false (.list n cs))
 |.iptr cs=>ck b (K false (.iptr cs))
 |.imap g=>ck b (K false (.imap g))
 |.agg cs=>IG ih cs λq d=>K q (.agg d)
 |.tup cs=>IG ih cs λq d=>K q (.tup d)
 |.fn f j cs=>IG ih j λq i=>IG ih cs λq' d=>K (@Bool.rec (λ_=>Bool) q' true q) (.fn f i d)
 |.sl sz r o n=>IP H r λx=>Kb x λ_ cs=>E9 (Nat.mul n sz) (Dn o cs) λc=>IG ih c λ_ e=>K true (.list n e)
 |.ptr r p k=>IP H r λx=>Kb x λ_ cs=>IG ih (Dn (Nat.add p k) cs) λ_ e=>K true (.iptr e)
 |.mp r=>IP H r λx=>qT x λg=>Rs ih g λ_ h=>K true (.imap h)
 |_=>none
def HU(b:Bool)(H:Hp)(D:Nat):AV->(Bool->K2)->Af:=@Nat.rec (λ_=>AV->(Bool->K2)->Af) (A27 b) (λ_ ih=>A26 b H ih) D
def VU(b q:Bool)(C:Ctx)(H:Hp):Ctx:=
 {π:=λ_=>none
  F:=λk i=>(b=true/\C.F k i)\/(q=true/\∃r x o,Ah H r=some x/\C.π r=some (some (k,o)))
  B:=λk=>(b=true/\C.B k)\/(q=true/\∃r x o,Ah H r=some x/\C.π r=some (some (k,o)))}
def G_(b q:Bool)(C:Ctx)(H:Hp):(VU b q C H).bare=VU b q C H:=rfl
def Pb{b q q':Bool}{C:Ctx}{H:Hp}{w:World}(h:q=true->q'=true):Ext (λ_=>True) (VU b q C H) w (VU b q' C H) w:=
 ⟨λ_ _=>rfl,λ_ _ c=>c.imp id (λ⟨h1,h2⟩=>⟨h h1,h2⟩),λ_ _ _=>rfl,λ_ c=>c.imp id (λ⟨h1,h2⟩=>⟨h h1,h2⟩),λ_ _=>rfl,λ_ a _ f h=>⟨a,f,h,rfl⟩,λ_ _ _=>.inr trivial,λ_ _=>.inr trivial,MC _⟩
def oK:q=true->(@Bool.rec (λ_=>Bool) q' true q)=true:=λh=>by subst h;rfl
def gB:q'=true->(@Bool.rec (λ_=>Bool) q' true q)=true:=λh=>by subst h;cases q<;>rfl
section
variable{G:Gl}{w0:Base}{C:Ctx}{H:Hp}{w:World}{b:Bool}{r:AV×Hp}
def oV(n:∀a y K,VRel C w a y->f a K=some r->∃q c,VRel (VU b q C H) w c y/\K q c=some r):
 ∀(l:Is)(ys:Hx)(K:Bool->Is->Af),CJ C w l ys->IG f l K=some r->∃q d,CJ (VU b q C H) w d ys/\K q d=some r:=by
 intro l
 induction l with
 |nil=>intro ys K e h;exact⟨false,[],by rw[e.nil_inv];exact .nil,h⟩
 |cons a l ih=>
  intro ys K e h;obtain⟨y,g,rfl,h1,h2⟩:=e.cons_inv;have h:(f a λq c=>IG f l λq' d=>K (@Bool.rec (λ_=>Bool) q' true q) (c::d))=some r:=h;have⟨q,c,i,j⟩:=n a y _ h1 h;have⟨q',d,k,m⟩:=ih g _ h2 j;exact⟨_,_,.cons (i.mono (Pb oK)) (k.mono (Pb gB)),m⟩
def A25(A:∀a y K,VRel C w a y->f a K=some r->∃q d,VRel (VU b q C H) w d y/\K q d=some r):
 ∀(l:IH)(ms:List MapEntry)(K:Bool->IH->Af),Ml C w l ms->Rs f l K=some r->∃q g,Ml (VU b q C H) w g ms/\K q g=some r:=by
 intro l
 induction l with
 |nil=>intro ms K c h;exact⟨false,[],⟨c.1,λi p D=>by simp at D⟩,h⟩
 |cons p l ih=>
  intro ms K c h;cases ms with
  |nil=>exact absurd c.1 (by simp)
  |cons m ms=>
   have⟨J,hm,B,hv⟩:=c.2 0 p rfl;simp at hm;subst hm;have h:(f p.2 λq d=>Rs f l λq' g=>K (@Bool.rec (λ_=>Bool) q' true q) ((p.1,d)::g))=some r:=h;have⟨q,d,t,u⟩:=A _ _ _ hv h;have⟨q',g,j,v⟩:=ih ms _ ⟨by simpa using c.1,λi x e=>by simpa using c.2 (i+1) x (by simpa using e)⟩ u;refine⟨_,_,⟨by simpa using j.1,λi x e=>?_⟩,v⟩;cases i with
   |zero=>simp at e;subst e;exact⟨m,rfl,B,t.mono (Pb oK)⟩
   |succ i=>
    have⟨F,k,n,s⟩:=j.2 i x (by simpa using e);exact⟨F,by simpa using k,n,s.mono (Pb gB)⟩
def VR{a:AV}{y:Value}(hb:b=true)(hc:dA 0 a=true)(h:VRel C w a y):VRel (VU b false C H) w a y:=
 VRel.down (by subst hb;funext k i;simp[VU]) (by subst hb;funext k;simp[VU]) 0 a y hc h
def vR(hr:Rel G w0 C H w):∀(D:Nat)(a:AV)(y:Value)(K:Bool->K2),VRel C w a y->HU b H D a K=some r->∃q a',VRel (VU b q C H) w a' y/\K q a'=some r:=by
 intro D
 induction D with
 |zero=>
  intro a y K hv h;change A27 b a K=some r at h;unfold A27 at h;split at h
  ·exact⟨false,_,by rw[AQ.1 hv];exact .v _,h⟩
  ·have⟨h1,h⟩:=B7 h;exact⟨false,_,VR h1 rfl hv,h⟩
  ·have⟨h1,h⟩:=B7 h;exact⟨false,_,VR h1 rfl hv,h⟩
  ·have⟨h1,h⟩:=B7 h;exact⟨false,_,VR h1 rfl hv,h⟩
  ·cases h
 |succ D ih=>
  intro a y K hv h;have R:=λl M K=>oV (f:=HU b H D) (b:=b) (H:=H) (C:=C) (w:=w) (r:=r) ih l M K;have hX:=λl M K=>A25 (f:=HU b H D) (b:=b) (H:=H) (C:=C) (w:=w) (r:=r) ih l M K;change A26 b H (HU b H D) a K=some r at h;unfold A26 at h;split at h
  ·exact⟨false,_,by rw[AQ.1 hv];exact .v _,h⟩
  ·have⟨h1,h⟩:=B7 h;exact⟨false,_,VR h1 rfl hv,h⟩
  ·have⟨h1,h⟩:=B7 h;exact⟨false,_,VR h1 rfl hv,h⟩
  ·have⟨h1,h⟩:=B7 h;exact⟨false,_,VR h1 rfl hv,h⟩
  ·obtain⟨M,rfl,Z⟩:=ET.1 hv;have⟨q,J,h1,h2⟩:=R _ _ _ Z h;exact⟨q,_,ET.2 ⟨M,rfl,h1⟩,h2⟩
  ·obtain⟨M,rfl,Z⟩:=DQ.1 hv;have⟨q,J,h1,h2⟩:=R _ _ _ Z h;exact⟨q,_,DQ.2 ⟨M,rfl,h1⟩,h2⟩
  ·obtain⟨M,zs,rfl,Z,ac⟩:=Jy.1 hv;have⟨q,J,h1,h2⟩:=R _ _ _ Z h;have⟨q',ai,g,O⟩:=R _ _ _ ac h2;exact⟨_,_,Jy.2 ⟨M,zs,rfl,h1.mono (Pb oK),g.mono (Pb gB)⟩,O⟩
  ·rename_i sz s o n;have⟨q0,e,cs,B,h1⟩:=Ka h;have⟨A,h2⟩:=Ma _ _ _ _ h1;rw[CA]at A h2;cases hv with
   |slz ah=>
    have h2:IG (HU b H D) ((cs.drop o).take (0*sz)) (λ_ c'=>K true (.list 0 c'))=some r:=h2;rw[Nat.zero_mul,List.take_zero]at h2;exact⟨true,_,.list0,h2⟩
   |@sl _ _ _ _ _ _ bk N cap arr T fz F Y ag ae=>
    rcases hr.rows s _ B with⟨_,h6⟩|⟨b',c,t,aa,L⟩
    ·rw[h6]at F;cases F
    ·have u:=L.at_.symm.trans F;injection u with u;injection u with u;injection u with V X;subst V X
     have d:CJ C w ((cs.drop o).take (n*sz)) ((((t.toList.drop c).take cs.length).drop o).take (n*sz)):=(L.vals.unsel.drop o).take _;have⟨q,J,g,O⟩:=R _ _ _ d h2;have g:=g.mono (Pb (q':=true) (λ_=>rfl));have ad:J.length=n*sz:=by
      rw[<-g.1,d.1,E!];have:n*sz<=(cs.drop o).length:=A;omega
     refine⟨true,_,.list Y (λi=>((((t.toList.drop c).take cs.length).drop o).take (n*sz)).getD i undef) (λi hi=>.inr ⟨rfl,s,_,_,B,F⟩) (λi hi=>?_) (λi hi=>?_),O⟩
     ·have ab:i<n*sz:=by omega
      have P:o+i<cs.length:=by have:n*sz<=(cs.drop o).length:=A;simp at this;omega
      rw[lB,L.cell];rw[TV,D_,Dv ab,qX,D_,Dv P,qX,l27];have hf:=L.fits;rw[l1p (by omega)];rfl
     ·have:=g.get i hi;rw[G_,TV,KJ (by rw[g.1];exact hi)];exact this
  ·rename_i s p k;have⟨q0,e,cs,B,h2⟩:=Ka h;rw[CA]at h2;cases hv with
   |@ptr _ _ _ _ _ bk N F=>
    rcases hr.rows s _ B with⟨_,h6⟩|⟨b',c,t,aa,L⟩
    ·rw[h6]at F;cases F
    ·have u:=L.at_.symm.trans F;injection u with u;injection u with u;injection u with V X;subst V X
     have d:CJ C w (cs.drop (p+k)) (((t.toList.drop c).take cs.length).drop (p+k)):=L.vals.unsel.drop _;have⟨q,J,g,O⟩:=R _ _ _ d h2;have g:=g.mono (Pb (q':=true) (λ_=>rfl));have ad:J.length=cs.length-(p+k):=by rw[<-g.1,d.1,l0u]
     refine⟨true,_,.iptr (λi=>(((t.toList.drop c).take cs.length).drop (p+k)).getD i undef) (λi hi=>.inr ⟨rfl,s,_,_,B,F⟩) (λi hi=>?_) (λi hi=>?_),O⟩
     ·have P:p+k+i<cs.length:=by omega
      rw[lB,L.cell];rw[TV,qX,D_,Dv P,qX,l27];have hf:=L.fits;rw[l1p (by omega)];rfl
     ·have:=g.get i hi;rw[G_,TV,KJ (by rw[g.1];exact hi)];exact this
  ·rename_i s;have⟨x,B,h2⟩:=Iz rfl h;unfold qT at h2;split at h2
   ·rename_i es _bo;cases hv with
    |@mp _ _ _ bk N F=>
     have⟨af,ms,clock,g1,g2,g3,g4,_⟩:=hr.rows s _ B;have u:=g1.symm.trans F;injection u with u;injection u with u;injection u with V X;subst V X
     have⟨q,J,g,O⟩:=hX _ _ _ g4 h2;have g:=g.mono (Pb (q':=true) (λ_=>rfl));have A:ms.size=J.length:=by have:=g.1;simpa using this
     have get:∀i(hi:i<J.length),(ms.getD i default).key=J[i].1/\VRel (VU b true C H) w J[i].2 (ms.getD i default).val:=λi hi=>by
      have⟨m,k1,k2,k3⟩:=g.2 i _ (KJ hi);have:ms.getD i default=m:=by
       rw[l27]at k1;simp[gO,k1]
      rw[this];exact⟨k2,k3⟩
     refine⟨true,_,.imap ms (.inr ⟨rfl,s,_,_,B,F⟩) g2 A (λi hi=>(get i hi).1) (λi j Q hj=>?_) (λi hi=>?_) (λi hi=>(get i hi).2),O⟩
     ·have:=l26.1 g3.born i j (by simpa using Nat.lt_trans Q hj) (by simpa using hj) Q;simpa [gO,hj,Nat.lt_trans Q hj] using this
     ·have:=g3.lt ms[i] (by simp);simpa [gO,hi] using this
   ·cases h2
  ·cases h
end
end
section
variable{ag:Bool}{d:Nat}{t:TypeId}
def LK.fit:LK->Value->Bool
 |.int k,.int a _=>decide (a=k)
 |.str,.string _=>true
 |.bool,.bool _=>true
 |_,_=>false
def fits:List LK->Hx->Bool
 |[],[]=>true
 |k::ks,v::vs=>k.fit v&&fits ks vs
 |_,_=>false
def Vs(ag:Bool)(vs:Hx):Value:=match ag with|true=>.agg vs.toArray|false=>vs.headD undef
def Ng(P:Program)(rec:TypeId->Option (Bool×List LK)):Nat->List Field->Option (List LK)
 |_,[]=>some []
 |off,f::a=>match rec f.type with
  |some (_,ks)=>if f.name != "_" &&(Nat.beq f.offset off&&(Nat.beq (P.cellsOf f.type) ks.length&& !Nat.beq ks.length 0)) then(Ng P rec (off+ks.length) a).map (ks++ ·) else none
  |none=>none
def leaves(P:Program):Nat->TypeId->Option (Bool×List LK)
 |0,_=>none
 |d+1,t=>match P.underlying t with
  |some (.int k)=>some (false,[.int k])
  |some .string=>some (false,[.str])
  |some .bool=>some (false,[.bool])
  |some (.struct a)=>if P.stoodInHeld t then none else(Ng P (leaves P d) 0 a.toList).map λks=>(true,ks)
  |some (.array n e)=>match leaves P d e with
   |some (_,ks)=>if Nat.beq (P.cellsOf e) ks.length&& !Nat.beq ks.length 0 then some (true,(List.replicate n ks).flatten) else none
   |none=>none
  |_=>none
def E1:∀{ks:List LK}{vs:Hx},fits ks vs=true->vs.length=ks.length:=by
 intro ks
 induction ks with
 |nil=>intro vs h;cases vs<;>simp[fits]at h;rfl
 |cons k ks ih=>
  intro vs h;cases vs with
  |nil=>simp[fits]at h
  |cons v vs=>simp only[fits,KW]at h;simp[ih h.2]
def NV:∀{ks ls:List LK}{vs:Hx},fits (ks++ls) vs=true->fits ks (vs.take ks.length)=true/\fits ls (vs.drop ks.length)=true:=by
 intro ks
 induction ks with
 |nil=>intro ls vs h;exact⟨by simp[fits],by simpa using h⟩
 |cons k ks ih=>
  intro ls vs h;cases vs with
  |nil=>simp[fits]at h
  |cons v vs=>
   simp only[List.cons_append,fits,KW]at h;have⟨h1,h2⟩:=ih h.2;exact⟨by simp[fits,h.1,h1],by simpa using h2⟩
def iG{α:Type}[DecidableEq α](n:Nat)(xs ys:List α):decide (xs=ys)=(decide (xs.take n=ys.take n)&&decide (xs.drop n=ys.drop n)):=by
 rw[qW];simp only[decide_eq_true_eq,KW];constructor
 ·rintro rfl;exact⟨rfl,rfl⟩
 ·rintro⟨h1,h2⟩;rw[<-l38 n xs,<-l38 n ys,h1,h2]
instance:DecidableEq Value:=Classical.typeDecidableEq Value
section
variable{P:Program}
def A00{ks:List LK}(h:leaves P d t=some (ag,ks))(w:World):(isAgg t).run P w=.ok ag w:=by
 cases d with
 |zero=>simp[leaves]at h
 |succ d=>
  unfold leaves at h;split at h
  ·rename_i a;injection h with h;injection h with h1 h2;subst h1;unfold isAgg;rw[Dr,run_underlying a w];rfl
  ·rename_i a;injection h with h;injection h with h1 h2;subst h1;unfold isAgg;rw[Dr,run_underlying a w];rfl
  ·rename_i a;injection h with h;injection h with h1 h2;subst h1;unfold isAgg;rw[Dr,run_underlying a w];rfl
  ·rename_i c a;split at h
   ·cases h
   ·cases b:Ng P (leaves P d) 0 c.toList with
    |none=>rw[b]at h;simp at h
    |some l=>
     rw[b]at h;simp only[D?,l0z,Prod.mk.injEq]at h;have⟨h1,h2⟩:=h;subst h1;unfold isAgg;rw[Dr,run_underlying a w];rfl
  ·rename_i n e a;split at h
   ·split at h
    ·injection h with h;injection h with h1 h2;subst h1;unfold isAgg;rw[Dr,run_underlying a w];rfl
    ·cases h
   ·cases h
  ·cases h
def NR{ks:List LK}(h:leaves P d t=some (ag,ks))(hc:P.cellsOf t=ks.length)(b:ks.length≠0)(xs:Hx)(off:Nat)(e:off+ks.length<=xs.length)(w:World):
 (part t xs.toArray off).run P w=.ok (Vs ag ((xs.drop off).take ks.length)) w:=by
 unfold part;rw[Dr,A00 h w];simp only[Ga];cases ag with
 |true=>
  simp only[if_true];rw[Dr,Cg w (by rw[hc];exact b)];simp only[Ga,nJ,Vs,hc]
  congr 2
  apply qY;simp[List.take_drop]
 |false=>
  simp only[D!,if_false];have a:off<xs.length:=by omega
  rw[l15,KJ a];simp only[nJ,Vs]
  congr 1
  rw[rV a];cases c:ks.length with
  |zero=>exact absurd c b
  |succ n=>rfl
def B37(P:Program)(d:Nat)(t:TypeId):Prop:=
 ∀ag ks,leaves P d t=some (ag,ks)->∀(m:Nat)(xs a:Hx),fits ks xs=true->fits ks a=true->∀w,(Op.equalIn (m+d) t (Vs ag xs) (Vs ag a)).run P w=.ok (decide (xs=a)) w
def rB(j:∀t,B37 P d t)(m:Nat):∀(a:List Field)(off:Nat)(ks:List LK),Ng P (leaves P d) off a=some ks->∀(xs ys:Hx),fits ks (xs.drop off)=true->fits ks (ys.drop off)=true->
 off<=xs.length->off<=ys.length->∀w,(Op.eqFields (m+d) xs.toArray ys.toArray a).run P w=.ok (decide (xs.drop off=ys.drop off)) w:=by
 intro a
 induction a with
 |nil=>
  intro off ks h xs ys b c _ _ w;simp only[Ng,l0z]at h;subst h;have h1:=E1 b;have h2:=E1 c;simp only[Rv,List.length_eq_zero_iff]at h1 h2;rw[h1,h2];simp[Op.eqFields]
 |cons f a ih=>
  intro off ks h xs ys b c r s w;unfold Ng at h;split at h
  ·rename_i ag k1 g;split at h
   ·rename_i hc;simp only[KW,rU,l19,bne_iff_ne,ne_eq]at hc;have⟨c1,c2,c3,c4⟩:=hc;have c4:k1.length≠0:=λe=>by rw[e]at c4;simp at c4
    cases hr:Ng P (leaves P d) (off+k1.length) a with
    |none=>rw[hr]at h;simp at h
    |some q=>
     rw[hr]at h;simp only[D?,l0z]at h;subst h;have⟨p,i⟩:=NV b;have⟨y1,y2⟩:=NV c;rw[l1a]at i y2;have k:=E1 b;have n:=E1 c;simp only[l0u,EN]at k n;simp only[Op.eqFields];rw[Dv c1,Dr,c2,NR g c3 c4 xs off (by omega) w];simp only[Ga];rw[Dr,NR g c3 c4 ys off (by omega) w];simp only[Ga];rw[Dr,j f.type ag k1 g m _ _ p y1 w];simp only[Ga];rw[iG k1.length (xs.drop off) (ys.drop off),l1a,l1a];cases hq:decide (List.take k1.length (List.drop off xs)=List.take k1.length (List.drop off ys))
     ·simp
     ·simp only[Bool.not_true,D!,if_false,l1b];exact ih _ _ hr xs ys i y2 (by omega) (by omega) w
   ·cases h
  ·cases h
def wD{e:TypeId}(j:B37 P d e)(m:Nat){ks:List LK}(f:leaves P d e=some (ag,ks))(hc:P.cellsOf e=ks.length)(a:ks.length≠0):∀(n i:Nat)(xs ys:Hx),fits (List.replicate n ks).flatten (xs.drop (i*ks.length))=true->fits (List.replicate n ks).flatten (ys.drop (i*ks.length))=true->
 i*ks.length<=xs.length->i*ks.length<=ys.length->∀w,(Op.eqItems (m+d) e (P.cellsOf e) xs.toArray ys.toArray (List.range' i n)).run P w=.ok (decide (xs.drop (i*ks.length)=ys.drop (i*ks.length))) w:=by
 intro n
 induction n with
 |zero=>
  intro i xs ys b c _ _ w;have h1:=E1 b;have h2:=E1 c;simp only[List.replicate_zero,List.flatten_nil,Rv,List.length_eq_zero_iff]at h1 h2;rw[h1,h2];simp[Op.eqItems]
 |succ n ih=>
  intro i xs ys b c r s w;rw[l1c,l1d]at b c;have⟨q,g⟩:=NV b;have⟨y1,y2⟩:=NV c;rw[l1a]at g y2;have k:=E1 b;have p:=E1 c;simp only[l0u,EN]at k p;have h:i*ks.length+ks.length=(i+1)*ks.length:=by rw[l1e];omega
  rw[List.range'_succ];simp only[Op.eqItems];rw[Dr,hc,NR f hc a xs (i*ks.length) (by omega) w];simp only[Ga];rw[Dr,NR f hc a ys (i*ks.length) (by omega) w];simp only[Ga];rw[Dr,j ag ks f m _ _ q y1 w];simp only[Ga];rw[iG ks.length (xs.drop (i*ks.length)) (ys.drop (i*ks.length)),l1a,l1a,h];rw[h]at g y2;cases hq:decide (List.take ks.length (List.drop (i*ks.length) xs)=List.take ks.length (List.drop (i*ks.length) ys))
  ·simp
  ·simp only[Bool.not_true,D!,if_false,l1b];have:=ih (i+1) xs ys g y2 (by omega) (by omega) w;rw[hc]at this;exact this
def wC:∀(d:Nat)(t:TypeId),B37 P d t:=by
 intro d
 induction d with
 |zero=>intro t ag ks h;simp[leaves]at h
 |succ d r=>
  intro t ag ks h m xs u a b w;rw[<-lB];unfold leaves at h;split at h
  ·rename_i k c;injection h with h;injection h with h1 h2;subst h1 h2
   obtain⟨x,rfl⟩:=l1f.1 (E1 a);obtain⟨y,rfl⟩:=l1f.1 (E1 b)
   ·
    simp only[fits,l1g]at a b;cases x<;>simp[LK.fit]at a
    cases y<;>simp[LK.fit]at b
    subst a b;simp only[Vs,List.headD];rw[run_equalIn_int w (m+d) t _ _ _ _ c]
    congr 1
    rw[qW];simp
  ·rename_i c;injection h with h;injection h with h1 h2;subst h1 h2
   obtain⟨x,rfl⟩:=l1f.1 (E1 a);obtain⟨y,rfl⟩:=l1f.1 (E1 b)
   ·
    simp only[fits,l1g]at a b;cases x<;>simp[LK.fit]at a
    cases y<;>simp[LK.fit]at b
    simp only[Vs,List.headD];rw[run_equalIn_string w (m+d) t _ _ c]
    congr 1
    rw[<-beq_toListBytes,qW,MapKept.bytes_beq];simp
  ·rename_i c;injection h with h;injection h with h1 h2;subst h1 h2
   obtain⟨x,rfl⟩:=l1f.1 (E1 a);obtain⟨y,rfl⟩:=l1f.1 (E1 b)
   ·
    simp only[fits,l1g]at a b;cases x<;>simp[LK.fit]at a
    cases y<;>simp[LK.fit]at b
    simp only[Vs,List.headD];rw[run_equalIn_bool' w (m+d) t _ _ c]
    congr 1
    rw[qW];simp
  ·rename_i j c;split at h
   ·cases h
   ·rename_i q;cases f:Ng P (leaves P d) 0 j.toList with
    |none=>rw[f]at h;simp at h
    |some l=>
     rw[f]at h;simp only[D?,l0z,Prod.mk.injEq]at h;have⟨h1,h2⟩:=h;subst h1 h2;have s:P.fieldsOf t=j:=by simp[Program.fieldsOf,c]
     simp only[Vs];rw[run_equalIn_struct w (m+d) t _ _ (by rw[s];exact c) (by simpa using q),s];exact rB r m j.toList 0 l f xs u a b (l1h _) (l1h _) w
  ·rename_i n e c;split at h
   ·rename_i v k1 f;split at h
    ·rename_i hc;simp only[KW,rU,l19]at hc;have g:k1.length≠0:=λA=>by have:=hc.2;rw[A]at this;simp at this
     injection h with h;injection h with h1 h2;subst h1 h2
     simp only[Vs];obtain⟨i,hi⟩:∃i,P.info? e=some i:=by
      cases p:P.info? e with
      |none=>exfalso;exact g (by rw[<-hc.1];simp[Program.cellsOf,p])
      |some i=>exact⟨i,rfl⟩
     rw[run_equalIn_array w (m+d) _ _ c hi,List.range_eq_range'];have:=wD (r e) m f hc.1 g n 0 xs u (by simpa using a) (by simpa using b) (by simp) (by simp) w;simpa using this
    ·cases h
   ·cases h
  ·cases h
structure EqFlat(P:Program)(t:TypeId)(ks:List LK):Prop where
 leaves:leaves P 6 t=some (true,ks)
 guard:P.eqGuardType P.depth t=false
def EqFlat.equal{ks:List LK}(h:EqFlat P t ks){xs ys:Hx}(a:fits ks xs=true)(b:fits ks ys=true)(w:World):(Op.equal t (.agg xs.toArray) (.agg ys.toArray)).run P w=.ok (decide (xs=ys)) w:=
 wC 6 t true ks h.leaves 9994 xs ys a b w
def rF:∀(d:Nat)(t:TypeId)(ag:Bool)(ks:List LK),leaves P d t=some (ag,ks)->∀(m:Nat)(em:Bool)(xs:Hx),fits ks xs=true->∀w,(Instr.checkKey em (m+d) t (Vs ag xs)).run P w=.ok () w:=by
 intro d
 induction d with
 |zero=>intro t ag ks h;simp[leaves]at h
 |succ d A=>
  intro t ag ks h m em xs b w;rw[<-lB];unfold Instr.checkKey;unfold leaves at h;split at h
  ·rename_i k a;rw[Dr,run_underlying a w];rfl
  ·rename_i a;rw[Dr,run_underlying a w];rfl
  ·rename_i a;rw[Dr,run_underlying a w];rfl
  ·rename_i B a;split at h
   ·cases h
   ·rename_i F;cases g:Ng P (leaves P d) 0 B.toList with
    |none=>rw[g]at h;simp at h
    |some l=>
     rw[g]at h;simp only[D?,l0z,Prod.mk.injEq]at h;have⟨h1,h2⟩:=h;subst h1 h2;rw[Dr,run_underlying a w];simp only[Ga,Vs];rw[<-Array.forIn_toList];generalize B.toList=c at g;have key:∀(c:List Field)(off:Nat)(l:List LK),Ng P (leaves P d) off c=some l->fits l (xs.drop off)=true->off<=xs.length->
      (forIn c PUnit.unit (λf(_:PUnit)=>(if f.name≠ "_" then(do let y<-part f.type xs.toArray f.offset;Instr.checkKey em (m+d) f.type y;pure (ForInStep.yield PUnit.unit)) else pure (ForInStep.yield PUnit.unit):Sem (ForInStep PUnit)))).run P w=.ok PUnit.unit w:=by
      intro c
      induction c with
      |nil=>intro off l _ _ _;simp
      |cons f c ih=>
       intro off l h b H;unfold Ng at h;split at h
       ·rename_i ag k1 r;split at h
        ·rename_i hc;simp only[KW,rU,l19,bne_iff_ne,ne_eq]at hc;have⟨c1,c2,c3,c4⟩:=hc;have c4:k1.length≠0:=λe=>by rw[e]at c4;simp at c4
         cases hr:Ng P (leaves P d) (off+k1.length) c with
         |none=>rw[hr]at h;simp at h
         |some J=>
          rw[hr]at h;simp only[D?,l0z]at h;subst h;have⟨x,p⟩:=NV b;rw[l1a]at p;have v:=E1 b;simp only[l0u,EN]at v;rw[List.forIn_cons,Dv c1,Dr,Dr,c2,NR r c3 c4 xs off (by omega) w];simp only[Ga];rw[Dr,A f.type ag k1 r m em _ x w];simp only[Ga,nJ];exact ih _ _ hr p (by omega)
        ·cases h
       ·cases h
     have:=key c 0 l g (by simpa using b) (l1h _);rw[Dr];refine(congrArg (λq=>Result.andThen q _) this).trans ?_;rfl
  ·rename_i n e a;split at h
   ·rename_i u k1 g;split at h
    ·rename_i hc;simp only[KW,rU,l19]at hc;have s:k1.length≠0:=λC=>by have:=hc.2;rw[C]at this;simp at this
     injection h with h;injection h with h1 h2;subst h1 h2
     have hsz:(sizeOf e).run P w=.ok (P.cellsOf e) w:=Cg w (by rw[hc.1];exact s);rw[Dr,run_underlying a w];simp only[Ga,Vs];simp only[Std.Legacy.Range.forIn_eq_forIn_range',Std.Legacy.Range.size,Nat.sub_zero,Nat.add_one_sub_one,Nat.div_one];have key:∀(n i:Nat),fits (List.replicate n k1).flatten (xs.drop (i*k1.length))=true->i*k1.length<=xs.length->
      (forIn (List.range' i n) PUnit.unit (λj(_:PUnit)=>(do let z<-sizeOf e;let y<-part e xs.toArray (j*z);Instr.checkKey em (m+d) e y;pure (ForInStep.yield PUnit.unit):Sem (ForInStep PUnit)))).run P w=.ok PUnit.unit w:=by
      intro n
      induction n with
      |zero=>intro i _ _;simp
      |succ n ih=>
       intro i b H;rw[l1c,l1d]at b;have⟨x,p⟩:=NV b;rw[l1a]at p;have v:=E1 b;simp only[l0u,EN]at v;have D:i*k1.length+k1.length=(i+1)*k1.length:=by rw[l1e];omega
       rw[D]at p;rw[List.range'_succ,List.forIn_cons,Dr,Dr,hsz];simp only[Ga];rw[Dr,hc.1,NR g hc.1 s xs (i*k1.length) (by omega) w];simp only[Ga];rw[Dr,A e u k1 g m em _ x w];simp only[Ga,nJ];exact ih (i+1) p (by omega)
     have:=key n 0 (by simpa using b) (by simp);rw[Dr];refine(congrArg (λq=>Result.andThen q _) this).trans ?_;rfl
    ·cases h
   ·cases h
  ·cases h
def kW(P:Program)(f:FuncId):Prop:=∀(x:Value)(w:World),(callFunc f #[x]).run P w=.ok (.value x) w
def EqFlat.check{ks:List LK}(h:EqFlat P t ks){xs:Hx}(a:fits ks xs=true)(em:Bool)(w:World):(Instr.checkKey em 10000 t (.agg xs.toArray)).run P w=.ok () w:=
 rF 6 t true ks h.leaves 9994 em xs a w
end
end
section
variable{K:K2}{w0:Base}{b:Bool}{C:Ctx}{w:World}{x:XFn}
abbrev KQ:=Exit->Tm->Ru
abbrev A0A:=Cf->Code->Tm->Hp->KQ->Af
structure Rt where
 call:B38
 run:A0A
def unV:AV->Value
 |.v x=>x
 |_=>undef
def isV:AV->Bool
 |.v _=>true
 |_=>false
def XE.G(E:XE):Gl:=λg=>(E.gl.get g).map λcs=>cs.map unV
def T2(D:Nat->List Oper->Bool):Code->Bool
 |.region id a true=>D id a.toList
 |.seq x y=>T2 D x&&T2 D y
 |.cond _ x y=>T2 D x&&T2 D y
 |.block _ x=>T2 D x
 |.loop x=>T2 D x
 |.scope x=>T2 D x
 |_=>true
structure XE.Ok(D:XE->Cf->Nat->List Oper->Bool)(E:XE)(P:Program):Prop where
 ty:kU P E.T
 pos:∀t i e esz,E.T t=some i->(i.d=.slice e esz\/∃n,i.d=.array n e esz)->esz≠0
 mix:P.follows .mixedOrders=true
 gl:∀g cs,E.gl.get g=some cs->cs.all isV=true
 fn:∀f x,E.ft.get f=some x->∃fn,P.funcs[f]?=some fn/\fn.body=some x.c/\fn.ntmps=x.n/\fn.results.toList=x.rs/\(fn.name== "runtime.NumGoroutine")=false/\T2 (D E ⟨false,x.lv,x.fz,x.n,x.rc⟩) x.c=true
 eq:∀t ks,E.eqt.get t=some ks->EqFlat P t ks
 lie:∀e n o u,(e,n,o,u)∈E.lie->liesAt P P.depth e (n/P.cellsOf e) o u 1=true/\(P.info? u).isSome=true
 up:E.lie.isEmpty=false->P.underlying E.up=some .unsafePointer
 ne:∀f,E.ne f=true->kW P f
def XE.env(E:XE)(P:Program):Env:={P:=P,G:=E.G,T:=E.T}
def XE.Ok.env{D:XE->Cf->Nat->List Oper->Bool}{E:XE}{P:Program}(h:XE.Ok D E P):(E.env P).Ok:=⟨h.ty,h.pos,h.mix⟩
def eC(P:Program)(f:Nat):Prop:=∃fn,P.funcs[f]?=some fn/\fn.body.isNone=false/\(fn.name== "runtime.NumGoroutine")=false
def kV(D:XE->Cf->Nat->List Oper->Bool)(E:XE)(P:Program)(R:A0A):Prop:=
 ∀(ro:Option Nat)(a:Cf)(c:Code)(t:Tm)(H:Hp)(K:KQ)(r:AV×Hp)(m:Nat),(ro≠none->a.b=true)->(a.b=false->T2 (D E a) c=true)->R a c t H K=some r->QU P E.G ro m a.n c (λe g d=>K e g d=some r) t H
structure RSound(D:XE->Cf->Nat->List Oper->Bool)(E:XE)(P:Program)(R:Rt):Prop where
 run:kV D E P R.run
 call:∀(f:Nat)(args:Is)(H:Hp)(K:KV)(r:AV×Hp),R.call f args H K=some r->eC P f/\Rr P E.G f args H (λv H'=>K v H'=some r)
def zgo(E:XE)(R:A0A)(x:XFn)(args:Is)(H:Hp)(K:KV):Af:=
 A6t args 0 λk=>ckS (Nat.ble k x.n) (B5S args 0 λt=>R ⟨false,x.lv,x.fz,x.n,x.rc⟩ x.c t H (C2b E x.rs K))
def O!(E:XE)(R:A0A)(f:Nat)(args:Is)(H:Hp)(K:KV):Af:=E.ft.getK f λx=>zgo E R x args H K
def depth:Nat:=12
def Ax(a:Af)(K:K2):Af:=match a with|some (v,_)=>K v|none=>none
def Ap(R:Rt)(f:Nat)(args:Is)(H:Hp)(K:K2):Af:=
 IG (HU true H depth) args λq a=>Ax (R.call f a [] λv c=>HU (!q) c depth v λ_ d=>some (d,[])) K
section
variable{D:XE->Cf->Nat->List Oper->Bool}{E:XE}{P:Program}{R:Rt}{f:Nat}{args:Is}{H:Hp}{r:AV×Hp}
def C4l(c:XE.Ok D E P)(d:E.ft.get f=some x):eC P f:=by
 have⟨fn,h1,h2,e,g,a,h⟩:=c.fn f x d;exact⟨fn,h1,by rw[h2];rfl,a⟩
def A6Z(d:XE.Ok D E P){a:A0A}(q:kV D E P a)(s:E.ft.get f=some x){K:KV}(h:zgo E a x args H K=some r):Rr P E.G f args H (λv g=>K v g=some r):=by
 unfold zgo at h;rw[B1N]at h;have⟨e,h⟩:=Mj h;rw[B5R]at h;have⟨fn,h1,h2,j,k,t,m⟩:=d.fn f x s;refine A8L (E:=E) (T:=E.T) d.ty (λty i h=>h) h1 h2 ?_;have e:args.length<=x.n:=by rw[kZ]at e;omega
 have p:args.length+(fn.ntmps-args.length)=x.n:=by rw[j];omega
 rw[p,k];exact q none ⟨false,x.lv,x.fz,x.n,x.rc⟩ x.c _ H _ r (Ar H) (λh=>absurd rfl h) (λ_=>m) h
def zM(c:XE.Ok D E P){a:A0A}(g:kV D E P a){K:KV}(h:O! E a f args H K=some r):eC P f/\Rr P E.G f args H (λv e=>K v e=some r):=by
 have⟨x,d,h⟩:=Bk h;exact⟨C4l c d,A6Z c g d h⟩
def Keep.toBelow{w w':World}(h:Keep ⟨w,λ_=>False⟩ w'):Below w.heap.size w w':=⟨h.os,h.tape,h.output,h.size,λb hb=>h.block b hb id⟩
def A2p{G:Gl}{b q:Bool}(h:Rel G w0 C H w):(∀k i,(VU b q C H).F k i->k<w.heap.size)/\∀k,(VU b q C H).B k->k<w.heap.size:=by
 refine⟨λk i d=>?_,λk c=>?_⟩
 ·rcases d with⟨_,d⟩|⟨_,s,x,o,a,e⟩
  ·exact h.fin k i d
  ·exact(h.rows s x a).block (ED a) e
 ·rcases c with⟨_,c⟩|⟨_,s,x,o,a,e⟩
  ·exact h.finB k c
  ·exact(h.rows s x a).block (ED a) e
def A4y{G:Gl}(hr:Rel G w0 C H w)(args:Is)(ys:Hx)(K:Bool->Is->Af)(d:CJ C w args ys)(h:IG (HU true H depth) args K=some r):∃q c,CJ (VU true q C H) w c ys/\K q c=some r:=
 oV (f:=HU true H depth) (b:=true) (λa y K hv h=>vR hr depth a y K hv h) args ys K d h
def Tf:∀(f:AV->(Bool->K2)->Af)(d:∀a K,f a K=some r->∃q c,K q c=some r)(l:Is)(K:Bool->Is->Af),IG f l K=some r->∃q e,K q e=some r:=by
 intro f d l
 induction l with
 |nil=>intro K h;exact⟨_,_,h⟩
 |cons a l ih=>
  intro K h;have⟨q,c,h⟩:=d a _ h;have⟨g,e,h⟩:=ih _ h;exact⟨_,_,h⟩
def B1n:∀(f:AV->(Bool->K2)->Af)(d:∀a K,f a K=some r->∃q c,K q c=some r)(l:IH)(K:Bool->IH->Af),Rs f l K=some r->∃q e,K q e=some r:=by
 intro f d l
 induction l with
 |nil=>intro K h;exact⟨_,_,h⟩
 |cons a l ih=>
  intro K h;have⟨q,c,h⟩:=d a.2 _ h;have⟨g,e,h⟩:=ih _ h;exact⟨_,_,h⟩
def B5r:∀(n:Nat)(a:AV)(K:Bool->K2),HU b H n a K=some r->∃q c,K q c=some r:=by
 intro n
 induction n with
 |zero=>
  intro a K h;change A27 b a K=some r at h;unfold A27 at h;split at h
  ·exact⟨_,_,h⟩
  ·exact⟨_,_,(B7 h).2⟩
  ·exact⟨_,_,(B7 h).2⟩
  ·exact⟨_,_,(B7 h).2⟩
  ·cases h
 |succ n ih=>
  intro a K h;change A26 b H (HU b H n) a K=some r at h;unfold A26 at h;split at h
  ·exact⟨_,_,h⟩
  ·exact⟨_,_,(B7 h).2⟩
  ·exact⟨_,_,(B7 h).2⟩
  ·exact⟨_,_,(B7 h).2⟩
  ·have⟨q,l,h⟩:=Tf _ ih _ _ h;exact⟨_,_,h⟩
  ·have⟨q,l,h⟩:=Tf _ ih _ _ h;exact⟨_,_,h⟩
  ·have⟨q,l,h⟩:=Tf _ ih _ _ h;have⟨q,l,h⟩:=Tf _ ih _ _ h;exact⟨_,_,h⟩
  ·have⟨q0,e,cs,_,h⟩:=Ka h;have⟨_,h⟩:=Ma _ _ _ _ h;have⟨q,l,h⟩:=Tf _ ih _ _ h;exact⟨_,_,h⟩
  ·have⟨q0,e,cs,_,h⟩:=Ka h;have⟨q,l,h⟩:=Tf _ ih _ _ h;exact⟨_,_,h⟩
  ·have⟨x,_,h⟩:=Iz rfl h;unfold qT at h;split at h
   ·have⟨q,l,h⟩:=B1n _ ih _ _ h;exact⟨_,_,h⟩
   ·cases h
  ·cases h
def RW{a:Af}(h:Ax a K=some r):∃v c,a=some (v,c)/\K v=some r:=by
 unfold Ax at h;split at h
 ·exact⟨_,_,rfl,h⟩
 ·cases h
def ZD(hR:RSound D E P R)(h:Ap R f args H K=some r):eC P f/\Rr P E.G f args H (λv L=>L=H/\K v=some r):=by
 unfold Ap at h;refine⟨?_,?_⟩
 ·have⟨q,l',h⟩:=Tf _ (λa K h=>B5r depth a K h) _ _ h;have⟨v,L,h1,_⟩:=RW h;exact(hR.call _ _ _ _ _ h1).1
 intro w0 C w ys hr ha;have⟨q,X,aa,u⟩:=A4y hr args ys _ ha h;have⟨v0,H0,u,Y⟩:=RW u;have hc:=(hR.call _ _ _ _ _ u).2;have J:=A2p (b:=true) (q:=q) hr;have Z:Rel E.G ⟨w,λ_=>False⟩ (VU true q C H) [] w:=
  ⟨λg cs hg i v hv=>⟨.inl ⟨rfl,(hr.glob g cs hg i v hv).1⟩,(hr.glob g cs hg i v hv).2⟩,.refl _ _,λ_ _ h=>by simp[Ah]at h,λ_ _ h=>by simp[Ah]at h,λ_ _ _ _ h=>by simp[Ah]at h,λ_ _ _ _ _ _ _ h=>by simp[Ah]at h,J.1,J.2,λ_ _=>rfl⟩
 refine(hc _ _ w ys Z aa).mono ?_;rintro e O ⟨v,y,V,L,rfl,t,hv,hx,j⟩;have⟨q2,v',ab,M⟩:=vR t depth v y _ hv j;injection M with M
 injection M with M ad
 subst M;have hb:Below w.heap.size w O:=t.below.toBelow;have m:∀k,Base.own ⟨w,λ_=>False⟩ k->w.heap.size<=k:=λk h=>h.elim id (λh=>h.elim)
 let Q:Ctx:={π:=C.π,F:=λk i=>C.F k i\/(w.heap.size<=k/\(VU (!q) q2 V L).F k i),B:=λk=>C.B k\/(w.heap.size<=k/\(VU (!q) q2 V L).B k)}
 have n:=A2p (b:=!q) (q:=q2) t;have e:Ext w0.own C w Q O:=⟨λ_ _=>rfl,λ_ _ h=>.inl h,λk i h=>hb.cell (p:=⟨k,i,none⟩) (hr.fin k i h),λ_ h=>.inl h,λk h=>hb.block k (hr.finB k h),
  λk arr T fz h=>⟨arr,fz,(hb.block k (l1v.1 h).1).trans h,rfl⟩,λk i h=>h.imp id (λh=>.inl (fR hr.below.size h.1)),λk h=>h.imp id (λh=>.inl (fR hr.below.size h.1)),hb.size⟩
 have N:Rel E.G w0 Q H O:=by
  refine⟨hr.glob.mono e,hr.below.below hb,hr.lt,λs x j=>(hr.rows s x j).mono e (λk ac A=>hb.block k ((hr.rows s x j).block (ED j) A)),λs x k o j A=>?_,hr.sep,λk i d=>?_,λk c=>?_,hr.nx⟩
  ·have h1:=hr.own s x k o j A;have h2:=(hr.rows s x j).block (ED j) A;refine⟨h1.1,λi d=>?_,λc=>?_⟩
   ·rcases d with d|d
    ·exact h1.2.1 i d
    ·have:=d.1;omega
   ·rcases c with c|c
    ·exact h1.2.2 c
    ·have:=c.1;omega
  ·rcases d with d|d
   ·exact l2r (hr.fin k i d) hb.size
   ·exact n.1 k i d.2
  ·rcases c with c|c
   ·exact l2r (hr.finB k c) hb.size
   ·exact n.2 k c.2
 have e2:Ext (λ_=>True) (VU (!q) q2 V L) O Q O:=by
  refine⟨λs h=>absurd rfl h,λk i d=>?_,λ_ _ _=>rfl,λk c=>?_,λ_ _=>rfl,λ_ a _ f h=>⟨a,f,h,rfl⟩,λ_ _ _=>.inr trivial,λ_ _=>.inr trivial,MC _⟩
  ·rcases d with⟨hq,d⟩|⟨hq,s,x,o,j,A⟩
   ·rcases hx.new k i d with h1|h1
    ·rcases h1 with⟨_,h1⟩|⟨h1,_⟩
     ·exact .inl h1
     ·rw[h1]at hq;cases hq
    ·exact .inr ⟨m k h1,.inl ⟨hq,d⟩⟩
   ·exact .inr ⟨m k (t.own s x k o j A).1,.inr ⟨hq,s,x,o,j,A⟩⟩
  ·rcases c with⟨hq,c⟩|⟨hq,s,x,o,j,A⟩
   ·rcases hx.newB k c with h1|h1
    ·rcases h1 with⟨_,h1⟩|⟨h1,_⟩
     ·exact .inl h1
     ·rw[h1]at hq;cases hq
    ·exact .inr ⟨m k h1,.inl ⟨hq,c⟩⟩
   ·exact .inr ⟨m k (t.own s x k o j A).1,.inr ⟨hq,s,x,o,j,A⟩⟩
 exact⟨v',y,Q,H,rfl,N,ab.mono e2,e.frm,rfl,Y⟩
end
end
section
variable{x:AV}{esz n:Nat}{i ie:TI}
def Zq(n:Nat)(cs:Is):(Is->Af)->Af:=
 @Nat.rec (λ_=>(Is->Af)->Af) (λK=>K []) (λ_ ih K=>ih λl=>Zu cs l K) n
def Zp(n:Nat)(cs:Is):∀K,Zq n cs K=K (YG n cs):=by
 induction n with
 |zero=>intro K;rfl
 |succ n ih=>
  intro K;have e:Zq (n+1) cs K=Zq n cs λl=>Zu cs l K:=rfl;rw[e,ih,Ni];rfl
def GF(e:TypeId)(esz:Nat)(ie:TI)(n:Nat)(l:List (Nat×Nat×AV))(H:Hp)(K:KV):Af:=
 He ie.zero λz=>HN z 0 λk=>ck (Nat.beq k esz&&(!Nat.beq esz 0&&Nat.ble (Nat.mul n esz) 16777216)) (Zq n z λcs=>fY l cs λa=>HE H λs=>K (.sl esz s 0 n) ((s,.cells false e a)::H))
def Z6(esz:Nat)(ie:TI)(n:Nat)(l:List (Nat×Nat×AV))(K:K2):Af:=
 He ie.zero λz=>HN z 0 λk=>ck (Nat.beq k esz&&(!Nat.beq esz 0&&Nat.ble (Nat.mul n esz) 16777216)) (Zq n z λcs=>fY l cs λa=>ck (a.all (dA 2)) (K (.list n a)))
def fZ(l:Ha):(Is->Af)->Af:=@List.rec UInt8 (λ_=>(Is->Af)->Af) (λK=>K []) (λb _ ih K=>fN b.toNat λn=>ih λl=>K (.v (.int .u8 (.ofNat n))::l)) l
def ZT(l:Ha):∀K:Is->Af,fZ l K=K (l.map λb=>.v (.int .u8 b.toNat)):=by
 induction l with
 |nil=>intro K;rfl
 |cons b l ih=>
  intro K;have e:fZ (b::l) K=fN b.toNat λn=>fZ l λl=>K (.v (.int .u8 (.ofNat n))::l):=rfl;rw[e,DF,ih];rfl
def YD:TD->Bool
 |.slice .. =>true
 |.string=>true
 |_=>false
def Sj(esz:Nat):AV->Bool
 |.v (.string _)=>Nat.beq esz 1
 |_=>true
def A3U(h:Sj esz x=true):(match(generalizing:=false) x with|.v (.string _)=>esz=1|_=>True):=by
 split
 ·exact ZR h
 ·trivial
def Tw(H:Hp)(x:AV)(K:Nat->Is->Af):Af:=
 match x with
 |.list m cs=>K m cs
 |.sl sz r o m=>IP H r λx=>Kb x λ_ cs=>E9 (Nat.mul m sz) (Dn o cs) λc=>K m c
 |.v (.slice none 0 0)=>K 0 []
 |.v (.string s)=>HN s.data.toList 0 λm=>fZ s.data.toList λl=>K m l
 |_=>none
def fu8(cs:Is):(Ha->Af)->Af:=
 @List.rec AV (λ_=>(Ha->Af)->Af) (λK=>K []) (λa _ ih K=>match a with|.v (.int .u8 z)=>iN z λn=>ih λl=>K (UInt8.ofNat n::l)|_=>none) cs
def A2k{r:AV×Hp}:∀(cs:Is)(K:Ha->Af),fu8 cs K=some r->∃b:Hb,cs=b.map (λn=>.v (.int .u8 (n:Int)))/\K (b.map UInt8.ofNat)=some r:=by
 intro cs
 induction cs with
 |nil=>intro K h;exact⟨[],rfl,h⟩
 |cons a cs ih=>
  intro K h;have h:(match(generalizing:=false) a with|.v (.int .u8 z)=>iN z λn=>fu8 cs λl=>K (UInt8.ofNat n::l)|_=>none)=some r:=h;split at h
  ·have⟨n,c,h2⟩:=XC h;have⟨b,d,e⟩:=ih _ h2;exact⟨n::b,by rw[c,d];rfl,e⟩
  ·cases h
def zF(a:AV)(H:Hp)(K:K2):Af:=
 match a with
 |.v (.string _)=>none
 |a=>Tw H a λm cs=>HN cs 0 λk=>ck (Nat.beq k m) (fu8 cs λl=>K (.v (.string ⟨⟨l⟩⟩)))
section
variable{T:Ty}{H:Hp}{r:AV×Hp}
def B2t{ty e:TypeId}{l:List (Nat×Nat×AV)}{ps:List (Nat×AV)}{K:KV}(m:T ty=some i)(s:i.d=.slice e esz)(b:T e=some ie)(he:(ps.map λp=>(some (p.1*esz,esz)).map λq=>(q.1,q.2,p.2))=l.map some)(h:GF e esz ie n l H K=some r):
 ∃v c,K v c=some r/\hC T ty n ps H (Ar H) (λt a=>t=v/\a=c):=by
 rw[GF,CP,C4]at h;have⟨h1,h⟩:=B7 h;rw[Zp]at h;have⟨f,h2,k⟩:=Zr (place:=λj=>some (j*esz,esz)) l ps _ _ he h;rw[BS]at h2;simp only[KW,rU,l19,kZ]at h1;refine⟨_,_,h2,?_⟩;unfold hC;simp only[m,s,b];refine⟨λg=>?_,by omega,?_,by rw[k];simp[Mu]⟩
 ·have:=h1.2.1;rw[g]at this;simp at this
 ·have:=h1.2.2;exact this
def ZU{K:Nat->Is->Af}(h:Tw H x K=some r):∃m cs q,A30 H x=some (m,cs,q)/\K m cs=some r:=by
 unfold Tw at h;split at h
 ·exact⟨_,_,_,rfl,h⟩
 ·have⟨q0,e,cs,h1,h2⟩:=Ka h;have⟨b,a⟩:=Ma _ _ _ _ h2;rw[CA]at a;exact⟨_,_,_,by simp only[A30,h1];rfl,a⟩
 ·exact⟨_,_,_,rfl,h⟩
 ·rename_i s;rw[C4]at h;rw[ZT]at h;exact⟨_,_,_,rfl,by rw[JZ]at h;exact h⟩
 ·cases h
def A4d:∀(a:Hb)(acc:Ha),(a.map λn:Nat=>(n:Int)).foldl (λ(r:ByteArray)n=>r.push (UInt8.ofNat n.toNat)) ⟨⟨acc⟩⟩=⟨⟨acc++a.map UInt8.ofNat⟩⟩:=by
 intro a
 induction a with
 |nil=>intro acc;simp
 |cons n a ih=>
  intro acc;simp only[X0,List.foldl_cons,kY];have:(⟨⟨acc⟩⟩:ByteArray).push (UInt8.ofNat n)=⟨⟨acc++[UInt8.ofNat n]⟩⟩:=by simp[ByteArray.push]
  rw[this,ih];simp
def A59{P:Program}{G:Gl}{w0:Base}{C:Ctx}{w:World}{a:AV}{y:Value}{K:K2}(hr:Rel G w0 C H w)(hv:VRel C w a y)(h:zF a H K=some r):(∀s,y≠.string s)/\∃l:Ha,K (.v (.string ⟨⟨l⟩⟩))=some r/\(Conv.bytesToString y).run P w=.ok (.string ⟨⟨l⟩⟩) w:=by
 unfold zF at h;split at h
 ·cases h
 ·rename_i t;have⟨m,cs,q,g,h⟩:=ZU h;rw[C4]at h;have⟨F,h⟩:=B7 h;have F:cs.length=m:=by have:=ZR F;omega
  have⟨k,B,A⟩:=A2k _ _ h;subst B;have⟨d,vs,u,b⟩:=XS (P:=P) (esz:=1) hr hv g (by omega) (λs J=>absurd J (t s));have b:=b w (λ_ _=>rfl);have j:vs=k.map λn:Nat=>Value.int .u8 (n:Int):=by
   apply l0p;intro i;cases hi:(k.map λn:Nat=>AV.v (.int .u8 (n:Int)))[i]? with
   |none=>
    have h1:k.length<=i:=by simpa using List.getElem?_eq_none_iff.1 hi
    rw[l1j (by rw[u.1];simpa using h1),l1j (by simpa using h1)]
   |some c=>
    have⟨M,L,D⟩:=u.2 i c hi;rw[L];rw[yY]at hi⊢;cases hn:k[i]? with
    |none=>rw[hn]at hi;cases hi
    |some n=>
     rw[hn]at hi;injection hi with hi
     subst hi;have:=AQ.1 D.unsel;rw[this];rfl
  have f:∀s,y≠.string s:=by
   intro s e;subst e;cases hv with
   |v=>exact t s rfl
   |dk=>simp[A30]at g
  refine⟨f,_,A,?_⟩;cases y with
  |slice p n cap=>
   have hn:n=m:=by
    simp only[Builtin.lenOf,nJ]at d;injection d
   subst hn;cases p with
   |none=>
    simp only[Builtin.firstCells,nJ]at b;injection b with b
    have:vs=[]:=by
     have:=congrArg Array.toList b;simpa using this.symm
    rw[j]at this;have:k=[]:=by simpa using this
    subst this;rfl
   |some p=>
    have e:(Builtin.firstCells 1 n (.slice (some p) n cap))=loadCells p (n*1):=rfl;rw[e,rT,j]at b;have:=run_bytesToString w p n cap (k.map λn:Nat=>(n:Int)) (by rw[b];simp[l1y]);rw[this];have:=A4d k [];rw[show(ByteArray.empty:ByteArray)=⟨⟨[]⟩⟩ from rfl,this];rfl
  |string s=>exact absurd rfl (f s)
  |_=>simp[Builtin.lenOf]at d
def Wa(e:TypeId)(esz:Nat)(ie i2:TI)(s x:AV)(H:Hp)(K:KV):Af:=
 Tw H x λm a=>HN a 0 λk=>He ie.zero λz=>HN z 0 λf=>
  ck (Nat.beq k (Nat.mul m esz)&&(Oe a&&(!Nat.beq esz 0&&(Nat.beq f esz&&(YD i2.d&&Sj esz x)))))
   (match s with
   |.v (.slice none 0 0)=>ck (Nat.ble (Nat.mul m ie.bytes) 70368744177664&&Nat.ble m 70368744177664) (@Bool.rec (λ_=>Af) (HE H λr=>K (.sl esz r 0 m) ((r,.cells false e a)::H)) (K (.v (.slice none 0 0)) H) (Nat.beq m 0))
   |.sl sz r1 o n=>IP H r1 λx=>Kb x λE cs=>HN cs 0 λcl=>
    ck (Nat.beq E e&&(Nat.beq sz esz&&(Nat.beq (Nat.add o (Nat.mul n esz)) cl&&(Nat.ble (Nat.mul (Nat.add n m) ie.bytes) 70368744177664&&Nat.ble (Nat.add n m) 70368744177664))))
     (Zu (Dn o cs) a λb=>LJ H r1 .gone λc=>HE H λr=>fN (Nat.add n m) λnm=>K (.sl esz r 0 nm) ((r,.cells false e b)::c))
   |_=>none)
def K_{t1 t2 e:TypeId}{i1 i2 ie:TI}{s x:AV}{K:KV}(h1:T t1=some i1)(h2:T t2=some i2)(t:i1.d=.slice e esz)(g:T e=some ie)(h:Wa e esz ie i2 s x H K=some r):
 ∃v j,K v j=some r/\ZE T t1 t2 s x H (Ar H) (λy b=>y=v/\b=j):=by
 unfold Wa at h;have⟨m,A,q,a,h⟩:=ZU h;rw[C4,CP,C4]at h;have⟨hc,h⟩:=B7 h;simp only[KW,rU,FM,l19]at hc;have⟨c1,c2,c3,c4,c5,c6⟩:=hc;have p1:esz≠0:=λc=>by rw[c]at c3;simp at c3
 have p2:(B4 ie.zero).length=esz:=by omega
 unfold ZE;simp only[h1,h2,t,g,a,Mu];have pre:=And.intro p1 (And.intro p2 (And.intro (show(match i2.d with|.slice .. =>True|.string=>True|_=>False) from by cases f:i2.d<;>rw[f]at c5<;>first|trivial|cases c5) (A3U c6)));split at h
 ·have⟨hb,h⟩:=B7 h;simp only[KW,kZ]at hb;by_cases hm:m=0
  ·subst hm;exact⟨_,_,h,pre,⟨by simpa using c1,c2⟩,by simpa using hb,rfl,rfl⟩
  ·have c:Nat.beq m 0=false:=by
    cases m with
    |zero=>exact absurd rfl hm
    |succ m=>rfl
   rw[c]at h;simp only[BS]at h;simp only[CL hm];exact⟨_,_,h,pre,⟨by simpa using c1,c2⟩,by simpa using hb,rfl,rfl⟩
 ·rename_i sz r1 o n;have⟨q0,E,cs,u,h⟩:=Ka h;rw[C4]at h;have⟨hb,h⟩:=B7 h;rw[Ni,Dh,BS,DF,CA]at h;simp only[KW,rU,kZ]at hb;have⟨b1,b2,k,b4,p⟩:=hb;refine⟨_,_,h,pre,⟨by simpa using c1,c2⟩,?_⟩;simp only[u];exact⟨⟨b1,b2,by simpa using k,b4,p⟩,rfl,rfl⟩
 ·cases h
variable{P:Program}{G:Gl}{w0:Base}{C:Ctx}{w w':World}
def Ctx.addF(C:Ctx)(b:Nat):Ctx:={C with F:=λk i=>C.F k i\/k=b}
def Rel.new_fixed(h:Rel G w0 C H w)(hb:Below w.heap.size w w')(j:w.heap.size<w'.heap.size):Rel G w0 (C.addF w.heap.size) H w'/\Ext w0.own C w (C.addF w.heap.size) w':=by
 have e:Ext w0.own C w (C.addF w.heap.size) w':=⟨λ_ _=>rfl,λ_ _ h=>.inl h,λk i a=>hb.cell (p:=⟨k,i,none⟩) (h.fin k i a),λ_ h=>h,λk a=>hb.block k (h.finB k a),
  λk arr T fz a=>⟨arr,fz,(hb.block k (l1v.1 a).1).trans a,rfl⟩,λk i a=>a.imp id (λe=>.inl (by rw[e];exact h.below.size)),λk a=>.inl a,hb.size⟩
 refine⟨⟨h.glob.mono e,h.below.below hb,h.lt,λs x c=>(h.rows s x c).mono e (λk f d=>hb.block k ((h.rows s x c).block (ED c) d)),λs x k o c d=>?_,h.sep,λk i b=>?_,λk g=>l2r (h.finB k g) hb.size,h.nx⟩,e⟩
 ·have h1:=h.own s x k o c d;have h2:=(h.rows s x c).block (ED c) d;refine⟨h1.1,λi b=>?_,h1.2.2⟩;rcases b with b|b
  ·exact h1.2.1 i b
  ·omega
 ·rcases b with b|b
  ·exact l2r (h.fin k i b) hb.size
  ·omega
def A8t(Y:kU P T){ty e:TypeId}{l:List (Nat×Nat×AV)}{ps:List (Nat×AV)}{B:List (Nat×Value)}{K:K2}(hi:T ty=some i)(hd:i.d=.slice e esz)(N:T e=some ie)(he:(ps.map λp=>(some (p.1*esz,esz)).map λq=>(q.1,q.2,p.2))=l.map some)(h:Z6 esz ie n l K=some r)(k:ps.length=B.length)(hq:∀(j:Nat)(p:Nat×AV),ps[j]?=some p->∃z,B[j]?=some (p.1,z)/\VRel C w p.2 z)(hr:Rel G w0 C H w):
 ∃v y D w',K v=some r/\(Instr.buildSlice ty n B.toArray).run P w=.ok y w'/\VRel D w' v y/\Rel G w0 D H w'/\Ext w0.own C w D w':=by
 rw[Z6,CP,C4]at h;have⟨h1,h⟩:=B7 h;rw[Zp]at h;have⟨g,h2,hf⟩:=Zr (place:=λj=>some (j*esz,esz)) l ps _ _ he h;have⟨M,hK⟩:=B7 h2;simp only[KW,rU,l19,kZ]at h1;have m:esz≠0:=λe0=>by have:=h1.2.1;rw[e0]at this;simp at this
 have Q:(B4 ie.zero).length=esz:=by omega
 have Z:n*esz<=2^24:=h1.2.2;have ok:=Y ty i hi;have⟨hu,hc⟩:=ok.elem_slice hd;have X:=Y e ie N;have⟨z,hz,ez⟩:=X.run_zero (P:=P) w;have hsz:(sizeOf e).run P w=.ok esz w:=by rw[<-hc];exact Cg w (by rw[hc];exact m)
 have u:CJ C w (B4 ie.zero) z.cells.toList:=PH (t:=e) ez;have R:z.cells.size=esz:=by have:=u.1;simp at this;omega
 have V:CJ C w (YG n (B4 ie.zero)) ((List.range n).flatMap λ_=>z.cells.toList):=by rw[iL];exact ZQ u n
 have⟨b,F,A⟩:=jX (C:=C) (w:=w) ps B _ _ g k hq V hf;have c:¬(n*esz>2^24):=by omega
 have aa:b.length=n*esz:=by rw[A.1,kS _ _ _ hf,YF,Q]
 have L:=gD w (.cells b.toArray e);have⟨s,a⟩:=hr.new_fixed L (by simp);refine⟨_,.slice (some ⟨w.heap.size,0,none⟩) n n,_,_,hK,?_,?_,s,a⟩
 ·unfold Instr.buildSlice;rw[Dr,run_underlying hu w];simp only[Ga];rw[Dr,hsz];simp only[Ga,CL c,pure_bind];by_cases J:n*esz=0
  ·have O:n=0:=by rcases Nat.mul_eq_zero.1 J with h|h;exact h;exact absurd h m
   subst O;rw[Dv J];simp only[List.range_zero,List.flatMap_nil]at F;rw[show(Array.map (λx=>(#[]:Array Value)[x%(#[]:Array Value).size]!) (Array.range (0*esz)))= #[] from by rw[Nat.zero_mul];apply qY;simp,F];simp[newRow]
  ·rw[CL J,Dr,hz];simp only[Ga];have:=gQ z.cells n;rw[R]at this⊢;rw[this,F];simp[newRow]
 ·have g3:CJ (C.addF w.heap.size).bare {w with heap:=w.heap.push (.cells b.toArray e)} g b:=CJ.mono (C:=C.bare) (CJ.down 2 M A rfl rfl) a.bare;refine .list (MC _) (λi=>b.getD i undef) (λi hi=>.inr rfl) (λi hi=>?_) (λi hi=>?_)
  ·have f:i<b.length:=by rw[A.1];exact hi
   rw[cell_of_row _ w.heap.size (0+i) b.toArray e (0,0) (by simp)];simp[TV,f]
  ·have f:i<b.length:=by rw[A.1];exact hi
   rw[TV,KJ f];exact g3.get i hi
end
end
end Go.Abs
end
