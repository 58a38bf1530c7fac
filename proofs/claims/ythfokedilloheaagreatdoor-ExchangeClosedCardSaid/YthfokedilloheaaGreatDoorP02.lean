import Derived.ChangeKeysEq
import Derived.Laws.StructEq
import Derived.Laws.BytesString
import Derived.Laws.MakeOwn
import Derived.Laws.IdiomRangeMap
import Derived.Test.YthfokedilloheaaGreatDoorP01
set_option linter.all false
set_option maxHeartbeats 100000000
noncomputable section
namespace Go.Abs
open Go.RowKit
section
variable{r:AV×Hp}{tmps:Array Value}{fn:Func}{args:Is}{ys:Hx}{i k m:Nat}{t:Tm}{wa:World}
def Ctx.delB(C:Ctx)(b:Nat):Ctx:={C with B:=λk=>C.B k/\k≠b}
section
variable{P:Program}{G:Gl}{w0:Base}{C:Ctx}{H:Hp}{w w':World}{b:Nat}{o o':Obj}
def X_(hb:w.heap[b]?=some o)(a:∀arr T fz,o≠.cells arr T fz){v:Value}(h:w.cell? ⟨k,i,none⟩=some v):k≠b:=by
 intro e;subst e;simp only[World.cell?,hb]at h;cases o<;>simp at h
 exact a _ _ _ rfl
def SameObj.cell(c:SameObj w w' b o')(a:k≠b):w'.cell? ⟨k,i,none⟩=w.cell? ⟨k,i,none⟩:=l0t (c.others k a)
def VRel.shut(hb:w.heap[b]?=some (.deferred (some [])))(d:SameObj w w' b o'){a:AV}{y:Value}(h:VRel C w a y):VRel (C.delB b) w' a y:=by
 have n:∀arr T fz,(Obj.deferred (some []):Obj)≠.cells arr T fz:=λ_ _ _ h=>by cases h
 induction h with
 |v x=>exact .v x
 |ptr h=>exact .ptr h
 |iptr vs p hc _ ih=>exact .iptr vs p (λi hi=>(d.cell (X_ hb n (hc i hi))).trans (hc i hi)) (λi hi=>ih i hi hb d)
 |list0=>exact .list0
 |list h vs p hc _ ih=>exact .list h vs p (λi hi=>(d.cell (X_ hb n (hc i hi))).trans (hc i hi)) (λi hi=>ih i hi hb d)
 |sl h g c hsz=>exact .sl h g ((d.others _ (λe=>by subst e;rw[hb]at c;cases c)).trans c) hsz
 |slz hr=>exact .slz hr
 |fn ys D f q _ _ s u=>exact .fn ys D f q (λi hi=>s i hi hb d) (λi hi=>u i hi hb d)
 |agg ys f _ ih=>exact .agg ys f (λi hi=>ih i hi hb d)
 |tup ys f _ ih=>exact .tup ys f (λi hi=>ih i hi hb d)
 |mp h=>exact .mp h
 |@imap C w F b2 clock ms A c f B hn hc _ ih=>
  have j:b2≠b:=λe=>by subst e;rw[hb]at c;cases c
  exact .imap ms ⟨A,j⟩ ((d.others _ j).trans c) f B hn hc (λi hi=>ih i hi hb d)
 |yl h=>exact .yl h
 |it h=>exact .it h
 |dk y=>exact .dk y
theorem CF.shut(hb:w.heap[b]?=some (.deferred (some [])))(e:SameObj w w' b o'){c:Is}(h:CF C w c ys):CF (C.delB b) w' c ys:=
 ⟨h.1,λi a d=>let⟨y,f,hv⟩:=h.2 i a d;⟨y,f,hv.shut hb e⟩⟩
theorem Mb.shut(hb:w.heap[b]?=some (.deferred (some [])))(d:SameObj w w' b o'){es:IH}{ms:List MapEntry}(h:Mb C w es ms):Mb (C.delB b) w' es ms:=
 ⟨h.1,λi p c=>let⟨m,hm,a,hv⟩:=h.2 i p c;⟨m,hm,a,hv.shut hb d⟩⟩
theorem fE.shut(hb:w.heap[b]?=some (.deferred (some [])))(d:SameObj w w' b o'){ms:Array MapEntry}{seen:Array Nat}:∀{x:Option (Value×AV)},fE C w ms seen x->fE (C.delB b) w' ms seen x
 |none,_=>trivial
 |some _,⟨m,h1,h2,a,c⟩=>⟨m,h1,h2,a,c.shut hb d⟩
theorem Xz.shut(hb:w.heap[b]?=some (.deferred (some [])))(a:SameObj w w' b o')(h:Xz C w t tmps):Xz (C.delB b) w' t tmps:=λi=>(h i).shut hb a
def A0R(q:Bool):(C.delB b).sel q=(C.sel q).delB b:=by cases q<;>rfl
theorem Ts.shut(hb:w.heap[b]?=some (.deferred (some [])))(a:SameObj w w' b o'){r:Nat}{x:Row}(h:Ts C w r x):Ts (C.delB b) w' r x:=by
 have ne:∀{k:Nat}{q:Obj},w.heap[k]?=some q->(∀l,q≠.deferred l)->k≠b:=λn hq e=>by
  subst e;rw[hb]at n;injection n with n;exact hq _ n.symm
 cases x with
 |cells q T cs=>
  rcases h with⟨h1,h2⟩|⟨k,f,arr,fz,h⟩
  ·exact .inl ⟨h1,h2⟩
  ·refine .inr ⟨k,f,arr,fz,h.at_,(a.others k (ne h.block (λ_ e=>by cases e))).trans h.block,h.free,h.fits,?_,h.exact⟩;rw[A0R];exact h.vals.shut hb a
 |map q M L=>
  obtain⟨k,ms,clock,h1,c,g,d,j⟩:=h;refine⟨k,ms,clock,h1,(a.others k (ne c (λ_ e=>by cases e))).trans c,g,?_,j⟩;rw[A0R];exact d.shut hb a
 |loop N t ps J K u=>
  obtain⟨k,l,h1,h2,c,g,d,j,p,s,B⟩:=h;exact⟨k,l,h1,(a.others k (ne h2 (λ_ e=>by cases e))).trans h2,c,g,d,j,p,s,B.shut hb a⟩
 |iter left D=>
  obtain⟨k,F,since,seen,last,h1,h2,c⟩:=h;refine⟨k,F,since,seen,last,h1,(a.others k (ne h2 (λ_ e=>by cases e))).trans h2,?_⟩;rcases c with c|⟨m,ms,clock,v,y,A,g,d,j,p,s⟩
  ·exact .inl c
  ·have hm:=ne d (λ_ e=>by cases e);exact .inr ⟨m,ms,clock,v,y,A,⟨g,hm⟩,(a.others m hm).trans d,j,p.shut (C:=C.bare) hb a,s.shut (C:=C.bare) hb a⟩
 |gone=>trivial
theorem Rel.shut(h:Rel G w0 C H w)(hb:w.heap[b]?=some (.deferred (some [])))(n:w0.own b)(a:SameObj w w' b o'):Rel G w0 (C.delB b) H w':=by
 have d:∀arr T fz,(Obj.deferred (some []):Obj)≠.cells arr T fz:=λ_ _ _ h=>by cases h
 refine⟨λg cs j i v hv=>?_,h.below.same_obj a n,h.lt,λr x e=>(h.rows r x e).shut hb a,λr x k o e p=>?_,h.sep,λk i f=>a.size▸h.fin k i f,λk c=>a.size▸h.finB k c.1,h.nx⟩
 ·have:=h.glob g cs j i v hv;exact⟨this.1,(a.cell (X_ hb d this.2)).trans this.2⟩
 ·have:=h.own r x k o e p;exact⟨this.1,this.2.1,λc=>this.2.2 c.1⟩
def A6o(E:XE)(t:Tm)(H:Hp)(rs:List ResultVar):(Is->Af)->Af:=
 @List.rec ResultVar (λ_=>(Is->Af)->Af) (λK=>K [])
  (λr _ ih K=>match r with
   |.tmp i=>gtm t i λv=>ih λvs=>K (v::vs)
   |.cell a ty=>gtm t a λp=>E.ty.getK ty λi=>AE i p H λv=>ih λvs=>K (v::vs)) rs
def qR(vs:Is)(K:K2):Af:=
 @List.rec AV (λ_=>Af) (K (.tup [])) (λv l _=>@List.rec AV (λ_=>Af) (K v) (λu a _=>K (.tup (v::u::a))) l) vs
def A9v:Is->AV
 |[v]=>v
 |vs=>.tup vs
def A2J(vs:Is)(K:K2):qR vs K=K (A9v vs):=by
 match vs with
 |[]=>rfl
 |[v]=>rfl
 |v::u::l=>rfl
def XE.T(E:XE):Ty:=λty=>E.ty.get ty
def Bh{α:Type}{b:BT α}{K:α->Af}(h:b.getK i K=some r):∃v,b.get i=some v/\K v=some r:=by
 rw[BT.getK_eq]at h;split at h
 ·exact⟨_,by assumption,h⟩
 ·cases h
def A9D(tmps:Array Value):ResultVar->Sem Value
 |.tmp t=>pure (tmps.getD t undef)
 |.cell x t=>do loadVar t (<-asAddr (tmps.getD x undef))
def A6n{E:XE}{T:Ty}(y:jX P T)(s:∀ty i,E.ty.get ty=some i->T ty=some i)(hr:Rel G w0 C H w)(f:Xz C w t tmps):∀(rs:List ResultVar)(K:Is->Af),A6o E t H rs K=some r->
 ∃vs ys,(rs.mapM (A9D tmps)).run P w=.ok ys w/\CF C w vs ys/\K vs=some r:=by
 intro rs
 induction rs with
 |nil=>intro K h;exact⟨[],[],rfl,.nil,h⟩
 |cons x rs ih=>
  intro K h;cases x with
  |tmp i=>
   have h:(gtm t i λv=>A6o E t H rs λvs=>K (v::vs))=some r:=h;rw[UE]at h;obtain⟨vs,ys,h1,h2,d⟩:=ih _ h;refine⟨_,_::ys,?_,.cons (f i) h2,d⟩;rw[List.mapM_cons];simp only[A9D,Dn,mJ,FY,h1]
  |cell x ty=>
   have h:(gtm t x λp=>E.ty.getK ty λi=>AE i p H λv=>A6o E t H rs λvs=>K (v::vs))=some r:=h;rw[UE]at h;obtain⟨i,hi,h⟩:=Bh h;obtain⟨u,h,A⟩:=A27 (T:=T) (s _ _ hi) h;obtain⟨v,z,h1,h2,d⟩:=nZ y hr (f x) A;subst d;obtain⟨vs,ys,g,j,n⟩:=ih _ h;refine⟨v::vs,z::ys,?_,.cons h2 j,n⟩;rw[List.mapM_cons];have c:(do loadVar ty (<-asAddr (tmps.getD x undef)):Sem Value).run P w=.ok z w:=by
    generalize tmps.getD x undef=q at*;cases q<;>simp only[Instr.loadAt,Instr.sureAddr,Dn,run_stuck,Result.andThen_halt]at h1<;>try (cases h1;done)
    rename_i e;cases e with
    |none=>simp at h1
    |some e=>simpa [asAddr] using h1
   have a:(A9D tmps (.cell x ty)).run P w=.ok z w:=c;rw[Dn,a];simp only[FY,Dn,g,mJ]
def K?:Hx->Value
 |[y]=>y
 |ys=>.tuple ys.toArray
def A0W(h:(fn.results.toList.mapM (A9D tmps)).run P w=.ok ys w):
 (results fn tmps).run P w=.ok (K? ys) w:=by
 have e:results fn tmps=(do
  let vs<-fn.results.mapM (A9D tmps)
  pure (if h:vs.size=1 then vs[0] else .tuple vs)):=by
  unfold results
  congr 1
 rw[e,Dn,Array.mapM_eq_mapM_toList,Sem.run_map,h];simp only[FY,mJ]
 congr 1
 match ys with
 |[]=>rfl
 |[y]=>rfl
 |y::z::ys=>simp[K?]
def A3q{vs:Is}(h:CF C w vs ys):VRel C w (A9v vs) (K? ys):=by
 match vs,ys,h with
 |[],[],h=>exact DJ.2 ⟨[],rfl,h⟩
 |[v],[y],h=>exact h.get 0 (by simp)
 |v::u::vs,y::z::ys,h=>exact DJ.2 ⟨_,rfl,h⟩
 |[],_::_,h=>exact absurd h.1 (by simp)
 |[v],[],h=>exact absurd h.1 (by simp)
 |[v],_::_::_,h=>exact absurd h.1 (by simp)
 |_::_::_,[],h=>exact absurd h.1 (by simp)
 |_::_::_,[_],h=>exact absurd h.1 (by simp)
def numbered:Nat->Is->Tm
 |_,[]=>[]
 |k,a::c=>(k,a)::numbered (k+1) c
def wT:∀(c:Is)(k i:Nat),HW (numbered k c) i=if k<=i/\i<k+c.length then c.getD (i-k) .dk else .dk:=by
 intro c
 induction c with
 |nil=>intro k i;simp[numbered,HW]
 |cons a c ih=>
  intro k i;simp only[numbered,HW];by_cases hi:i=k
  ·subst hi;simp
  ·rw[CD hi,ih];by_cases h:k<=i/\i<k+(a::c).length
   ·simp only[Mr]at h;rw[Dr (by omega),Dr (by simp only[Mr];omega)];have:i-k=(i-(k+1))+1:=by omega
    rw[this];simp
   ·simp only[Mr]at h;rw[CD (by omega),CD (by simp only[Mr];omega)]
def B5k(c:Is):Nat->(Tm->Af)->Af:=
 (λ(_:Unit)=>@List.rec AV (λ_=>Nat->(Tm->Af)->Af) (λ_ K=>K []) (λa _ ih k K=>fNS (Nat.succ k) λd=>ih d λt=>K ((k,a)::t)) c) Ic
def B5j(c:Is):∀(k:Nat)(K:Tm->Af),B5k c k K=K (numbered k c):=by
 induction c with
 |nil=>intro k K;rfl
 |cons a c ih=>
  intro k K;have:B5k (a::c) k K=fNS (Nat.succ k) λd=>B5k c d λt=>K ((k,a)::t):=rfl;rw[this,B1o,ih];rfl
theorem Xz.numbered{n:Nat}(d:CF C w args ys):Xz C w (numbered 0 args) (ys.toArray++Array.replicate n undef):=by
 intro i;rw[wT];have c:=d.1;split
 ·rename_i hi;have a:i<args.length:=by omega
  have:=d.get i a;simp only[Nat.sub_zero,UT,KL a,l1q,fJ];rw[Array.getElem?_append_left (by simp;omega)];simp[c,a];exact this
 ·exact .dk _
theorem Frm.delB{O:Nat->Prop}{C0:Ctx}(h:Frm m O C0 wa C w)(a:∀k,C0.B k->k<wa.heap.size)(f:∀k i,C0.F k i->k<wa.heap.size)(hb:wa.heap.size<=b)(g:w.heap[b]?=some (.deferred (some [])))(d:SameObj w w' b o'):Frm m O C0 wa (C.delB b) w':=
 ⟨h.π,h.F,λk i j=>(d.cell (by have:=f k i j;omega)).trans (h.keep k i j),λk c=>⟨h.B k c,by have:=a k c;omega⟩,λk c=>(d.others k (by have:=a k c;omega)).trans (h.keepB k c),
  λk arr T fz n=>by
   obtain⟨a1,f1,h1,h2⟩:=h.size k arr T fz n;exact⟨a1,f1,(d.others k (λe=>by subst e;rw[g]at h1;cases h1)).trans h1,h2⟩,
  h.new,λk c=>h.newB k c.1,by rw[d.size];exact h.grow⟩
def Q?{R:Ending->World->Prop}{m s0:Nat}{C0:Ctx}(d:∀k,C0.B k->k<wa.heap.size)(n:∀k i,C0.F k i->k<wa.heap.size)(K:wa.heap.size<=s0)(g:∀C w,Rel G w0 C H w->Xz C w t tmps->Frm m w0.own C0 wa C w->∃v,(results fn tmps).run P w=.ok v w/\R (.returned v) w):
 ∀(a:Hb)(C:Ctx)(w:World),a.Nodup->(∀b∈a,s0<=b/\w0.own b/\C.B b/\w.heap[b]?=some (.deferred (some [])))->Rel G w0 C H w->Xz C w t tmps->Frm m w0.own C0 wa C w->
  LeavesInM (Fe none) 0 P fn tmps R (a.map P!) .returning w:=by
 intro a
 induction a with
 |nil=>
  intro C w _ _ hr u j;exact g C w hr u j
 |cons b a ih=>
  intro C w hn hb hr u j;obtain⟨h1,h2,L,c⟩:=hb b (by simp);obtain⟨q,s⟩:=List.nodup_cons.1 hn;have p:=(l1v.1 c).1;have h:SameObj w (w.putObj b (.deferred none)) b (.deferred none):=SameObj.putObj p _;refine⟨by simp,.inl ⟨b,_,rfl,run_takeDeferred c,ih (C.delB b) _ s (λk x=>?_) (hr.shut c h2 h) (u.shut c h) (j.delB d n (by omega) c h)⟩⟩;obtain⟨y,A,D,J⟩:=hb k (by simp[x]);have f:k≠b:=λe=>q (e▸x);exact⟨y,A,⟨D,f⟩,(h.others k f).trans J⟩
def C1u(E:XE)(rs:List ResultVar)(K:KV):Exit->Tm->Ru:=λe t H=>
 match e with
 |.normal=>A6o E t H rs λvs=>qR vs λv=>K v H
 |.ret=>A6o E t H rs λvs=>qR vs λv=>K v H
 |_=>none
def A8e{E:XE}{T:Ty}(N:jX P T)(L:∀ty i,E.ty.get ty=some i->T ty=some i){f:FuncId}{c:Code}{K:KV}(O:P.funcs[f]?=some fn)(hb:fn.body=some c)(h:QA P G none (Ar H) (args.length+(fn.ntmps-args.length)) c (λe t a=>C1u E fn.results.toList K e t a=some r) (numbered 0 args) H):Rh P G f args H (λv a=>K v a=some r):=by
 intro w0 C w ys p A;refine callsIn_wide.1 (callsIn_of_wp_marks (n:=0) O hb trivial ?_);have g:=A.1;have M:St G w0 w.heap.size C (args.length+(fn.ntmps-args.length)) (numbered 0 args) H {tmps:=ys.toArray++Array.replicate (fn.ntmps-ys.toArray.size) undef,defers:=[]} w:=⟨p,by simp[g],.numbered A,.nil,LH _⟩
 have Q:=h w0 w.heap.size C _ w M;have j:Fe none=Fence.wide:=rfl;rw[<-j];refine wpIn_mono Q λe u w' ⟨d,B,a,s,V,q⟩=>?_;have fin:(A6o E B a fn.results.toList λvs=>qR vs λv=>K v a)=some r->LeavesInM (Fe none) 0 P fn u.tmps (λe w'=>∃v y d a,e=.returned y/\Rel G w0 d a w'/\VRel d w' v y/\Frm (Ar H) w0.own C w d w'/\K v a=some r) u.defers .returning w':=by
  intro q;obtain⟨F,d1,d2,J⟩:=s.defers;rw[d2];refine Q? (H:=a) (t:=B) (C0:=C) (wa:=w) (m:=Ar H) (s0:=w.heap.size) p.finB p.fin (LH _) (λD w1 r1 R f1=>?_) F d w' d1 J s.rel s.tmps V;obtain⟨vs,X,h1,h2,x⟩:=A6n N L r1 R _ _ q;rw[A2J]at x;exact⟨_,A0W h1,_,_,D,a,rfl,r1,A3q h2,f1,x⟩
 cases e with
 |normal=>exact fin q
 |ret=>exact fin q
 |_=>cases q
end
end
section
variable{f:AV->(Bool->K2)->Af}{q q':Bool}
def IK(f:AV->(Bool->K2)->Af)(l:Is):(Bool->Is->Af)->Af:=
 @List.rec AV (λ_=>(Bool->Is->Af)->Af) (λK=>K false [])
  (λa _ ih K=>f a λq c=>ih λq' d=>K (@Bool.rec (λ_=>Bool) q' true q) (c::d)) l
def Rj(f:AV->(Bool->K2)->Af)(l:IH):(Bool->IH->Af)->Af:=
 @List.rec (Value×AV) (λ_=>(Bool->IH->Af)->Af) (λK=>K false [])
  (λp _ ih K=>f p.2 λq a=>ih λq' c=>K (@Bool.rec (λ_=>Bool) q' true q) ((p.1,a)::c)) l
def qI(x:Row)(K:IH->Af):Af:=match x with|.map false a _=>K a|_=>none
def A1v(b:Bool)(a:AV)(K:Bool->K2):Af:=
 match a with
 |.v x=>K false (.v x)
 |.list n cs=>ck b (K false (.list n cs))
 |.iptr cs=>ck b (K false (.iptr cs))
 |.imap c=>ck b (K false (.imap c))
 |_=>none
def A1u(b:Bool)(H:Hp)(ih:AV->(Bool->K2)->Af)(a:AV)(K:Bool->K2):Af:=
 match a with
 |.v x=>K false (.v x)
 |.list n cs=>ck b (K false (.list n cs))
 |.iptr cs=>ck b (K false (.iptr cs))
 |.imap g=>ck b (K false (.imap g))
 |.agg cs=>IK ih cs λq d=>K q (.agg d)
 |.tup cs=>IK ih cs λq d=>K q (.tup d)
 |.fn f j cs=>IK ih j λq i=>IK ih cs λq' d=>K (@Bool.rec (λ_=>Bool) q' true q) (.fn f i d)
 |.sl sz r o n=>IQ H r λx=>Kq x λ_ cs=>EL (Nat.mul n sz) (Do o cs) λc=>IK ih c λ_ e=>K true (.list n e)
 |.ptr r p k=>IQ H r λx=>Kq x λ_ cs=>IK ih (Do (Nat.add p k) cs) λ_ e=>K true (.iptr e)
 |.mp r=>IQ H r λx=>qI x λg=>Rj ih g λ_ h=>K true (.imap h)
 |_=>none
def Ia(b:Bool)(H:Hp)(D:Nat):AV->(Bool->K2)->Af:=@Nat.rec (λ_=>AV->(Bool->K2)->Af) (A1v b) (λ_ ih=>A1u b H ih) D
def VB(b q:Bool)(C:Ctx)(H:Hp):Ctx:=
 {π:=λ_=>none
  F:=λk i=>(b=true/\C.F k i)\/(q=true/\∃r x o,Ai H r=some x/\C.π r=some (some (k,o)))
  B:=λk=>(b=true/\C.B k)\/(q=true/\∃r x o,Ai H r=some x/\C.π r=some (some (k,o)))}
def zR(b q:Bool)(C:Ctx)(H:Hp):(VB b q C H).bare=VB b q C H:=rfl
def OH{b q q':Bool}{C:Ctx}{H:Hp}{w:World}(h:q=true->q'=true):Ext (λ_=>True) (VB b q C H) w (VB b q' C H) w:=
 ⟨λ_ _=>rfl,λ_ _ c=>c.imp id (λ⟨h1,h2⟩=>⟨h h1,h2⟩),λ_ _ _=>rfl,λ_ c=>c.imp id (λ⟨h1,h2⟩=>⟨h h1,h2⟩),λ_ _=>rfl,λ_ a _ f h=>⟨a,f,h,rfl⟩,λ_ _ _=>.inr trivial,λ_ _=>.inr trivial,LH _⟩
def nV:q=true->(@Bool.rec (λ_=>Bool) q' true q)=true:=λh=>by subst h;rfl
def eX:q'=true->(@Bool.rec (λ_=>Bool) q' true q)=true:=λh=>by subst h;cases q<;>rfl
section
variable{G:Gl}{w0:Base}{C:Ctx}{H:Hp}{w:World}{b:Bool}{r:AV×Hp}
def oF(n:∀a y K,VRel C w a y->f a K=some r->∃q c,VRel (VB b q C H) w c y/\K q c=some r):
 ∀(l:Is)(ys:Hx)(K:Bool->Is->Af),CF C w l ys->IK f l K=some r->∃q d,CF (VB b q C H) w d ys/\K q d=some r:=by
 intro l
 induction l with
 |nil=>intro ys K e h;exact⟨false,[],by rw[e.nil_inv];exact .nil,h⟩
 |cons a l ih=>
  intro ys K e h;obtain⟨y,g,rfl,h1,h2⟩:=e.cons_inv;have h:(f a λq c=>IK f l λq' d=>K (@Bool.rec (λ_=>Bool) q' true q) (c::d))=some r:=h;obtain⟨q,c,i,j⟩:=n a y _ h1 h;obtain⟨q',d,k,m⟩:=ih g _ h2 j;exact⟨_,_,.cons (i.mono (OH nV)) (k.mono (OH eX)),m⟩
def A1t(A:∀a y K,VRel C w a y->f a K=some r->∃q d,VRel (VB b q C H) w d y/\K q d=some r):
 ∀(l:IH)(ms:List MapEntry)(K:Bool->IH->Af),Mb C w l ms->Rj f l K=some r->∃q g,Mb (VB b q C H) w g ms/\K q g=some r:=by
 intro l
 induction l with
 |nil=>intro ms K c h;exact⟨false,[],⟨c.1,λi p D=>by simp at D⟩,h⟩
 |cons p l ih=>
  intro ms K c h;cases ms with
  |nil=>exact absurd c.1 (by simp)
  |cons m ms=>
   obtain⟨J,hm,B,hv⟩:=c.2 0 p rfl;simp at hm;subst hm;have h:(f p.2 λq d=>Rj f l λq' g=>K (@Bool.rec (λ_=>Bool) q' true q) ((p.1,d)::g))=some r:=h;obtain⟨q,d,t,u⟩:=A _ _ _ hv h;obtain⟨q',g,j,v⟩:=ih ms _ ⟨by simpa using c.1,λi x e=>by simpa using c.2 (i+1) x (by simpa using e)⟩ u;refine⟨_,_,⟨by simpa using j.1,λi x e=>?_⟩,v⟩;cases i with
   |zero=>simp at e;subst e;exact⟨m,rfl,B,t.mono (OH nV)⟩
   |succ i=>
    obtain⟨F,k,n,s⟩:=j.2 i x (by simpa using e);exact⟨F,by simpa using k,n,s.mono (OH eX)⟩
def Vy{a:AV}{y:Value}(hb:b=true)(hc:eW 0 a=true)(h:VRel C w a y):VRel (VB b false C H) w a y:=
 VRel.down (by subst hb;funext k i;simp[VB]) (by subst hb;funext k;simp[VB]) 0 a y hc h
def uP(hr:Rel G w0 C H w):∀(D:Nat)(a:AV)(y:Value)(K:Bool->K2),VRel C w a y->Ia b H D a K=some r->∃q a',VRel (VB b q C H) w a' y/\K q a'=some r:=by
 intro D
 induction D with
 |zero=>
  intro a y K hv h;change A1v b a K=some r at h;unfold A1v at h;split at h
  ·exact⟨false,_,by rw[AM.1 hv];exact .v _,h⟩
  ·obtain⟨h1,h⟩:=B4 h;exact⟨false,_,Vy h1 rfl hv,h⟩
  ·obtain⟨h1,h⟩:=B4 h;exact⟨false,_,Vy h1 rfl hv,h⟩
  ·obtain⟨h1,h⟩:=B4 h;exact⟨false,_,Vy h1 rfl hv,h⟩
  ·cases h
 |succ D ih=>
  intro a y K hv h;have R:=λl M K=>oF (f:=Ia b H D) (b:=b) (H:=H) (C:=C) (w:=w) (r:=r) ih l M K;have hX:=λl M K=>A1t (f:=Ia b H D) (b:=b) (H:=H) (C:=C) (w:=w) (r:=r) ih l M K;change A1u b H (Ia b H D) a K=some r at h;unfold A1u at h;split at h
  ·exact⟨false,_,by rw[AM.1 hv];exact .v _,h⟩
  ·obtain⟨h1,h⟩:=B4 h;exact⟨false,_,Vy h1 rfl hv,h⟩
  ·obtain⟨h1,h⟩:=B4 h;exact⟨false,_,Vy h1 rfl hv,h⟩
  ·obtain⟨h1,h⟩:=B4 h;exact⟨false,_,Vy h1 rfl hv,h⟩
  ·obtain⟨M,rfl,Z⟩:=XA0.1 hv;obtain⟨q,J,h1,h2⟩:=R _ _ _ Z h;exact⟨q,_,XA0.2 ⟨M,rfl,h1⟩,h2⟩
  ·obtain⟨M,rfl,Z⟩:=DJ.1 hv;obtain⟨q,J,h1,h2⟩:=R _ _ _ Z h;exact⟨q,_,DJ.2 ⟨M,rfl,h1⟩,h2⟩
  ·obtain⟨M,zs,rfl,Z,ac⟩:=Ju.1 hv;obtain⟨q,J,h1,h2⟩:=R _ _ _ Z h;obtain⟨q',ai,g,O⟩:=R _ _ _ ac h2;exact⟨_,_,Ju.2 ⟨M,zs,rfl,h1.mono (OH nV),g.mono (OH eX)⟩,O⟩
  ·rename_i sz s o n;obtain⟨q0,e,cs,B,h1⟩:=JU h;obtain⟨A,h2⟩:=LM _ _ _ _ h1;rw[C9]at A h2;cases hv with
   |slz ah=>
    have h2:IK (Ia b H D) ((cs.drop o).take (0*sz)) (λ_ c'=>K true (.list 0 c'))=some r:=h2;rw[Nat.zero_mul,List.take_zero]at h2;exact⟨true,_,.list0,h2⟩
   |@sl _ _ _ _ _ _ bk N cap arr T fz F Y ag ae=>
    rcases hr.rows s _ B with⟨_,h6⟩|⟨b',c,t,aa,L⟩
    ·rw[h6]at F;cases F
    ·have u:=L.at_.symm.trans F;injection u with u;injection u with u;injection u with V X;subst V X
     have d:CF C w ((cs.drop o).take (n*sz)) ((((t.toList.drop c).take cs.length).drop o).take (n*sz)):=(L.vals.unsel.drop o).take _;obtain⟨q,J,g,O⟩:=R _ _ _ d h2;have g:=g.mono (OH (q':=true) (λ_=>rfl));have ad:J.length=n*sz:=by
      rw[<-g.1,d.1,zF];have:n*sz<=(cs.drop o).length:=A;omega
     refine⟨true,_,.list Y (λi=>((((t.toList.drop c).take cs.length).drop o).take (n*sz)).getD i undef) (λi hi=>.inr ⟨rfl,s,_,_,B,F⟩) (λi hi=>?_) (λi hi=>?_),O⟩
     ·have ab:i<n*sz:=by omega
      have P:o+i<cs.length:=by have:n*sz<=(cs.drop o).length:=A;simp at this;omega
      rw[kE,L.cell];rw[UT,zD,Dr ab,qJ,zD,Dr P,qJ,l27];have hf:=L.fits;rw[l1p (by omega)];rfl
     ·have:=g.get i hi;rw[zR,UT,KL (by rw[g.1];exact hi)];exact this
  ·rename_i s p k;obtain⟨q0,e,cs,B,h2⟩:=JU h;rw[C9]at h2;cases hv with
   |@ptr _ _ _ _ _ bk N F=>
    rcases hr.rows s _ B with⟨_,h6⟩|⟨b',c,t,aa,L⟩
    ·rw[h6]at F;cases F
    ·have u:=L.at_.symm.trans F;injection u with u;injection u with u;injection u with V X;subst V X
     have d:CF C w (cs.drop (p+k)) (((t.toList.drop c).take cs.length).drop (p+k)):=L.vals.unsel.drop _;obtain⟨q,J,g,O⟩:=R _ _ _ d h2;have g:=g.mono (OH (q':=true) (λ_=>rfl));have ad:J.length=cs.length-(p+k):=by rw[<-g.1,d.1,l0u]
     refine⟨true,_,.iptr (λi=>(((t.toList.drop c).take cs.length).drop (p+k)).getD i undef) (λi hi=>.inr ⟨rfl,s,_,_,B,F⟩) (λi hi=>?_) (λi hi=>?_),O⟩
     ·have P:p+k+i<cs.length:=by omega
      rw[kE,L.cell];rw[UT,qJ,zD,Dr P,qJ,l27];have hf:=L.fits;rw[l1p (by omega)];rfl
     ·have:=g.get i hi;rw[zR,UT,KL (by rw[g.1];exact hi)];exact this
  ·rename_i s;obtain⟨x,B,h2⟩:=I4 rfl h;unfold qI at h2;split at h2
   ·rename_i es _bo;cases hv with
    |@mp _ _ _ bk N F=>
     obtain⟨af,ms,clock,g1,g2,g3,g4,_⟩:=hr.rows s _ B;have u:=g1.symm.trans F;injection u with u;injection u with u;injection u with V X;subst V X
     obtain⟨q,J,g,O⟩:=hX _ _ _ g4 h2;have g:=g.mono (OH (q':=true) (λ_=>rfl));have A:ms.size=J.length:=by have:=g.1;simpa using this
     have get:∀i(hi:i<J.length),(ms.getD i default).key=J[i].1/\VRel (VB b true C H) w J[i].2 (ms.getD i default).val:=λi hi=>by
      obtain⟨m,k1,k2,k3⟩:=g.2 i _ (KL hi);have:ms.getD i default=m:=by
       rw[l27]at k1;simp[fJ,k1]
      rw[this];exact⟨k2,k3⟩
     refine⟨true,_,.imap ms (.inr ⟨rfl,s,_,_,B,F⟩) g2 A (λi hi=>(get i hi).1) (λi j Q hj=>?_) (λi hi=>?_) (λi hi=>(get i hi).2),O⟩
     ·have:=l26.1 g3.born i j (by simpa using Nat.lt_trans Q hj) (by simpa using hj) Q;simpa [fJ,hj,Nat.lt_trans Q hj] using this
     ·have:=g3.lt ms[i] (by simp);simpa [fJ,hi] using this
   ·cases h2
  ·cases h
end
end
section
variable{ag:Bool}{d:Nat}{t:TypeId}
def LK.fit:LK->Value->Bool
 |.int k,.int a _=>decide (a=k)
 |.str,.string _=>true
 |.bool,.bool _=>true
 |_,_=>false
def fits:List LK->Hx->Bool
 |[],[]=>true
 |k::ks,v::vs=>k.fit v&&fits ks vs
 |_,_=>false
def UX(ag:Bool)(vs:Hx):Value:=match ag with|true=>.agg vs.toArray|false=>vs.headD undef
def MW(P:Program)(rec:TypeId->Option (Bool×List LK)):Nat->List Field->Option (List LK)
 |_,[]=>some []
 |off,f::a=>match rec f.type with
  |some (_,ks)=>if f.name != "_" &&(Nat.beq f.offset off&&(Nat.beq (P.cellsOf f.type) ks.length&& !Nat.beq ks.length 0)) then(MW P rec (off+ks.length) a).map (ks++ ·) else none
  |none=>none
def leaves(P:Program):Nat->TypeId->Option (Bool×List LK)
 |0,_=>none
 |d+1,t=>match P.underlying t with
  |some (.int k)=>some (false,[.int k])
  |some .string=>some (false,[.str])
  |some .bool=>some (false,[.bool])
  |some (.struct a)=>if P.stoodInHeld t then none else(MW P (leaves P d) 0 a.toList).map λks=>(true,ks)
  |some (.array n e)=>match leaves P d e with
   |some (_,ks)=>if Nat.beq (P.cellsOf e) ks.length&& !Nat.beq ks.length 0 then some (true,(List.replicate n ks).flatten) else none
   |none=>none
  |_=>none
def E1:∀{ks:List LK}{vs:Hx},fits ks vs=true->vs.length=ks.length:=by
 intro ks
 induction ks with
 |nil=>intro vs h;cases vs<;>simp[fits]at h;rfl
 |cons k ks ih=>
  intro vs h;cases vs with
  |nil=>simp[fits]at h
  |cons v vs=>simp only[fits,KK]at h;simp[ih h.2]
def NI:∀{ks ls:List LK}{vs:Hx},fits (ks++ls) vs=true->fits ks (vs.take ks.length)=true/\fits ls (vs.drop ks.length)=true:=by
 intro ks
 induction ks with
 |nil=>intro ls vs h;exact⟨by simp[fits],by simpa using h⟩
 |cons k ks ih=>
  intro ls vs h;cases vs with
  |nil=>simp[fits]at h
  |cons v vs=>
   simp only[List.cons_append,fits,KK]at h;obtain⟨h1,h2⟩:=ih h.2;exact⟨by simp[fits,h.1,h1],by simpa using h2⟩
def gD{α:Type}[DecidableEq α](n:Nat)(xs ys:List α):decide (xs=ys)=(decide (xs.take n=ys.take n)&&decide (xs.drop n=ys.drop n)):=by
 rw[uQ];simp only[decide_eq_true_eq,KK];constructor
 ·rintro rfl;exact⟨rfl,rfl⟩
 ·rintro⟨h1,h2⟩;rw[<-l38 n xs,<-l38 n ys,h1,h2]
instance:DecidableEq Value:=Classical.typeDecidableEq Value
section
variable{P:Program}
def Q_{ks:List LK}(h:leaves P d t=some (ag,ks))(w:World):(isAgg t).run P w=.ok ag w:=by
 cases d with
 |zero=>simp[leaves]at h
 |succ d=>
  unfold leaves at h;split at h
  ·rename_i a;injection h with h;injection h with h1 h2;subst h1;unfold isAgg;rw[Dn,run_underlying a w];rfl
  ·rename_i a;injection h with h;injection h with h1 h2;subst h1;unfold isAgg;rw[Dn,run_underlying a w];rfl
  ·rename_i a;injection h with h;injection h with h1 h2;subst h1;unfold isAgg;rw[Dn,run_underlying a w];rfl
  ·rename_i c a;split at h
   ·cases h
   ·cases b:MW P (leaves P d) 0 c.toList with
    |none=>rw[b]at h;simp at h
    |some l=>
     rw[b]at h;simp only[zC,l0z,Prod.mk.injEq]at h;obtain⟨h1,h2⟩:=h;subst h1;unfold isAgg;rw[Dn,run_underlying a w];rfl
  ·rename_i n e a;split at h
   ·split at h
    ·injection h with h;injection h with h1 h2;subst h1;unfold isAgg;rw[Dn,run_underlying a w];rfl
    ·cases h
   ·cases h
  ·cases h
def XA6{ks:List LK}(h:leaves P d t=some (ag,ks))(hc:P.cellsOf t=ks.length)(b:ks.length≠0)(xs:Hx)(off:Nat)(e:off+ks.length<=xs.length)(w:World):
 (part t xs.toArray off).run P w=.ok (UX ag ((xs.drop off).take ks.length)) w:=by
 unfold part;rw[Dn,Q_ h w];simp only[FY];cases ag with
 |true=>
  simp only[if_true];rw[Dn,BZ w (by rw[hc];exact b)];simp only[FY,mJ,UX,hc]
  congr 2
  apply qK;simp[List.take_drop]
 |false=>
  simp only[xT,if_false];have a:off<xs.length:=by omega
  rw[l15,KL a];simp only[mJ,UX]
  congr 1
  rw[rF a];cases c:ks.length with
  |zero=>exact absurd c b
  |succ n=>rfl
def B2x(P:Program)(d:Nat)(t:TypeId):Prop:=
 ∀ag ks,leaves P d t=some (ag,ks)->∀(m:Nat)(xs a:Hx),fits ks xs=true->fits ks a=true->∀w,(Op.equalIn (m+d) t (UX ag xs) (UX ag a)).run P w=.ok (decide (xs=a)) w
def qM(j:∀t,B2x P d t)(m:Nat):∀(a:List Field)(off:Nat)(ks:List LK),MW P (leaves P d) off a=some ks->∀(xs ys:Hx),fits ks (xs.drop off)=true->fits ks (ys.drop off)=true->
 off<=xs.length->off<=ys.length->∀w,(Op.eqFields (m+d) xs.toArray ys.toArray a).run P w=.ok (decide (xs.drop off=ys.drop off)) w:=by
 intro a
 induction a with
 |nil=>
  intro off ks h xs ys b c _ _ w;simp only[MW,l0z]at h;subst h;have h1:=E1 b;have h2:=E1 c;simp only[Rk,List.length_eq_zero_iff]at h1 h2;rw[h1,h2];simp[Op.eqFields]
 |cons f a ih=>
  intro off ks h xs ys b c r s w;unfold MW at h;split at h
  ·rename_i ag k1 g;split at h
   ·rename_i hc;simp only[KK,rE,l19,bne_iff_ne,ne_eq]at hc;obtain⟨c1,c2,c3,c4⟩:=hc;have c4:k1.length≠0:=λe=>by rw[e]at c4;simp at c4
    cases hr:MW P (leaves P d) (off+k1.length) a with
    |none=>rw[hr]at h;simp at h
    |some q=>
     rw[hr]at h;simp only[zC,l0z]at h;subst h;obtain⟨p,i⟩:=NI b;obtain⟨y1,y2⟩:=NI c;rw[l1a]at i y2;have k:=E1 b;have n:=E1 c;simp only[l0u,Ez]at k n;simp only[Op.eqFields];rw[Dr c1,Dn,c2,XA6 g c3 c4 xs off (by omega) w];simp only[FY];rw[Dn,XA6 g c3 c4 ys off (by omega) w];simp only[FY];rw[Dn,j f.type ag k1 g m _ _ p y1 w];simp only[FY];rw[gD k1.length (xs.drop off) (ys.drop off),l1a,l1a];cases hq:decide (List.take k1.length (List.drop off xs)=List.take k1.length (List.drop off ys))
     ·simp
     ·simp only[Bool.not_true,xT,if_false,l1b];exact ih _ _ hr xs ys i y2 (by omega) (by omega) w
   ·cases h
  ·cases h
def vF{e:TypeId}(j:B2x P d e)(m:Nat){ks:List LK}(f:leaves P d e=some (ag,ks))(hc:P.cellsOf e=ks.length)(a:ks.length≠0):∀(n i:Nat)(xs ys:Hx),fits (List.replicate n ks).flatten (xs.drop (i*ks.length))=true->fits (List.replicate n ks).flatten (ys.drop (i*ks.length))=true->
 i*ks.length<=xs.length->i*ks.length<=ys.length->∀w,(Op.eqItems (m+d) e (P.cellsOf e) xs.toArray ys.toArray (List.range' i n)).run P w=.ok (decide (xs.drop (i*ks.length)=ys.drop (i*ks.length))) w:=by
 intro n
 induction n with
 |zero=>
  intro i xs ys b c _ _ w;have h1:=E1 b;have h2:=E1 c;simp only[List.replicate_zero,List.flatten_nil,Rk,List.length_eq_zero_iff]at h1 h2;rw[h1,h2];simp[Op.eqItems]
 |succ n ih=>
  intro i xs ys b c r s w;rw[l1c,l1d]at b c;obtain⟨q,g⟩:=NI b;obtain⟨y1,y2⟩:=NI c;rw[l1a]at g y2;have k:=E1 b;have p:=E1 c;simp only[l0u,Ez]at k p;have h:i*ks.length+ks.length=(i+1)*ks.length:=by rw[l1e];omega
  rw[List.range'_succ];simp only[Op.eqItems];rw[Dn,hc,XA6 f hc a xs (i*ks.length) (by omega) w];simp only[FY];rw[Dn,XA6 f hc a ys (i*ks.length) (by omega) w];simp only[FY];rw[Dn,j ag ks f m _ _ q y1 w];simp only[FY];rw[gD ks.length (xs.drop (i*ks.length)) (ys.drop (i*ks.length)),l1a,l1a,h];rw[h]at g y2;cases hq:decide (List.take ks.length (List.drop (i*ks.length) xs)=List.take ks.length (List.drop (i*ks.length) ys))
  ·simp
  ·simp only[Bool.not_true,xT,if_false,l1b];have:=ih (i+1) xs ys g y2 (by omega) (by omega) w;rw[hc]at this;exact this
def vD:∀(d:Nat)(t:TypeId),B2x P d t:=by
 intro d
 induction d with
 |zero=>intro t ag ks h;simp[leaves]at h
 |succ d r=>
  intro t ag ks h m xs u a b w;rw[<-kE];unfold leaves at h;split at h
  ·rename_i k c;injection h with h;injection h with h1 h2;subst h1 h2
   obtain⟨x,rfl⟩:=l1f.1 (E1 a);obtain⟨y,rfl⟩:=l1f.1 (E1 b)
   ·
    simp only[fits,l1g]at a b;cases x<;>simp[LK.fit]at a
    cases y<;>simp[LK.fit]at b
    subst a b;simp only[UX,List.headD];rw[run_equalIn_int w (m+d) t _ _ _ _ c]
    congr 1
    rw[uQ];simp
  ·rename_i c;injection h with h;injection h with h1 h2;subst h1 h2
   obtain⟨x,rfl⟩:=l1f.1 (E1 a);obtain⟨y,rfl⟩:=l1f.1 (E1 b)
   ·
    simp only[fits,l1g]at a b;cases x<;>simp[LK.fit]at a
    cases y<;>simp[LK.fit]at b
    simp only[UX,List.headD];rw[run_equalIn_string w (m+d) t _ _ c]
    congr 1
    rw[<-beq_toListBytes,uQ,MapKept.bytes_beq];simp
  ·rename_i c;injection h with h;injection h with h1 h2;subst h1 h2
   obtain⟨x,rfl⟩:=l1f.1 (E1 a);obtain⟨y,rfl⟩:=l1f.1 (E1 b)
   ·
    simp only[fits,l1g]at a b;cases x<;>simp[LK.fit]at a
    cases y<;>simp[LK.fit]at b
    simp only[UX,List.headD];rw[run_equalIn_bool' w (m+d) t _ _ c]
    congr 1
    rw[uQ];simp
  ·rename_i j c;split at h
   ·cases h
   ·rename_i q;cases f:MW P (leaves P d) 0 j.toList with
    |none=>rw[f]at h;simp at h
    |some l=>
     rw[f]at h;simp only[zC,l0z,Prod.mk.injEq]at h;obtain⟨h1,h2⟩:=h;subst h1 h2;have s:P.fieldsOf t=j:=by simp[Program.fieldsOf,c]
     simp only[UX];rw[run_equalIn_struct w (m+d) t _ _ (by rw[s];exact c) (by simpa using q),s];exact qM r m j.toList 0 l f xs u a b (l1h _) (l1h _) w
  ·rename_i n e c;split at h
   ·rename_i v k1 f;split at h
    ·rename_i hc;simp only[KK,rE,l19]at hc;have g:k1.length≠0:=λA=>by have:=hc.2;rw[A]at this;simp at this
     injection h with h;injection h with h1 h2;subst h1 h2
     simp only[UX];obtain⟨i,hi⟩:∃i,P.info? e=some i:=by
      cases p:P.info? e with
      |none=>exfalso;exact g (by rw[<-hc.1];simp[Program.cellsOf,p])
      |some i=>exact⟨i,rfl⟩
     rw[run_equalIn_array w (m+d) _ _ c hi,List.range_eq_range'];have:=vF (r e) m f hc.1 g n 0 xs u (by simpa using a) (by simpa using b) (by simp) (by simp) w;simpa using this
    ·cases h
   ·cases h
  ·cases h
structure EqFlat(P:Program)(t:TypeId)(ks:List LK):Prop where
 leaves:leaves P 6 t=some (true,ks)
 guard:P.eqGuardType P.depth t=false
theorem EqFlat.equal{ks:List LK}(h:EqFlat P t ks){xs ys:Hx}(a:fits ks xs=true)(b:fits ks ys=true)(w:World):(Op.equal t (.agg xs.toArray) (.agg ys.toArray)).run P w=.ok (decide (xs=ys)) w:=
 vD 6 t true ks h.leaves 9994 xs ys a b w
def qQ:∀(d:Nat)(t:TypeId)(ag:Bool)(ks:List LK),leaves P d t=some (ag,ks)->∀(m:Nat)(em:Bool)(xs:Hx),fits ks xs=true->∀w,(Instr.checkKey em (m+d) t (UX ag xs)).run P w=.ok () w:=by
 intro d
 induction d with
 |zero=>intro t ag ks h;simp[leaves]at h
 |succ d A=>
  intro t ag ks h m em xs b w;rw[<-kE];unfold Instr.checkKey;unfold leaves at h;split at h
  ·rename_i k a;rw[Dn,run_underlying a w];rfl
  ·rename_i a;rw[Dn,run_underlying a w];rfl
  ·rename_i a;rw[Dn,run_underlying a w];rfl
  ·rename_i B a;split at h
   ·cases h
   ·rename_i F;cases g:MW P (leaves P d) 0 B.toList with
    |none=>rw[g]at h;simp at h
    |some l=>
     rw[g]at h;simp only[zC,l0z,Prod.mk.injEq]at h;obtain⟨h1,h2⟩:=h;subst h1 h2;rw[Dn,run_underlying a w];simp only[FY,UX];rw[<-Array.forIn_toList];generalize B.toList=c at g;have key:∀(c:List Field)(off:Nat)(l:List LK),MW P (leaves P d) off c=some l->fits l (xs.drop off)=true->off<=xs.length->
      (forIn c PUnit.unit (λf(_:PUnit)=>(if f.name≠ "_" then(do let y<-part f.type xs.toArray f.offset;Instr.checkKey em (m+d) f.type y;pure (ForInStep.yield PUnit.unit)) else pure (ForInStep.yield PUnit.unit):Sem (ForInStep PUnit)))).run P w=.ok PUnit.unit w:=by
      intro c
      induction c with
      |nil=>intro off l _ _ _;simp
      |cons f c ih=>
       intro off l h b H;unfold MW at h;split at h
       ·rename_i ag k1 r;split at h
        ·rename_i hc;simp only[KK,rE,l19,bne_iff_ne,ne_eq]at hc;obtain⟨c1,c2,c3,c4⟩:=hc;have c4:k1.length≠0:=λe=>by rw[e]at c4;simp at c4
         cases hr:MW P (leaves P d) (off+k1.length) c with
         |none=>rw[hr]at h;simp at h
         |some J=>
          rw[hr]at h;simp only[zC,l0z]at h;subst h;obtain⟨x,p⟩:=NI b;rw[l1a]at p;have v:=E1 b;simp only[l0u,Ez]at v;rw[List.forIn_cons,Dr c1,Dn,Dn,c2,XA6 r c3 c4 xs off (by omega) w];simp only[FY];rw[Dn,A f.type ag k1 r m em _ x w];simp only[FY,mJ];exact ih _ _ hr p (by omega)
        ·cases h
       ·cases h
     have:=key c 0 l g (by simpa using b) (l1h _);rw[Dn];refine(congrArg (λq=>Result.andThen q _) this).trans ?_;rfl
  ·rename_i n e a;split at h
   ·rename_i u k1 g;split at h
    ·rename_i hc;simp only[KK,rE,l19]at hc;have s:k1.length≠0:=λC=>by have:=hc.2;rw[C]at this;simp at this
     injection h with h;injection h with h1 h2;subst h1 h2
     have hsz:(sizeOf e).run P w=.ok (P.cellsOf e) w:=BZ w (by rw[hc.1];exact s);rw[Dn,run_underlying a w];simp only[FY,UX];simp only[Std.Legacy.Range.forIn_eq_forIn_range',Std.Legacy.Range.size,Nat.sub_zero,Nat.add_one_sub_one,Nat.div_one];have key:∀(n i:Nat),fits (List.replicate n k1).flatten (xs.drop (i*k1.length))=true->i*k1.length<=xs.length->
      (forIn (List.range' i n) PUnit.unit (λj(_:PUnit)=>(do let z<-sizeOf e;let y<-part e xs.toArray (j*z);Instr.checkKey em (m+d) e y;pure (ForInStep.yield PUnit.unit):Sem (ForInStep PUnit)))).run P w=.ok PUnit.unit w:=by
      intro n
      induction n with
      |zero=>intro i _ _;simp
      |succ n ih=>
       intro i b H;rw[l1c,l1d]at b;obtain⟨x,p⟩:=NI b;rw[l1a]at p;have v:=E1 b;simp only[l0u,Ez]at v;have D:i*k1.length+k1.length=(i+1)*k1.length:=by rw[l1e];omega
       rw[D]at p;rw[List.range'_succ,List.forIn_cons,Dn,Dn,hsz];simp only[FY];rw[Dn,hc.1,XA6 g hc.1 s xs (i*k1.length) (by omega) w];simp only[FY];rw[Dn,A e u k1 g m em _ x w];simp only[FY,mJ];exact ih (i+1) p (by omega)
     have:=key n 0 (by simpa using b) (by simp);rw[Dn];refine(congrArg (λq=>Result.andThen q _) this).trans ?_;rfl
    ·cases h
   ·cases h
  ·cases h
def kB(P:Program)(f:FuncId):Prop:=∀(x:Value)(w:World),(callFunc f #[x]).run P w=.ok (.value x) w
def EqFlat.check{ks:List LK}(h:EqFlat P t ks){xs:Hx}(a:fits ks xs=true)(em:Bool)(w:World):(Instr.checkKey em 10000 t (.agg xs.toArray)).run P w=.ok () w:=
 qQ 6 t true ks h.leaves 9994 em xs a w
end
end
section
variable{K:K2}{w0:Base}{b:Bool}{C:Ctx}{w:World}{x:XFn}
abbrev KQ:=Exit->Tm->Ru
abbrev A01:=Cf->Code->Tm->Hp->KQ->Af
structure Rt where
 call:B2y
 run:A01
def unV:AV->Value
 |.v x=>x
 |_=>undef
def isV:AV->Bool
 |.v _=>true
 |_=>false
def XE.G(E:XE):Gl:=λg=>(E.gl.get g).map λcs=>cs.map unV
def Ti(D:Nat->List Oper->Bool):Code->Bool
 |.region id a true=>D id a.toList
 |.seq x y=>Ti D x&&Ti D y
 |.cond _ x y=>Ti D x&&Ti D y
 |.block _ x=>Ti D x
 |.loop x=>Ti D x
 |.scope x=>Ti D x
 |_=>true
structure XE.Ok(D:XE->Cf->Nat->List Oper->Bool)(E:XE)(P:Program):Prop where
 ty:jX P E.T
 pos:∀t i e esz,E.T t=some i->(i.d=.slice e esz\/∃n,i.d=.array n e esz)->esz≠0
 mix:P.follows .mixedOrders=true
 gl:∀g cs,E.gl.get g=some cs->cs.all isV=true
 fn:∀f x,E.ft.get f=some x->∃fn,P.funcs[f]?=some fn/\fn.body=some x.c/\fn.ntmps=x.n/\fn.results.toList=x.rs/\(fn.name== "runtime.NumGoroutine")=false/\Ti (D E ⟨false,x.lv,x.fz,x.n,x.rc⟩) x.c=true
 eq:∀t ks,E.eqt.get t=some ks->EqFlat P t ks
 lie:∀e n o u,(e,n,o,u)∈E.lie->liesAt P P.depth e (n/P.cellsOf e) o u 1=true/\(P.info? u).isSome=true
 up:E.lie.isEmpty=false->P.underlying E.up=some .unsafePointer
 ne:∀f,E.ne f=true->kB P f
def XE.env(E:XE)(P:Program):Env:={P:=P,G:=E.G,T:=E.T}
theorem XE.Ok.env{D:XE->Cf->Nat->List Oper->Bool}{E:XE}{P:Program}(h:XE.Ok D E P):(E.env P).Ok:=⟨h.ty,h.pos,h.mix⟩
def dC(P:Program)(f:Nat):Prop:=∃fn,P.funcs[f]?=some fn/\fn.body.isNone=false/\(fn.name== "runtime.NumGoroutine")=false
def jZ(D:XE->Cf->Nat->List Oper->Bool)(E:XE)(P:Program)(R:A01):Prop:=
 ∀(ro:Option Nat)(a:Cf)(c:Code)(t:Tm)(H:Hp)(K:KQ)(r:AV×Hp)(m:Nat),(ro≠none->a.b=true)->(a.b=false->Ti (D E a) c=true)->R a c t H K=some r->QA P E.G ro m a.n c (λe g d=>K e g d=some r) t H
structure RSound(D:XE->Cf->Nat->List Oper->Bool)(E:XE)(P:Program)(R:Rt):Prop where
 run:jZ D E P R.run
 call:∀(f:Nat)(args:Is)(H:Hp)(K:KV)(r:AV×Hp),R.call f args H K=some r->dC P f/\Rh P E.G f args H (λv H'=>K v H'=some r)
def zgo(E:XE)(R:A01)(x:XFn)(args:Is)(H:Hp)(K:KV):Af:=
 A5X args 0 λk=>ckS (Nat.ble k x.n) (B5k args 0 λt=>R ⟨false,x.lv,x.fz,x.n,x.rc⟩ x.c t H (C1u E x.rs K))
def zfn(E:XE)(R:A01)(f:Nat)(args:Is)(H:Hp)(K:KV):Af:=E.ft.getK f λx=>zgo E R x args H K
def depth:Nat:=12
def Au(a:Af)(K:K2):Af:=match a with|some (v,_)=>K v|none=>none
def Aq(R:Rt)(f:Nat)(args:Is)(H:Hp)(K:K2):Af:=
 IK (Ia true H depth) args λq a=>Au (R.call f a [] λv c=>Ia (!q) c depth v λ_ d=>some (d,[])) K
section
variable{D:XE->Cf->Nat->List Oper->Bool}{E:XE}{P:Program}{R:Rt}{f:Nat}{args:Is}{H:Hp}{r:AV×Hp}
def C3J(c:XE.Ok D E P)(d:E.ft.get f=some x):dC P f:=by
 obtain⟨fn,h1,h2,e,g,a,h⟩:=c.fn f x d;exact⟨fn,h1,by rw[h2];rfl,a⟩
def A6r(d:XE.Ok D E P){a:A01}(q:jZ D E P a)(s:E.ft.get f=some x){K:KV}(h:zgo E a x args H K=some r):Rh P E.G f args H (λv g=>K v g=some r):=by
 unfold zgo at h;rw[B1d]at h;obtain⟨e,h⟩:=LZ h;rw[B5j]at h;obtain⟨fn,h1,h2,j,k,t,m⟩:=d.fn f x s;refine A8e (E:=E) (T:=E.T) d.ty (λty i h=>h) h1 h2 ?_;have e:args.length<=x.n:=by rw[kD]at e;omega
 have p:args.length+(fn.ntmps-args.length)=x.n:=by rw[j];omega
 rw[p,k];exact q none ⟨false,x.lv,x.fz,x.n,x.rc⟩ x.c _ H _ r (Ar H) (λh=>absurd rfl h) (λ_=>m) h
def yE(c:XE.Ok D E P){a:A01}(g:jZ D E P a){K:KV}(h:zfn E a f args H K=some r):dC P f/\Rh P E.G f args H (λv e=>K v e=some r):=by
 obtain⟨x,d,h⟩:=Bh h;exact⟨C3J c d,A6r c g d h⟩
def Keep.toBelow{w w':World}(h:Keep ⟨w,λ_=>False⟩ w'):Below w.heap.size w w':=⟨h.os,h.tape,h.output,h.size,λb hb=>h.block b hb id⟩
def A1N{G:Gl}{b q:Bool}(h:Rel G w0 C H w):(∀k i,(VB b q C H).F k i->k<w.heap.size)/\∀k,(VB b q C H).B k->k<w.heap.size:=by
 refine⟨λk i d=>?_,λk c=>?_⟩
 ·rcases d with⟨_,d⟩|⟨_,s,x,o,a,e⟩
  ·exact h.fin k i d
  ·exact(h.rows s x a).block (EC a) e
 ·rcases c with⟨_,c⟩|⟨_,s,x,o,a,e⟩
  ·exact h.finB k c
  ·exact(h.rows s x a).block (EC a) e
def A3Z{G:Gl}(hr:Rel G w0 C H w)(args:Is)(ys:Hx)(K:Bool->Is->Af)(d:CF C w args ys)(h:IK (Ia true H depth) args K=some r):∃q c,CF (VB true q C H) w c ys/\K q c=some r:=
 oF (f:=Ia true H depth) (b:=true) (λa y K hv h=>uP hr depth a y K hv h) args ys K d h
def SQ:∀(f:AV->(Bool->K2)->Af)(d:∀a K,f a K=some r->∃q c,K q c=some r)(l:Is)(K:Bool->Is->Af),IK f l K=some r->∃q e,K q e=some r:=by
 intro f d l
 induction l with
 |nil=>intro K h;exact⟨_,_,h⟩
 |cons a l ih=>
  intro K h;obtain⟨q,c,h⟩:=d a _ h;obtain⟨g,e,h⟩:=ih _ h;exact⟨_,_,h⟩
def B0P:∀(f:AV->(Bool->K2)->Af)(d:∀a K,f a K=some r->∃q c,K q c=some r)(l:IH)(K:Bool->IH->Af),Rj f l K=some r->∃q e,K q e=some r:=by
 intro f d l
 induction l with
 |nil=>intro K h;exact⟨_,_,h⟩
 |cons a l ih=>
  intro K h;obtain⟨q,c,h⟩:=d a.2 _ h;obtain⟨g,e,h⟩:=ih _ h;exact⟨_,_,h⟩
def B4T:∀(n:Nat)(a:AV)(K:Bool->K2),Ia b H n a K=some r->∃q c,K q c=some r:=by
 intro n
 induction n with
 |zero=>
  intro a K h;change A1v b a K=some r at h;unfold A1v at h;split at h
  ·exact⟨_,_,h⟩
  ·exact⟨_,_,(B4 h).2⟩
  ·exact⟨_,_,(B4 h).2⟩
  ·exact⟨_,_,(B4 h).2⟩
  ·cases h
 |succ n ih=>
  intro a K h;change A1u b H (Ia b H n) a K=some r at h;unfold A1u at h;split at h
  ·exact⟨_,_,h⟩
  ·exact⟨_,_,(B4 h).2⟩
  ·exact⟨_,_,(B4 h).2⟩
  ·exact⟨_,_,(B4 h).2⟩
  ·obtain⟨q,l,h⟩:=SQ _ ih _ _ h;exact⟨_,_,h⟩
  ·obtain⟨q,l,h⟩:=SQ _ ih _ _ h;exact⟨_,_,h⟩
  ·obtain⟨q,l,h⟩:=SQ _ ih _ _ h;obtain⟨q,l,h⟩:=SQ _ ih _ _ h;exact⟨_,_,h⟩
  ·obtain⟨q0,e,cs,_,h⟩:=JU h;obtain⟨_,h⟩:=LM _ _ _ _ h;obtain⟨q,l,h⟩:=SQ _ ih _ _ h;exact⟨_,_,h⟩
  ·obtain⟨q0,e,cs,_,h⟩:=JU h;obtain⟨q,l,h⟩:=SQ _ ih _ _ h;exact⟨_,_,h⟩
  ·obtain⟨x,_,h⟩:=I4 rfl h;unfold qI at h;split at h
   ·obtain⟨q,l,h⟩:=B0P _ ih _ _ h;exact⟨_,_,h⟩
   ·cases h
  ·cases h
def RJ{a:Af}(h:Au a K=some r):∃v c,a=some (v,c)/\K v=some r:=by
 unfold Au at h;split at h
 ·exact⟨_,_,rfl,h⟩
 ·cases h
def Zj(hR:RSound D E P R)(h:Aq R f args H K=some r):dC P f/\Rh P E.G f args H (λv L=>L=H/\K v=some r):=by
 unfold Aq at h;refine⟨?_,?_⟩
 ·obtain⟨q,l',h⟩:=SQ _ (λa K h=>B4T depth a K h) _ _ h;obtain⟨v,L,h1,_⟩:=RJ h;exact(hR.call _ _ _ _ _ h1).1
 intro w0 C w ys hr ha;obtain⟨q,X,aa,u⟩:=A3Z hr args ys _ ha h;obtain⟨v0,H0,u,Y⟩:=RJ u;have hc:=(hR.call _ _ _ _ _ u).2;have J:=A1N (b:=true) (q:=q) hr;have Z:Rel E.G ⟨w,λ_=>False⟩ (VB true q C H) [] w:=
  ⟨λg cs hg i v hv=>⟨.inl ⟨rfl,(hr.glob g cs hg i v hv).1⟩,(hr.glob g cs hg i v hv).2⟩,.refl _ _,λ_ _ h=>by simp[Ai]at h,λ_ _ h=>by simp[Ai]at h,λ_ _ _ _ h=>by simp[Ai]at h,λ_ _ _ _ _ _ _ h=>by simp[Ai]at h,J.1,J.2,λ_ _=>rfl⟩
 refine(hc _ _ w ys Z aa).mono ?_;rintro e O ⟨v,y,V,L,rfl,t,hv,hx,j⟩;obtain⟨q2,v',ab,M⟩:=uP t depth v y _ hv j;injection M with M
 injection M with M ad
 subst M;have hb:Below w.heap.size w O:=t.below.toBelow;have m:∀k,Base.own ⟨w,λ_=>False⟩ k->w.heap.size<=k:=λk h=>h.elim id (λh=>h.elim)
 let Q:Ctx:={π:=C.π,F:=λk i=>C.F k i\/(w.heap.size<=k/\(VB (!q) q2 V L).F k i),B:=λk=>C.B k\/(w.heap.size<=k/\(VB (!q) q2 V L).B k)}
 have n:=A1N (b:=!q) (q:=q2) t;have e:Ext w0.own C w Q O:=⟨λ_ _=>rfl,λ_ _ h=>.inl h,λk i h=>hb.cell (p:=⟨k,i,none⟩) (hr.fin k i h),λ_ h=>.inl h,λk h=>hb.block k (hr.finB k h),
  λk arr T fz h=>⟨arr,fz,(hb.block k (l1v.1 h).1).trans h,rfl⟩,λk i h=>h.imp id (λh=>.inl (fG hr.below.size h.1)),λk h=>h.imp id (λh=>.inl (fG hr.below.size h.1)),hb.size⟩
 have N:Rel E.G w0 Q H O:=by
  refine⟨hr.glob.mono e,hr.below.below hb,hr.lt,λs x j=>(hr.rows s x j).mono e (λk ac A=>hb.block k ((hr.rows s x j).block (EC j) A)),λs x k o j A=>?_,hr.sep,λk i d=>?_,λk c=>?_,hr.nx⟩
  ·have h1:=hr.own s x k o j A;have h2:=(hr.rows s x j).block (EC j) A;refine⟨h1.1,λi d=>?_,λc=>?_⟩
   ·rcases d with d|d
    ·exact h1.2.1 i d
    ·have:=d.1;omega
   ·rcases c with c|c
    ·exact h1.2.2 c
    ·have:=c.1;omega
  ·rcases d with d|d
   ·exact l2r (hr.fin k i d) hb.size
   ·exact n.1 k i d.2
  ·rcases c with c|c
   ·exact l2r (hr.finB k c) hb.size
   ·exact n.2 k c.2
 have e2:Ext (λ_=>True) (VB (!q) q2 V L) O Q O:=by
  refine⟨λs h=>absurd rfl h,λk i d=>?_,λ_ _ _=>rfl,λk c=>?_,λ_ _=>rfl,λ_ a _ f h=>⟨a,f,h,rfl⟩,λ_ _ _=>.inr trivial,λ_ _=>.inr trivial,LH _⟩
  ·rcases d with⟨hq,d⟩|⟨hq,s,x,o,j,A⟩
   ·rcases hx.new k i d with h1|h1
    ·rcases h1 with⟨_,h1⟩|⟨h1,_⟩
     ·exact .inl h1
     ·rw[h1]at hq;cases hq
    ·exact .inr ⟨m k h1,.inl ⟨hq,d⟩⟩
   ·exact .inr ⟨m k (t.own s x k o j A).1,.inr ⟨hq,s,x,o,j,A⟩⟩
  ·rcases c with⟨hq,c⟩|⟨hq,s,x,o,j,A⟩
   ·rcases hx.newB k c with h1|h1
    ·rcases h1 with⟨_,h1⟩|⟨h1,_⟩
     ·exact .inl h1
     ·rw[h1]at hq;cases hq
    ·exact .inr ⟨m k h1,.inl ⟨hq,c⟩⟩
   ·exact .inr ⟨m k (t.own s x k o j A).1,.inr ⟨hq,s,x,o,j,A⟩⟩
 exact⟨v',y,Q,H,rfl,N,ab.mono e2,e.frm,rfl,Y⟩
end
end
section
variable{x:AV}{esz n:Nat}{i ie:TI}
def YT(n:Nat)(cs:Is):(Is->Af)->Af:=
 @Nat.rec (λ_=>(Is->Af)->Af) (λK=>K []) (λ_ ih K=>ih λl=>YX cs l K) n
def YS(n:Nat)(cs:Is):∀K,YT n cs K=K (Yo n cs):=by
 induction n with
 |zero=>intro K;rfl
 |succ n ih=>
  intro K;have e:YT (n+1) cs K=YT n cs λl=>YX cs l K:=rfl;rw[e,ih,MZ];rfl
def FV(e:TypeId)(esz:Nat)(ie:TI)(n:Nat)(l:List (Nat×Nat×AV))(H:Hp)(K:KV):Af:=
 He ie.zero λz=>HQ z 0 λk=>ck (Nat.beq k esz&&(!Nat.beq esz 0&&Nat.ble (Nat.mul n esz) 16777216)) (YT n z λcs=>eT l cs λa=>It H λs=>K (.sl esz s 0 n) ((s,.cells false e a)::H))
def Zc(esz:Nat)(ie:TI)(n:Nat)(l:List (Nat×Nat×AV))(K:K2):Af:=
 He ie.zero λz=>HQ z 0 λk=>ck (Nat.beq k esz&&(!Nat.beq esz 0&&Nat.ble (Nat.mul n esz) 16777216)) (YT n z λcs=>eT l cs λa=>ck (a.all (eW 2)) (K (.list n a)))
def eU(l:Ha):(Is->Af)->Af:=@List.rec UInt8 (λ_=>(Is->Af)->Af) (λK=>K []) (λb _ ih K=>fN b.toNat λn=>ih λl=>K (.v (.int .u8 (.ofNat n))::l)) l
def Z7(l:Ha):∀K:Is->Af,eU l K=K (l.map λb=>.v (.int .u8 b.toNat)):=by
 induction l with
 |nil=>intro K;rfl
 |cons b l ih=>
  intro K;have e:eU (b::l) K=fN b.toNat λn=>eU l λl=>K (.v (.int .u8 (.ofNat n))::l):=rfl;rw[e,Ef,ih];rfl
def dG:TD->Bool
 |.slice .. =>true
 |.string=>true
 |_=>false
def RW(esz:Nat):AV->Bool
 |.v (.string _)=>Nat.beq esz 1
 |_=>true
def A3m(h:RW esz x=true):(match(generalizing:=false) x with|.v (.string _)=>esz=1|_=>True):=by
 split
 ·exact Zy h
 ·trivial
def T7(H:Hp)(x:AV)(K:Nat->Is->Af):Af:=
 match x with
 |.list m cs=>K m cs
 |.sl sz r o m=>IQ H r λx=>Kq x λ_ cs=>EL (Nat.mul m sz) (Do o cs) λc=>K m c
 |.v (.slice none 0 0)=>K 0 []
 |.v (.string s)=>HQ s.data.toList 0 λm=>eU s.data.toList λl=>K m l
 |_=>none
def fu8(cs:Is):(Ha->Af)->Af:=
 @List.rec AV (λ_=>(Ha->Af)->Af) (λK=>K []) (λa _ ih K=>match a with|.v (.int .u8 z)=>iN z λn=>ih λl=>K (UInt8.ofNat n::l)|_=>none) cs
def A1H{r:AV×Hp}:∀(cs:Is)(K:Ha->Af),fu8 cs K=some r->∃b:Hb,cs=b.map (λn=>.v (.int .u8 (n:Int)))/\K (b.map UInt8.ofNat)=some r:=by
 intro cs
 induction cs with
 |nil=>intro K h;exact⟨[],rfl,h⟩
 |cons a cs ih=>
  intro K h;have h:(match(generalizing:=false) a with|.v (.int .u8 z)=>iN z λn=>fu8 cs λl=>K (UInt8.ofNat n::l)|_=>none)=some r:=h;split at h
  ·obtain⟨n,c,h2⟩:=Xh h;obtain⟨b,d,e⟩:=ih _ h2;exact⟨n::b,by rw[c,d];rfl,e⟩
  ·cases h
def vM(a:AV)(H:Hp)(K:K2):Af:=
 match a with
 |.v (.string _)=>none
 |a=>T7 H a λm cs=>HQ cs 0 λk=>ck (Nat.beq k m) (fu8 cs λl=>K (.v (.string ⟨⟨l⟩⟩)))
section
variable{T:Ty}{H:Hp}{r:AV×Hp}
def B1R{ty e:TypeId}{l:List (Nat×Nat×AV)}{ps:List (Nat×AV)}{K:KV}(m:T ty=some i)(s:i.d=.slice e esz)(b:T e=some ie)(he:(ps.map λp=>(some (p.1*esz,esz)).map λq=>(q.1,q.2,p.2))=l.map some)(h:FV e esz ie n l H K=some r):
 ∃v c,K v c=some r/\fV T ty n ps H (Ar H) (λt a=>t=v/\a=c):=by
 rw[FV,CM,Cs]at h;obtain⟨h1,h⟩:=B4 h;rw[YS]at h;obtain⟨f,h2,k⟩:=YU (place:=λj=>some (j*esz,esz)) l ps _ _ he h;rw[Ca]at h2;simp only[KK,rE,l19,kD]at h1;refine⟨_,_,h2,?_⟩;unfold fV;simp only[m,s,b];refine⟨λg=>?_,by omega,?_,by rw[k];simp[Mm]⟩
 ·have:=h1.2.1;rw[g]at this;simp at this
 ·have:=h1.2.2;exact this
def Z9{K:Nat->Is->Af}(h:T7 H x K=some r):∃m cs q,A2p H x=some (m,cs,q)/\K m cs=some r:=by
 unfold T7 at h;split at h
 ·exact⟨_,_,_,rfl,h⟩
 ·obtain⟨q0,e,cs,h1,h2⟩:=JU h;obtain⟨b,a⟩:=LM _ _ _ _ h2;rw[C9]at a;exact⟨_,_,_,by simp only[A2p,h1];rfl,a⟩
 ·exact⟨_,_,_,rfl,h⟩
 ·rename_i s;rw[Cs]at h;rw[Z7]at h;exact⟨_,_,_,rfl,by rw[Kk]at h;exact h⟩
 ·cases h
def A3F:∀(a:Hb)(acc:Ha),(a.map λn:Nat=>(n:Int)).foldl (λ(r:ByteArray)n=>r.push (UInt8.ofNat n.toNat)) ⟨⟨acc⟩⟩=⟨⟨acc++a.map UInt8.ofNat⟩⟩:=by
 intro a
 induction a with
 |nil=>intro acc;simp
 |cons n a ih=>
  intro acc;simp only[XC,List.foldl_cons,mI];have:(⟨⟨acc⟩⟩:ByteArray).push (UInt8.ofNat n)=⟨⟨acc++[UInt8.ofNat n]⟩⟩:=by simp[ByteArray.push]
  rw[this,ih];simp
def A4z{P:Program}{G:Gl}{w0:Base}{C:Ctx}{w:World}{a:AV}{y:Value}{K:K2}(hr:Rel G w0 C H w)(hv:VRel C w a y)(h:vM a H K=some r):(∀s,y≠.string s)/\∃l:Ha,K (.v (.string ⟨⟨l⟩⟩))=some r/\(Conv.bytesToString y).run P w=.ok (.string ⟨⟨l⟩⟩) w:=by
 unfold vM at h;split at h
 ·cases h
 ·rename_i t;obtain⟨m,cs,q,g,h⟩:=Z9 h;rw[Cs]at h;obtain⟨F,h⟩:=B4 h;have F:cs.length=m:=by have:=Zy F;omega
  obtain⟨k,B,A⟩:=A1H _ _ h;subst B;obtain⟨d,vs,u,b⟩:=Xy (P:=P) (esz:=1) hr hv g (by omega) (λs J=>absurd J (t s));have b:=b w (λ_ _=>rfl);have j:vs=k.map λn:Nat=>Value.int .u8 (n:Int):=by
   apply l0p;intro i;cases hi:(k.map λn:Nat=>AV.v (.int .u8 (n:Int)))[i]? with
   |none=>
    have h1:k.length<=i:=by simpa using List.getElem?_eq_none_iff.1 hi
    rw[l1j (by rw[u.1];simpa using h1),l1j (by simpa using h1)]
   |some c=>
    obtain⟨M,L,D⟩:=u.2 i c hi;rw[L];rw[xU]at hi⊢;cases hn:k[i]? with
    |none=>rw[hn]at hi;cases hi
    |some n=>
     rw[hn]at hi;injection hi with hi
     subst hi;have:=AM.1 D.unsel;rw[this];rfl
  have f:∀s,y≠.string s:=by
   intro s e;subst e;cases hv with
   |v=>exact t s rfl
   |dk=>simp[A2p]at g
  refine⟨f,_,A,?_⟩;cases y with
  |slice p n cap=>
   have hn:n=m:=by
    simp only[Builtin.lenOf,mJ]at d;injection d
   subst hn;cases p with
   |none=>
    simp only[Builtin.firstCells,mJ]at b;injection b with b
    have:vs=[]:=by
     have:=congrArg Array.toList b;simpa using this.symm
    rw[j]at this;have:k=[]:=by simpa using this
    subst this;rfl
   |some p=>
    have e:(Builtin.firstCells 1 n (.slice (some p) n cap))=loadCells p (n*1):=rfl;rw[e,oI,j]at b;have:=run_bytesToString w p n cap (k.map λn:Nat=>(n:Int)) (by rw[b];simp[l1y]);rw[this];have:=A3F k [];rw[show(ByteArray.empty:ByteArray)=⟨⟨[]⟩⟩ from rfl,this];rfl
  |string s=>exact absurd rfl (f s)
  |_=>simp[Builtin.lenOf]at d
def VH(e:TypeId)(esz:Nat)(ie i2:TI)(s x:AV)(H:Hp)(K:KV):Af:=
 T7 H x λm a=>HQ a 0 λk=>He ie.zero λz=>HQ z 0 λf=>
  ck (Nat.beq k (Nat.mul m esz)&&(NQ a&&(!Nat.beq esz 0&&(Nat.beq f esz&&(dG i2.d&&RW esz x)))))
   (match s with
   |.v (.slice none 0 0)=>ck (Nat.ble (Nat.mul m ie.bytes) 70368744177664&&Nat.ble m 70368744177664) (@Bool.rec (λ_=>Af) (It H λr=>K (.sl esz r 0 m) ((r,.cells false e a)::H)) (K (.v (.slice none 0 0)) H) (Nat.beq m 0))
   |.sl sz r1 o n=>IQ H r1 λx=>Kq x λE cs=>HQ cs 0 λcl=>
    ck (Nat.beq E e&&(Nat.beq sz esz&&(Nat.beq (Nat.add o (Nat.mul n esz)) cl&&(Nat.ble (Nat.mul (Nat.add n m) ie.bytes) 70368744177664&&Nat.ble (Nat.add n m) 70368744177664))))
     (YX (Do o cs) a λb=>LJ H r1 .gone λc=>It H λr=>fN (Nat.add n m) λnm=>K (.sl esz r 0 nm) ((r,.cells false e b)::c))
   |_=>none)
def B_{t1 t2 e:TypeId}{i1 i2 ie:TI}{s x:AV}{K:KV}(h1:T t1=some i1)(h2:T t2=some i2)(t:i1.d=.slice e esz)(g:T e=some ie)(h:VH e esz ie i2 s x H K=some r):
 ∃v j,K v j=some r/\Zl T t1 t2 s x H (Ar H) (λy b=>y=v/\b=j):=by
 unfold VH at h;obtain⟨m,A,q,a,h⟩:=Z9 h;rw[Cs,CM,Cs]at h;obtain⟨hc,h⟩:=B4 h;simp only[KK,rE,FN,l19]at hc;obtain⟨c1,c2,c3,c4,c5,c6⟩:=hc;have p1:esz≠0:=λc=>by rw[c]at c3;simp at c3
 have p2:(B0 ie.zero).length=esz:=by omega
 unfold Zl;simp only[h1,h2,t,g,a,Mm];have pre:=And.intro p1 (And.intro p2 (And.intro (show(match i2.d with|.slice .. =>True|.string=>True|_=>False) from by cases f:i2.d<;>rw[f]at c5<;>first|trivial|cases c5) (A3m c6)));split at h
 ·obtain⟨hb,h⟩:=B4 h;simp only[KK,kD]at hb;by_cases hm:m=0
  ·subst hm;exact⟨_,_,h,pre,⟨by simpa using c1,c2⟩,by simpa using hb,rfl,rfl⟩
  ·have c:Nat.beq m 0=false:=by
    cases m with
    |zero=>exact absurd rfl hm
    |succ m=>rfl
   rw[c]at h;simp only[Ca]at h;simp only[CD hm];exact⟨_,_,h,pre,⟨by simpa using c1,c2⟩,by simpa using hb,rfl,rfl⟩
 ·rename_i sz r1 o n;obtain⟨q0,E,cs,u,h⟩:=JU h;rw[Cs]at h;obtain⟨hb,h⟩:=B4 h;rw[MZ,Dg,Ca,Ef,C9]at h;simp only[KK,rE,kD]at hb;obtain⟨b1,b2,k,b4,p⟩:=hb;refine⟨_,_,h,pre,⟨by simpa using c1,c2⟩,?_⟩;simp only[u];exact⟨⟨b1,b2,by simpa using k,b4,p⟩,rfl,rfl⟩
 ·cases h
variable{P:Program}{G:Gl}{w0:Base}{C:Ctx}{w w':World}
def Ctx.addF(C:Ctx)(b:Nat):Ctx:={C with F:=λk i=>C.F k i\/k=b}
def Rel.new_fixed(h:Rel G w0 C H w)(hb:Below w.heap.size w w')(j:w.heap.size<w'.heap.size):Rel G w0 (C.addF w.heap.size) H w'/\Ext w0.own C w (C.addF w.heap.size) w':=by
 have e:Ext w0.own C w (C.addF w.heap.size) w':=⟨λ_ _=>rfl,λ_ _ h=>.inl h,λk i a=>hb.cell (p:=⟨k,i,none⟩) (h.fin k i a),λ_ h=>h,λk a=>hb.block k (h.finB k a),
  λk arr T fz a=>⟨arr,fz,(hb.block k (l1v.1 a).1).trans a,rfl⟩,λk i a=>a.imp id (λe=>.inl (by rw[e];exact h.below.size)),λk a=>.inl a,hb.size⟩
 refine⟨⟨h.glob.mono e,h.below.below hb,h.lt,λs x c=>(h.rows s x c).mono e (λk f d=>hb.block k ((h.rows s x c).block (EC c) d)),λs x k o c d=>?_,h.sep,λk i b=>?_,λk g=>l2r (h.finB k g) hb.size,h.nx⟩,e⟩
 ·have h1:=h.own s x k o c d;have h2:=(h.rows s x c).block (EC c) d;refine⟨h1.1,λi b=>?_,h1.2.2⟩;rcases b with b|b
  ·exact h1.2.1 i b
  ·omega
 ·rcases b with b|b
  ·exact l2r (h.fin k i b) hb.size
  ·omega
def A7V(Y:jX P T){ty e:TypeId}{l:List (Nat×Nat×AV)}{ps:List (Nat×AV)}{B:List (Nat×Value)}{K:K2}(hi:T ty=some i)(hd:i.d=.slice e esz)(N:T e=some ie)(he:(ps.map λp=>(some (p.1*esz,esz)).map λq=>(q.1,q.2,p.2))=l.map some)(h:Zc esz ie n l K=some r)(k:ps.length=B.length)(hq:∀(j:Nat)(p:Nat×AV),ps[j]?=some p->∃z,B[j]?=some (p.1,z)/\VRel C w p.2 z)(hr:Rel G w0 C H w):
 ∃v y D w',K v=some r/\(Instr.buildSlice ty n B.toArray).run P w=.ok y w'/\VRel D w' v y/\Rel G w0 D H w'/\Ext w0.own C w D w':=by
 rw[Zc,CM,Cs]at h;obtain⟨h1,h⟩:=B4 h;rw[YS]at h;obtain⟨g,h2,hf⟩:=YU (place:=λj=>some (j*esz,esz)) l ps _ _ he h;obtain⟨M,hK⟩:=B4 h2;simp only[KK,rE,l19,kD]at h1;have m:esz≠0:=λe0=>by have:=h1.2.1;rw[e0]at this;simp at this
 have Q:(B0 ie.zero).length=esz:=by omega
 have Z:n*esz<=2^24:=h1.2.2;have ok:=Y ty i hi;obtain⟨hu,hc⟩:=ok.elem_slice hd;have X:=Y e ie N;obtain⟨z,hz,ez⟩:=X.run_zero (P:=P) w;have hsz:(sizeOf e).run P w=.ok esz w:=by rw[<-hc];exact BZ w (by rw[hc];exact m)
 have u:CF C w (B0 ie.zero) z.cells.toList:=Pu (t:=e) ez;have R:z.cells.size=esz:=by have:=u.1;simp at this;omega
 have V:CF C w (Yo n (B0 ie.zero)) ((List.range n).flatMap λ_=>z.cells.toList):=by rw[gI];exact Zw u n
 obtain⟨b,F,A⟩:=jA (C:=C) (w:=w) ps B _ _ g k hq V hf;have c:¬(n*esz>2^24):=by omega
 have aa:b.length=n*esz:=by rw[A.1,jU _ _ _ hf,Yn,Q]
 have L:=eZ w (.cells b.toArray e);obtain⟨s,a⟩:=hr.new_fixed L (by simp);refine⟨_,.slice (some ⟨w.heap.size,0,none⟩) n n,_,_,hK,?_,?_,s,a⟩
 ·unfold Instr.buildSlice;rw[Dn,run_underlying hu w];simp only[FY];rw[Dn,hsz];simp only[FY,CD c,pure_bind];by_cases J:n*esz=0
  ·have O:n=0:=by rcases Nat.mul_eq_zero.1 J with h|h;exact h;exact absurd h m
   subst O;rw[Dr J];simp only[List.range_zero,List.flatMap_nil]at F;rw[show(Array.map (λx=>(#[]:Array Value)[x%(#[]:Array Value).size]!) (Array.range (0*esz)))= #[] from by rw[Nat.zero_mul];apply qK;simp,F];simp[newRow]
  ·rw[CD J,Dn,hz];simp only[FY];have:=fL z.cells n;rw[R]at this⊢;rw[this,F];simp[newRow]
 ·have g3:CF (C.addF w.heap.size).bare {w with heap:=w.heap.push (.cells b.toArray e)} g b:=CF.mono (C:=C.bare) (CF.down 2 M A rfl rfl) a.bare;refine .list (LH _) (λi=>b.getD i undef) (λi hi=>.inr rfl) (λi hi=>?_) (λi hi=>?_)
  ·have f:i<b.length:=by rw[A.1];exact hi
   rw[cell_of_row _ w.heap.size (0+i) b.toArray e (0,0) (by simp)];simp[UT,f]
  ·have f:i<b.length:=by rw[A.1];exact hi
   rw[UT,KL f];exact g3.get i hi
end
end
def eMk(e:TypeId)(esz:Nat)(ie:TI)(len cap:AV)(H:Hp)(K:KV):Af:=
 R? len λl=>iN l λn=>R? cap λc=>iN c λm=>He ie.zero λz=>HQ z 0 λk=>
  ck (Nat.beq k esz&&(!Nat.beq esz 0&&(Nat.beq ie.size esz&&(Nat.ble n m&&(Nat.ble (Nat.mul ie.bytes m) 281474976710656&&Nat.ble m 281474976710656)))))
   (YT n z λcs=>It H λs=>K (.sl esz s 0 n) ((s,.cells false e cs)::H))
section
variable{T:Ty}{H:Hp}{r:AV×Hp}{P:Program}{G:Gl}{w0:Base}{C:Ctx}{w:World}
def A7O(N:jX P T){ty e:TypeId}{esz:Nat}{i ie:TI}{len cap:AV}{y1 y2:Value}{K:KV}(hi:T ty=some i)(hd:i.d=.slice e esz)(u:T e=some ie)(h1:VRel C w len y1)(h2:VRel C w cap y2)(hr:Rel G w0 C H w)(h:eMk e esz ie len cap H K=some r):
 ∃v J y Q O,K v J=some r/\(Instr.makeSlice ty y1 y2).run P w=.ok y O/\KJ G w0 C w v J y Q O:=by
 unfold eMk at h;obtain⟨k1,l,d1,Y⟩:=Qa h;obtain⟨n,b,Z⟩:=Xh Y;obtain⟨k2,c,d2,g3⟩:=Qa Z;obtain⟨m,X,L⟩:=Xh g3;rw[CM,Cs]at L;obtain⟨hb,M⟩:=B4 L;rw[YS,Ca]at M;simp only[KK,rE,l19,kD]at hb;obtain⟨b1,b2,R,b4,V,b6⟩:=hb;subst b X d1 d2;have D:=AM.1 h1;have F:=AM.1 h2;subst D F;obtain⟨hu,hc⟩:=(N ty i hi).elem_slice hd;obtain⟨inf,z,g,x,A,hz,s⟩:=(N e ie u).info;have k:CF C w (B0 ie.zero) z.cells.toList:=Pu (t:=e) s;have p:z.cells.size=esz:=by have:=k.1;simp at this;omega
 have aa:ie.bytes*m<=281474976710656:=V;have q:(inf.bytes:Int)*(m:Int)<=281474976710656:=by
  have:((ie.bytes*m:Nat):Int)<=281474976710656:=by omega
  rw[Int.natCast_mul]at this;rw[A];exact this
 have j:=run_make (P:=P) w ty e inf z hu g hz k1 k2 n m (by omega) (by omega) q (by omega);have B:CF C w (Yo n (B0 ie.zero)) ((List.range n).flatMap λ_=>z.cells.toList):=by rw[gI];exact Zw k n
 have a:(Yo n (B0 ie.zero)).length=n*esz:=by rw[Yn];congr 1;omega
 have f:(madeCells z.cells (m*esz)).toList.take (n*esz)=(List.range n).flatMap λ_=>z.cells.toList:=by
  have b:=congrArg Array.toList (fL z.cells n);rw[p]at b;simp only[Array.toList_map,Array.toList_range]at b;rw[<-b];simp only[madeCells,Array.toList_map,Array.toList_range,p];rw[<-List.map_take]
  congr 1
  rw[List.take_range,l22 (l28 _ b4)]
 have key:=Zu hr (NM w (.cells (madeCells z.cells (m*esz)) e)) e (cs:=Yo n (B0 ie.zero)) (arr:=madeCells z.cells (m*esz)) (fz:=(0,0)) (World.alloc_heap_new w _) (λi _=>by omega) esz n m b4 (by rw[size_madeCells];exact LH _) (by rw[size_madeCells,a];exact l28 _ b4) (by rw[a,f];exact B);refine⟨_,_,_,_,_,M,?_,key⟩;rw[j];simp only[mI,x,R]
end
def A1Y(e:TypeId)(a:AV)(H:Hp)(K:KV):Af:=
 match a with
 |.v (.string s)=>HQ s.data.toList 0 λn=>eU s.data.toList λcs=>It H λr=>K (.sl 1 r 0 n) ((r,.cells false e cs)::H)
 |_=>none
section
variable{H:Hp}{r:AV×Hp}{P:Program}{G:Gl}{w0:Base}{C:Ctx}{w:World}
def B41(w:World)(e:TypeId)(s:ByteArray):∃(cap:Nat)(arr:Array Value)(w':World),s.size<=cap/\(Conv.stringToBytes e s).run P w=.ok (.slice (some ⟨w.heap.size,0,none⟩) s.size cap) w'/\Below w.heap.size w w'/\
 w'.heap[w.heap.size]?=some (.cells arr e (cap,cap+1))/\arr.size=cap/\arr.toList.take s.size=s.data.toList.map λb=>Value.int .u8 b.toNat:=by
 let q:Question:=.appendCap s.size 0 e
 let c:=q.cut (w.tape w.drawn q)
 have hc:s.size<=c:=by show s.size<=s.size+_;omega
 have hsz:(s.data.map λb=>Value.int .u8 b.toNat).size=s.size:=by rw[Array.size_map];rfl
 have f:(s.data.map λb=>Value.int .u8 b.toNat).toList.length=s.size:=by rw[Array.length_toList];exact hsz
 let arr:Array Value:=(s.data.map λb=>Value.int .u8 b.toNat)++Array.replicate (c-s.size) (.int .u8 0)
 have a:arr.size=c:=by
  show((s.data.map λb=>Value.int .u8 b.toNat)++Array.replicate (c-s.size) (Value.int .u8 0)).size=c;rw[Array.size_append,hsz,Array.size_replicate];omega
 refine⟨c,arr,{w with drawn:=w.drawn+1,heap:=w.heap.push (.cells arr e (c,c+1))},hc,?_,?_,by simp,a,?_⟩
 ·unfold Conv.stringToBytes;rw[Dn,run_choose,CD (by simp[Question.forced])];simp only[FY];simp only[newRow,Dn,run_newObj,FY,mJ,markStringish];have d:World.shape? {heap:=w.heap.push (Obj.cells arr e),tape:=w.tape,drawn:=w.drawn+1,os:=w.os,output:=w.output} w.heap.size=some (e,c):=by
   simp only[World.shape?,Array.getElem?_push_size];rw[a]
  have i:World.freeze {heap:=w.heap.push (Obj.cells arr e),tape:=w.tape,drawn:=w.drawn+1,os:=w.os,output:=w.output} {block:=w.heap.size,off:=c} 1={heap:=w.heap.push (Obj.cells arr e (c,c+1)),tape:=w.tape,drawn:=w.drawn+1,os:=w.os,output:=w.output}:=by
   unfold World.freeze;rw[CD (by omega)]
   congr 1
   apply Array.ext_getElem?;intro j;rw[l0s];by_cases g:w.heap.size=j
   ·subst g;rw[Dr rfl,Array.getElem?_push_size,Array.getElem?_push_size];rfl
   ·rw[CD g,l2c,l2c,CD (λh=>g h.symm),CD (λh=>g h.symm)]
  rw[run_shape];have m:=d;show(((Result.ok (World.shape? {heap:=w.heap.push (Obj.cells arr e),tape:=w.tape,drawn:=w.drawn+1,os:=w.os,output:=w.output} w.heap.size) _).andThen _).andThen _)=_;rw[d];simp only[FY,run_freeze];exact congrArg (Result.ok _) i
 ·exact⟨rfl,rfl,rfl,by simp,λk n=>by simp[l2c,Nat.ne_of_lt n]⟩
 ·show((s.data.map λb=>Value.int .u8 b.toNat)++Array.replicate (c-s.size) (Value.int .u8 0)).toList.take s.size=_;rw[Array.toList_append,l32 (Nat.le_of_eq f.symm)];rw[l25 (Nat.le_of_eq f),Array.toList_map]
def A4l{e:TypeId}{a:AV}{y:Value}{K:KV}(hr:Rel G w0 C H w)(hv:VRel C w a y)(h:A1Y e a H K=some r):
 ∃s,y=.string s/\∃v d g j c,K v d=some r/\(Conv.stringToBytes e s).run P w=.ok g c/\KJ G w0 C w v d g j c:=by
 unfold A1Y at h;split at h
 ·rename_i s;have p:=AM.1 hv;refine⟨s,p,?_⟩;rw[Cs,Z7,Ca,Kk]at h;obtain⟨cap,arr,c,h1,h2,k,m,q,n⟩:=B41 (P:=P) w e s;have f:(s.data.toList.map λb=>AV.v (.int .u8 b.toNat)).length=s.size:=by rw[Po];rfl
  have key:=Zu hr k e (cs:=s.data.toList.map λb=>AV.v (.int .u8 b.toNat)) m (λi hi=>by omega) 1 s.size cap h1 (by omega) (by rw[f];omega) (by
   rw[f,n];have:=Xc (C:=C.sel false) (w:=w) (s.data.toList.map λb=>Value.int .u8 b.toNat);simpa [l1y] using this)
  exact⟨_,_,_,_,_,h,h2,key⟩
 ·cases h
end
section
variable{q:Bool}{C:Ctx}{es:IH}{ms:List MapEntry}{kt:TypeId}{a b k:Value}{p:Value×AV}{w:World}
def iO:Value->Value->Option Bool
 |.string a,.string b=>some (eqB a.data.toList b.data.toList)
 |.int k a,.int c b=>match decide (k=c) with|true=>some (ieq a b)|false=>none
 |.bool a,.bool b=>some (a==b)
 |_,_=>none
def Zi(xs:Hx):Hx->Option Bool:=
 @List.rec Value (λ_=>Hx->Option Bool) (λd=>match d with|[]=>some true|_=>none)
  (λx _ ih d=>match d with
   |[]=>none
   |y::d=>match iO x y with
    |some b=>(match ih d with|some c=>some (b&&c)|none=>none)
    |none=>none) xs
def keq:Value->Value->Option Bool
 |.agg xs,.agg c=>Zi xs.toList c.toList
 |a,b=>iO a b
def iK(k:Value)(es:IH):Nat->Option (Option (Nat×AV)):=
 @List.rec (Value×AV) (λ_=>Nat->Option (Option (Nat×AV))) (λ_=>some none)
  (λp _ ih i=>match keq k p.1 with|some true=>some (some (i,p.2))|some false=>ih (Nat.succ i)|none=>none) es
def eM(k:Value)(p:Value×AV)(es:IH)(i:Nat):iK k (p::es) i=(match keq k p.1 with|some true=>some (some (i,p.2))|some false=>iK k es (i+1)|none=>none):=rfl
def IC(k:Value)(es:IH)(K:Option (Nat×AV)->Af):Af:=match iK k es 0 with|some x=>K x|none=>none
def oL(cs:Is):(Hx->Af)->Af:=
 @List.rec AV (λ_=>(Hx->Af)->Af) (λK=>K []) (λa _ ih K=>match a with|.v x=>ih λl=>K (x::l)|_=>none) cs
def Mt(a:AV)(K:Value->Af):Af:=match a with|.v (.string s)=>K (.string s)|_=>none
def Xf(q:IntKind)(a:AV)(K:Value->Af):Af:=match a with|.v (.int c n)=>ck (decide (c=q)) (K (.int c n))|_=>none
def B50(ks:List LK)(a:AV)(K:Value->Af):Af:=match a with|.agg cs=>oL cs λvs=>ck (fits ks vs) (K (.agg vs.toArray))|_=>none
def Rg(P:Program)(kt:TypeId)(k:Value):Prop:=
 (P.underlying kt=some .string/\∃s,k=.string s)\/(∃q n,P.underlying kt=some (.int q)/\k=.int q n)\/(∃ks xs,EqFlat P kt ks/\fits ks xs=true/\k=.agg xs.toArray)
def zG(h:iO a b=some q):(q=true↔a=b)/\∀c:LK,c.fit a=true->c.fit b=true:=by
 cases a<;>cases b<;>simp[iO]at h
 ·subst h;exact⟨by simp,λc d=>by cases c<;>simp[LK.fit]at d⊢⟩
 ·split at h
  ·rename_i e;injection h with h
   have e:_=_:=l2y e;subst e;refine⟨by rw[<-h,QX];simp,λc d=>?_⟩;cases c<;>simp[LK.fit]at d⊢
   exact d
  ·cases h
 ·rw[QZ]at h;refine⟨?_,λc d=>by cases c<;>simp[LK.fit]at d⊢⟩;rename_i x y;obtain⟨⟨x⟩⟩:=x;obtain⟨⟨y⟩⟩:=y;rw[<-h];simp
def A8a(x:Value)(xs:Hx)(ys:Hx):Zi (x::xs) ys=(match ys with|[]=>none|y::ys=>(match iO x y with|some b=>(match Zi xs ys with|some c=>some (b&&c)|none=>none)|none=>none)):=rfl
def VL:∀{xs ys:Hx}{q:Bool},Zi xs ys=some q->(q=true↔xs=ys)/\∀ks,fits ks xs=true->fits ks ys=true:=by
 intro xs
 induction xs with
 |nil=>
  intro ys q h;cases ys with
  |nil=>injection h with h;subst h;exact⟨by simp,λ_ h=>h⟩
  |cons y ys=>cases h
 |cons x xs ih=>
  intro ys q h;rw[A8a]at h;cases ys with
  |nil=>cases h
  |cons y ys=>
   simp only at h;cases h1:iO x y with
   |none=>rw[h1]at h;cases h
   |some b=>
    rw[h1]at h;simp only at h;cases h2:Zi xs ys with
    |none=>rw[h2]at h;cases h
    |some c=>
     rw[h2]at h;injection h with h
     obtain⟨e,f1⟩:=zG h1;obtain⟨f,f2⟩:=ih h2;refine⟨by rw[<-h,KK,e,f,List.cons.injEq],λks d=>?_⟩;cases ks with
     |nil=>simp[fits]at d
     |cons k ks=>
      simp only[fits,KK]at d⊢;exact⟨f1 k d.1,f2 ks d.2⟩
def A1y(h:keq a b=some q):q=true↔a=b:=by
 unfold keq at h;split at h
 ·rename_i xs c;rw[(VL h).1];constructor
  ·intro e;rw[Array.toList_inj.1 e]
  ·intro e;injection e with e;rw[e]
 ·exact(zG h).1
section
variable{P:Program}
def eS{r:AV×Hp}:∀(cs:Is)(K:Hx->Af),oL cs K=some r->∃vs:Hx,cs=vs.map AV.v/\K vs=some r:=by
 intro cs
 induction cs with
 |nil=>intro K h;exact⟨[],rfl,h⟩
 |cons a cs ih=>
  intro K h;have h:(match(generalizing:=false) a with|.v x=>oL cs λl=>K (x::l)|_=>none)=some r:=h;split at h
  ·obtain⟨vs,e,h2⟩:=ih _ h;exact⟨_::vs,by rw[e];rfl,h2⟩
  ·cases h
def sM{vs:Hx}{y:Value}(h:VRel C w (.agg (vs.map AV.v)) y):y=.agg vs.toArray:=by
 obtain⟨e,rfl,c⟩:=XA0.1 h
 congr 1
 congr 1
 apply l0p;intro i;cases hi:vs[i]? with
 |none=>
  have:=c.1;simp only[Po]at this;have h1:vs.length<=i:=by simpa using List.getElem?_eq_none_iff.1 hi
  exact l1j (by omega)
 |some v=>
  obtain⟨y,d,hv⟩:=c.2 i (.v v) (by rw[xU,hi];rfl);rw[d,AM.1 hv]
def wU:∀{ks:List LK}{xs:Hx}(n:Nat),fits ks xs=true->((xs.zip xs).all λp=>Instr.sameBits n p.1 p.2)=true:=by
 intro ks
 induction ks with
 |nil=>intro xs n h;cases xs<;>simp[fits]at h;rfl
 |cons k ks ih=>
  intro xs n h;cases xs with
  |nil=>simp[fits]at h
  |cons x xs=>
   simp only[fits,KK]at h;simp only[List.zip_cons_cons,oG,KK];refine⟨?_,ih n h.2⟩;have h1:=h.1;cases k<;>cases x<;>simp[LK.fit]at h1<;>simp[Instr.sameBits,MapKept.bytes_beq]
def Rg.stays(h:Rg P kt k)(w:World):(Instr.keyThatStays k k).run P w=.ok k w:=by
 have:Instr.sameBits 10000 k k=true:=by
  rcases h with⟨_,s,rfl⟩|⟨q,n,_,rfl⟩|⟨ks,xs,_,h,rfl⟩
  ·simp[Instr.sameBits,MapKept.bytes_beq]
  ·simp[Instr.sameBits]
  ·have:=wU 9999 h;show(xs.toArray.size==xs.toArray.size&&(xs.toArray.toList.zip xs.toArray.toList).all λ(x,y)=>Instr.sameBits 9999 x y)=true;simp only[beq_self_eq_true,l1b];exact this
 simp[Instr.keyThatStays,this]
theorem Rg.check(h:Rg P kt k)(em:Bool)(w:World):(Instr.checkKey em 10000 kt k).run P w=.ok () w:=by
 rcases h with⟨c,s,rfl⟩|⟨q,n,c,rfl⟩|⟨ks,xs,he,h,rfl⟩
 ·exact MapKept.run_checkKey c (d:=.string) (by simp[MapKept.IsKey]) em 9999
 ·exact MapKept.run_checkKey c (d:=.int q) (by simp[MapKept.IsKey]) em 9999
 ·exact he.check h em w
def vZ(k:Value)(es:IH)(ms:List MapEntry)(c:Nat):Option (Nat×AV)->Option (Nat×Value)->Prop
 |none,r=>r=none/\∀p∈es,p.1≠k
 |some (i,v),r=>∃(j:Nat)(m:MapEntry),i=c+j/\es[j]?=some (k,v)/\ms[j]?=some m/\m.key=k/\r=some (i,m.val)
def Mb.cons_inv(h:Mb C w (p::es) ms):∃m c,ms=m::c/\m.key=p.1/\VRel C w p.2 m.val/\Mb C w es c:=by
 cases ms with
 |nil=>exact absurd h.1 (by simp)
 |cons m ms=>
  obtain⟨f,h1,h2,d⟩:=h.2 0 p rfl;simp at h1;subst h1;exact⟨m,ms,rfl,h2,d,by simpa using h.1,λi x e=>by simpa using h.2 (i+1) x (by simpa using e)⟩
def Mb.nil_inv(h:Mb C w [] ms):ms=[]:=kC (by simpa using h.1)
theorem vZ.step{m:MapEntry}{d:Nat}(c:p.1≠k):∀{x:Option (Nat×AV)}{r:Option (Nat×Value)},vZ k es ms (d+1) x r->vZ k (p::es) (m::ms) d x r
 |none,r,⟨h1,h2⟩=>⟨h1,λq hq=>by
  rcases Xd.1 hq with rfl|hq
  ·exact c
  ·exact h2 q hq⟩
 |some (i,v),r,⟨j,h,h1,h2,e,f,g⟩=>⟨j+1,h,by omega,by simpa using h2,by simpa using e,f,g⟩
def dK{d:TypeDesc}(t:∀v q,keq k v=some q->Instr.sameNow d k v=some q):∀(es:IH)(ms:List MapEntry)(i:Nat)(x:Option (Nat×AV)),Mb C w es ms->iK k es i=some x->∃r,Instr.findNow d k ms i=some r/\vZ k es ms i x r:=by
 intro es
 induction es with
 |nil=>
  intro ms i x he h;injection h with h
  subst h;rw[he.nil_inv];exact⟨none,rfl,rfl,by simp⟩
 |cons p es ih=>
  intro ms i x he h;obtain⟨m,n,rfl,g,hv,f⟩:=he.cons_inv;rw[eM]at h;cases hq:keq k p.1 with
  |none=>rw[hq]at h;cases h
  |some q=>
   rw[hq]at h;have s:=t _ _ hq;have c:=A1y hq;cases q with
   |true=>
    injection h with h
    subst h;have:k=p.1:=c.1 rfl;refine⟨some (i,m.val),by simp[Instr.findNow,g,s],0,m,rfl,by rw[this];rfl,rfl,by rw[g,this],rfl⟩
   |false=>
    obtain⟨r,h1,h2⟩:=ih n (i+1) x f h;have j:p.1≠k:=λe=>by have:=c.2 e.symm;cases this
    exact⟨r,by simp[Instr.findNow,g,s,h1],h2.step j⟩
def mU{ks:List LK}(B:EqFlat P kt ks){xs:Hx}(v:fits ks xs=true):∀(es:IH)(ms:List MapEntry)(i:Nat)(x:Option (Nat×AV)),Mb C w es ms->iK (.agg xs.toArray) es i=some x->
 ∃r,(Instr.findAsking kt (.agg xs.toArray) ms i).run P w=.ok r w/\vZ (.agg xs.toArray) es ms i x r:=by
 intro es
 induction es with
 |nil=>
  intro ms i x he h;injection h with h
  subst h;rw[he.nil_inv];exact⟨none,rfl,rfl,by simp⟩
 |cons p es ih=>
  intro ms i x he h;obtain⟨m,n,rfl,t,hv,f⟩:=he.cons_inv;rw[eM]at h;cases hq:keq (.agg xs.toArray) p.1 with
  |none=>rw[hq]at h;cases h
  |some q=>
   rw[hq]at h;have c:=A1y hq;have heq:(Op.equal kt (.agg xs.toArray) m.key).run P w=.ok q w:=by
    rw[t];unfold keq at hq;split at hq
    ·rename_i D s d y;injection d with d
     subst d;have g:=(VL hq).2 ks (by simpa using v);have:=B.equal v g w;rw[y];have A:s.toList.toArray=s:=by simp
     rw[A]at this;rw[this]
     congr 1
     rw[uQ,(VL hq).1];simp
    ·rename_i h1;cases u:p.1 with
     |agg s=>exact absurd u (h1 _ _ rfl)
     |_=>rw[u]at hq;simp[iO]at hq
   cases q with
   |true=>
    injection h with h
    subst h;have:_=p.1:=c.1 rfl;refine⟨some (i,m.val),by simp[Instr.findAsking,heq],0,m,rfl,by rw[this];rfl,rfl,by rw[t,this],rfl⟩
   |false=>
    obtain⟨r,h1,h2⟩:=ih n (i+1) x f h;have j:p.1≠_:=λe=>by have:=c.2 e.symm;cases this
    exact⟨r,by simp[Instr.findAsking,heq,h1],h2.step j⟩
def Rg.find(t:Rg P kt k){x:Option (Nat×AV)}(he:Mb C w es ms)(h:iK k es 0=some x):∃r,(Instr.findKey kt k ms).run P w=.ok r w/\vZ k es ms 0 x r:=by
 rcases t with⟨c,s,rfl⟩|⟨q,n,c,rfl⟩|⟨ks,xs,i,g,rfl⟩
 ·obtain⟨r,h1,h2⟩:=dK (d:=.string) (λv q hq=>by
   cases v<;>simp[keq,iO]at hq
   rename_i u;simp only[Instr.sameNow];rw[<-hq,QZ]
   congr 1
   obtain⟨⟨s⟩⟩:=s;obtain⟨⟨u⟩⟩:=u;rw[uQ,MapKept.bytes_beq];simp) es ms 0 x he h
  exact⟨r,MapKept.run_findKey c h1,h2⟩
 ·obtain⟨r,h1,h2⟩:=dK (d:=.int q) (λv B hq=>by
   cases v<;>simp[keq,iO]at hq
   rename_i A m;by_cases e:q=A
   ·subst e;simp at hq;simp only[Instr.sameNow,Dr];rw[<-hq,QX]
    congr 1
   ·simp[e]at hq) es ms 0 x he h
  exact⟨r,MapKept.run_findKey c h1,h2⟩
 ·obtain⟨r,h1,h2⟩:=mU i g es ms 0 x he h;refine⟨r,?_,h2⟩;have c:∃u,P.underlying kt=some u/\(∀b,Instr.sameNow u (.agg xs.toArray) b=none):=by
   have f:=i.leaves;unfold leaves at f;split at f
   ·simp at f
   ·simp at f
   ·simp at f
   ·rename_i c;exact⟨_,c,λb=>by cases b<;>rfl⟩
   ·rename_i c;exact⟨_,c,λb=>by cases b<;>rfl⟩
   ·cases f
  obtain⟨u,c,y⟩:=c;unfold Instr.findKey;rw[Dn,run_underlying c w];simp only[FY];cases ms with
  |nil=>
   have:=he.1;have e:es=[]:=kC (by simpa using this.symm);obtain⟨j,_⟩:r=none/\True:=by
    subst e;have g:x=none:=(l2b h).symm;subst g;exact⟨h2.1,trivial⟩
   rw[j];rfl
  |cons m ms=>
   have:Instr.findNow u (.agg xs.toArray) (m::ms) 0=none:=by simp[Instr.findNow,y]
   rw[this];exact h1
end
end
section
variable{m v:AV}{ms:Array MapEntry}{es es':IH}{f:MapEntry->MapEntry}{clock:Nat}{bo:Option (Hb×Nat)}{ie:TI}{k ym yv:Value}
def vR:Option (Hb×Nat)->Option (Hb×Nat)
 |some (a,c)=>some (a++[c],c+1)
 |none=>none
def C16:Option (Hb×Nat)->Nat->Option (Hb×Nat)
 |some (a,c),i=>some (a.eraseIdx i,c)
 |none,_=>none
def mF:TD->Option (Hb×Nat)
 |.int _=>some ([],0)
 |.slice _ _=>some ([],0)
 |_=>none
def mH(x:Row)(K:IH->Option (Hb×Nat)->Af):Af:=match x with|.map false es bo=>K es bo|_=>none
def LX(ie:TI)(H:Hp)(K:KV):Af:=It H λs=>K (.mp s) ((s,.map false [] (mF ie.d))::H)
def MC(m:AV)(k:Value)(v:AV)(H:Hp)(K:Ru):Af:=
 match m with
 |.mp r=>IQ H r λx=>mH x λes bo=>IC k es λf=>match f with
  |none=>LJ H r (.map false (es++[(k,v)]) (vR bo)) K
  |some (i,_)=>LJ H r (.map false (es.set i (k,v)) bo) K
 |_=>none
def xY(m:AV)(H:Hp)(K:IH->Af):Af:=
 match m with
 |.mp r=>IQ H r λx=>mH x λes _=>K es
 |.imap es=>K es
 |.v (.map none)=>K []
 |_=>none
def ZB(ie:TI)(ok:Bool)(m:AV)(k:Value)(H:Hp)(K:K2):Af:=
 xY m H λes=>IC k es λf=>match f,ok with
  |none,true=>K (.tup [ie.zero,.v (.bool false)])
  |none,false=>K ie.zero
  |some (_,v),true=>K (.tup [v,.v (.bool true)])
  |some (_,v),false=>K v
def jF(m:AV)(k:Value)(H:Hp)(K:Ru):Af:=
 match m with
 |.mp r=>IQ H r λx=>mH x λes bo=>IC k es λf=>match f with
  |none=>K H
  |some (i,_)=>LJ H r (.map false (es.eraseIdx i) (C16 bo i)) K
 |_=>none
def Zb(m:AV)(H:Hp)(K:K2):Af:=xY m H λes=>HQ es 0 λn=>K (.v (.int .i64 (.ofNat n)))
def B1D(ie:TI)(m:AV)(k:Value)(H:Hp)(K:KV):Af:=
 match m with
 |.mp r=>IQ H r λx=>mH x λes bo=>match bo with
  |some (a,c)=>IC k es λf=>match f with
   |none=>LJ H r (.map false (es++[(k,ie.zero)]) (some (a++[c],c+1))) λd=>K (.tup [ie.zero,.v (.int .i64 (.ofNat c))]) d
   |some (i,v)=>(match a[i]? with|some b=>K (.tup [v,.v (.int .i64 (.ofNat b))]) H|none=>none)
  |none=>none
 |_=>none
def B1C(m st v:AV)(H:Hp)(K:Ru):Af:=
 match m with
 |.mp r=>IQ H r λx=>mH x λes bo=>R? st λz=>match bo with
  |some (a,c)=>(match a.findIdx? (λb=>ieq (.ofNat b) z) with
   |some i=>(match es[i]? with|some p=>LJ H r (.map false (es.set i (p.1,v)) (some (a,c))) K|none=>none)
   |none=>none)
  |none=>none
 |_=>none
section
variable{P:Program}{G:Gl}{w0:Base}{C:Ctx}{H:Hp}{w:World}{r:AV×Hp}
def RH{x:Row}{K:IH->Option (Hb×Nat)->Af}(h:mH x K=some r):∃es bo,x=.map false es bo/\K es bo=some r:=by
 unfold mH at h;split at h
 ·exact⟨_,_,rfl,h⟩
 ·cases h
def TH{K:Option (Nat×AV)->Af}(h:IC k es K=some r):∃x,iK k es 0=some x/\K x=some r:=by
 unfold IC at h;split at h
 ·exact⟨_,by assumption,h⟩
 ·cases h
def Mb.append{ms ms':List MapEntry}(h:Mb C w es ms)(k:Mb C w es' ms'):Mb C w (es++es') (ms++ms'):=
 ⟨by simp[h.1,k.1],λi p a=>by
  rw[List.getElem?_append]at a⊢;rw[h.1];split at a
  ·rename_i hi;rw[Dr hi];exact h.2 i p a
  ·rename_i hi;rw[CD hi];exact k.2 _ p a⟩
def Mb.one{m:MapEntry}(b:m.key=k)(hv:VRel C w v m.val):Mb C w [(k,v)] [m]:=
 ⟨rfl,λi p a=>by
  cases i with
  |zero=>simp at a;subst a;exact⟨m,rfl,b,hv⟩
  |succ i=>simp at a⟩
theorem Mb.modify{ms:List MapEntry}(h:Mb C w es ms)(i:Nat)(d:∀m,ms[i]?=some m->(f m).key=k)(hv:∀m,ms[i]?=some m->VRel C w v (f m).val):Mb C w (es.set i (k,v)) (ms.modify i f):=
 ⟨by simp[h.1],λj p a=>by
  rw[List.getElem?_set]at a;rw[List.getElem?_modify];split at a
  ·rename_i e;subst e;split at a
   ·rename_i g;injection a with a
    subst a;have b:i<ms.length:=by rw[h.1];exact g
    have hm:=KL b;exact⟨f ms[i],by rw[hm];simp,d _ hm,hv _ hm⟩
   ·cases a
  ·rename_i e;obtain⟨m,h1,h2,c⟩:=h.2 j p a;exact⟨m,by rw[h1];simp[e],h2,c⟩⟩
theorem Mb.eraseIdx{ms:List MapEntry}(h:Mb C w es ms)(i:Nat):Mb C w (es.eraseIdx i) (ms.eraseIdx i):=
 ⟨by rw[List.length_eraseIdx,List.length_eraseIdx,h.1],λj p a=>by
  rw[List.getElem?_eraseIdx]at a⊢;split at a
  ·rename_i hi;rw[Dr hi];exact h.2 j p a
  ·rename_i hi;rw[CD hi];exact h.2 _ p a⟩
theorem MOk.push(h:MOk ms clock)(k v:Value):MOk (ms.push {key:=k,val:=v,born:=clock}) (clock+1):=
 ⟨by
  rw[l2s,List.pairwise_append];refine⟨h.born,by simp,λa c b hb=>?_⟩;simp at hb;subst hb;have:=h.lt a c;show a.born≠clock;omega,λm hm=>by
  rw[l2s,Zx]at hm;rcases hm with hm|hm
  ·have:=h.lt m hm;omega
  ·simp at hm;subst hm;exact Nat.lt_succ_self _⟩
def Zh{ms:List MapEntry}{i:Nat}(a:∀m,(f m).born=m.born):(ms.modify i f).map (·.born)=ms.map (·.born):=by
 apply l0p;intro j;rw[xU,xU,List.getElem?_modify];cases ms[j]? with
 |none=>rfl
 |some m=>by_cases e:i=j<;>simp[e,a]
def A5I:MOk ms clock↔(ms.toList.map (·.born)).Pairwise (λa b=>a≠b)/\∀b∈ms.toList.map (·.born),b<clock:=by
 constructor
 ·intro h;exact⟨by rw[List.pairwise_map];exact h.born,λb hb=>by obtain⟨m,hm,rfl⟩:=PW.1 hb;exact h.lt m hm⟩
 ·rintro⟨h1,h2⟩;exact⟨by rw[List.pairwise_map]at h1;exact h1,λm hm=>h2 _ (PW.2 ⟨m,hm,rfl⟩)⟩
theorem MOk.modify(h:MOk ms clock)(i:Nat)(a:∀m,(f m).born=m.born):MOk (ms.modify i f) clock:=by
 rw[A5I,l2t,Zh a];exact A5I.1 h
def R7(ms:Array MapEntry)(i:Nat):(ms.eraseIdxIfInBounds i).toList=ms.toList.eraseIdx i:=by
 unfold Array.eraseIdxIfInBounds;split
 ·simp only[Array.toList_eraseIdx]
 ·rename_i h;rw[List.eraseIdx_of_length_le (by simpa using h)]
theorem iE{α β:Type}(f:α->β):∀(l:List α)(i:Nat),(l.eraseIdx i).map f=(l.map f).eraseIdx i
 |[],_=>rfl
 |_::_,0=>rfl
 |a::l,i+1=>by simp[iE f l i]
def MOk.erase(h:MOk ms clock)(i:Nat):MOk (ms.eraseIdxIfInBounds i) clock:=
 ⟨by rw[R7];exact h.born.sublist (List.eraseIdx_sublist _ _),λm hm=>by rw[R7]at hm;exact h.lt m ((List.eraseIdx_sublist _ _).subset hm)⟩
def Zo{r:Nat}{bo bo':Option (Hb×Nat)}{b:Nat}{ms ms':Array MapEntry}{clock clock':Nat}{O:Nat->Prop}(hr:Rel G w0 C H w)(c:Ai H r=some (.map false es bo))(a:C.π r=some (some (b,0)))(hb:w.heap[b]?=some (.map ms clock))(he:Mb C w es' ms'.toList)(hm:MOk ms' clock')(d:BOk bo' ms' clock'):(setObj b (.map ms' clock')).run P w=.ok () {w with heap:=w.heap.setIfInBounds b (.map ms' clock')}/\
  Rel G w0 C (upd H r (.map false es' bo')) {w with heap:=w.heap.setIfInBounds b (.map ms' clock')}/\Ext O C w C {w with heap:=w.heap.setIfInBounds b (.map ms' clock')}:=by
 obtain⟨h1,h2⟩:=MapKept.heap_set (w:=w) (o':=.map ms' clock') hb;have g:SameObj w {w with heap:=w.heap.setIfInBounds b (.map ms' clock')} b (.map ms' clock'):=⟨rfl,rfl,rfl,by simp,h1,h2⟩
 refine⟨MapKept.run_setObj_map _ hb,hr.set_obj (O:=O) c a g (λarr T fz hc=>by rw[hb]at hc;cases hc) (λe=>⟨b,ms',clock',a,h1,hm,he.mono e,d⟩)⟩
def eG{r:Nat}{y:Value}(hr:Rel G w0 C H w)(s:Ai H r=some (.map false es bo))(hv:VRel C w (.mp r) y):
 ∃b ms clock,y=.map (some b)/\C.π r=some (some (b,0))/\w.heap[b]?=some (.map ms clock)/\MOk ms clock/\Mb C w es ms.toList/\BOk bo ms clock:=by
 cases hv with
 |@mp _ _ _ b c d=>
  obtain⟨e,ms,clock,i,j,n,p,q⟩:=hr.rows r _ s;have a:=i.symm.trans d;injection a with a;injection a with a;injection a with g h;subst g h
  exact⟨e,ms,clock,rfl,d,j,n,p,q⟩
def A21{ty:TypeId}{K:KV}(hr:Rel G w0 C H w)(h:LX ie H K=some r):∃v a y c b,K v a=some r/\(Instr.makeMap ty none).run P w=.ok y b/\KJ G w0 C w v a y c b:=by
 unfold LX at h;rw[Ca]at h;have hb:=NM w (.map #[] 0);refine⟨_,_,.map (some w.heap.size),_,w.alloc (.map #[] 0),h,rfl,.mp (C.put_n _ _),hr.new_row hb ⟨w.heap.size,#[],0,C.put_n _ _,World.alloc_heap_new _ _,⟨by simp,by simp⟩,⟨rfl,λi p d=>by simp at d⟩,?_⟩,hr.new_ext hb⟩;unfold mF;split
 ·exact⟨rfl,rfl⟩
 ·exact⟨rfl,rfl⟩
 ·trivial
def vG{mt Y Z:TypeId}{K:Ru}(X:P.underlying mt=some (.map Y Z))(A:Rg P Y k)(hr:Rel G w0 C H w)(hm:VRel C w m ym)(hv:VRel C w v yv)(h:MC m k v H K=some r):
 ∃N M,K N=some r/\(Instr.mapUpdate mt ym k yv).run P w=.ok () M/\Rel G w0 C N M/\Ext w0.own C w C M:=by
 unfold MC at h;split at h
 ·rename_i s;obtain⟨x,J,h1⟩:=I4 rfl h;obtain⟨es,bo,rfl,h2⟩:=RH h1;obtain⟨f,hf,a⟩:=TH h2;obtain⟨b,ms,clock,rfl,V,hb,t,he,R⟩:=eG hr J hm;obtain⟨q,hq,d⟩:=A.find he hf;clear h h1 h2;cases f with
  |none=>
   simp only at a;rw[Dg]at a;obtain⟨c,_⟩:=d;subst c;obtain⟨B,D,F⟩:=Zo (P:=P) (O:=w0.own) (es':=es++[(k,v)]) (bo':=vR bo) (ms':=ms.push {key:=k,val:=yv,born:=clock}) (clock':=clock+1) hr J V hb (by rw[l2s];exact he.append (.one rfl hv)) (t.push _ _) (by
    cases bo with
    |none=>trivial
    |some p=>obtain⟨c,y⟩:=R;exact⟨by rw[l2s,XS,c,y];rfl,by rw[y]⟩)
   refine⟨_,_,a,?_,D,F⟩;unfold Instr.mapUpdate;rw[Dn,run_underlying X w];simp only[FY];rw[Dn,l2q hb];simp only[FY];rw[Dn,A.check];simp only[FY];rw[Dn,hq];simp only[FY];exact B
  |some p=>
   obtain⟨i,v0⟩:=p;simp only at a;rw[Dg]at a;obtain⟨j,m0,Q,aa,L,g,u⟩:=d;have Q:i=j:=by omega
   subst Q;subst u;have n:ms[i]?=some m0:=by simpa using L
   obtain⟨B,D,F⟩:=Zo (P:=P) (O:=w0.own) (es':=es.set i (k,v)) (bo':=bo) (ms':=ms.modify i λe=>{e with key:=k,val:=yv}) (clock':=clock) hr J V hb (by rw[l2t];exact he.modify i (λ_ _=>rfl) (λ_ _=>hv)) (t.modify i (λ_=>rfl)) (by
    cases bo with
    |none=>trivial
    |some p=>obtain⟨c,y⟩:=R;exact⟨by rw[l2t,Zh (f:=λe=>{e with key:=k,val:=yv}) (λ_=>rfl)];exact c,y⟩)
   refine⟨_,_,a,?_,D,F⟩;unfold Instr.mapUpdate;rw[Dn,run_underlying X w];simp only[FY];rw[Dn,l2q hb];simp only[FY];rw[Dn,A.check];simp only[FY];rw[Dn,hq];simp only[FY,n,zC,l1q,g];rw[Dn,A.stays];simp only[FY];exact B
 ·cases h
def zV{K:IH->Af}(hr:Rel G w0 C H w)(hm:VRel C w m ym)(h:xY m H K=some r):
 ∃es,K es=some r/\((ym=.map none/\es=[])\/∃b ms clock,ym=.map (some b)/\w.heap[b]?=some (.map ms clock)/\Mb C w es ms.toList):=by
 unfold xY at h;split at h
 ·obtain⟨x,c,h1⟩:=I4 rfl h;obtain⟨es,bo,rfl,h2⟩:=RH h1;obtain⟨b,ms,clock,rfl,d,hb,j,he,q⟩:=eG hr c hm;exact⟨es,h2,.inr ⟨b,ms,clock,rfl,hb,he⟩⟩
 ·rename_i es;refine⟨es,h,?_⟩;cases hm with
  |@imap _ _ _ b clock ms n hb c g hn hc hv=>
   refine .inr ⟨b,ms,clock,rfl,hb,by simpa using c,λi p d=>?_⟩;obtain⟨hi,rfl⟩:=zE.1 d;have a:i<ms.size:=by omega
   refine⟨ms[i],by simp[a],?_,?_⟩
   ·have:=g i hi;simpa [fJ,a] using this
   ·have:=hv i hi;have e:(ms.getD i default)=ms[i]:=by simp[fJ,a]
    rw[e]at this;exact this.up rfl rfl
 ·exact⟨[],h,.inl ⟨AM.1 hm,rfl⟩⟩
 ·cases h
def A7P{mt M F:TypeId}{ok:Bool}{K:K2}(s:P.underlying mt=some (.map M F))(x:TOk1 P F ie)(d:Rg P M k)(hr:Rel G w0 C H w)(hm:VRel C w m ym)(h:ZB ie ok m k H K=some r):
 ∃v y,K v=some r/\(Instr.lookup mt ym k ok).run P w=.ok y w/\VRel C w v y:=by
 unfold ZB at h;obtain⟨es,h1,u⟩:=zV hr hm h;obtain⟨f,J,h2⟩:=TH h1;obtain⟨z,hz,Q⟩:=x.run_zero w;have D:VRel C w ie.zero z:=by rw[<-Q];exact gY z
 clear h h1;have key:∀(ms:List MapEntry)(q:Option (Nat×Value)),vZ k es ms 0 f q->Mb C w es ms->
  ∃v y0 o,K (if ok=true then .tup [v,.v (.bool o)] else v)=some r/\VRel C w v y0/\((q=none/\y0=z/\o=false)\/∃i,q=some (i,y0)/\o=true):=by
  intro ms q a he;cases f with
  |none=>
   obtain⟨O,_⟩:=a;subst O;exact⟨ie.zero,z,false,by cases ok<;>exact h2,D,.inl ⟨rfl,rfl,rfl⟩⟩
  |some p=>
   obtain⟨i,N⟩:=p;obtain⟨j,m0,V,t,A,L,g⟩:=a;have B:VRel C w N m0.val:=by
    obtain⟨X,c,n,e⟩:=he.2 j _ t;rw[A]at c;injection c with c;subst c;exact e
   exact⟨N,m0.val,true,by cases ok<;>exact h2,B,.inr ⟨i,g,rfl⟩⟩
 have rel:∀{v:AV}{y0:Value}(o:Bool),VRel C w v y0->VRel C w (if ok=true then .tup [v,.v (.bool o)] else v) (if ok=true then .tuple #[y0,.bool o] else y0):=by
  intro v y0 o hv;cases ok with
  |true=>exact DJ.2 ⟨[y0,.bool o],rfl,.cons hv (.cons (.v _) .nil)⟩
  |false=>exact hv
 rcases u with⟨rfl,rfl⟩|⟨b,ms,clock,rfl,hb,he⟩
 ·have he:Mb C w [] []:=⟨rfl,λi p R=>by simp at R⟩
  obtain⟨q,hq,a⟩:=d.find he J;obtain⟨v,y0,o,c,n,e⟩:=key [] q a he;refine⟨_,_,c,?_,rel o n⟩;rcases e with⟨rfl,rfl,rfl⟩|⟨i,rfl,rfl⟩
  ·simp[Instr.lookup,run_underlying s,d.check,hq,hz,Result.andThen]
  ·simp[Instr.lookup,run_underlying s,d.check,hq,Result.andThen]
 ·obtain⟨q,hq,a⟩:=d.find he J;obtain⟨v,y0,o,c,n,e⟩:=key _ q a he;refine⟨_,_,c,?_,rel o n⟩;rcases e with⟨rfl,rfl,rfl⟩|⟨i,rfl,rfl⟩
  ·simp[Instr.lookup,run_underlying s,l2q hb,d.check,hq,hz,Result.andThen]
  ·simp[Instr.lookup,run_underlying s,l2q hb,d.check,hq,Result.andThen]
def A26{mt kt et:TypeId}{ts:Array TypeId}{ty:TypeId}{K:Ru}(t:ts[0]?=some mt)(Z:P.underlying mt=some (.map kt et))(D:Rg P kt k)(hr:Rel G w0 C H w)(hm:VRel C w m ym)(h:jF m k H K=some r):
 ∃L c,K L=some r/\(Builtin.delete_ ts ty #[ym,k]).run P w=.ok (.tuple #[]) c/\Rel G w0 C L c/\Ext w0.own C w C c:=by
 unfold jF at h;split at h
 ·rename_i s;obtain⟨x,F,h1⟩:=I4 rfl h;obtain⟨es,bo,rfl,h2⟩:=RH h1;obtain⟨f,hf,y⟩:=TH h2;obtain⟨b,ms,clock,rfl,Y,hb,g,he,X⟩:=eG hr F hm;obtain⟨q,hq,d⟩:=D.find he hf;clear h h1 h2;have a:∀(c:World)(ms':Array MapEntry),(q=none/\ms'=ms\/∃i v,q=some (i,v)/\ms'=ms.eraseIdxIfInBounds i)->(setObj b (.map ms' clock)).run P w=.ok () c->(Builtin.delete_ ts ty #[.map (some b),k]).run P w=.ok (.tuple #[]) c:=by
   intro c ms' J A;rcases J with⟨rfl,rfl⟩|⟨i,v,rfl,rfl⟩
   ·simp[Builtin.delete_,t,run_underlying Z,l2q hb,D.check,hq,A,Result.andThen]
   ·simp[Builtin.delete_,t,run_underlying Z,l2q hb,D.check,hq,A,Result.andThen]
  cases f with
  |none=>
   obtain⟨B,_⟩:=d;subst B;obtain⟨u,N,Q⟩:=Zo (P:=P) (O:=w0.own) (es':=es) (bo':=bo) (ms':=ms) (clock':=clock) hr F Y hb he g X;have A:({w with heap:=w.heap.setIfInBounds b (.map ms clock)}:World)=w:=by
    have:w.heap.setIfInBounds b (.map ms clock)=w.heap:=by
     apply Array.ext_getElem?;intro j;by_cases R:b=j
     ·subst R;rw[(MapKept.heap_set hb).1,hb]
     ·exact(MapKept.heap_set hb).2 j (λe=>R e.symm)
    rw[this]
   rw[A]at u;exact⟨H,w,y,a w ms (.inl ⟨rfl,rfl⟩) u,hr,.refl _ _ _⟩
  |some p=>
   obtain⟨i,v0⟩:=p;simp only at y;rw[Dg]at y;obtain⟨j,m0,M,aa,ab,V,n⟩:=d;have M:i=j:=by omega
   subst M;subst n;obtain⟨u,N,Q⟩:=Zo (P:=P) (O:=w0.own) (es':=es.eraseIdx i) (bo':=C16 bo i) (ms':=ms.eraseIdxIfInBounds i) (clock':=clock) hr F Y hb (by rw[R7];exact he.eraseIdx i) (g.erase i) (by
    cases bo with
    |none=>trivial
    |some p=>obtain⟨B,e2⟩:=X;exact⟨by rw[R7,<-B,iE],e2⟩)
   exact⟨_,_,y,a _ _ (.inr ⟨i,_,rfl,rfl⟩) u,N,Q⟩
 ·cases h
def A24{mt g e:TypeId}{ts:Array TypeId}{ty:TypeId}{K:K2}(a:ts[0]?=some mt)(d:P.underlying mt=some (.map g e))(hr:Rel G w0 C H w)(hm:VRel C w m ym)(h:Zb m H K=some r):
 ∃v y,K v=some r/\(Builtin.len_ ts ty #[ym]).run P w=.ok y w/\VRel C w v y:=by
 unfold Zb at h;obtain⟨es,h1,c⟩:=zV hr hm h;rw[Cs,Kk]at h1;refine⟨_,.int .i64 es.length,h1,?_,.v _⟩;rcases c with⟨rfl,rfl⟩|⟨b,ms,clock,rfl,hb,he⟩
 ·simp[Builtin.len_,a,run_underlying d,goInt]
 ·have:=he.1;simp only[Array.length_toList]at this;simp[Builtin.len_,a,run_underlying d,l2q hb,goInt,this]
def A25{mt N et:TypeId}{K:KV}(hu:P.underlying mt=some (.map N et))(V:TOk1 P et ie)(D:Rg P N k)(hr:Rel G w0 C H w)(hm:VRel C w m ym)(h:B1D ie m k H K=some r):
 ∃v Z y w',K v Z=some r/\(Instr.mapEntry mt ym k).run P w=.ok y w'/\KJ G w0 C w v Z y C w':=by
 unfold B1D at h;split at h
 ·rename_i s;obtain⟨x,hl,h1⟩:=I4 rfl h;obtain⟨es,bo,rfl,h2⟩:=RH h1;clear h h1;split at h2
  ·rename_i bs c;obtain⟨f,hf,n⟩:=TH h2;obtain⟨b,ms,clock,rfl,hp,hb,X,he,ho⟩:=eG hr hl hm;obtain⟨o1,o2⟩:=ho;subst o2;obtain⟨q,hq,A⟩:=D.find he hf;obtain⟨z,hz,ez⟩:=V.run_zero w;have L:VRel C w ie.zero z:=by rw[<-ez];exact gY z
   clear h2;have aa:∀(g:Option (Nat×Value)->Sem Value)(res:Result Value),(g q).run P w=res->(do
    Instr.checkKey false 10000 N k
    let x<-Instr.findKey N k ms.toList
    g x:Sem Value).run P w=res:=by
    intro g res hg;rw[Dn,D.check];simp only[FY];rw[Dn,hq];exact hg
   cases f with
   |none=>
    simp only at n;rw[Dg]at n;obtain⟨e1,_⟩:=A;subst e1;obtain⟨u,g2,M⟩:=Zo (P:=P) (O:=w0.own) (es':=es++[(k,ie.zero)]) (bo':=some (bs++[clock],clock+1)) (ms':=ms.push {key:=k,val:=z,born:=clock}) (clock':=clock+1) hr hl hp hb (by rw[l2s];exact he.append (.one rfl L)) (X.push _ _) ⟨by rw[l2s,XS,o1];rfl,rfl⟩;refine⟨_,_,.tuple #[z,goInt clock],_,n,?_,DJ.2 ⟨[z,goInt clock],rfl,.cons (L.mono M) (.cons (.v _) .nil)⟩,g2,M⟩;unfold Instr.mapEntry;rw[Dn,run_underlying hu w];simp only[FY];rw[Dn,l2q hb];simp only[FY];rw[Dn,D.check];simp only[FY];rw[Dn,hq];simp only[FY];rw[Dn,hz];simp only[FY];rw[Dn,u];rfl
   |some p=>
    obtain⟨i,v0⟩:=p;simp only at n;obtain⟨j,m0,e0,R,t,a,J⟩:=A;have e0:i=j:=by omega
    subst e0;subst J;have d:ms[i]?=some m0:=by simpa using t
    have Q:bs[i]?=some m0.born:=by rw[<-o1,xU,t];rfl
    rw[Q]at n;simp only at n;have Y:VRel C w v0 m0.val:=by
     obtain⟨m',u,g2,M⟩:=he.2 i _ R;rw[t]at u;injection u with u;subst u;exact M
    have F:ms.modify i (λe=>{e with key:=k})=ms:=by
     apply Array.ext_getElem?;intro j;rw[l0s];by_cases B:i=j
     ·subst B;rw[d];simp[<-a]
     ·rw[CD B]
    have hw:({w with heap:=w.heap.setIfInBounds b (.map ms clock)}:World)=w:=by
     have:w.heap.setIfInBounds b (.map ms clock)=w.heap:=by
      apply Array.ext_getElem?;intro j;by_cases B:b=j
      ·subst B;rw[(MapKept.heap_set hb).1,hb]
      ·exact(MapKept.heap_set hb).2 j (λe=>B e.symm)
     rw[this]
    refine⟨_,H,.tuple #[m0.val,goInt m0.born],w,n,?_,DJ.2 ⟨[m0.val,goInt m0.born],rfl,.cons Y (.cons (.v _) .nil)⟩,hr,.refl _ _ _⟩;unfold Instr.mapEntry;rw[Dn,run_underlying hu w];simp only[FY];rw[Dn,l2q hb];simp only[FY];rw[Dn,D.check];simp only[FY];rw[Dn,hq];simp only[FY,d,zC,l1q,a];rw[Dn,D.stays];simp only[FY,F];rw[Dn,MapKept.run_setObj_map _ hb,hw];rfl
  ·cases h2
 ·cases h
def A20{mt:TypeId}{m st v:AV}{ym ys yv:Value}{K:Ru}(hr:Rel G w0 C H w)(hm:VRel C w m ym)(X:VRel C w st ys)(hv:VRel C w v yv)(h:B1C m st v H K=some r):
 ∃A y,K A=some r/\(Instr.entryStore mt ym ys yv).run P w=.ok () y/\Rel G w0 C A y/\Ext w0.own C w C y:=by
 unfold B1C at h;split at h
 ·rename_i s;obtain⟨x,B,h1⟩:=I4 rfl h;obtain⟨es,bo,rfl,h2⟩:=RH h1;obtain⟨q,z,rfl,a⟩:=Qa h2;clear h h1 h2;split at a
  ·rename_i F c;split at a
   ·rename_i i hi;split at a
    ·rename_i p V;rw[Dg]at a;obtain⟨b,ms,clock,rfl,t,hb,n,he,R⟩:=eG hr B hm;obtain⟨D,Z⟩:=R;subst Z;have u:=AM.1 X;subst u;have d:ms.findIdx? (λe=>(e.born:Int)==z)=some i:=by
      have J:∀p:MapEntry->Bool,ms.findIdx? p=ms.toList.findIdx? p:=λp=>by cases ms;simp
      rw[J];rw[<-D,List.findIdx?_map]at hi;rw[<-hi]
      congr 1
      funext e
      simp only[Function.comp,QX];rw[uQ];simp
     obtain⟨m1,j,g,Y⟩:=he.2 i p V;obtain⟨L,M,N⟩:=Zo (P:=P) (O:=w0.own) (es':=es.set i (p.1,v)) (bo':=some (F,clock)) (ms':=ms.modify i λe=>{e with val:=yv}) (clock':=clock) hr B t hb (by
      rw[l2t];refine he.modify i (λm hm=>?_) (λ_ _=>hv);rw[j]at hm;injection hm with hm;subst hm;exact g) (n.modify i (λ_=>rfl)) ⟨by rw[l2t,Zh (f:=λe=>{e with val:=yv}) (λ_=>rfl)];exact D,rfl⟩
     refine⟨_,_,a,?_,M,N⟩;unfold Instr.entryStore;simp only;rw[Dn,l2q hb];simp only[FY];rw[Dn];have Q:(asInt (.int q z)).run P w=.ok z w:=rfl;rw[Q];simp only[FY,d];exact L
    ·cases a
   ·cases a
  ·cases a
 ·cases h
end
end
section
variable{f:AV->AV->Bool}{K:KV}{es:IH}{y ym:Value}
def fZ:Value->Value->Bool
 |.string a,.string b=>eqbL a.data.toList b.data.toList
 |.int k a,.int c b=>decide (k=c)&&decide (a=b)
 |.bool a,.bool b=>a==b
 |.slice none 0 0,.slice none 0 0=>true
 |.pointer none,.pointer none=>true
 |.map none,.map none=>true
 |.nilFunc,.nilFunc=>true
 |_,_=>false
where eqbL:Ha->Ha->Bool
 |[],[]=>true
 |a::l,b::m=>Nat.beq a.toNat b.toNat&&eqbL l m
 |_,_=>false
def vW(f:AV->AV->Bool):Is->Is->Bool
 |[],[]=>true
 |a::l,b::m=>f a b&&vW f l m
 |_,_=>false
def fnB:AV->AV->Bool
 |.fn (.func f) [] [],.fn (.func g) [] []=>Nat.beq f g
 |_,_=>false
def C0m{a b:AV}(h:fnB a b=true):a=b:=by
 unfold fnB at h;split at h
 ·rw[Zy h]
 ·cases h
def A8d(f:AV->AV->Bool):IH->IH->Bool
 |[],[]=>true
 |a::l,b::m=>fZ a.1 b.1&&(f a.2 b.2&&A8d f l m)
 |_,_=>false
def VQ:Nat->AV->AV->Bool
 |_,.v x,.v y=>fZ x y
 |d+1,.list n cs,.list m es=>Nat.beq n m&&vW (VQ d) cs es
 |d+1,.agg cs,.agg es=>vW (VQ d) cs es
 |d+1,.tup cs,.tup es=>vW (VQ d) cs es
 |d+1,.imap es,.imap a=>A8d (VQ d) es a
 |_+1,.fn f b cs,.fn g a ds=>fnB (.fn f b cs) (.fn g a ds)
 |_,_,_=>false
def A5n(a b:Af):Af:=
 match a with
 |some (v,[])=>(match b with
  |some (u,[])=>(match VQ 6 v u with|true=>some (v,[])|false=>none)
  |_=>none)
 |_=>none
def Um(F:Value×AV->IH->Af)(l:IH):IH->Af:=
 @List.rec (Value×AV) (λ_=>IH->Af) (λ_=>none)
  (λe rest ih pre=>@List.rec (Value×AV) (λ_=>Af) (F e pre) (λ_ _ _=>A5n (F e (pre++rest)) (ih (pre++[e]))) rest) l
def A5R(x:Row)(K:IH->Af):Af:=match x with|.iter l _=>K l|_=>none
def Xs(m:AV)(H:Hp)(K:KV):Af:=
 match m with
 |.imap es=>It H λs=>K (.it s) ((s,.iter es none)::H)
 |.v (.map none)=>It H λs=>K (.it s) ((s,.iter [] none)::H)
 |.mp s=>IQ H s λx=>mH x λes _=>ck (es.all λp=>eW 3 p.2) (LJ H s .gone λa=>It a λt=>K (.it t) ((t,.iter es none)::a))
 |_=>none
def Za(it:AV)(H:Hp)(K:KV):Af:=
 match it with
 |.it s=>IQ H s λx=>A5R x λl=>@List.rec (Value×AV) (λ_=>Af) (K (.tup [.v (.bool false)]) H)
  (λ_ _ _=>Um (λe rest=>LJ H s (.iter rest (some e)) λa=>K (.tup [.v (.bool true),tQ e.1,e.2]) a) l []) l
 |_=>none
def B0Q(x:Row)(K:Value×AV->Af):Af:=match x with|.iter _ (some p)=>K p|_=>none
def dB(it:AV)(H:Hp)(K:K2):Af:=
 match it with
 |.it s=>IQ H s λx=>B0Q x λp=>K (.tup [tQ p.1,p.2])
 |_=>none
def B5w:∀{a b:Ha},fZ.eqbL a b=true->a=b:=by
 intro a
 induction a with
 |nil=>intro b h;cases b<;>simp[fZ.eqbL]at h;rfl
 |cons x a ih=>
  intro b h;cases b with
  |nil=>simp[fZ.eqbL]at h
  |cons y b=>
   simp only[fZ.eqbL,KK]at h;rw[ih h.2,UInt8.toNat_inj.1 (Zy h.1)]
def qT{a b:Value}(h:fZ a b=true):a=b:=by
 unfold fZ at h;split at h
 ·rename_i x y;obtain⟨⟨x⟩⟩:=x;obtain⟨⟨y⟩⟩:=y;have:=B5w h;simp at this;rw[this]
 ·simp only[KK,decide_eq_true_eq]at h;rw[h.1,h.2]
 ·rw[eq_of_beq h]
 ·rfl
 ·rfl
 ·rfl
 ·rfl
 ·cases h
def rO(c:∀a b,f a b=true->a=b):∀{l m:Is},vW f l m=true->l=m:=by
 intro l
 induction l with
 |nil=>intro m h;cases m<;>simp[vW]at h;rfl
 |cons a l ih=>
  intro m h;cases m with
  |nil=>simp[vW]at h
  |cons b m=>
   simp only[vW,KK]at h;rw[c a b h.1,ih h.2]
def B5S(c:∀a b,f a b=true->a=b):∀{l m:IH},A8d f l m=true->l=m:=by
 intro l
 induction l with
 |nil=>intro m h;cases m<;>simp[A8d]at h;rfl
 |cons a l ih=>
  intro m h;cases m with
  |nil=>simp[A8d]at h
  |cons b m=>
   simp only[A8d,KK]at h;rw[show a=b from Prod.ext (qT h.1) (c _ _ h.2.1),ih h.2.2]
def A4U:∀(d:Nat)(a b:AV),VQ d a b=true->a=b:=by
 intro d
 induction d with
 |zero=>
  intro a b h;cases a<;>cases b<;>simp[VQ]at h
  rw[qT h]
 |succ d ih=>
  intro a b h;cases a<;>cases b<;>simp only[VQ]at h<;>first|(cases h;done)|skip
  ·rw[qT h]
  ·simp only[KK]at h;rw[Zy h.1,rO ih h.2]
  ·exact C0m h
  ·rw[rO ih h]
  ·rw[rO ih h]
  ·rw[B5S ih h]
def A3s{a b:Af}{r:AV×Hp}(h:A5n a b=some r):a=some r/\b=some r:=by
 unfold A5n at h;split at h
 ·split at h
  ·split at h
   ·rename_i hq;rw[<-A4U _ _ _ hq];exact⟨h,h⟩
   ·cases h
  ·cases h
 ·cases h
section
variable{r:AV×Hp}
def oD(F:Value×AV->IH->Af)(e a:Value×AV)(l pre:IH):Um F (e::a::l) pre=A5n (F e (pre++a::l)) (Um F (a::l) (pre++[e])):=rfl
def tN(F:Value×AV->IH->Af)(e:Value×AV)(pre:IH):Um F [e] pre=F e pre:=rfl
def A1f{F:Value×AV->IH->Af}:∀(l pre:IH),Um F l pre=some r->∀(j:Nat)(e:Value×AV),l[j]?=some e->F e (pre++l.eraseIdx j)=some r:=by
 intro l
 induction l with
 |nil=>intro pre h;cases h
 |cons e l ih=>
  intro pre h j a he;cases l with
  |nil=>
   rw[tN]at h;cases j with
   |zero=>simp at he;subst he;simpa using h
   |succ j=>simp at he
  |cons b l=>
   rw[oD]at h;obtain⟨h1,h2⟩:=A3s h;cases j with
   |zero=>simp at he;subst he;simpa using h1
   |succ j=>
    have:=ih _ h2 j a (by simpa using he);simpa using this
variable{P:Program}{G:Gl}{w0:Base}{C:Ctx}{H:Hp}{w:World}
def Ext.weak{C':Ctx}{w':World}{O:Nat->Prop}(h:Ext (λ_=>False) C w C' w'):Ext O C w C' w':=
 ⟨h.π,h.F,h.keep,h.B,h.keepB,h.size,λb i a=>(h.new b i a).imp id False.elim,λb a=>(h.newB b a).imp id False.elim,h.grow⟩
def oQ{mt x q:TypeId}(M:P.underlying mt=some (.map x q))(hr:Rel G w0 C H w)(hm:VRel C w (.imap es) ym)(h:(It H λs=>K (.it s) ((s,.iter es none)::H))=some r):
 ∃v k y B A,K v k=some r/\(Instr.range mt ym).run P w=.ok y A/\KJ G w0 C w v k y B A:=by
 rw[Ca]at h;cases hm with
 |@imap _ _ _ b clock ms t hb J F hn hc hv=>
  have c:=NM w (.mapIter (some b) clock #[] clock);refine⟨_,_,.pointer (some ⟨w.heap.size,0,none⟩),_,w.alloc (.mapIter (some b) clock #[] clock),h,run_range_map w mt x q b ms clock M hb,.it (C.put_n _ _),hr.new_row c ⟨w.heap.size,some b,clock,#[],clock,C.put_n _ _,World.alloc_heap_new _ _,.inr ⟨b,ms,clock,rfl,rfl,rfl,t,(c.block b (hr.finB b t)).trans hb,?_,?_,trivial⟩⟩,hr.new_ext c⟩
  ·refine⟨?_,λm hm=>?_⟩
   ·rw[l26];intro i j hi u d;have:=hn i j d (by simpa using u);have a:i<ms.size:=by simpa using hi
    have g:j<ms.size:=by simpa using u
    simpa [fJ,a,g] using this
   ·obtain⟨i,hi,rfl⟩:=List.mem_iff_getElem.1 hm;have a:i<ms.size:=by simpa using hi
    have:=hc i a;simpa [fJ,a] using this
  ·have D:(ms.toList.filter λe=>!(#[]:Array Nat).contains e.born)=ms.toList:=by simp
   rw[D];refine⟨by simpa using J,λi p L=>?_⟩;obtain⟨hi,rfl⟩:=zE.1 L;have a:i<ms.size:=by omega
   have n:(ms.getD i default)=ms[i]:=by simp[fJ,a]
   refine⟨ms[i],by simp[a],?_,?_⟩
   ·have:=F i hi;rwa[n]at this
   ·have:=hv i hi;rw[n]at this;exact(this.mono (hr.new_ext (O:=λ_=>True) c).bare)
def Ctx.fixM(C:Ctx)(b:Nat):Ctx:={C with B:=λk=>C.B k\/k=b}
def Rel.freezeM{s b:Nat}{q:Bool}{F:Option (Hb×Nat)}(h:Rel G w0 C H w)(p:Ai H s=some (.map q es F))(u:C.π s=some (some (b,0))):Rel G w0 (C.fixM b) (cut H s) w/\Ext w0.own C w (C.fixM b) w:=by
 have m:=h.own s _ b 0 p u;have e:Ext w0.own C w (C.fixM b) w:=⟨λ_ _=>rfl,λ_ _ h=>h,λ_ _ _=>rfl,λ_ h=>.inl h,λ_ _=>rfl,λ_ a _ f h=>⟨a,f,h,rfl⟩,λ_ _ h=>.inl h,λk h=>by rcases h with h|h;exact .inl h;exact .inr (h▸m.1),LH _⟩
 have c:∀t x,Ai (cut H s) t=some x->t≠s/\Ai H t=some x:=λt x d=>by
  by_cases v:t=s
  ·subst v;rw[MP]at d;cases d
  ·rw[Qw v]at d;exact⟨v,d⟩
 refine⟨⟨h.glob.mono e,h.below,λt x d=>h.lt t x (c t x d).2,λt x d=>(h.rows t x (c t x d).2).mono e (λ_ _ _=>rfl),?_,?_,h.fin,?_,?_⟩,e⟩
 ·intro t x k J d i;have j:=h.own t x k J (c t x d).2 i;refine⟨j.1,j.2.1,λg=>?_⟩;rcases g with g|g
  ·exact j.2.2 g
  ·subst g;exact(c t x d).1 (h.sep t s x _ _ _ _ (c t x d).2 p i u)
 ·intro t B x D k L M d A i n;exact h.sep t B x D k L M (c t x d).2 (c B D A).2 i n
 ·intro k g;rcases g with g|g
  ·exact h.finB k g
  ·subst g;exact(h.rows s _ p).block (λe=>by cases e) u
 ·intro k j;rw[cut,B1]at j;exact h.nx k j
def A4m{mt N J:TypeId}{m:AV}(B:P.underlying mt=some (.map N J))(hr:Rel G w0 C H w)(hm:VRel C w m ym)(h:Xs m H K=some r):
 ∃v k y C' n,K v k=some r/\(Instr.range mt ym).run P w=.ok y n/\KJ G w0 C w v k y C' n:=by
 unfold Xs at h;split at h
 ·exact oQ B hr hm h
 ·rw[Ca]at h;have D:=AM.1 hm;subst D;have d:=NM w (.mapIter none 0 #[] 0);exact⟨_,_,.pointer (some ⟨w.heap.size,0,none⟩),_,w.alloc (.mapIter none 0 #[] 0),h,run_range_nilMap w mt N J B,.it (C.put_n _ _),hr.new_row d ⟨w.heap.size,none,0,#[],0,C.put_n _ _,World.alloc_heap_new _ _,.inl ⟨rfl,rfl,rfl⟩⟩,hr.new_ext d⟩
 ·rename_i s;obtain⟨x,M,h1⟩:=I4 rfl h;obtain⟨es,bo,rfl,h2⟩:=RH h1;obtain⟨hc,L⟩:=B4 h2;obtain⟨b,ms,clock,rfl,Z,hb,g,he, -⟩:=eG hr M hm;rw[Dg]at L;obtain⟨A,F⟩:=hr.freezeM M Z;have u:VRel (C.fixM b) w (.imap es) (.map (some b)):=by
   refine .imap ms (.inr rfl) hb (by rw[<-he.1];simp) (λi hi=>?_) (λi j t hj=>?_) (λi hi=>?_) (λi hi=>?_)
   ·obtain⟨m,q,R, -⟩:=he.2 i _ (KL hi);have c:ms[i]?=some m:=by simpa using q
    simp[fJ,c,R]
   ·have e:j<ms.size:=by have:=he.1;simp at this;omega
    have a:i<ms.size:=by omega
    have:=(l26.1 g.born) i j (by simpa using a) (by simpa using e) t;simpa [fJ,a,e] using this
   ·have a:i<ms.size:=by have:=he.1;simp at this;omega
    have:=g.lt ms[i] (by simp);simpa [fJ,a] using this
   ·obtain⟨m,q, -,V⟩:=he.2 i _ (KL hi);have c:ms[i]?=some m:=by simpa using q
    have X:(ms.getD i default)=m:=by simp[fJ,c]
    rw[X];have Y:=VRel.down (C:=C) (C':=C.bare) rfl rfl 3 _ _ (G9.1 hc _ (NT hi)) V;exact Y.mono F.bare
  obtain⟨v,k,y,C',n,O,Q,p⟩:=oQ B A u L;exact⟨v,k,y,C',n,O,Q,p.1,p.2.1,F.trans p.2.2⟩
 ·cases h
def A7G{l:List MapEntry}(h:l.Pairwise λa b=>a.born≠b.born):∀(j:Nat)(e:MapEntry),l[j]?=some e->l.filter (λx=>decide (x.born≠e.born))=l.eraseIdx j:=by
 induction l with
 |nil=>intro j e he;simp at he
 |cons a l ih=>
  intro j e he;rw[l2p]at h;cases j with
  |zero=>
   simp at he;subst he;rw[l2m,CD (by simp),List.eraseIdx_cons_zero,List.filter_eq_self];intro x c;have:=h.1 x c;simpa using λe=>this e.symm
  |succ j=>
   have he:l[j]?=some e:=by simpa using he
   rw[l2m,Dr (by have:=h.1 e (l1m he);simpa using this),List.eraseIdx_cons_succ,ih h.2 j e he]
def A0U(w:World)(n:Nat)(hn:0<n):∃(j:Nat)(w1:World),j<n/\w1.heap=w.heap/\w1.os=w.os/\w1.tape=w.tape/\w1.output=w.output/\(choose (.mapNext n)).run P w=.ok j w1:=by
 by_cases a:n<=1
 ·exact⟨0,w,hn,rfl,rfl,rfl,rfl,by simp[choose,Sem.run,Question.forced,a]⟩
 ·exact⟨_,w.drew,Nat.mod_lt _ hn,rfl,rfl,rfl,rfl,by
   simp only[choose,Sem.run,Question.forced,decide_eq_true_eq,a,if_false,Question.cut];rfl⟩
def Below.of_heap{w w1:World}(h:w1.heap=w.heap)(a:w1.os=w.os)(c:w1.tape=w.tape)(b:w1.output=w.output):Below w.heap.size w w1:=
 ⟨a,c,b,by rw[h];exact LH _,λ_ _=>by rw[h]⟩
def A4o{ty:TypeId}{it:AV}(hr:Rel G w0 C H w)(hv:VRel C w it y)(h:Za it H K=some r):
 ∃v H' z w',K v H'=some r/\(Instr.next y false ty).run P w=.ok z w'/\KJ G w0 C w v H' z C w':=by
 unfold Za at h;split at h
 ·rename_i s;obtain⟨x,hl,h1⟩:=I4 rfl h;clear h;unfold A5R at h1;split at h1
  ·rename_i l aq;cases hv with
   |@it _ _ _ b ap hp=>
    obtain⟨c,mo,since,seen,last,g1,g2,g3⟩:=hr.rows s _ hl;have R:=g1.symm.trans hp;injection R with R;injection R with R;injection R with e1 e2;subst e1 e2
    have q:(getObj c).run P w=.ok (.mapIter mo since seen last) w:=by simp[getObj,Sem.run,g2]
    rcases g3 with⟨rfl,rfl,_⟩|⟨m,ms,clock,e4,e5,e6,hB,hm,J,he,ah⟩
    ·have h1:K (.tup [.v (.bool false)]) H=some r:=h1;refine⟨_,_,.tuple #[.bool false],w,h1,?_,DJ.2 ⟨[.bool false],rfl,.cons (.v _) .nil⟩,hr,.refl _ _ _⟩;simp only[Instr.next];rw[Dn,q];rfl
    ·have e5:=e5.symm;have e6:=e6.symm;subst e4;subst e5;subst e6;have ag:(getObj m).run P w=.ok (.map ms clock) w:=l2q hm;have g:∀x∈ms.toList,x.born<clock:=J.lt;have N:=next_test_false seen ms clock clock g (LH _);have Y:((ms.filter λe=>!seen.contains e.born).filter λx=>decide (x.born<clock))=ms.filter λe=>!seen.contains e.born:=by
      rw[Array.filter_eq_self];intro x Q;have:=g x (by simp at Q⊢;exact Q.1);simpa using this
     have Z:((ms.filter λe=>!seen.contains e.born).filter λx=>decide (x.born≥clock))= #[]:=by
      rw[Array.filter_eq_empty_iff];intro x Q;have:=g x (by simp at Q⊢;exact Q.1);simp;omega
     obtain⟨L,hL⟩:∃L,L=ms.filter λe=>!seen.contains e.born:=⟨_,rfl⟩
     rw[<-hL]at Y Z;have n:L.toList=ms.toList.filter λe=>!seen.contains e.born:=by rw[hL,Array.toList_filter]
     rw[<-n]at he;have u:∀(res:Result Value),(do
      let x<-choose (.mapNext ((if L.isEmpty then #[none] else #[])++L.map some).size)
      match((if L.isEmpty then #[none] else #[])++L.map some)[x]? with
      |some (some e)=>do
       setObj c (.mapIter (some m) clock (seen.push e.born) clock)
       pure (.tuple #[.bool true,e.key,e.val])
      |some none=>pure (.tuple #[.bool false])
      |none=>stuck "Next: no such candidate" :Sem Value).run P w=res->(Instr.next (.pointer (some ⟨c,0,none⟩)) false ty).run P w=res:=by
      intro res ab;unfold Instr.next;simp only;rw[Dn,q];simp only[FY];rw[Dn,ag];simp only[FY,N,xT,if_false,<-hL,Y,Z,Array.append_empty];exact ab
     cases l with
     |nil=>
      have h1:K (.tup [.v (.bool false)]) H=some r:=h1;have ac:L= #[]:=by
       have:=he.nil_inv;exact Array.toList_inj.1 (by simpa using this)
      refine⟨_,_,.tuple #[.bool false],w,h1,u _ ?_,DJ.2 ⟨[.bool false],rfl,.cons (.v _) .nil⟩,hr,.refl _ _ _⟩;subst ac;simp[choose,Sem.run,Question.forced]
     |cons V l0=>
      have h1:Um (λe rest=>LJ H s (.iter rest (some e)) λH'=>K (.tup [.v (.bool true),tQ e.1,e.2]) H') (V::l0) []=some r:=h1;have d:L.size=(V::l0).length:=by have:=he.1;simpa using this
      have ak:L.isEmpty=false:=by simp[Array.isEmpty,d]
      obtain⟨j,w1,hj,a1,a2,a3,a4,ae⟩:=A0U (P:=P) w L.size (by rw[d];simp);have aa:j<(V::l0).length:=by rw[<-d];exact hj
      have i:=A1f _ _ h1 j _ (KL aa);simp only[l3b,Dg]at i;obtain⟨a,F,t,A⟩:=he.2 j _ (KL aa);have ad:L[j]?=some a:=by simpa using F
      have D:w1.heap[c]?=some (.mapIter (some m) clock seen clock):=by rw[a1];exact g2
      have ai:c<w1.heap.size:=(l1v.1 D).1;have p:=Below.of_heap a1 a2 a3 a4;have am:=hr.of_below p;have k:Ext w0.own C w C w1:=hr.ext_below p;have M:SameObj w1 (w1.putObj c (.mapIter (some m) clock (seen.push a.born) clock)) c (.mapIter (some m) clock (seen.push a.born) clock):=SameObj.putObj ai _;have aj:m≠c:=λe=>by subst e;rw[hm]at g2;cases g2
      have af:(ms.toList.filter λx=>!(seen.push a.born).contains x.born)=L.toList.eraseIdx j:=by
       rw[<-A7G (l:=L.toList) (by rw[n];exact J.born.filter _) j a F,n,List.filter_filter];apply List.filter_congr;intro x _;rw[Array.contains_push];by_cases Q:x.born=a.born<;>simp[Q]
      obtain⟨ao,X⟩:=am.set_obj (O:=w0.own) (y:=.iter ((V::l0).eraseIdx j) (some (V::l0)[j])) hl hp M (λarr T fz hc=>by rw[D]at hc;cases hc) (λex=>by
       refine⟨c,some m,clock,seen.push a.born,clock,hp,M.here,.inr ⟨m,ms,clock,rfl,rfl,rfl,hB,(M.others m aj).trans (by rw[a1];exact hm),J,?_,?_⟩⟩
       ·rw[af];exact(he.mono (k.trans ex.weak).bare).eraseIdx j
       ·refine⟨a,?_,Array.back?_push,t,A.mono (k.trans ex.weak).bare⟩;have:=l1m F;rw[n]at this;exact(l2z.1 this).1)
      refine⟨_,_,.tuple #[.bool true,a.key,a.val],_,i,u _ ?_,DJ.2 ⟨[.bool true,a.key,a.val],rfl,.cons (.v _) (.cons ?_ (.cons ?_ .nil))⟩,ao,k.trans X⟩
      ·rw[ak];simp only[xT,if_false,Array.empty_append,Array.size_map];rw[Dn,ae];simp only[FY,Array.getElem?_map,ad,zC];rw[Dn];have:(setObj c (.mapIter (some m) clock (seen.push a.born) clock)).run P w1=.ok () (w1.putObj c (.mapIter (some m) clock (seen.push a.born) clock)):=by simp[setObj,Sem.run,D,World.putObj]
       rw[this];rfl
      ·rw[t];exact gY _
      ·exact((A.up rfl rfl).mono (k.trans X))
  ·cases h1
 ·cases h
def A4u{it:AV}{K:K2}(hr:Rel G w0 C H w)(hv:VRel C w it y)(h:dB it H K=some r):
 ∃v z,K v=some r/\(Instr.entry y).run P w=.ok z w/\VRel C w v z:=by
 unfold dB at h;split at h
 ·rename_i s;obtain⟨x,J,h1⟩:=I4 rfl h;clear h;unfold B0Q at h1;split at h1
  ·rename_i left p;cases hv with
   |@it _ _ _ b i L=>
    obtain⟨j,O,since,seen,last,A,B,D⟩:=hr.rows s _ J;have c:=A.symm.trans L;injection c with c;injection c with c;injection c with k n;subst k n
    have d:(getObj j).run P w=.ok (.mapIter O since seen last) w:=by simp[getObj,Sem.run,B]
    rcases D with⟨_,_,u⟩|⟨m,ms,clock,q,Q,t,R,hm,g,he,a,k1,M,k3,N⟩
    ·cases u
    ·subst q;have e:(getObj m).run P w=.ok (.map ms clock) w:=l2q hm;have F:ms.find? (·.born==a.born)=some a:=by
      rw[<-Array.find?_toList];exact find_born a ms.toList (by rw[List.nodup_iff_pairwise_ne,List.pairwise_map];exact g.born) k1
     refine⟨_,.tuple #[a.key,a.val],h1,?_,DJ.2 ⟨[a.key,a.val],rfl,.cons (by rw[k3];exact gY _) (.cons (N.up rfl rfl) .nil)⟩⟩;simp only[Instr.entry];rw[Dn,d];simp only[FY,M];rw[Dn,e];simp[t,F]
  ·cases h1
 ·cases h
end
end
end Go.Abs
end
