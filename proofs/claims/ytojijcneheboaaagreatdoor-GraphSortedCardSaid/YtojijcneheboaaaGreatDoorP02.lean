import Derived.ChangeKeysEq
import Derived.Laws.StructEq
import Derived.Laws.BytesString
import Derived.Laws.MakeOwn
import Derived.Laws.IdiomRangeMap
import Derived.Test.YtojijcneheboaaaGreatDoorP01
set_option linter.all false
set_option maxHeartbeats 0
noncomputable section
namespace Go.Abs
open Go.RowKit
section
variable{r:AV×Hp}{tmps:Array Value}{fn:Func}{args:Is}{ys:Hx}{i k m:Nat}{t:Tm}{wa:World}
def Ctx.delB(C:Ctx)(b:Nat):Ctx:={C with B:=λk=>C.B k/\k≠b}
section
variable{P:Program}{G:Gl}{w0:Base}{C:Ctx}{H:Hp}{w w':World}{b:Nat}{o o':Obj}
def zP(hb:w.heap[b]?=some o)(a:∀arr T fz,o≠.cells arr T fz){v:Value}(h:w.cell? ⟨k,i,none⟩=some v):k≠b:=by
 intro e;subst e;simp only[World.cell?,hb]at h;cases o<;>simp at h
 exact a _ _ _ rfl
def SameObj.cell(a:SameObj w w' b o')(hk:k≠b):w'.cell? ⟨k,i,none⟩=w.cell? ⟨k,i,none⟩:=l0s (a.others k hk)
def VRel.shut(hb:w.heap[b]?=some (.deferred (some [])))(f:SameObj w w' b o'){a:AV}{y:Value}(h:VRel C w a y):VRel (C.delB b) w' a y:=by
 have p:∀arr T fz,(Obj.deferred (some []):Obj)≠.cells arr T fz:=λ_ _ _ h=>by cases h
 induction h with
 |v x=>exact .v x
 |ptr h=>exact .ptr h
 |iptr vs q hc _ ih=>exact .iptr vs q (λi c=>(f.cell (zP hb p (hc i c))).trans (hc i c)) (λi c=>ih i c hb f)
 |list0=>exact .list0
 |list h vs q hc _ ih=>exact .list h vs q (λi c=>(f.cell (zP hb p (hc i c))).trans (hc i c)) (λi c=>ih i c hb f)
 |sl h j d hsz=>exact .sl h j ((f.others _ (λe=>by subst e;rw[hb]at d;cases d)).trans d) hsz
 |slz hr=>exact .slz hr
 |fn ys F g s _ _ u A=>exact .fn ys F g s (λi c=>u i c hb f) (λi c=>A i c hb f)
 |agg ys g _ ih=>exact .agg ys g (λi c=>ih i c hb f)
 |tup ys g _ ih=>exact .tup ys g (λi c=>ih i c hb f)
 |mp h=>exact .mp h
 |@imap C w J b2 clock D B d g hk hn hc _ ih=>
  have n:b2≠b:=λe=>by subst e;rw[hb]at d;cases d
  exact .imap D ⟨B,n⟩ ((f.others _ n).trans d) g hk hn hc (λi c=>ih i c hb f)
 |yl h=>exact .yl h
 |it h=>exact .it h
 |dk y=>exact .dk y
theorem Cn.shut(hb:w.heap[b]?=some (.deferred (some [])))(e:SameObj w w' b o'){c:Is}(h:Cn C w c ys):Cn (C.delB b) w' c ys:=
 ⟨h.1,λi a d=>let⟨y,f,hv⟩:=h.2 i a d;⟨y,f,hv.shut hb e⟩⟩
theorem KM.shut(hb:w.heap[b]?=some (.deferred (some [])))(c:SameObj w w' b o'){es:IH}{ms:List MapEntry}(h:KM C w es ms):KM (C.delB b) w' es ms:=
 ⟨h.1,λi p a=>let⟨m,hm,hk,hv⟩:=h.2 i p a;⟨m,hm,hk,hv.shut hb c⟩⟩
theorem Zh.shut(hb:w.heap[b]?=some (.deferred (some [])))(d:SameObj w w' b o'){ms:Array MapEntry}{seen:Array Nat}:∀{x:Option (Value×AV)},Zh C w ms seen x->Zh (C.delB b) w' ms seen x
 |none,_=>trivial
 |some _,⟨m,h1,h2,a,c⟩=>⟨m,h1,h2,a,c.shut hb d⟩
theorem V2.shut(hb:w.heap[b]?=some (.deferred (some [])))(a:SameObj w w' b o')(h:V2 C w t tmps):V2 (C.delB b) w' t tmps:=λi=>(h i).shut hb a
def N!(q:Bool):(C.delB b).sel q=(C.sel q).delB b:=by cases q<;>rfl
theorem Sf.shut(hb:w.heap[b]?=some (.deferred (some [])))(a:SameObj w w' b o'){r:Nat}{x:Row}(h:Sf C w r x):Sf (C.delB b) w' r x:=by
 have ne:∀{k:Nat}{q:Obj},w.heap[k]?=some q->(∀l,q≠.deferred l)->k≠b:=λhk hq e=>by
  subst e;rw[hb]at hk;injection hk with hk;exact hq _ hk.symm
 cases x with
 |cells q T cs=>
  rcases h with⟨h1,h2⟩|⟨k,f,arr,fz,h⟩
  ·exact .inl ⟨h1,h2⟩
  ·refine .inr ⟨k,f,arr,fz,h.at_,(a.others k (ne h.block (λ_ e=>by cases e))).trans h.block,h.free,h.fits,?_,h.exact⟩;rw[N!];exact h.vals.shut hb a
 |map q M L=>
  obtain⟨k,s,clock,h1,c,g,d,j⟩:=h;refine⟨k,s,clock,h1,(a.others k (ne c (λ_ e=>by cases e))).trans c,g,?_,j⟩;rw[N!];exact d.shut hb a
 |loop N t ps J K u=>
  obtain⟨k,l,h1,h2,c,g,d,j,n,p,B⟩:=h;exact⟨k,l,h1,(a.others k (ne h2 (λ_ e=>by cases e))).trans h2,c,g,d,j,n,p,B.shut hb a⟩
 |iter left D=>
  obtain⟨k,F,since,seen,last,h1,h2,c⟩:=h;refine⟨k,F,since,seen,last,h1,(a.others k (ne h2 (λ_ e=>by cases e))).trans h2,?_⟩;rcases c with c|⟨m,s,clock,v,y,A,g,d,j,n,p⟩
  ·exact .inl c
  ·have hm:=ne d (λ_ e=>by cases e);exact .inr ⟨m,s,clock,v,y,A,⟨g,hm⟩,(a.others m hm).trans d,j,n.shut (C:=C.bare) hb a,p.shut (C:=C.bare) hb a⟩
 |gone=>trivial
theorem Rel.shut(h:Rel G w0 C H w)(hb:w.heap[b]?=some (.deferred (some [])))(n:w0.own b)(a:SameObj w w' b o'):Rel G w0 (C.delB b) H w':=by
 have d:∀arr T fz,(Obj.deferred (some []):Obj)≠.cells arr T fz:=λ_ _ _ h=>by cases h
 refine⟨λg cs j i v hv=>?_,h.below.same_obj a n,h.lt,λr x e=>(h.rows r x e).shut hb a,λr x k o e p=>?_,h.sep,λk i f=>a.size▸h.fin k i f,λk c=>a.size▸h.finB k c.1,h.nx⟩
 ·have:=h.glob g cs j i v hv;exact⟨this.1,(a.cell (zP hb d this.2)).trans this.2⟩
 ·have:=h.own r x k o e p;exact⟨this.1,this.2.1,λc=>this.2.2 c.1⟩
def A4k(E:XE)(t:Tm)(H:Hp)(rs:List ResultVar):(Is->Af)->Af:=
 @List.rec ResultVar (λ_=>(Is->Af)->Af) (λK=>K [])
  (λr _ ih K=>match r with
   |.tmp i=>gtm t i λv=>ih λvs=>K (v::vs)
   |.cell a ty=>gtm t a λp=>E.ty.getK ty λi=>A7 i p H λv=>ih λvs=>K (v::vs)) rs
def lN(vs:Is)(K:K2):Af:=
 @List.rec AV (λ_=>Af) (K (.tup [])) (λv l _=>@List.rec AV (λ_=>Af) (K v) (λu a _=>K (.tup (v::u::a))) l) vs
def A71:Is->AV
 |[v]=>v
 |vs=>.tup vs
def A0W(vs:Is)(K:K2):lN vs K=K (A71 vs):=by
 match vs with
 |[]=>rfl
 |[v]=>rfl
 |v::u::l=>rfl
def XE.T(E:XE):Ty:=λty=>E.ty.get ty
def AW{α:Type}{b:BT α}{K:α->Af}(h:b.getK i K=some r):∃v,b.get i=some v/\K v=some r:=by
 rw[BT.getK_eq]at h;split at h
 ·exact⟨_,by assumption,h⟩
 ·cases h
def A7a(tmps:Array Value):ResultVar->Sem Value
 |.tmp t=>pure (tmps.getD t undef)
 |.cell x t=>do loadVar t (<-asAddr (tmps.getD x undef))
def A4j{E:XE}{T:Ty}(y:eO P T)(s:∀ty i,E.ty.get ty=some i->T ty=some i)(hr:Rel G w0 C H w)(f:V2 C w t tmps):∀(rs:List ResultVar)(K:Is->Af),A4k E t H rs K=some r->
 ∃vs ys,(rs.mapM (A7a tmps)).run P w=.ok ys w/\Cn C w vs ys/\K vs=some r:=by
 intro rs
 induction rs with
 |nil=>intro K h;exact⟨[],[],rfl,.nil,h⟩
 |cons x rs ih=>
  intro K h;cases x with
  |tmp i=>
   have h:(gtm t i λv=>A4k E t H rs λvs=>K (v::vs))=some r:=h;rw[To]at h;obtain⟨vs,ys,h1,h2,d⟩:=ih _ h;refine⟨_,_::ys,?_,.cons (f i) h2,d⟩;rw[List.mapM_cons];simp only[A7a,CN,gQ,F3,h1]
  |cell x ty=>
   have h:(gtm t x λp=>E.ty.getK ty λi=>A7 i p H λv=>A4k E t H rs λvs=>K (v::vs))=some r:=h;rw[To]at h;obtain⟨i,A,h⟩:=AW h;obtain⟨u,h,B⟩:=A0t (T:=T) (s _ _ A) h;obtain⟨v,z,h1,h2,d⟩:=jA y hr (f x) B;subst d;obtain⟨vs,ys,g,j,n⟩:=ih _ h;refine⟨v::vs,z::ys,?_,.cons h2 j,n⟩;rw[List.mapM_cons];have c:(do loadVar ty (<-asAddr (tmps.getD x undef)):Sem Value).run P w=.ok z w:=by
    generalize tmps.getD x undef=q at*;cases q<;>simp only[Instr.loadAt,Instr.sureAddr,CN,run_stuck,Result.andThen_halt]at h1<;>try (cases h1;done)
    rename_i e;cases e with
    |none=>simp at h1
    |some e=>simpa [asAddr] using h1
   have a:(A7a tmps (.cell x ty)).run P w=.ok z w:=c;rw[CN,a];simp only[F3,CN,g,gQ]
def xC:Hx->Value
 |[y]=>y
 |ys=>.tuple ys.toArray
def O_(h:(fn.results.toList.mapM (A7a tmps)).run P w=.ok ys w):
 (results fn tmps).run P w=.ok (xC ys) w:=by
 have e:results fn tmps=(do
  let vs<-fn.results.mapM (A7a tmps)
  pure (if h:vs.size=1 then vs[0] else .tuple vs)):=by
  unfold results
  congr 1
 rw[e,CN,Array.mapM_eq_mapM_toList,Sem.run_map,h];simp only[F3,gQ]
 congr 1
 match ys with
 |[]=>rfl
 |[y]=>rfl
 |y::z::ys=>simp[xC]
def A1w{vs:Is}(h:Cn C w vs ys):VRel C w (A71 vs) (xC ys):=by
 match vs,ys,h with
 |[],[],h=>exact Ds.2 ⟨[],rfl,h⟩
 |[v],[y],h=>exact h.get 0 (by simp)
 |v::u::vs,y::z::ys,h=>exact Ds.2 ⟨_,rfl,h⟩
 |[],_::_,h=>exact absurd h.1 (by simp)
 |[v],[],h=>exact absurd h.1 (by simp)
 |[v],_::_::_,h=>exact absurd h.1 (by simp)
 |_::_::_,[],h=>exact absurd h.1 (by simp)
 |_::_::_,[_],h=>exact absurd h.1 (by simp)
def numbered:Nat->Is->Tm
 |_,[]=>[]
 |k,a::c=>(k,a)::numbered (k+1) c
def sI:∀(c:Is)(k i:Nat),GY (numbered k c) i=if k<=i/\i<k+c.length then c.getD (i-k) .dk else .dk:=by
 intro c
 induction c with
 |nil=>intro k i;simp[numbered,GY]
 |cons a c ih=>
  intro k i;simp only[numbered,GY];by_cases d:i=k
  ·subst d;simp
  ·rw[Cr d,ih];by_cases h:k<=i/\i<k+(a::c).length
   ·simp only[Kj]at h;rw[CZ (by omega),CZ (by simp only[Kj];omega)];have:i-k=(i-(k+1))+1:=by omega
    rw[this];simp
   ·simp only[Kj]at h;rw[Cr (by omega),Cr (by simp only[Kj];omega)]
def B2U(c:Is):Nat->(Tm->Af)->Af:=
 (λ(_:Unit)=>@List.rec AV (λ_=>Nat->(Tm->Af)->Af) (λ_ K=>K []) (λa _ ih k K=>fNS (Nat.succ k) λd=>ih d λt=>K ((k,a)::t)) c) Hf
def B2T(c:Is):∀(k:Nat)(K:Tm->Af),B2U c k K=K (numbered k c):=by
 induction c with
 |nil=>intro k K;rfl
 |cons a c ih=>
  intro k K;have:B2U (a::c) k K=fNS (Nat.succ k) λd=>B2U c d λt=>K ((k,a)::t):=rfl;rw[this,A91,ih];rfl
theorem V2.numbered{n:Nat}(d:Cn C w args ys):V2 C w (numbered 0 args) (ys.toArray++Array.replicate n undef):=by
 intro i;rw[sI];have c:=d.1;split
 ·rename_i e;have a:i<args.length:=by omega
  have:=d.get i a;simp only[Nat.sub_zero,T9,JC a,l1l,Zk];rw[Array.getElem?_append_left (by simp;omega)];simp[c,a];exact this
 ·exact .dk _
theorem Frm.delB{O:Nat->Prop}{C0:Ctx}(h:Frm m O C0 wa C w)(a:∀k,C0.B k->k<wa.heap.size)(f:∀k i,C0.F k i->k<wa.heap.size)(hb:wa.heap.size<=b)(g:w.heap[b]?=some (.deferred (some [])))(d:SameObj w w' b o'):Frm m O C0 wa (C.delB b) w':=
 ⟨h.π,h.F,λk i j=>(d.cell (by have:=f k i j;omega)).trans (h.keep k i j),λk c=>⟨h.B k c,by have:=a k c;omega⟩,λk c=>(d.others k (by have:=a k c;omega)).trans (h.keepB k c),
  λk arr T fz hk=>by
   obtain⟨a1,f1,h1,h2⟩:=h.size k arr T fz hk;exact⟨a1,f1,(d.others k (λe=>by subst e;rw[g]at h1;cases h1)).trans h1,h2⟩,
  h.new,λk c=>h.newB k c.1,by rw[d.size];exact h.grow⟩
def yJ{R:Ending->World->Prop}{m s0:Nat}{C0:Ctx}(d:∀k,C0.B k->k<wa.heap.size)(n:∀k i,C0.F k i->k<wa.heap.size)(J:wa.heap.size<=s0)(g:∀C w,Rel G w0 C H w->V2 C w t tmps->Frm m w0.own C0 wa C w->∃v,(results fn tmps).run P w=.ok v w/\R (.returned v) w):
 ∀(a:Hb)(C:Ctx)(w:World),a.Nodup->(∀b∈a,s0<=b/\w0.own b/\C.B b/\w.heap[b]?=some (.deferred (some [])))->Rel G w0 C H w->V2 C w t tmps->Frm m w0.own C0 wa C w->
  LeavesInM (Fe none) 0 P fn tmps R (a.map yC) .returning w:=by
 intro a
 induction a with
 |nil=>
  intro C w _ _ hr u j;exact g C w hr u j
 |cons b a ih=>
  intro C w hn hb hr u j;obtain⟨h1,h2,K,c⟩:=hb b (by simp);obtain⟨q,s⟩:=List.nodup_cons.1 hn;have p:=(l1q.1 c).1;have h:SameObj w (w.putObj b (.deferred none)) b (.deferred none):=SameObj.putObj p _;refine⟨by simp,.inl ⟨b,_,rfl,run_takeDeferred c,ih (C.delB b) _ s (λk hk=>?_) (hr.shut c h2 h) (u.shut c h) (j.delB d n (by omega) c h)⟩⟩;obtain⟨x,y,A,D⟩:=hb k (by simp[hk]);have f:k≠b:=λe=>q (e▸hk);exact⟨x,y,⟨A,f⟩,(h.others k f).trans D⟩
def B94(E:XE)(rs:List ResultVar)(K:KV):Exit->Tm->Ru:=λe t H=>
 match e with
 |.normal=>A4k E t H rs λvs=>lN vs λv=>K v H
 |.ret=>A4k E t H rs λvs=>lN vs λv=>K v H
 |_=>none
def A61{E:XE}{T:Ty}(M:eO P T)(J:∀ty i,E.ty.get ty=some i->T ty=some i){f:FuncId}{c:Code}{K:KV}(N:P.funcs[f]?=some fn)(hb:fn.body=some c)(h:Pz P G none (Ax H) (args.length+(fn.ntmps-args.length)) c (λe t a=>B94 E fn.results.toList K e t a=some r) (numbered 0 args) H):Qa P G f args H (λv a=>K v a=some r):=by
 intro w0 C w ys p A;refine callsIn_wide.1 (callsIn_of_wp_marks (n:=0) N hb trivial ?_);have g:=A.1;have L:St G w0 w.heap.size C (args.length+(fn.ntmps-args.length)) (numbered 0 args) H {tmps:=ys.toArray++Array.replicate (fn.ntmps-ys.toArray.size) undef,defers:=[]} w:=⟨p,by simp[g],.numbered A,.nil,Oj _⟩
 have O:=h w0 w.heap.size C _ w L;have j:Fe none=Fence.wide:=rfl;rw[<-j];refine wpIn_mono O λe u w' ⟨d,B,a,s,R,q⟩=>?_;have fin:(A4k E B a fn.results.toList λvs=>lN vs λv=>K v a)=some r->LeavesInM (Fe none) 0 P fn u.tmps (λe w'=>∃v y d a,e=.returned y/\Rel G w0 d a w'/\VRel d w' v y/\Frm (Ax H) w0.own C w d w'/\K v a=some r) u.defers .returning w':=by
  intro q;obtain⟨F,d1,d2,d3⟩:=s.defers;rw[d2];refine yJ (H:=a) (t:=B) (C0:=C) (wa:=w) (m:=Ax H) (s0:=w.heap.size) p.finB p.fin (Oj _) (λD w1 r1 Q f1=>?_) F d w' d1 d3 s.rel s.tmps R;obtain⟨vs,V,h1,h2,x⟩:=A4j M J r1 Q _ _ q;rw[A0W]at x;exact⟨_,O_ h1,_,_,D,a,rfl,r1,A1w h2,f1,x⟩
 cases e with
 |normal=>exact fin q
 |ret=>exact fin q
 |_=>cases q
end
end
section
variable{f:AV->(Bool->K2)->Af}{q q':Bool}
def Il(f:AV->(Bool->K2)->Af)(l:Is):(Bool->Is->Af)->Af:=
 @List.rec AV (λ_=>(Bool->Is->Af)->Af) (λK=>K false [])
  (λa _ ih K=>f a λq c=>ih λq' d=>K (@Bool.rec (λ_=>Bool) q' true q) (c::d)) l
def VB(f:AV->(Bool->K2)->Af)(l:IH):(Bool->IH->Af)->Af:=
 @List.rec (Value×AV) (λ_=>(Bool->IH->Af)->Af) (λK=>K false [])
  (λp _ ih K=>f p.2 λq a=>ih λq' c=>K (@Bool.rec (λ_=>Bool) q' true q) ((p.1,a)::c)) l
def A22(x:Row)(K:IH->Af):Af:=match x with|.map false a _=>K a|_=>none
def Y'(b:Bool)(a:AV)(K:Bool->K2):Af:=
 match a with
 |.v x=>K false (.v x)
 |.list n cs=>ck b (K false (.list n cs))
 |.iptr cs=>ck b (K false (.iptr cs))
 |.imap c=>ck b (K false (.imap c))
 |_=>none
def X_(b:Bool)(H:Hp)(ih:AV->(Bool->K2)->Af)(a:AV)(K:Bool->K2):Af:=
 match a with
 |.v x=>K false (.v x)
 |.list n cs=>ck b (K false (.list n cs))
 |.iptr cs=>ck b (K false (.iptr cs))
 |.imap g=>ck b (K false (.imap g))
 |.agg cs=>Il ih cs λq d=>K q (.agg d)
 |.tup cs=>Il ih cs λq d=>K q (.tup d)
 |.fn f j cs=>Il ih j λq i=>Il ih cs λq' d=>K (@Bool.rec (λ_=>Bool) q' true q) (.fn f i d)
 |.sl sz r o n=>IN H r λx=>Ku x λ_ cs=>FI (Nat.mul n sz) (D0 o cs) λc=>Il ih c λ_ e=>K true (.list n e)
 |.ptr r p k=>IN H r λx=>Ku x λ_ cs=>Il ih (D0 (Nat.add p k) cs) λ_ e=>K true (.iptr e)
 |.mp r=>IN H r λx=>A22 x λg=>VB ih g λ_ h=>K true (.imap h)
 |_=>none
def I5(b:Bool)(H:Hp)(D:Nat):AV->(Bool->K2)->Af:=@Nat.rec (λ_=>AV->(Bool->K2)->Af) (Y' b) (λ_ ih=>X_ b H ih) D
def Uf(b q:Bool)(C:Ctx)(H:Hp):Ctx:=
 {π:=λ_=>none
  F:=λk i=>(b=true/\C.F k i)\/(q=true/\∃r x o,Al H r=some x/\C.π r=some (some (k,o)))
  B:=λk=>(b=true/\C.B k)\/(q=true/\∃r x o,Al H r=some x/\C.π r=some (some (k,o)))}
def vJ(b q:Bool)(C:Ctx)(H:Hp):(Uf b q C H).bare=Uf b q C H:=rfl
def NC{b q q':Bool}{C:Ctx}{H:Hp}{w:World}(h:q=true->q'=true):Ext (λ_=>True) (Uf b q C H) w (Uf b q' C H) w:=
 ⟨λ_ _=>rfl,λ_ _ c=>c.imp id (λ⟨h1,h2⟩=>⟨h h1,h2⟩),λ_ _ _=>rfl,λ_ c=>c.imp id (λ⟨h1,h2⟩=>⟨h h1,h2⟩),λ_ _=>rfl,λ_ a _ f h=>⟨a,f,h,rfl⟩,λ_ _ _=>.inr trivial,λ_ _=>.inr trivial,Oj _⟩
def iU:q=true->(@Bool.rec (λ_=>Bool) q' true q)=true:=λh=>by subst h;rfl
def Za:q'=true->(@Bool.rec (λ_=>Bool) q' true q)=true:=λh=>by subst h;cases q<;>rfl
section
variable{G:Gl}{w0:Base}{C:Ctx}{H:Hp}{w:World}{b:Bool}{r:AV×Hp}
def jG(n:∀a y K,VRel C w a y->f a K=some r->∃q c,VRel (Uf b q C H) w c y/\K q c=some r):
 ∀(l:Is)(ys:Hx)(K:Bool->Is->Af),Cn C w l ys->Il f l K=some r->∃q d,Cn (Uf b q C H) w d ys/\K q d=some r:=by
 intro l
 induction l with
 |nil=>intro ys K e h;exact⟨false,[],by rw[e.nil_inv];exact .nil,h⟩
 |cons a l ih=>
  intro ys K e h;obtain⟨y,g,rfl,h1,h2⟩:=e.cons_inv;have h:(f a λq c=>Il f l λq' d=>K (@Bool.rec (λ_=>Bool) q' true q) (c::d))=some r:=h;obtain⟨q,c,i,j⟩:=n a y _ h1 h;obtain⟨q',d,k,m⟩:=ih g _ h2 j;exact⟨_,_,.cons (i.mono (NC iU)) (k.mono (NC Za)),m⟩
def X?(A:∀a y K,VRel C w a y->f a K=some r->∃q d,VRel (Uf b q C H) w d y/\K q d=some r):
 ∀(l:IH)(ms:List MapEntry)(K:Bool->IH->Af),KM C w l ms->VB f l K=some r->∃q g,KM (Uf b q C H) w g ms/\K q g=some r:=by
 intro l
 induction l with
 |nil=>intro ms K c h;exact⟨false,[],⟨c.1,λi p B=>by simp at B⟩,h⟩
 |cons p l ih=>
  intro ms K c h;cases ms with
  |nil=>exact absurd c.1 (by simp)
  |cons m ms=>
   obtain⟨F,hm,hk,hv⟩:=c.2 0 p rfl;simp at hm;subst hm;have h:(f p.2 λq d=>VB f l λq' g=>K (@Bool.rec (λ_=>Bool) q' true q) ((p.1,d)::g))=some r:=h;obtain⟨q,d,t,u⟩:=A _ _ _ hv h;obtain⟨q',g,j,v⟩:=ih ms _ ⟨by simpa using c.1,λi x e=>by simpa using c.2 (i+1) x (by simpa using e)⟩ u;refine⟨_,_,⟨by simpa using j.1,λi x e=>?_⟩,v⟩;cases i with
   |zero=>simp at e;subst e;exact⟨m,rfl,hk,t.mono (NC iU)⟩
   |succ i=>
    obtain⟨D,k,n,s⟩:=j.2 i x (by simpa using e);exact⟨D,by simpa using k,n,s.mono (NC Za)⟩
def Ud{a:AV}{y:Value}(hb:b=true)(hc:mI 0 a=true)(h:VRel C w a y):VRel (Uf b false C H) w a y:=
 VRel.down (by subst hb;funext k i;simp[Uf]) (by subst hb;funext k;simp[Uf]) 0 a y hc h
def qF(hr:Rel G w0 C H w):∀(D:Nat)(a:AV)(y:Value)(K:Bool->K2),VRel C w a y->I5 b H D a K=some r->∃q a',VRel (Uf b q C H) w a' y/\K q a'=some r:=by
 intro D
 induction D with
 |zero=>
  intro a y K hv h;change Y' b a K=some r at h;unfold Y' at h;split at h
  ·exact⟨false,_,by rw[AA.1 hv];exact .v _,h⟩
  ·obtain⟨h1,h⟩:=Br h;exact⟨false,_,Ud h1 rfl hv,h⟩
  ·obtain⟨h1,h⟩:=Br h;exact⟨false,_,Ud h1 rfl hv,h⟩
  ·obtain⟨h1,h⟩:=Br h;exact⟨false,_,Ud h1 rfl hv,h⟩
  ·cases h
 |succ D ih=>
  intro a y K hv h;have V:=λl N K=>jG (f:=I5 b H D) (b:=b) (H:=H) (C:=C) (w:=w) (r:=r) ih l N K;have hX:=λl N K=>X? (f:=I5 b H D) (b:=b) (H:=H) (C:=C) (w:=w) (r:=r) ih l N K;change X_ b H (I5 b H D) a K=some r at h;unfold X_ at h;split at h
  ·exact⟨false,_,by rw[AA.1 hv];exact .v _,h⟩
  ·obtain⟨h1,h⟩:=Br h;exact⟨false,_,Ud h1 rfl hv,h⟩
  ·obtain⟨h1,h⟩:=Br h;exact⟨false,_,Ud h1 rfl hv,h⟩
  ·obtain⟨h1,h⟩:=Br h;exact⟨false,_,Ud h1 rfl hv,h⟩
  ·obtain⟨N,rfl,hl⟩:=E2.1 hv;obtain⟨q,L,h1,h2⟩:=V _ _ _ hl h;exact⟨q,_,E2.2 ⟨N,rfl,h1⟩,h2⟩
  ·obtain⟨N,rfl,hl⟩:=Ds.1 hv;obtain⟨q,L,h1,h2⟩:=V _ _ _ hl h;exact⟨q,_,Ds.2 ⟨N,rfl,h1⟩,h2⟩
  ·obtain⟨N,zs,rfl,hl,ad⟩:=Iz.1 hv;obtain⟨q,L,h1,h2⟩:=V _ _ _ hl h;obtain⟨q',aj,g,P⟩:=V _ _ _ ad h2;exact⟨_,_,Iz.2 ⟨N,zs,rfl,h1.mono (NC iU),g.mono (NC Za)⟩,P⟩
  ·rename_i sz s o n;obtain⟨q0,e,cs,F,h1⟩:=Jf h;obtain⟨B,h2⟩:=KG _ _ _ _ h1;rw[C9]at B h2;cases hv with
   |slz ai=>
    have h2:Il (I5 b H D) ((cs.drop o).take (0*sz)) (λ_ c'=>K true (.list 0 c'))=some r:=h2;rw[Nat.zero_mul,List.take_zero]at h2;exact⟨true,_,.list0,h2⟩
   |@sl _ _ _ _ _ _ bk O cap arr T fz J aa ah af=>
    rcases hr.rows s _ F with⟨_,h6⟩|⟨b',c,u,ab,M⟩
    ·rw[h6]at J;cases J
    ·have A:=M.at_.symm.trans J;injection A with A;injection A with A;injection A with Y Z;subst Y Z
     have d:Cn C w ((cs.drop o).take (n*sz)) ((((u.toList.drop c).take cs.length).drop o).take (n*sz)):=(M.vals.unsel.drop o).take _;obtain⟨q,L,g,P⟩:=V _ _ _ d h2;have g:=g.mono (NC (q':=true) (λ_=>rfl));have ae:L.length=n*sz:=by
      rw[<-g.1,d.1,E'];have:n*sz<=(cs.drop o).length:=B;omega
     refine⟨true,_,.list aa (λi=>((((u.toList.drop c).take cs.length).drop o).take (n*sz)).getD i undef) (λi t=>.inr ⟨rfl,s,_,_,F,J⟩) (λi t=>?_) (λi t=>?_),P⟩
     ·have ac:i<n*sz:=by omega
      have Q:o+i<cs.length:=by have:n*sz<=(cs.drop o).length:=B;simp at this;omega
      rw[Yq,M.cell];rw[T9,tM,CZ ac,lY,tM,CZ Q,lY,l21];have hf:=M.fits;rw[l1k (by omega)];rfl
     ·have:=g.get i t;rw[vJ,T9,JC (by rw[g.1];exact t)];exact this
  ·rename_i s p k;obtain⟨q0,e,cs,F,h2⟩:=Jf h;rw[C9]at h2;cases hv with
   |@ptr _ _ _ _ _ bk O J=>
    rcases hr.rows s _ F with⟨_,h6⟩|⟨b',c,u,ab,M⟩
    ·rw[h6]at J;cases J
    ·have A:=M.at_.symm.trans J;injection A with A;injection A with A;injection A with Y Z;subst Y Z
     have d:Cn C w (cs.drop (p+k)) (((u.toList.drop c).take cs.length).drop (p+k)):=M.vals.unsel.drop _;obtain⟨q,L,g,P⟩:=V _ _ _ d h2;have g:=g.mono (NC (q':=true) (λ_=>rfl));have ae:L.length=cs.length-(p+k):=by rw[<-g.1,d.1,l0t]
     refine⟨true,_,.iptr (λi=>(((u.toList.drop c).take cs.length).drop (p+k)).getD i undef) (λi t=>.inr ⟨rfl,s,_,_,F,J⟩) (λi t=>?_) (λi t=>?_),P⟩
     ·have Q:p+k+i<cs.length:=by omega
      rw[Yq,M.cell];rw[T9,lY,tM,CZ Q,lY,l21];have hf:=M.fits;rw[l1k (by omega)];rfl
     ·have:=g.get i t;rw[vJ,T9,JC (by rw[g.1];exact t)];exact this
  ·rename_i s;obtain⟨x,F,h2⟩:=HC rfl h;unfold A22 at h2;split at h2
   ·rename_i es _bo;cases hv with
    |@mp _ _ _ bk O J=>
     obtain⟨ag,X,clock,g1,g2,g3,g4,_⟩:=hr.rows s _ F;have A:=g1.symm.trans J;injection A with A;injection A with A;injection A with Y Z;subst Y Z
     obtain⟨q,L,g,P⟩:=hX _ _ _ g4 h2;have g:=g.mono (NC (q':=true) (λ_=>rfl));have B:X.size=L.length:=by have:=g.1;simpa using this
     have get:∀i(t:i<L.length),(X.getD i default).key=L[i].1/\VRel (Uf b true C H) w L[i].2 (X.getD i default).val:=λi t=>by
      obtain⟨m,k1,k2,k3⟩:=g.2 i _ (JC t);have:X.getD i default=m:=by
       rw[l21]at k1;simp[Zk,k1]
      rw[this];exact⟨k2,k3⟩
     refine⟨true,_,.imap X (.inr ⟨rfl,s,_,_,F,J⟩) g2 B (λi t=>(get i t).1) (λi j R hj=>?_) (λi t=>?_) (λi t=>(get i t).2),P⟩
     ·have:=l20.1 g3.born i j (by simpa using Nat.lt_trans R hj) (by simpa using hj) R;simpa [Zk,hj,Nat.lt_trans R hj] using this
     ·have:=g3.lt X[i] (by simp);simpa [Zk,t] using this
   ·cases h2
  ·cases h
end
end
section
variable{ag:Bool}{d:Nat}{t:TypeId}
def LK.fit:LK->Value->Bool
 |.int k,.int a _=>decide (a=k)
 |.str,.string _=>true
 |.bool,.bool _=>true
 |_,_=>false
def fits:List LK->Hx->Bool
 |[],[]=>true
 |k::ks,v::vs=>k.fit v&&fits ks vs
 |_,_=>false
def TB(ag:Bool)(vs:Hx):Value:=match ag with|true=>.agg vs.toArray|false=>vs.headD undef
def LP(P:Program)(rec:TypeId->Option (Bool×List LK)):Nat->List Field->Option (List LK)
 |_,[]=>some []
 |off,f::a=>match rec f.type with
  |some (_,ks)=>if f.name != "_" &&(Nat.beq f.offset off&&(Nat.beq (P.cellsOf f.type) ks.length&& !Nat.beq ks.length 0)) then(LP P rec (off+ks.length) a).map (ks++ ·) else none
  |none=>none
def leaves(P:Program):Nat->TypeId->Option (Bool×List LK)
 |0,_=>none
 |d+1,t=>match P.underlying t with
  |some (.int k)=>some (false,[.int k])
  |some .string=>some (false,[.str])
  |some .bool=>some (false,[.bool])
  |some (.struct a)=>if P.stoodInHeld t then none else(LP P (leaves P d) 0 a.toList).map λks=>(true,ks)
  |some (.array n e)=>match leaves P d e with
   |some (_,ks)=>if Nat.beq (P.cellsOf e) ks.length&& !Nat.beq ks.length 0 then some (true,(List.replicate n ks).flatten) else none
   |none=>none
  |_=>none
def DS:∀{ks:List LK}{vs:Hx},fits ks vs=true->vs.length=ks.length:=by
 intro ks
 induction ks with
 |nil=>intro vs h;cases vs<;>simp[fits]at h;rfl
 |cons k ks ih=>
  intro vs h;cases vs with
  |nil=>simp[fits]at h
  |cons v vs=>simp only[fits,J2]at h;simp[ih h.2]
def MI:∀{ks ls:List LK}{vs:Hx},fits (ks++ls) vs=true->fits ks (vs.take ks.length)=true/\fits ls (vs.drop ks.length)=true:=by
 intro ks
 induction ks with
 |nil=>intro ls vs h;exact⟨by simp[fits],by simpa using h⟩
 |cons k ks ih=>
  intro ls vs h;cases vs with
  |nil=>simp[fits]at h
  |cons v vs=>
   simp only[List.cons_append,fits,J2]at h;obtain⟨h1,h2⟩:=ih h.2;exact⟨by simp[fits,h.1,h1],by simpa using h2⟩
def Zz{α:Type}[DecidableEq α](n:Nat)(xs ys:List α):decide (xs=ys)=(decide (xs.take n=ys.take n)&&decide (xs.drop n=ys.drop n)):=by
 rw[kZ];simp only[decide_eq_true_eq,J2];constructor
 ·rintro rfl;exact⟨rfl,rfl⟩
 ·rintro⟨h1,h2⟩;rw[<-l30 n xs,<-l30 n ys,h1,h2]
instance:DecidableEq Value:=Classical.typeDecidableEq Value
section
variable{P:Program}
def yK{ks:List LK}(h:leaves P d t=some (ag,ks))(w:World):(isAgg t).run P w=.ok ag w:=by
 cases d with
 |zero=>simp[leaves]at h
 |succ d=>
  unfold leaves at h;split at h
  ·rename_i a;injection h with h;injection h with h1 h2;subst h1;unfold isAgg;rw[CN,run_underlying a w];rfl
  ·rename_i a;injection h with h;injection h with h1 h2;subst h1;unfold isAgg;rw[CN,run_underlying a w];rfl
  ·rename_i a;injection h with h;injection h with h1 h2;subst h1;unfold isAgg;rw[CN,run_underlying a w];rfl
  ·rename_i f a;split at h
   ·cases h
   ·cases c:LP P (leaves P d) 0 f.toList with
    |none=>rw[c]at h;simp at h
    |some l=>
     rw[c]at h;simp only[rT,l0y,Prod.mk.injEq]at h;obtain⟨h1,h2⟩:=h;subst h1;unfold isAgg;rw[CN,run_underlying a w];rfl
  ·rename_i n e a;split at h
   ·split at h
    ·injection h with h;injection h with h1 h2;subst h1;unfold isAgg;rw[CN,run_underlying a w];rfl
    ·cases h
   ·cases h
  ·cases h
def ME{ks:List LK}(h:leaves P d t=some (ag,ks))(hc:P.cellsOf t=ks.length)(c:ks.length≠0)(xs:Hx)(off:Nat)(e:off+ks.length<=xs.length)(w:World):
 (part t xs.toArray off).run P w=.ok (TB ag ((xs.drop off).take ks.length)) w:=by
 unfold part;rw[CN,yK h w];simp only[F3];cases ag with
 |true=>
  simp only[if_true];rw[CN,BI w (by rw[hc];exact c)];simp only[F3,gQ,TB,hc]
  congr 2
  apply lG;simp[List.take_drop]
 |false=>
  simp only[tL,if_false];have a:off<xs.length:=by omega
  rw[l10,JC a];simp only[gQ,TB]
  congr 1
  rw[tK a];cases hk:ks.length with
  |zero=>exact absurd hk c
  |succ n=>rfl
def B06(P:Program)(d:Nat)(t:TypeId):Prop:=
 ∀ag ks,leaves P d t=some (ag,ks)->∀(m:Nat)(xs a:Hx),fits ks xs=true->fits ks a=true->∀w,(Op.equalIn (m+d) t (TB ag xs) (TB ag a)).run P w=.ok (decide (xs=a)) w
def lI(k:∀t,B06 P d t)(m:Nat):∀(a:List Field)(off:Nat)(ks:List LK),LP P (leaves P d) off a=some ks->∀(xs ys:Hx),fits ks (xs.drop off)=true->fits ks (ys.drop off)=true->
 off<=xs.length->off<=ys.length->∀w,(Op.eqFields (m+d) xs.toArray ys.toArray a).run P w=.ok (decide (xs.drop off=ys.drop off)) w:=by
 intro a
 induction a with
 |nil=>
  intro off ks h xs ys c g _ _ w;simp only[LP,l0y]at h;subst h;have h1:=DS c;have h2:=DS g;simp only[PQ,List.length_eq_zero_iff]at h1 h2;rw[h1,h2];simp[Op.eqFields]
 |cons f a ih=>
  intro off ks h xs ys c g s u w;unfold LP at h;split at h
  ·rename_i ag k1 i;split at h
   ·rename_i hc;simp only[J2,kY,yL,bne_iff_ne,ne_eq]at hc;obtain⟨c1,c2,c3,c4⟩:=hc;have c4:k1.length≠0:=λe=>by rw[e]at c4;simp at c4
    cases hr:LP P (leaves P d) (off+k1.length) a with
    |none=>rw[hr]at h;simp at h
    |some r=>
     rw[hr]at h;simp only[rT,l0y]at h;subst h;obtain⟨q,j⟩:=MI c;obtain⟨y1,y2⟩:=MI g;rw[l15]at j y2;have n:=DS c;have p:=DS g;simp only[l0t,EJ]at n p;simp only[Op.eqFields];rw[CZ c1,CN,c2,ME i c3 c4 xs off (by omega) w];simp only[F3];rw[CN,ME i c3 c4 ys off (by omega) w];simp only[F3];rw[CN,k f.type ag k1 i m _ _ q y1 w];simp only[F3];rw[Zz k1.length (xs.drop off) (ys.drop off),l15,l15];cases hq:decide (List.take k1.length (List.drop off xs)=List.take k1.length (List.drop off ys))
     ·simp
     ·simp only[Bool.not_true,tL,if_false,D_];exact ih _ _ hr xs ys j y2 (by omega) (by omega) w
   ·cases h
  ·cases h
def qT{e:TypeId}(k:B06 P d e)(m:Nat){ks:List LK}(g:leaves P d e=some (ag,ks))(hc:P.cellsOf e=ks.length)(a:ks.length≠0):∀(n i:Nat)(xs ys:Hx),fits (List.replicate n ks).flatten (xs.drop (i*ks.length))=true->fits (List.replicate n ks).flatten (ys.drop (i*ks.length))=true->
 i*ks.length<=xs.length->i*ks.length<=ys.length->∀w,(Op.eqItems (m+d) e (P.cellsOf e) xs.toArray ys.toArray (List.range' i n)).run P w=.ok (decide (xs.drop (i*ks.length)=ys.drop (i*ks.length))) w:=by
 intro n
 induction n with
 |zero=>
  intro i xs ys c f _ _ w;have h1:=DS c;have h2:=DS f;simp only[List.replicate_zero,List.flatten_nil,PQ,List.length_eq_zero_iff]at h1 h2;rw[h1,h2];simp[Op.eqItems]
 |succ n ih=>
  intro i xs ys c f s u w;rw[l17,l18]at c f;obtain⟨r,h⟩:=MI c;obtain⟨y1,y2⟩:=MI f;rw[l15]at h y2;have p:=DS c;have q:=DS f;simp only[l0t,EJ]at p q;have j:i*ks.length+ks.length=(i+1)*ks.length:=by rw[uY];omega
  rw[List.range'_succ];simp only[Op.eqItems];rw[CN,hc,ME g hc a xs (i*ks.length) (by omega) w];simp only[F3];rw[CN,ME g hc a ys (i*ks.length) (by omega) w];simp only[F3];rw[CN,k ag ks g m _ _ r y1 w];simp only[F3];rw[Zz ks.length (xs.drop (i*ks.length)) (ys.drop (i*ks.length)),l15,l15,j];rw[j]at h y2;cases hq:decide (List.take ks.length (List.drop (i*ks.length) xs)=List.take ks.length (List.drop (i*ks.length) ys))
  ·simp
  ·simp only[Bool.not_true,tL,if_false,D_];have:=ih (i+1) xs ys h y2 (by omega) (by omega) w;rw[hc]at this;exact this
def qS:∀(d:Nat)(t:TypeId),B06 P d t:=by
 intro d
 induction d with
 |zero=>intro t ag ks h;simp[leaves]at h
 |succ d s=>
  intro t ag ks h m xs v a c w;rw[<-Yq];unfold leaves at h;split at h
  ·rename_i k f;injection h with h;injection h with h1 h2;subst h1 h2
   obtain⟨x,rfl⟩:=l1a.1 (DS a);obtain⟨y,rfl⟩:=l1a.1 (DS c)
   ·
    simp only[fits,D?]at a c;cases x<;>simp[LK.fit]at a
    cases y<;>simp[LK.fit]at c
    subst a c;simp only[TB,List.headD];rw[run_equalIn_int w (m+d) t _ _ _ _ f]
    congr 1
    rw[kZ];simp
  ·rename_i f;injection h with h;injection h with h1 h2;subst h1 h2
   obtain⟨x,rfl⟩:=l1a.1 (DS a);obtain⟨y,rfl⟩:=l1a.1 (DS c)
   ·
    simp only[fits,D?]at a c;cases x<;>simp[LK.fit]at a
    cases y<;>simp[LK.fit]at c
    simp only[TB,List.headD];rw[run_equalIn_string w (m+d) t _ _ f]
    congr 1
    rw[<-beq_toListBytes,kZ,MapKept.bytes_beq];simp
  ·rename_i f;injection h with h;injection h with h1 h2;subst h1 h2
   obtain⟨x,rfl⟩:=l1a.1 (DS a);obtain⟨y,rfl⟩:=l1a.1 (DS c)
   ·
    simp only[fits,D?]at a c;cases x<;>simp[LK.fit]at a
    cases y<;>simp[LK.fit]at c
    simp only[TB,List.headD];rw[run_equalIn_bool' w (m+d) t _ _ f]
    congr 1
    rw[kZ];simp
  ·rename_i p f;split at h
   ·cases h
   ·rename_i r;cases g:LP P (leaves P d) 0 p.toList with
    |none=>rw[g]at h;simp at h
    |some l=>
     rw[g]at h;simp only[rT,l0y,Prod.mk.injEq]at h;obtain⟨h1,h2⟩:=h;subst h1 h2;have u:P.fieldsOf t=p:=by simp[Program.fieldsOf,f]
     simp only[TB];rw[run_equalIn_struct w (m+d) t _ _ (by rw[u];exact f) (by simpa using r),u];exact lI s m p.toList 0 l g xs v a c (D! _) (D! _) w
  ·rename_i n e f;split at h
   ·rename_i A k1 g;split at h
    ·rename_i hc;simp only[J2,kY,yL]at hc;have j:k1.length≠0:=λB=>by have:=hc.2;rw[B]at this;simp at this
     injection h with h;injection h with h1 h2;subst h1 h2
     simp only[TB];obtain⟨i,C⟩:∃i,P.info? e=some i:=by
      cases q:P.info? e with
      |none=>exfalso;exact j (by rw[<-hc.1];simp[Program.cellsOf,q])
      |some i=>exact⟨i,rfl⟩
     rw[run_equalIn_array w (m+d) _ _ f C,List.range_eq_range'];have:=qT (s e) m g hc.1 j n 0 xs v (by simpa using a) (by simpa using c) (by simp) (by simp) w;simpa using this
    ·cases h
   ·cases h
  ·cases h
structure EqFlat(P:Program)(t:TypeId)(ks:List LK):Prop where
 leaves:leaves P 6 t=some (true,ks)
 guard:P.eqGuardType P.depth t=false
theorem EqFlat.equal{ks:List LK}(h:EqFlat P t ks){xs ys:Hx}(a:fits ks xs=true)(c:fits ks ys=true)(w:World):(Op.equal t (.agg xs.toArray) (.agg ys.toArray)).run P w=.ok (decide (xs=ys)) w:=
 qS 6 t true ks h.leaves 9994 xs ys a c w
def lL:∀(d:Nat)(t:TypeId)(ag:Bool)(ks:List LK),leaves P d t=some (ag,ks)->∀(m:Nat)(em:Bool)(xs:Hx),fits ks xs=true->∀w,(Instr.checkKey em (m+d) t (TB ag xs)).run P w=.ok () w:=by
 intro d
 induction d with
 |zero=>intro t ag ks h;simp[leaves]at h
 |succ d B=>
  intro t ag ks h m em xs c w;rw[<-Yq];unfold Instr.checkKey;unfold leaves at h;split at h
  ·rename_i k a;rw[CN,run_underlying a w];rfl
  ·rename_i a;rw[CN,run_underlying a w];rfl
  ·rename_i a;rw[CN,run_underlying a w];rfl
  ·rename_i C a;split at h
   ·cases h
   ·rename_i H;cases p:LP P (leaves P d) 0 C.toList with
    |none=>rw[p]at h;simp at h
    |some l=>
     rw[p]at h;simp only[rT,l0y,Prod.mk.injEq]at h;obtain⟨h1,h2⟩:=h;subst h1 h2;rw[CN,run_underlying a w];simp only[F3,TB];rw[<-Array.forIn_toList];generalize C.toList=g at p;have key:∀(g:List Field)(off:Nat)(l:List LK),LP P (leaves P d) off g=some l->fits l (xs.drop off)=true->off<=xs.length->
      (forIn g PUnit.unit (λf(_:PUnit)=>(if f.name≠ "_" then(do let y<-part f.type xs.toArray f.offset;Instr.checkKey em (m+d) f.type y;pure (ForInStep.yield PUnit.unit)) else pure (ForInStep.yield PUnit.unit):Sem (ForInStep PUnit)))).run P w=.ok PUnit.unit w:=by
      intro g
      induction g with
      |nil=>intro off l _ _ _;simp
      |cons f g ih=>
       intro off l h c J;unfold LP at h;split at h
       ·rename_i ag k1 s;split at h
        ·rename_i hc;simp only[J2,kY,yL,bne_iff_ne,ne_eq]at hc;obtain⟨c1,c2,c3,c4⟩:=hc;have c4:k1.length≠0:=λe=>by rw[e]at c4;simp at c4
         cases hr:LP P (leaves P d) (off+k1.length) g with
         |none=>rw[hr]at h;simp at h
         |some K=>
          rw[hr]at h;simp only[rT,l0y]at h;subst h;obtain⟨A,r⟩:=MI c;rw[l15]at r;have x:=DS c;simp only[l0t,EJ]at x;rw[List.forIn_cons,CZ c1,CN,CN,c2,ME s c3 c4 xs off (by omega) w];simp only[F3];rw[CN,B f.type ag k1 s m em _ A w];simp only[F3,gQ];exact ih _ _ hr r (by omega)
        ·cases h
       ·cases h
     have:=key g 0 l p (by simpa using c) (D! _);rw[CN];refine(congrArg (λq=>Result.andThen q _) this).trans ?_;rfl
  ·rename_i n e a;split at h
   ·rename_i v k1 p;split at h
    ·rename_i hc;simp only[J2,kY,yL]at hc;have u:k1.length≠0:=λD=>by have:=hc.2;rw[D]at this;simp at this
     injection h with h;injection h with h1 h2;subst h1 h2
     have hsz:(sizeOf e).run P w=.ok (P.cellsOf e) w:=BI w (by rw[hc.1];exact u);rw[CN,run_underlying a w];simp only[F3,TB];simp only[Std.Legacy.Range.forIn_eq_forIn_range',Std.Legacy.Range.size,Nat.sub_zero,Nat.add_one_sub_one,Nat.div_one];have key:∀(n i:Nat),fits (List.replicate n k1).flatten (xs.drop (i*k1.length))=true->i*k1.length<=xs.length->
      (forIn (List.range' i n) PUnit.unit (λj(_:PUnit)=>(do let z<-sizeOf e;let y<-part e xs.toArray (j*z);Instr.checkKey em (m+d) e y;pure (ForInStep.yield PUnit.unit):Sem (ForInStep PUnit)))).run P w=.ok PUnit.unit w:=by
      intro n
      induction n with
      |zero=>intro i _ _;simp
      |succ n ih=>
       intro i c J;rw[l17,l18]at c;obtain⟨A,r⟩:=MI c;rw[l15]at r;have x:=DS c;simp only[l0t,EJ]at x;have F:i*k1.length+k1.length=(i+1)*k1.length:=by rw[uY];omega
       rw[F]at r;rw[List.range'_succ,List.forIn_cons,CN,CN,hsz];simp only[F3];rw[CN,hc.1,ME p hc.1 u xs (i*k1.length) (by omega) w];simp only[F3];rw[CN,B e v k1 p m em _ A w];simp only[F3,gQ];exact ih (i+1) r (by omega)
     have:=key n 0 (by simpa using c) (by simp);rw[CN];refine(congrArg (λq=>Result.andThen q _) this).trans ?_;rfl
    ·cases h
   ·cases h
  ·cases h
def eQ(P:Program)(f:FuncId):Prop:=∀(x:Value)(w:World),(callFunc f #[x]).run P w=.ok (.value x) w
def EqFlat.check{ks:List LK}(h:EqFlat P t ks){xs:Hx}(a:fits ks xs=true)(em:Bool)(w:World):(Instr.checkKey em 10000 t (.agg xs.toArray)).run P w=.ok () w:=
 lL 6 t true ks h.leaves 9994 em xs a w
end
end
section
variable{K:K2}{w0:Base}{C:Ctx}{w:World}{x:XFn}
abbrev KQ:=Exit->Tm->Ru
abbrev A?:=Cf->Code->Tm->Hp->KQ->Af
structure Rt where
 call:B07
 run:A?
def unV:AV->Value
 |.v x=>x
 |_=>undef
def isV:AV->Bool
 |.v _=>true
 |_=>false
def XE.G(E:XE):Gl:=λg=>(E.gl.get g).map λcs=>cs.map unV
def RX(D:Nat->List Oper->Bool):Code->Bool
 |.region id a true=>D id a.toList
 |.seq x y=>RX D x&&RX D y
 |.cond _ x y=>RX D x&&RX D y
 |.block _ x=>RX D x
 |.loop x=>RX D x
 |.scope x=>RX D x
 |_=>true
structure XE.Ok(D:XE->Cf->Nat->List Oper->Bool)(E:XE)(P:Program):Prop where
 ty:eO P E.T
 pos:∀t i e esz,E.T t=some i->(i.d=.slice e esz\/∃n,i.d=.array n e esz)->esz≠0
 mix:P.follows .mixedOrders=true
 gl:∀g cs,E.gl.get g=some cs->cs.all isV=true
 fn:∀f x,E.ft.get f=some x->∃fn,P.funcs[f]?=some fn/\fn.body=some x.c/\fn.ntmps=x.n/\fn.results.toList=x.rs/\(fn.name== "runtime.NumGoroutine")=false/\RX (D E ⟨false,x.lv,x.fz,x.n,x.rc⟩) x.c=true
 eq:∀t ks,E.eqt.get t=some ks->EqFlat P t ks
 lie:∀e n o u,(e,n,o,u)∈E.lie->liesAt P P.depth e (n/P.cellsOf e) o u 1=true/\(P.info? u).isSome=true
 up:E.lie.isEmpty=false->P.underlying E.up=some .unsafePointer
 ne:∀f,E.ne f=true->eQ P f
def XE.env(E:XE)(P:Program):Env:={P:=P,G:=E.G,T:=E.T}
theorem XE.Ok.env{D:XE->Cf->Nat->List Oper->Bool}{E:XE}{P:Program}(h:XE.Ok D E P):(E.env P).Ok:=⟨h.ty,h.pos,h.mix⟩
def VX(P:Program)(f:Nat):Prop:=∃fn,P.funcs[f]?=some fn/\fn.body.isNone=false/\(fn.name== "runtime.NumGoroutine")=false
def eP(D:XE->Cf->Nat->List Oper->Bool)(E:XE)(P:Program)(R:A?):Prop:=
 ∀(ro:Option Nat)(a:Cf)(c:Code)(t:Tm)(H:Hp)(K:KQ)(r:AV×Hp)(m:Nat),(ro≠none->a.b=true)->(a.b=false->RX (D E a) c=true)->R a c t H K=some r->Pz P E.G ro m a.n c (λe g d=>K e g d=some r) t H
structure RSound(D:XE->Cf->Nat->List Oper->Bool)(E:XE)(P:Program)(R:Rt):Prop where
 run:eP D E P R.run
 call:∀(f:Nat)(args:Is)(H:Hp)(K:KV)(r:AV×Hp),R.call f args H K=some r->VX P f/\Qa P E.G f args H (λv H'=>K v H'=some r)
def zgo(E:XE)(R:A?)(x:XFn)(args:Is)(H:Hp)(K:KV):Af:=
 A3V args 0 λk=>ckS (Nat.ble k x.n) (B2U args 0 λt=>R ⟨false,x.lv,x.fz,x.n,x.rc⟩ x.c t H (B94 E x.rs K))
def eY(E:XE)(R:A?)(f:Nat)(args:Is)(H:Hp)(K:KV):Af:=E.ft.getK f λx=>zgo E R x args H K
def depth:Nat:=12
def Am(a:Af)(K:K2):Af:=match a with|some (v,_)=>K v|none=>none
def Aj(R:Rt)(f:Nat)(args:Is)(H:Hp)(K:K2):Af:=
 Il (I5 true H depth) args λq a=>Am (R.call f a [] λv c=>I5 (!q) c depth v λ_ d=>some (d,[])) K
section
variable{D:XE->Cf->Nat->List Oper->Bool}{E:XE}{P:Program}{R:Rt}{f:Nat}{args:Is}{H:Hp}{r:AV×Hp}
def C1b(c:XE.Ok D E P)(d:E.ft.get f=some x):VX P f:=by
 obtain⟨fn,h1,h2,e,g,a,h⟩:=c.fn f x d;exact⟨fn,h1,by rw[h2];rfl,a⟩
def A4o(d:XE.Ok D E P){a:A?}(p:eP D E P a)(q:E.ft.get f=some x){K:KV}(h:zgo E a x args H K=some r):Qa P E.G f args H (λv e=>K v e=some r):=by
 unfold zgo at h;rw[A8L]at h;obtain⟨hk,h⟩:=KL h;rw[B2T]at h;obtain⟨fn,h1,h2,g,j,s,k⟩:=d.fn f x q;refine A61 (E:=E) (T:=E.T) d.ty (λty i h=>h) h1 h2 ?_;have hk:args.length<=x.n:=by rw[eT]at hk;omega
 have m:args.length+(fn.ntmps-args.length)=x.n:=by rw[g];omega
 rw[m,j];exact p none ⟨false,x.lv,x.fz,x.n,x.rc⟩ x.c _ H _ r (Ax H) (λh=>absurd rfl h) (λ_=>k) h
def tY(c:XE.Ok D E P){a:A?}(g:eP D E P a){K:KV}(h:eY E a f args H K=some r):VX P f/\Qa P E.G f args H (λv e=>K v e=some r):=by
 obtain⟨x,d,h⟩:=AW h;exact⟨C1b c d,A4o c g d h⟩
def Keep.toBelow{w w':World}(h:Keep ⟨w,λ_=>False⟩ w'):Below w.heap.size w w':=⟨h.os,h.tape,h.output,h.size,λb hb=>h.block b hb id⟩
def A0b{G:Gl}{b q:Bool}(h:Rel G w0 C H w):(∀k i,(Uf b q C H).F k i->k<w.heap.size)/\∀k,(Uf b q C H).B k->k<w.heap.size:=by
 refine⟨λk i d=>?_,λk c=>?_⟩
 ·rcases d with⟨_,d⟩|⟨_,s,x,o,a,e⟩
  ·exact h.fin k i d
  ·exact(h.rows s x a).block (Ef a) e
 ·rcases c with⟨_,c⟩|⟨_,s,x,o,a,e⟩
  ·exact h.finB k c
  ·exact(h.rows s x a).block (Ef a) e
def A24{G:Gl}(hr:Rel G w0 C H w)(args:Is)(ys:Hx)(K:Bool->Is->Af)(d:Cn C w args ys)(h:Il (I5 true H depth) args K=some r):∃q c,Cn (Uf true q C H) w c ys/\K q c=some r:=
 jG (f:=I5 true H depth) (b:=true) (λa y K hv h=>qF hr depth a y K hv h) args ys K d h
def R8:∀(f:AV->(Bool->K2)->Af)(d:∀a K,f a K=some r->∃q c,K q c=some r)(l:Is)(K:Bool->Is->Af),Il f l K=some r->∃q e,K q e=some r:=by
 intro f d l
 induction l with
 |nil=>intro K h;exact⟨_,_,h⟩
 |cons a l ih=>
  intro K h;obtain⟨q,c,h⟩:=d a _ h;obtain⟨g,e,h⟩:=ih _ h;exact⟨_,_,h⟩
def A8q:∀(f:AV->(Bool->K2)->Af)(d:∀a K,f a K=some r->∃q c,K q c=some r)(l:IH)(K:Bool->IH->Af),VB f l K=some r->∃q e,K q e=some r:=by
 intro f d l
 induction l with
 |nil=>intro K h;exact⟨_,_,h⟩
 |cons a l ih=>
  intro K h;obtain⟨q,c,h⟩:=d a.2 _ h;obtain⟨g,e,h⟩:=ih _ h;exact⟨_,_,h⟩
def B2o{b:Bool}:∀(n:Nat)(a:AV)(K:Bool->K2),I5 b H n a K=some r->∃q c,K q c=some r:=by
 intro n
 induction n with
 |zero=>
  intro a K h;change Y' b a K=some r at h;unfold Y' at h;split at h
  ·exact⟨_,_,h⟩
  ·exact⟨_,_,(Br h).2⟩
  ·exact⟨_,_,(Br h).2⟩
  ·exact⟨_,_,(Br h).2⟩
  ·cases h
 |succ n ih=>
  intro a K h;change X_ b H (I5 b H n) a K=some r at h;unfold X_ at h;split at h
  ·exact⟨_,_,h⟩
  ·exact⟨_,_,(Br h).2⟩
  ·exact⟨_,_,(Br h).2⟩
  ·exact⟨_,_,(Br h).2⟩
  ·obtain⟨q,l,h⟩:=R8 _ ih _ _ h;exact⟨_,_,h⟩
  ·obtain⟨q,l,h⟩:=R8 _ ih _ _ h;exact⟨_,_,h⟩
  ·obtain⟨q,l,h⟩:=R8 _ ih _ _ h;obtain⟨q,l,h⟩:=R8 _ ih _ _ h;exact⟨_,_,h⟩
  ·obtain⟨q0,e,cs,_,h⟩:=Jf h;obtain⟨_,h⟩:=KG _ _ _ _ h;obtain⟨q,l,h⟩:=R8 _ ih _ _ h;exact⟨_,_,h⟩
  ·obtain⟨q0,e,cs,_,h⟩:=Jf h;obtain⟨q,l,h⟩:=R8 _ ih _ _ h;exact⟨_,_,h⟩
  ·obtain⟨x,_,h⟩:=HC rfl h;unfold A22 at h;split at h
   ·obtain⟨q,l,h⟩:=A8q _ ih _ _ h;exact⟨_,_,h⟩
   ·cases h
  ·cases h
def Q8{a:Af}(h:Am a K=some r):∃v c,a=some (v,c)/\K v=some r:=by
 unfold Am at h;split at h
 ·exact⟨_,_,rfl,h⟩
 ·cases h
def Xg(hR:RSound D E P R)(h:Aj R f args H K=some r):VX P f/\Qa P E.G f args H (λv L=>L=H/\K v=some r):=by
 unfold Aj at h;refine⟨?_,?_⟩
 ·obtain⟨q,l',h⟩:=R8 _ (λa K h=>B2o depth a K h) _ _ h;obtain⟨v,L,h1,_⟩:=Q8 h;exact(hR.call _ _ _ _ _ h1).1
 intro w0 C w ys hr ha;obtain⟨q,X,aa,u⟩:=A24 hr args ys _ ha h;obtain⟨v0,H0,u,Y⟩:=Q8 u;have hc:=(hR.call _ _ _ _ _ u).2;have J:=A0b (b:=true) (q:=q) hr;have Z:Rel E.G ⟨w,λ_=>False⟩ (Uf true q C H) [] w:=
  ⟨λg cs hg i v hv=>⟨.inl ⟨rfl,(hr.glob g cs hg i v hv).1⟩,(hr.glob g cs hg i v hv).2⟩,.refl _ _,λ_ _ h=>by simp[Al]at h,λ_ _ h=>by simp[Al]at h,λ_ _ _ _ h=>by simp[Al]at h,λ_ _ _ _ _ _ _ h=>by simp[Al]at h,J.1,J.2,λ_ _=>rfl⟩
 refine(hc _ _ w ys Z aa).mono ?_;rintro e O ⟨v,y,V,L,rfl,t,hv,hx,j⟩;obtain⟨q2,v',ab,M⟩:=qF t depth v y _ hv j;injection M with M
 injection M with M ad
 subst M;have hb:Below w.heap.size w O:=t.below.toBelow;have m:∀k,Base.own ⟨w,λ_=>False⟩ k->w.heap.size<=k:=λk h=>h.elim id (λh=>h.elim)
 let Q:Ctx:={π:=C.π,F:=λk i=>C.F k i\/(w.heap.size<=k/\(Uf (!q) q2 V L).F k i),B:=λk=>C.B k\/(w.heap.size<=k/\(Uf (!q) q2 V L).B k)}
 have n:=A0b (b:=!q) (q:=q2) t;have e:Ext w0.own C w Q O:=⟨λ_ _=>rfl,λ_ _ h=>.inl h,λk i h=>hb.cell (p:=⟨k,i,none⟩) (hr.fin k i h),λ_ h=>.inl h,λk h=>hb.block k (hr.finB k h),
  λk arr T fz h=>⟨arr,fz,(hb.block k (l1q.1 h).1).trans h,rfl⟩,λk i h=>h.imp id (λh=>.inl (gP hr.below.size h.1)),λk h=>h.imp id (λh=>.inl (gP hr.below.size h.1)),hb.size⟩
 have N:Rel E.G w0 Q H O:=by
  refine⟨hr.glob.mono e,hr.below.below hb,hr.lt,λs x j=>(hr.rows s x j).mono e (λk ac A=>hb.block k ((hr.rows s x j).block (Ef j) A)),λs x k o j A=>?_,hr.sep,λk i d=>?_,λk c=>?_,hr.nx⟩
  ·have h1:=hr.own s x k o j A;have h2:=(hr.rows s x j).block (Ef j) A;refine⟨h1.1,λi d=>?_,λc=>?_⟩
   ·rcases d with d|d
    ·exact h1.2.1 i d
    ·have:=d.1;omega
   ·rcases c with c|c
    ·exact h1.2.2 c
    ·have:=c.1;omega
  ·rcases d with d|d
   ·exact l2m (hr.fin k i d) hb.size
   ·exact n.1 k i d.2
  ·rcases c with c|c
   ·exact l2m (hr.finB k c) hb.size
   ·exact n.2 k c.2
 have e2:Ext (λ_=>True) (Uf (!q) q2 V L) O Q O:=by
  refine⟨λs h=>absurd rfl h,λk i d=>?_,λ_ _ _=>rfl,λk c=>?_,λ_ _=>rfl,λ_ a _ f h=>⟨a,f,h,rfl⟩,λ_ _ _=>.inr trivial,λ_ _=>.inr trivial,Oj _⟩
  ·rcases d with⟨hq,d⟩|⟨hq,s,x,o,j,A⟩
   ·rcases hx.new k i d with h1|h1
    ·rcases h1 with⟨_,h1⟩|⟨h1,_⟩
     ·exact .inl h1
     ·rw[h1]at hq;cases hq
    ·exact .inr ⟨m k h1,.inl ⟨hq,d⟩⟩
   ·exact .inr ⟨m k (t.own s x k o j A).1,.inr ⟨hq,s,x,o,j,A⟩⟩
  ·rcases c with⟨hq,c⟩|⟨hq,s,x,o,j,A⟩
   ·rcases hx.newB k c with h1|h1
    ·rcases h1 with⟨_,h1⟩|⟨h1,_⟩
     ·exact .inl h1
     ·rw[h1]at hq;cases hq
    ·exact .inr ⟨m k h1,.inl ⟨hq,c⟩⟩
   ·exact .inr ⟨m k (t.own s x k o j A).1,.inr ⟨hq,s,x,o,j,A⟩⟩
 exact⟨v',y,Q,H,rfl,N,ab.mono e2,e.frm,rfl,Y⟩
end
end
section
variable{x:AV}{esz n:Nat}{i ie:TI}
def WU(n:Nat)(cs:Is):(Is->Af)->Af:=
 @Nat.rec (λ_=>(Is->Af)->Af) (λK=>K []) (λ_ ih K=>ih λl=>WX cs l K) n
def WT(n:Nat)(cs:Is):∀K,WU n cs K=K (Wq n cs):=by
 induction n with
 |zero=>intro K;rfl
 |succ n ih=>
  intro K;have e:WU (n+1) cs K=WU n cs λl=>WX cs l K:=rfl;rw[e,ih,LR];rfl
def Gt(e:TypeId)(esz:Nat)(ie:TI)(n:Nat)(l:List (Nat×Nat×AV))(H:Hp)(K:KV):Af:=
 Hz ie.zero λz=>HD z 0 λk=>ck (Nat.beq k esz&&(!Nat.beq esz 0&&Nat.ble (Nat.mul n esz) 16777216)) (WU n z λcs=>YX l cs λa=>HV H λs=>K (.sl esz s 0 n) ((s,.cells false e a)::H))
def Tu(esz:Nat)(ie:TI)(n:Nat)(l:List (Nat×Nat×AV))(K:K2):Af:=
 Hz ie.zero λz=>HD z 0 λk=>ck (Nat.beq k esz&&(!Nat.beq esz 0&&Nat.ble (Nat.mul n esz) 16777216)) (WU n z λcs=>YX l cs λa=>ck (a.all (mI 2)) (K (.list n a)))
def YY(l:Ha):(Is->Af)->Af:=@List.rec UInt8 (λ_=>(Is->Af)->Af) (λK=>K []) (λb _ ih K=>fN b.toNat λn=>ih λl=>K (.v (.int .u8 (.ofNat n))::l)) l
def XC(l:Ha):∀K:Is->Af,YY l K=K (l.map λb=>.v (.int .u8 b.toNat)):=by
 induction l with
 |nil=>intro K;rfl
 |cons b l ih=>
  intro K;have e:YY (b::l) K=fN b.toNat λn=>YY l λl=>K (.v (.int .u8 (.ofNat n))::l):=rfl;rw[e,D5,ih];rfl
def jC:TD->Bool
 |.slice .. =>true
 |.string=>true
 |_=>false
def V3(esz:Nat):AV->Bool
 |.v (.string _)=>Nat.beq esz 1
 |_=>true
def A1s(h:V3 esz x=true):(match(generalizing:=false) x with|.v (.string _)=>esz=1|_=>True):=by
 split
 ·exact Xz h
 ·trivial
def Ui(H:Hp)(x:AV)(K:Nat->Is->Af):Af:=
 match x with
 |.list m cs=>K m cs
 |.sl sz r o m=>IN H r λx=>Ku x λ_ cs=>FI (Nat.mul m sz) (D0 o cs) λc=>K m c
 |.v (.slice none 0 0)=>K 0 []
 |.v (.string s)=>HD s.data.toList 0 λm=>YY s.data.toList λl=>K m l
 |_=>none
def fu8(cs:Is):(Ha->Af)->Af:=
 @List.rec AV (λ_=>(Ha->Af)->Af) (λK=>K []) (λa _ ih K=>match a with|.v (.int .u8 z)=>iN z λn=>ih λl=>K (UInt8.ofNat n::l)|_=>none) cs
def A04{r:AV×Hp}:∀(cs:Is)(K:Ha->Af),fu8 cs K=some r->∃c:Hb,cs=c.map (λn=>.v (.int .u8 (n:Int)))/\K (c.map UInt8.ofNat)=some r:=by
 intro cs
 induction cs with
 |nil=>intro K h;exact⟨[],rfl,h⟩
 |cons a cs ih=>
  intro K h;have h:(match(generalizing:=false) a with|.v (.int .u8 z)=>iN z λn=>fu8 cs λl=>K (UInt8.ofNat n::l)|_=>none)=some r:=h;split at h
  ·obtain⟨n,d,h2⟩:=Vn h;obtain⟨c,e,f⟩:=ih _ h2;exact⟨n::c,by rw[d,e];rfl,f⟩
  ·cases h
def tU(a:AV)(H:Hp)(K:K2):Af:=
 match a with
 |.v (.string _)=>none
 |a=>Ui H a λm cs=>HD cs 0 λk=>ck (Nat.beq k m) (fu8 cs λl=>K (.v (.string ⟨⟨l⟩⟩)))
section
variable{T:Ty}{H:Hp}{r:AV×Hp}
def A9v{ty e:TypeId}{l:List (Nat×Nat×AV)}{ps:List (Nat×AV)}{K:KV}(s:T ty=some i)(t:i.d=.slice e esz)(c:T e=some ie)(he:(ps.map λp=>(some (p.1*esz,esz)).map λq=>(q.1,q.2,p.2))=l.map some)(h:Gt e esz ie n l H K=some r):
 ∃v f,K v f=some r/\Zr T ty n ps H (Ax H) (λu a=>u=v/\a=f):=by
 rw[Gt,CQ,Cs]at h;obtain⟨h1,h⟩:=Br h;rw[WT]at h;obtain⟨g,h2,m⟩:=WV (place:=λj=>some (j*esz,esz)) l ps _ _ he h;rw[BW]at h2;simp only[J2,kY,yL,eT]at h1;refine⟨_,_,h2,?_⟩;unfold Zr;simp only[s,t,c];refine⟨λk=>?_,by omega,?_,by rw[m];simp[KX]⟩
 ·have:=h1.2.1;rw[k]at this;simp at this
 ·have:=h1.2.2;exact this
def XD{K:Nat->Is->Af}(h:Ui H x K=some r):∃m cs q,A0I H x=some (m,cs,q)/\K m cs=some r:=by
 unfold Ui at h;split at h
 ·exact⟨_,_,_,rfl,h⟩
 ·obtain⟨q0,e,cs,h1,h2⟩:=Jf h;obtain⟨c,a⟩:=KG _ _ _ _ h2;rw[C9]at a;exact⟨_,_,_,by simp only[A0I,h1];rfl,a⟩
 ·exact⟨_,_,_,rfl,h⟩
 ·rename_i s;rw[Cs]at h;rw[XC]at h;exact⟨_,_,_,rfl,by rw[Kk]at h;exact h⟩
 ·cases h
def A1J:∀(a:Hb)(acc:Ha),(a.map λn:Nat=>(n:Int)).foldl (λ(r:ByteArray)n=>r.push (UInt8.ofNat n.toNat)) ⟨⟨acc⟩⟩=⟨⟨acc++a.map UInt8.ofNat⟩⟩:=by
 intro a
 induction a with
 |nil=>intro acc;simp
 |cons n a ih=>
  intro acc;simp only[VC,List.foldl_cons,eS];have:(⟨⟨acc⟩⟩:ByteArray).push (UInt8.ofNat n)=⟨⟨acc++[UInt8.ofNat n]⟩⟩:=by simp[ByteArray.push]
  rw[this,ih];simp
def A2J{P:Program}{G:Gl}{w0:Base}{C:Ctx}{w:World}{a:AV}{y:Value}{K:K2}(hr:Rel G w0 C H w)(hv:VRel C w a y)(h:tU a H K=some r):(∀s,y≠.string s)/\∃l:Ha,K (.v (.string ⟨⟨l⟩⟩))=some r/\(Conv.bytesToString y).run P w=.ok (.string ⟨⟨l⟩⟩) w:=by
 unfold tU at h;split at h
 ·cases h
 ·rename_i A;obtain⟨m,cs,q,k,h⟩:=XD h;rw[Cs]at h;obtain⟨hk,h⟩:=Br h;have hk:cs.length=m:=by have:=Xz hk;omega
  obtain⟨t,F,D⟩:=A04 _ _ h;subst F;obtain⟨f,vs,B,d⟩:=V1 (P:=P) (esz:=1) hr hv k (by omega) (λs L=>absurd L (A s));have d:=d w (λ_ _=>rfl);have p:vs=t.map λn:Nat=>Value.int .u8 (n:Int):=by
   apply l0o;intro i;cases g:(t.map λn:Nat=>AV.v (.int .u8 (n:Int)))[i]? with
   |none=>
    have h1:t.length<=i:=by simpa using List.getElem?_eq_none_iff.1 g
    rw[l1e (by rw[B.1];simpa using h1),l1e (by simpa using h1)]
   |some c=>
    obtain⟨N,M,J⟩:=B.2 i c g;rw[M];rw[vA]at g⊢;cases hn:t[i]? with
    |none=>rw[hn]at g;cases g
    |some n=>
     rw[hn]at g;injection g with g
     subst g;have:=AA.1 J.unsel;rw[this];rfl
  have j:∀s,y≠.string s:=by
   intro s e;subst e;cases hv with
   |v=>exact A s rfl
   |dk=>simp[A0I]at k
  refine⟨j,_,D,?_⟩;cases y with
  |slice u n cap=>
   have hn:n=m:=by
    simp only[Builtin.lenOf,gQ]at f;injection f
   subst hn;cases u with
   |none=>
    simp only[Builtin.firstCells,gQ]at d;injection d with d
    have:vs=[]:=by
     have:=congrArg Array.toList d;simpa using this.symm
    rw[p]at this;have:t=[]:=by simpa using this
    subst this;rfl
   |some u=>
    have e:(Builtin.firstCells 1 n (.slice (some u) n cap))=loadCells u (n*1):=rfl;rw[e,D',p]at d;have:=run_bytesToString w u n cap (t.map λn:Nat=>(n:Int)) (by rw[d];simp[l1t]);rw[this];have:=A1J t [];rw[show(ByteArray.empty:ByteArray)=⟨⟨[]⟩⟩ from rfl,this];rfl
  |string s=>exact absurd rfl (j s)
  |_=>simp[Builtin.lenOf]at f
def Um(e:TypeId)(esz:Nat)(ie i2:TI)(s x:AV)(H:Hp)(K:KV):Af:=
 Ui H x λm a=>HD a 0 λk=>Hz ie.zero λz=>HD z 0 λg=>
  ck (Nat.beq k (Nat.mul m esz)&&(PI a&&(!Nat.beq esz 0&&(Nat.beq g esz&&(jC i2.d&&V3 esz x)))))
   (match s with
   |.v (.slice none 0 0)=>ck (Nat.ble (Nat.mul m ie.bytes) 70368744177664&&Nat.ble m 70368744177664) (@Bool.rec (λ_=>Af) (HV H λr=>K (.sl esz r 0 m) ((r,.cells false e a)::H)) (K (.v (.slice none 0 0)) H) (Nat.beq m 0))
   |.sl sz r1 o n=>IN H r1 λx=>Ku x λE cs=>HD cs 0 λcl=>
    ck (Nat.beq E e&&(Nat.beq sz esz&&(Nat.beq (Nat.add o (Nat.mul n esz)) cl&&(Nat.ble (Nat.mul (Nat.add n m) ie.bytes) 70368744177664&&Nat.ble (Nat.add n m) 70368744177664))))
     (WX (D0 o cs) a λc=>JI H r1 .gone λf=>HV H λr=>fN (Nat.add n m) λnm=>K (.sl esz r 0 nm) ((r,.cells false e c)::f))
   |_=>none)
def vX{t1 t2 e:TypeId}{i1 i2 ie:TI}{s x:AV}{K:KV}(h1:T t1=some i1)(h2:T t2=some i2)(u:i1.d=.slice e esz)(j:T e=some ie)(h:Um e esz ie i2 s x H K=some r):
 ∃v k,K v k=some r/\Xh T t1 t2 s x H (Ax H) (λA c=>A=v/\c=k):=by
 unfold Um at h;obtain⟨m,B,q,a,h⟩:=XD h;rw[Cs,CQ,Cs]at h;obtain⟨hc,h⟩:=Br h;simp only[J2,kY,Gu,yL]at hc;obtain⟨c1,c2,c3,c4,c5,c6⟩:=hc;have p1:esz≠0:=λf=>by rw[f]at c3;simp at c3
 have p2:(B2 ie.zero).length=esz:=by omega
 unfold Xh;simp only[h1,h2,u,j,a,KX];have pre:=And.intro p1 (And.intro p2 (And.intro (show(match i2.d with|.slice .. =>True|.string=>True|_=>False) from by cases g:i2.d<;>rw[g]at c5<;>first|trivial|cases c5) (A1s c6)));split at h
 ·obtain⟨hb,h⟩:=Br h;simp only[J2,eT]at hb;by_cases hm:m=0
  ·subst hm;exact⟨_,_,h,pre,⟨by simpa using c1,c2⟩,by simpa using hb,rfl,rfl⟩
  ·have f:Nat.beq m 0=false:=by
    cases m with
    |zero=>exact absurd rfl hm
    |succ m=>rfl
   rw[f]at h;simp only[BW]at h;simp only[Cr hm];exact⟨_,_,h,pre,⟨by simpa using c1,c2⟩,by simpa using hb,rfl,rfl⟩
 ·rename_i sz r1 o n;obtain⟨q0,E,cs,y,h⟩:=Jf h;rw[Cs]at h;obtain⟨hb,h⟩:=Br h;rw[LR,C5,BW,D5,C9]at h;simp only[J2,kY,eT]at hb;obtain⟨b1,b2,p,b4,t⟩:=hb;refine⟨_,_,h,pre,⟨by simpa using c1,c2⟩,?_⟩;simp only[y];exact⟨⟨b1,b2,by simpa using p,b4,t⟩,rfl,rfl⟩
 ·cases h
variable{P:Program}{G:Gl}{w0:Base}{C:Ctx}{w w':World}
def Ctx.addF(C:Ctx)(b:Nat):Ctx:={C with F:=λk i=>C.F k i\/k=b}
def Rel.new_fixed(h:Rel G w0 C H w)(hb:Below w.heap.size w w')(m:w.heap.size<w'.heap.size):Rel G w0 (C.addF w.heap.size) H w'/\Ext w0.own C w (C.addF w.heap.size) w':=by
 have e:Ext w0.own C w (C.addF w.heap.size) w':=⟨λ_ _=>rfl,λ_ _ h=>.inl h,λk i a=>hb.cell (p:=⟨k,i,none⟩) (h.fin k i a),λ_ h=>h,λk a=>hb.block k (h.finB k a),
  λk arr T fz a=>⟨arr,fz,(hb.block k (l1q.1 a).1).trans a,rfl⟩,λk i a=>a.imp id (λe=>.inl (by rw[e];exact h.below.size)),λk a=>.inl a,hb.size⟩
 refine⟨⟨h.glob.mono e,h.below.below hb,h.lt,λs x d=>(h.rows s x d).mono e (λk g f=>hb.block k ((h.rows s x d).block (Ef d) f)),λs x k o d f=>?_,h.sep,λk i c=>?_,λk j=>l2m (h.finB k j) hb.size,h.nx⟩,e⟩
 ·have h1:=h.own s x k o d f;have h2:=(h.rows s x d).block (Ef d) f;refine⟨h1.1,λi c=>?_,h1.2.2⟩;rcases c with c|c
  ·exact h1.2.1 i c
  ·omega
 ·rcases c with c|c
  ·exact l2m (h.fin k i c) hb.size
  ·omega
def A5I(hT:eO P T){ty e:TypeId}{l:List (Nat×Nat×AV)}{ps:List (Nat×AV)}{F:List (Nat×Value)}{K:K2}(g:T ty=some i)(hd:i.d=.slice e esz)(Q:T e=some ie)(he:(ps.map λp=>(some (p.1*esz,esz)).map λq=>(q.1,q.2,p.2))=l.map some)(h:Tu esz ie n l K=some r)(s:ps.length=F.length)(hq:∀(j:Nat)(p:Nat×AV),ps[j]?=some p->∃z,F[j]?=some (p.1,z)/\VRel C w p.2 z)(hr:Rel G w0 C H w):
 ∃v y J w',K v=some r/\(Instr.buildSlice ty n F.toArray).run P w=.ok y w'/\VRel J w' v y/\Rel G w0 J H w'/\Ext w0.own C w J w':=by
 rw[Tu,CQ,Cs]at h;obtain⟨h1,h⟩:=Br h;rw[WT]at h;obtain⟨m,h2,hf⟩:=WV (place:=λj=>some (j*esz,esz)) l ps _ _ he h;obtain⟨O,hK⟩:=Br h2;simp only[J2,kY,yL,eT]at h1;have u:esz≠0:=λe0=>by have:=h1.2.1;rw[e0]at this;simp at this
 have V:(B2 ie.zero).length=esz:=by omega
 have aa:n*esz<=2^24:=h1.2.2;have ok:=hT ty i g;obtain⟨hu,hc⟩:=ok.elem_slice hd;have Z:=hT e ie Q;obtain⟨z,hz,ez⟩:=Z.run_zero (P:=P) w;have hsz:(sizeOf e).run P w=.ok esz w:=by rw[<-hc];exact BI w (by rw[hc];exact u)
 have B:Cn C w (B2 ie.zero) z.cells.toList:=Om (t:=e) ez;have X:z.cells.size=esz:=by have:=B.1;simp at this;omega
 have Y:Cn C w (Wq n (B2 ie.zero)) ((List.range n).flatMap λ_=>z.cells.toList):=by rw[ZA];exact Xy B n
 obtain⟨c,L,D⟩:=dK (C:=C) (w:=w) ps F _ _ m s hq Y hf;have f:¬(n*esz>2^24):=by omega
 have ab:c.length=n*esz:=by rw[D.1,eM _ _ _ hf,Wp,V]
 have N:=Zc w (.cells c.toArray e);obtain⟨A,a⟩:=hr.new_fixed N (by simp);refine⟨_,.slice (some ⟨w.heap.size,0,none⟩) n n,_,_,hK,?_,?_,A,a⟩
 ·unfold Instr.buildSlice;rw[CN,run_underlying hu w];simp only[F3];rw[CN,hsz];simp only[F3,Cr f,pure_bind];by_cases M:n*esz=0
  ·have R:n=0:=by rcases Nat.mul_eq_zero.1 M with h|h;exact h;exact absurd h u
   subst R;rw[CZ M];simp only[List.range_zero,List.flatMap_nil]at L;rw[show(Array.map (λx=>(#[]:Array Value)[x%(#[]:Array Value).size]!) (Array.range (0*esz)))= #[] from by rw[Nat.zero_mul];apply lG;simp,L];simp[newRow]
  ·rw[Cr M,CN,hz];simp only[F3];have:=Zm z.cells n;rw[X]at this⊢;rw[this,L];simp[newRow]
 ·have g3:Cn (C.addF w.heap.size).bare {w with heap:=w.heap.push (.cells c.toArray e)} m c:=Cn.mono (C:=C.bare) (Cn.down 2 O D rfl rfl) a.bare;refine .list (Oj _) (λi=>c.getD i undef) (λi g=>.inr rfl) (λi g=>?_) (λi g=>?_)
  ·have k:i<c.length:=by rw[D.1];exact g
   rw[cell_of_row _ w.heap.size (0+i) c.toArray e (0,0) (by simp)];simp[T9,k]
  ·have k:i<c.length:=by rw[D.1];exact g
   rw[T9,JC k];exact g3.get i g
end
end
def eMk(e:TypeId)(esz:Nat)(ie:TI)(len cap:AV)(H:Hp)(K:KV):Af:=
 yN len λl=>iN l λn=>yN cap λc=>iN c λm=>Hz ie.zero λz=>HD z 0 λk=>
  ck (Nat.beq k esz&&(!Nat.beq esz 0&&(Nat.beq ie.size esz&&(Nat.ble n m&&(Nat.ble (Nat.mul ie.bytes m) 281474976710656&&Nat.ble m 281474976710656)))))
   (WU n z λcs=>HV H λs=>K (.sl esz s 0 n) ((s,.cells false e cs)::H))
section
variable{T:Ty}{H:Hp}{r:AV×Hp}{P:Program}{G:Gl}{w0:Base}{C:Ctx}{w:World}
def A5B(O:eO P T){ty e:TypeId}{esz:Nat}{i ie:TI}{len cap:AV}{y1 y2:Value}{K:KV}(hi:T ty=some i)(hd:i.d=.slice e esz)(x:T e=some ie)(h1:VRel C w len y1)(h2:VRel C w cap y2)(hr:Rel G w0 C H w)(h:eMk e esz ie len cap H K=some r):
 ∃v L y R Q,K v L=some r/\(Instr.makeSlice ty y1 y2).run P w=.ok y Q/\JB G w0 C w v L y R Q:=by
 unfold eMk at h;obtain⟨k1,l,d1,Z⟩:=OL h;obtain⟨n,f,g2⟩:=Vn Z;obtain⟨k2,c,d2,g3⟩:=OL g2;obtain⟨m,Y,M⟩:=Vn g3;rw[CQ,Cs]at M;obtain⟨hb,N⟩:=Br M;rw[WT,BW]at N;simp only[J2,kY,yL,eT]at hb;obtain⟨b1,b2,V,b4,X,b6⟩:=hb;subst f Y d1 d2;have F:=AA.1 h1;have J:=AA.1 h2;subst F J;obtain⟨hu,hc⟩:=(O ty i hi).elem_slice hd;obtain⟨inf,z,j,A,B,hz,u⟩:=(O e ie x).info;have p:Cn C w (B2 ie.zero) z.cells.toList:=Om (t:=e) u;have q:z.cells.size=esz:=by have:=p.1;simp at this;omega
 have aa:ie.bytes*m<=281474976710656:=X;have s:(inf.bytes:Int)*(m:Int)<=281474976710656:=by
  have:((ie.bytes*m:Nat):Int)<=281474976710656:=by omega
  rw[Int.natCast_mul]at this;rw[B];exact this
 have k:=run_make (P:=P) w ty e inf z hu j hz k1 k2 n m (by omega) (by omega) s (by omega);have D:Cn C w (Wq n (B2 ie.zero)) ((List.range n).flatMap λ_=>z.cells.toList):=by rw[ZA];exact Xy p n
 have a:(Wq n (B2 ie.zero)).length=n*esz:=by rw[Wp];congr 1;omega
 have g:(madeCells z.cells (m*esz)).toList.take (n*esz)=(List.range n).flatMap λ_=>z.cells.toList:=by
  have f:=congrArg Array.toList (Zm z.cells n);rw[q]at f;simp only[Array.toList_map,Array.toList_range]at f;rw[<-f];simp only[madeCells,Array.toList_map,Array.toList_range,q];rw[<-List.map_take]
  congr 1
  rw[List.take_range,l1x (l22 _ b4)]
 have key:=Xx hr (MN w (.cells (madeCells z.cells (m*esz)) e)) e (cs:=Wq n (B2 ie.zero)) (arr:=madeCells z.cells (m*esz)) (fz:=(0,0)) (World.alloc_heap_new w _) (λi _=>by omega) esz n m b4 (by rw[size_madeCells];exact Oj _) (by rw[size_madeCells,a];exact l22 _ b4) (by rw[a,g];exact D);refine⟨_,_,_,_,_,N,?_,key⟩;rw[k];simp only[eS,A,V]
end
def A0l(e:TypeId)(a:AV)(H:Hp)(K:KV):Af:=
 match a with
 |.v (.string s)=>HD s.data.toList 0 λn=>YY s.data.toList λcs=>HV H λr=>K (.sl 1 r 0 n) ((r,.cells false e cs)::H)
 |_=>none
section
variable{H:Hp}{r:AV×Hp}{P:Program}{G:Gl}{w0:Base}{C:Ctx}{w:World}
def B1B(w:World)(e:TypeId)(s:ByteArray):∃(cap:Nat)(arr:Array Value)(w':World),s.size<=cap/\(Conv.stringToBytes e s).run P w=.ok (.slice (some ⟨w.heap.size,0,none⟩) s.size cap) w'/\Below w.heap.size w w'/\
 w'.heap[w.heap.size]?=some (.cells arr e (cap,cap+1))/\arr.size=cap/\arr.toList.take s.size=s.data.toList.map λb=>Value.int .u8 b.toNat:=by
 let q:Question:=.appendCap s.size 0 e
 let c:=q.cut (w.tape w.drawn q)
 have hc:s.size<=c:=by show s.size<=s.size+_;omega
 have hsz:(s.data.map λb=>Value.int .u8 b.toNat).size=s.size:=by rw[Array.size_map];rfl
 have f:(s.data.map λb=>Value.int .u8 b.toNat).toList.length=s.size:=by rw[Array.length_toList];exact hsz
 let arr:Array Value:=(s.data.map λb=>Value.int .u8 b.toNat)++Array.replicate (c-s.size) (.int .u8 0)
 have a:arr.size=c:=by
  show((s.data.map λb=>Value.int .u8 b.toNat)++Array.replicate (c-s.size) (Value.int .u8 0)).size=c;rw[Array.size_append,hsz,Array.size_replicate];omega
 refine⟨c,arr,{w with drawn:=w.drawn+1,heap:=w.heap.push (.cells arr e (c,c+1))},hc,?_,?_,by simp,a,?_⟩
 ·unfold Conv.stringToBytes;rw[CN,run_choose,Cr (by simp[Question.forced])];simp only[F3];simp only[newRow,CN,run_newObj,F3,gQ,markStringish];have d:World.shape? {heap:=w.heap.push (Obj.cells arr e),tape:=w.tape,drawn:=w.drawn+1,os:=w.os,output:=w.output} w.heap.size=some (e,c):=by
   simp only[World.shape?,Array.getElem?_push_size];rw[a]
  have i:World.freeze {heap:=w.heap.push (Obj.cells arr e),tape:=w.tape,drawn:=w.drawn+1,os:=w.os,output:=w.output} {block:=w.heap.size,off:=c} 1={heap:=w.heap.push (Obj.cells arr e (c,c+1)),tape:=w.tape,drawn:=w.drawn+1,os:=w.os,output:=w.output}:=by
   unfold World.freeze;rw[Cr (by omega)]
   congr 1
   apply Array.ext_getElem?;intro j;rw[l0r];by_cases g:w.heap.size=j
   ·subst g;rw[CZ rfl,Array.getElem?_push_size,Array.getElem?_push_size];rfl
   ·rw[Cr g,l27,l27,Cr (λh=>g h.symm),Cr (λh=>g h.symm)]
  rw[run_shape];have m:=d;show(((Result.ok (World.shape? {heap:=w.heap.push (Obj.cells arr e),tape:=w.tape,drawn:=w.drawn+1,os:=w.os,output:=w.output} w.heap.size) _).andThen _).andThen _)=_;rw[d];simp only[F3,run_freeze];exact congrArg (Result.ok _) i
 ·exact⟨rfl,rfl,rfl,by simp,λk hk=>by simp[l27,Nat.ne_of_lt hk]⟩
 ·show((s.data.map λb=>Value.int .u8 b.toNat)++Array.replicate (c-s.size) (Value.int .u8 0)).toList.take s.size=_;rw[Array.toList_append,l2w (Nat.le_of_eq f.symm)];rw[l1z (Nat.le_of_eq f),Array.toList_map]
def A2u{e:TypeId}{a:AV}{y:Value}{K:KV}(hr:Rel G w0 C H w)(hv:VRel C w a y)(h:A0l e a H K=some r):
 ∃s,y=.string s/\∃v d g j c,K v d=some r/\(Conv.stringToBytes e s).run P w=.ok g c/\JB G w0 C w v d g j c:=by
 unfold A0l at h;split at h
 ·rename_i s;have p:=AA.1 hv;refine⟨s,p,?_⟩;rw[Cs,XC,BW,Kk]at h;obtain⟨cap,arr,c,h1,h2,k,m,q,n⟩:=B1B (P:=P) w e s;have f:(s.data.toList.map λb=>AV.v (.int .u8 b.toNat)).length=s.size:=by rw[Ub];rfl
  have key:=Xx hr k e (cs:=s.data.toList.map λb=>AV.v (.int .u8 b.toNat)) m (λi t=>by omega) 1 s.size cap h1 (by omega) (by rw[f];omega) (by
   rw[f,n];have:=Vk (C:=C.sel false) (w:=w) (s.data.toList.map λb=>Value.int .u8 b.toNat);simpa [l1t] using this)
  exact⟨_,_,_,_,_,h,h2,key⟩
 ·cases h
end
section
variable{q:Bool}{C:Ctx}{es:IH}{ms:List MapEntry}{kt:TypeId}{k:Value}{p:Value×AV}{w:World}
def ZZ:Value->Value->Option Bool
 |.string a,.string b=>some (F' a.data.toList b.data.toList)
 |.int k a,.int c b=>match decide (k=c) with|true=>some (yO a b)|false=>none
 |.bool a,.bool b=>some (a==b)
 |_,_=>none
def VW(xs:Hx):Hx->Option Bool:=
 @List.rec Value (λ_=>Hx->Option Bool) (λa=>match a with|[]=>some true|_=>none)
  (λx _ ih a=>match a with
   |[]=>none
   |y::a=>match ZZ x y with
    |some b=>(match ih a with|some c=>some (b&&c)|none=>none)
    |none=>none) xs
def keq:Value->Value->Option Bool
 |.agg xs,.agg c=>VW xs.toList c.toList
 |a,b=>ZZ a b
def XB0(k:Value)(es:IH):Nat->Option (Option (Nat×AV)):=
 @List.rec (Value×AV) (λ_=>Nat->Option (Option (Nat×AV))) (λ_=>some none)
  (λp _ ih i=>match keq k p.1 with|some true=>some (some (i,p.2))|some false=>ih (Nat.succ i)|none=>none) es
def Vm(k:Value)(p:Value×AV)(es:IH)(i:Nat):XB0 k (p::es) i=(match keq k p.1 with|some true=>some (some (i,p.2))|some false=>XB0 k es (i+1)|none=>none):=rfl
def GO(k:Value)(es:IH)(K:Option (Nat×AV)->Af):Af:=match XB0 k es 0 with|some x=>K x|none=>none
def Yt(cs:Is):(Hx->Af)->Af:=
 @List.rec AV (λ_=>(Hx->Af)->Af) (λK=>K []) (λa _ ih K=>match a with|.v x=>ih λl=>K (x::l)|_=>none) cs
def It(a:AV)(K:Value->Af):Af:=match a with|.v (.string s)=>K (.string s)|_=>none
def tQ(q:IntKind)(a:AV)(K:Value->Af):Af:=match a with|.v (.int c n)=>ck (decide (c=q)) (K (.int c n))|_=>none
def A2a(ks:List LK)(a:AV)(K:Value->Af):Af:=match a with|.agg cs=>Yt cs λvs=>ck (fits ks vs) (K (.agg vs.toArray))|_=>none
def PZ(P:Program)(kt:TypeId)(k:Value):Prop:=
 (P.underlying kt=some .string/\∃s,k=.string s)\/(∃q n,P.underlying kt=some (.int q)/\k=.int q n)\/(∃ks xs,EqFlat P kt ks/\fits ks xs=true/\k=.agg xs.toArray)
def vB{a b:Value}(h:ZZ a b=some q):(q=true↔a=b)/\∀c:LK,c.fit a=true->c.fit b=true:=by
 cases a<;>cases b<;>simp[ZZ]at h
 ·subst h;exact⟨by simp,λc d=>by cases c<;>simp[LK.fit]at d⊢⟩
 ·split at h
  ·rename_i hk;injection h with h
   have hk:_=_:=l2t hk;subst hk;refine⟨by rw[<-h,L0];simp,λc d=>?_⟩;cases c<;>simp[LK.fit]at d⊢
   exact d
  ·cases h
 ·rw[PU]at h;refine⟨?_,λc d=>by cases c<;>simp[LK.fit]at d⊢⟩;rename_i x y;obtain⟨⟨x⟩⟩:=x;obtain⟨⟨y⟩⟩:=y;rw[<-h];simp
def A5X(x:Value)(xs:Hx)(ys:Hx):VW (x::xs) ys=(match ys with|[]=>none|y::ys=>(match ZZ x y with|some b=>(match VW xs ys with|some c=>some (b&&c)|none=>none)|none=>none)):=rfl
def Up:∀{xs ys:Hx}{q:Bool},VW xs ys=some q->(q=true↔xs=ys)/\∀ks,fits ks xs=true->fits ks ys=true:=by
 intro xs
 induction xs with
 |nil=>
  intro ys q h;cases ys with
  |nil=>injection h with h;subst h;exact⟨by simp,λ_ h=>h⟩
  |cons y ys=>cases h
 |cons x xs ih=>
  intro ys q h;rw[A5X]at h;cases ys with
  |nil=>cases h
  |cons y ys=>
   simp only at h;cases h1:ZZ x y with
   |none=>rw[h1]at h;cases h
   |some b=>
    rw[h1]at h;simp only at h;cases h2:VW xs ys with
    |none=>rw[h2]at h;cases h
    |some c=>
     rw[h2]at h;injection h with h
     obtain⟨a,f1⟩:=vB h1;obtain⟨d,f2⟩:=ih h2;refine⟨by rw[<-h,J2,a,d,List.cons.injEq],λks hk=>?_⟩;cases ks with
     |nil=>simp[fits]at hk
     |cons k ks=>
      simp only[fits,J2]at hk⊢;exact⟨f1 k hk.1,f2 ks hk.2⟩
def Y!{a b:Value}(h:keq a b=some q):q=true↔a=b:=by
 unfold keq at h;split at h
 ·rename_i xs c;rw[(Up h).1];constructor
  ·intro e;rw[Array.toList_inj.1 e]
  ·intro e;injection e with e;rw[e]
 ·exact(vB h).1
section
variable{P:Program}
def YW{r:AV×Hp}:∀(cs:Is)(K:Hx->Af),Yt cs K=some r->∃vs:Hx,cs=vs.map AV.v/\K vs=some r:=by
 intro cs
 induction cs with
 |nil=>intro K h;exact⟨[],rfl,h⟩
 |cons a cs ih=>
  intro K h;have h:(match(generalizing:=false) a with|.v x=>Yt cs λl=>K (x::l)|_=>none)=some r:=h;split at h
  ·obtain⟨vs,e,h2⟩:=ih _ h;exact⟨_::vs,by rw[e];rfl,h2⟩
  ·cases h
def nM{vs:Hx}{y:Value}(h:VRel C w (.agg (vs.map AV.v)) y):y=.agg vs.toArray:=by
 obtain⟨e,rfl,c⟩:=E2.1 h
 congr 1
 congr 1
 apply l0o;intro i;cases a:vs[i]? with
 |none=>
  have:=c.1;simp only[Ub]at this;have h1:vs.length<=i:=by simpa using List.getElem?_eq_none_iff.1 a
  exact l1e (by omega)
 |some v=>
  obtain⟨y,d,hv⟩:=c.2 i (.v v) (by rw[vA,a];rfl);rw[d,AA.1 hv]
def sJ:∀{ks:List LK}{xs:Hx}(n:Nat),fits ks xs=true->((xs.zip xs).all λp=>Instr.sameBits n p.1 p.2)=true:=by
 intro ks
 induction ks with
 |nil=>intro xs n h;cases xs<;>simp[fits]at h;rfl
 |cons k ks ih=>
  intro xs n h;cases xs with
  |nil=>simp[fits]at h
  |cons x xs=>
   simp only[fits,J2]at h;simp only[List.zip_cons_cons,l2j,J2];refine⟨?_,ih n h.2⟩;have h1:=h.1;cases k<;>cases x<;>simp[LK.fit]at h1<;>simp[Instr.sameBits,MapKept.bytes_beq]
def PZ.stays(h:PZ P kt k)(w:World):(Instr.keyThatStays k k).run P w=.ok k w:=by
 have:Instr.sameBits 10000 k k=true:=by
  rcases h with⟨_,s,rfl⟩|⟨q,n,_,rfl⟩|⟨ks,xs,_,h,rfl⟩
  ·simp[Instr.sameBits,MapKept.bytes_beq]
  ·simp[Instr.sameBits]
  ·have:=sJ 9999 h;show(xs.toArray.size==xs.toArray.size&&(xs.toArray.toList.zip xs.toArray.toList).all λ(x,y)=>Instr.sameBits 9999 x y)=true;simp only[beq_self_eq_true,D_];exact this
 simp[Instr.keyThatStays,this]
theorem PZ.check(h:PZ P kt k)(em:Bool)(w:World):(Instr.checkKey em 10000 kt k).run P w=.ok () w:=by
 rcases h with⟨a,s,rfl⟩|⟨q,n,a,rfl⟩|⟨ks,xs,he,h,rfl⟩
 ·exact MapKept.run_checkKey a (d:=.string) (by simp[MapKept.IsKey]) em 9999
 ·exact MapKept.run_checkKey a (d:=.int q) (by simp[MapKept.IsKey]) em 9999
 ·exact he.check h em w
def rN(k:Value)(es:IH)(ms:List MapEntry)(a:Nat):Option (Nat×AV)->Option (Nat×Value)->Prop
 |none,r=>r=none/\∀p∈es,p.1≠k
 |some (i,v),r=>∃(j:Nat)(m:MapEntry),i=a+j/\es[j]?=some (k,v)/\ms[j]?=some m/\m.key=k/\r=some (i,m.val)
def KM.cons_inv(h:KM C w (p::es) ms):∃m a,ms=m::a/\m.key=p.1/\VRel C w p.2 m.val/\KM C w es a:=by
 cases ms with
 |nil=>exact absurd h.1 (by simp)
 |cons m ms=>
  obtain⟨e,h1,h2,c⟩:=h.2 0 p rfl;simp at h1;subst h1;exact⟨m,ms,rfl,h2,c,by simpa using h.1,λi x d=>by simpa using h.2 (i+1) x (by simpa using d)⟩
def KM.nil_inv(h:KM C w [] ms):ms=[]:=lX (by simpa using h.1)
theorem rN.step{m:MapEntry}{c:Nat}(a:p.1≠k):∀{x:Option (Nat×AV)}{r:Option (Nat×Value)},rN k es ms (c+1) x r->rN k (p::es) (m::ms) c x r
 |none,r,⟨h1,h2⟩=>⟨h1,λq hq=>by
  rcases Qd.1 hq with rfl|hq
  ·exact a
  ·exact h2 q hq⟩
 |some (i,v),r,⟨j,g,h1,h2,d,e,f⟩=>⟨j+1,g,by omega,by simpa using h2,by simpa using d,e,f⟩
def Yv{d:TypeDesc}(n:∀v q,keq k v=some q->Instr.sameNow d k v=some q):∀(es:IH)(ms:List MapEntry)(i:Nat)(x:Option (Nat×AV)),KM C w es ms->XB0 k es i=some x->∃r,Instr.findNow d k ms i=some r/\rN k es ms i x r:=by
 intro es
 induction es with
 |nil=>
  intro ms i x he h;injection h with h
  subst h;rw[he.nil_inv];exact⟨none,rfl,rfl,by simp⟩
 |cons p es ih=>
  intro ms i x he h;obtain⟨m,g,rfl,hk,hv,c⟩:=he.cons_inv;rw[Vm]at h;cases hq:keq k p.1 with
  |none=>rw[hq]at h;cases h
  |some q=>
   rw[hq]at h;have j:=n _ _ hq;have a:=Y! hq;cases q with
   |true=>
    injection h with h
    subst h;have:k=p.1:=a.1 rfl;refine⟨some (i,m.val),by simp[Instr.findNow,hk,j],0,m,rfl,by rw[this];rfl,rfl,by rw[hk,this],rfl⟩
   |false=>
    obtain⟨r,h1,h2⟩:=ih g (i+1) x c h;have f:p.1≠k:=λe=>by have:=a.2 e.symm;cases this
    exact⟨r,by simp[Instr.findNow,hk,j,h1],h2.step f⟩
def iE{ks:List LK}(y:EqFlat P kt ks){xs:Hx}(t:fits ks xs=true):∀(es:IH)(ms:List MapEntry)(i:Nat)(x:Option (Nat×AV)),KM C w es ms->XB0 (.agg xs.toArray) es i=some x->
 ∃r,(Instr.findAsking kt (.agg xs.toArray) ms i).run P w=.ok r w/\rN (.agg xs.toArray) es ms i x r:=by
 intro es
 induction es with
 |nil=>
  intro ms i x he h;injection h with h
  subst h;rw[he.nil_inv];exact⟨none,rfl,rfl,by simp⟩
 |cons p es ih=>
  intro ms i x he h;obtain⟨m,j,rfl,hk,hv,d⟩:=he.cons_inv;rw[Vm]at h;cases hq:keq (.agg xs.toArray) p.1 with
  |none=>rw[hq]at h;cases h
  |some q=>
   rw[hq]at h;have a:=Y! hq;have heq:(Op.equal kt (.agg xs.toArray) m.key).run P w=.ok q w:=by
    rw[hk];unfold keq at hq;split at hq
    ·rename_i A n c u;injection c with c
     subst c;have f:=(Up hq).2 ks (by simpa using t);have:=y.equal t f w;rw[u];have v:n.toList.toArray=n:=by simp
     rw[v]at this;rw[this]
     congr 1
     rw[kZ,(Up hq).1];simp
    ·rename_i h1;cases s:p.1 with
     |agg n=>exact absurd s (h1 _ _ rfl)
     |_=>rw[s]at hq;simp[ZZ]at hq
   cases q with
   |true=>
    injection h with h
    subst h;have:_=p.1:=a.1 rfl;refine⟨some (i,m.val),by simp[Instr.findAsking,heq],0,m,rfl,by rw[this];rfl,rfl,by rw[hk,this],rfl⟩
   |false=>
    obtain⟨r,h1,h2⟩:=ih j (i+1) x d h;have g:p.1≠_:=λe=>by have:=a.2 e.symm;cases this
    exact⟨r,by simp[Instr.findAsking,heq,h1],h2.step g⟩
def PZ.find(hk:PZ P kt k){x:Option (Nat×AV)}(he:KM C w es ms)(h:XB0 k es 0=some x):∃r,(Instr.findKey kt k ms).run P w=.ok r w/\rN k es ms 0 x r:=by
 rcases hk with⟨a,s,rfl⟩|⟨q,n,a,rfl⟩|⟨ks,xs,g,f,rfl⟩
 ·obtain⟨r,h1,h2⟩:=Yv (d:=.string) (λv q hq=>by
   cases v<;>simp[keq,ZZ]at hq
   rename_i u;simp only[Instr.sameNow];rw[<-hq,PU]
   congr 1
   obtain⟨⟨s⟩⟩:=s;obtain⟨⟨u⟩⟩:=u;rw[kZ,MapKept.bytes_beq];simp) es ms 0 x he h
  exact⟨r,MapKept.run_findKey a h1,h2⟩
 ·obtain⟨r,h1,h2⟩:=Yv (d:=.int q) (λv y hq=>by
   cases v<;>simp[keq,ZZ]at hq
   rename_i t m;by_cases e:q=t
   ·subst e;simp at hq;simp only[Instr.sameNow,CZ];rw[<-hq,L0]
    congr 1
   ·simp[e]at hq) es ms 0 x he h
  exact⟨r,MapKept.run_findKey a h1,h2⟩
 ·obtain⟨r,h1,h2⟩:=iE g f es ms 0 x he h;refine⟨r,?_,h2⟩;have a:∃u,P.underlying kt=some u/\(∀b,Instr.sameNow u (.agg xs.toArray) b=none):=by
   have c:=g.leaves;unfold leaves at c;split at c
   ·simp at c
   ·simp at c
   ·simp at c
   ·rename_i a;exact⟨_,a,λb=>by cases b<;>rfl⟩
   ·rename_i a;exact⟨_,a,λb=>by cases b<;>rfl⟩
   ·cases c
  obtain⟨u,a,j⟩:=a;unfold Instr.findKey;rw[CN,run_underlying a w];simp only[F3];cases ms with
  |nil=>
   have:=he.1;have e:es=[]:=lX (by simpa using this.symm);obtain⟨i,_⟩:r=none/\True:=by
    subst e;have f:x=none:=(l26 h).symm;subst f;exact⟨h2.1,trivial⟩
   rw[i];rfl
  |cons m ms=>
   have:Instr.findNow u (.agg xs.toArray) (m::ms) 0=none:=by simp[Instr.findNow,j]
   rw[this];exact h1
end
end
section
variable{m v:AV}{ms:Array MapEntry}{es es':IH}{f:MapEntry->MapEntry}{clock:Nat}{bo:Option (Hb×Nat)}{ie:TI}{k ym yv:Value}
def wC:Option (Hb×Nat)->Option (Hb×Nat)
 |some (a,c)=>some (a++[c],c+1)
 |none=>none
def B8F:Option (Hb×Nat)->Nat->Option (Hb×Nat)
 |some (a,c),i=>some (a.eraseIdx i,c)
 |none,_=>none
def xX:TD->Option (Hb×Nat)
 |.int _=>some ([],0)
 |.slice _ _=>some ([],0)
 |_=>none
def WN(x:Row)(K:IH->Option (Hb×Nat)->Af):Af:=match x with|.map false es bo=>K es bo|_=>none
def JK(ie:TI)(H:Hp)(K:KV):Af:=HV H λs=>K (.mp s) ((s,.map false [] (xX ie.d))::H)
def Oh(m:AV)(k:Value)(v:AV)(H:Hp)(K:Ru):Af:=
 match m with
 |.mp r=>IN H r λx=>WN x λes bo=>GO k es λf=>match f with
  |none=>JI H r (.map false (es++[(k,v)]) (wC bo)) K
  |some (i,_)=>JI H r (.map false (es.set i (k,v)) bo) K
 |_=>none
def A2n(m:AV)(H:Hp)(K:IH->Af):Af:=
 match m with
 |.mp r=>IN H r λx=>WN x λes _=>K es
 |.imap es=>K es
 |.v (.map none)=>K []
 |_=>none
def Tt(ie:TI)(ok:Bool)(m:AV)(k:Value)(H:Hp)(K:K2):Af:=
 A2n m H λes=>GO k es λf=>match f,ok with
  |none,true=>K (.tup [ie.zero,.v (.bool false)])
  |none,false=>K ie.zero
  |some (_,v),true=>K (.tup [v,.v (.bool true)])
  |some (_,v),false=>K v
def dS(m:AV)(k:Value)(H:Hp)(K:Ru):Af:=
 match m with
 |.mp r=>IN H r λx=>WN x λes bo=>GO k es λf=>match f with
  |none=>K H
  |some (i,_)=>JI H r (.map false (es.eraseIdx i) (B8F bo i)) K
 |_=>none
def qW(m:AV)(H:Hp)(K:K2):Af:=A2n m H λes=>HD es 0 λn=>K (.v (.int .i64 (.ofNat n)))
def dR(ie:TI)(m:AV)(k:Value)(H:Hp)(K:KV):Af:=
 match m with
 |.mp r=>IN H r λx=>WN x λes bo=>match bo with
  |some (a,c)=>GO k es λf=>match f with
   |none=>JI H r (.map false (es++[(k,ie.zero)]) (some (a++[c],c+1))) λd=>K (.tup [ie.zero,.v (.int .i64 (.ofNat c))]) d
   |some (i,v)=>(match a[i]? with|some b=>K (.tup [v,.v (.int .i64 (.ofNat b))]) H|none=>none)
  |none=>none
 |_=>none
def qV(m st v:AV)(H:Hp)(K:Ru):Af:=
 match m with
 |.mp r=>IN H r λx=>WN x λes bo=>yN st λz=>match bo with
  |some (a,c)=>(match a.findIdx? (λb=>yO (.ofNat b) z) with
   |some i=>(match es[i]? with|some p=>JI H r (.map false (es.set i (p.1,v)) (some (a,c))) K|none=>none)
   |none=>none)
  |none=>none
 |_=>none
section
variable{P:Program}{G:Gl}{w0:Base}{C:Ctx}{H:Hp}{w:World}{r:AV×Hp}
def Q6{x:Row}{K:IH->Option (Hb×Nat)->Af}(h:WN x K=some r):∃es bo,x=.map false es bo/\K es bo=some r:=by
 unfold WN at h;split at h
 ·exact⟨_,_,rfl,h⟩
 ·cases h
def Sw{K:Option (Nat×AV)->Af}(h:GO k es K=some r):∃x,XB0 k es 0=some x/\K x=some r:=by
 unfold GO at h;split at h
 ·exact⟨_,by assumption,h⟩
 ·cases h
def KM.append{ms ms':List MapEntry}(h:KM C w es ms)(k:KM C w es' ms'):KM C w (es++es') (ms++ms'):=
 ⟨by simp[h.1,k.1],λi p a=>by
  rw[List.getElem?_append]at a⊢;rw[h.1];split at a
  ·rename_i c;rw[CZ c];exact h.2 i p a
  ·rename_i c;rw[Cr c];exact k.2 _ p a⟩
def KM.one{m:MapEntry}(hk:m.key=k)(hv:VRel C w v m.val):KM C w [(k,v)] [m]:=
 ⟨rfl,λi p a=>by
  cases i with
  |zero=>simp at a;subst a;exact⟨m,rfl,hk,hv⟩
  |succ i=>simp at a⟩
theorem KM.modify{ms:List MapEntry}(h:KM C w es ms)(i:Nat)(hk:∀m,ms[i]?=some m->(f m).key=k)(hv:∀m,ms[i]?=some m->VRel C w v (f m).val):KM C w (es.set i (k,v)) (ms.modify i f):=
 ⟨by simp[h.1],λj p a=>by
  rw[List.getElem?_set]at a;rw[List.getElem?_modify];split at a
  ·rename_i e;subst e;split at a
   ·rename_i g;injection a with a
    subst a;have c:i<ms.length:=by rw[h.1];exact g
    have hm:=JC c;exact⟨f ms[i],by rw[hm];simp,hk _ hm,hv _ hm⟩
   ·cases a
  ·rename_i e;obtain⟨m,h1,h2,d⟩:=h.2 j p a;exact⟨m,by rw[h1];simp[e],h2,d⟩⟩
theorem KM.eraseIdx{ms:List MapEntry}(h:KM C w es ms)(i:Nat):KM C w (es.eraseIdx i) (ms.eraseIdx i):=
 ⟨by rw[List.length_eraseIdx,List.length_eraseIdx,h.1],λj p a=>by
  rw[List.getElem?_eraseIdx]at a⊢;split at a
  ·rename_i c;rw[CZ c];exact h.2 j p a
  ·rename_i c;rw[Cr c];exact h.2 _ p a⟩
theorem MOk.push(h:MOk ms clock)(k v:Value):MOk (ms.push {key:=k,val:=v,born:=clock}) (clock+1):=
 ⟨by
  rw[l2n,List.pairwise_append];refine⟨h.born,by simp,λa c b hb=>?_⟩;simp at hb;subst hb;have:=h.lt a c;show a.born≠clock;omega,λm hm=>by
  rw[l2n,Yp]at hm;rcases hm with hm|hm
  ·have:=h.lt m hm;omega
  ·simp at hm;subst hm;exact Nat.lt_succ_self _⟩
def Xf{ms:List MapEntry}{i:Nat}(a:∀m,(f m).born=m.born):(ms.modify i f).map (·.born)=ms.map (·.born):=by
 apply l0o;intro j;rw[vA,vA,List.getElem?_modify];cases ms[j]? with
 |none=>rfl
 |some m=>by_cases e:i=j<;>simp[e,a]
def A3K:MOk ms clock↔(ms.toList.map (·.born)).Pairwise (λa b=>a≠b)/\∀b∈ms.toList.map (·.born),b<clock:=by
 constructor
 ·intro h;exact⟨by rw[List.pairwise_map];exact h.born,λb hb=>by obtain⟨m,hm,rfl⟩:=Us.1 hb;exact h.lt m hm⟩
 ·rintro⟨h1,h2⟩;exact⟨by rw[List.pairwise_map]at h1;exact h1,λm hm=>h2 _ (Us.2 ⟨m,hm,rfl⟩)⟩
theorem MOk.modify(h:MOk ms clock)(i:Nat)(a:∀m,(f m).born=m.born):MOk (ms.modify i f) clock:=by
 rw[A3K,l2o,Xf a];exact A3K.1 h
def Qs(ms:Array MapEntry)(i:Nat):(ms.eraseIdxIfInBounds i).toList=ms.toList.eraseIdx i:=by
 unfold Array.eraseIdxIfInBounds;split
 ·simp only[Array.toList_eraseIdx]
 ·rename_i h;rw[List.eraseIdx_of_length_le (by simpa using h)]
theorem ZT{α β:Type}(f:α->β):∀(l:List α)(i:Nat),(l.eraseIdx i).map f=(l.map f).eraseIdx i
 |[],_=>rfl
 |_::_,0=>rfl
 |a::l,i+1=>by simp[ZT f l i]
def MOk.erase(h:MOk ms clock)(i:Nat):MOk (ms.eraseIdxIfInBounds i) clock:=
 ⟨by rw[Qs];exact h.born.sublist (List.eraseIdx_sublist _ _),λm hm=>by rw[Qs]at hm;exact h.lt m ((List.eraseIdx_sublist _ _).subset hm)⟩
def Xn{r:Nat}{bo bo':Option (Hb×Nat)}{b:Nat}{ms ms':Array MapEntry}{clock clock':Nat}{O:Nat->Prop}(hr:Rel G w0 C H w)(c:Al H r=some (.map false es bo))(a:C.π r=some (some (b,0)))(hb:w.heap[b]?=some (.map ms clock))(he:KM C w es' ms'.toList)(hm:MOk ms' clock')(d:BOk bo' ms' clock'):(setObj b (.map ms' clock')).run P w=.ok () {w with heap:=w.heap.setIfInBounds b (.map ms' clock')}/\
  Rel G w0 C (upd H r (.map false es' bo')) {w with heap:=w.heap.setIfInBounds b (.map ms' clock')}/\Ext O C w C {w with heap:=w.heap.setIfInBounds b (.map ms' clock')}:=by
 obtain⟨h1,h2⟩:=MapKept.heap_set (w:=w) (o':=.map ms' clock') hb;have g:SameObj w {w with heap:=w.heap.setIfInBounds b (.map ms' clock')} b (.map ms' clock'):=⟨rfl,rfl,rfl,by simp,h1,h2⟩
 refine⟨MapKept.run_setObj_map _ hb,hr.set_obj (O:=O) c a g (λarr T fz hc=>by rw[hb]at hc;cases hc) (λe=>⟨b,ms',clock',a,h1,hm,he.mono e,d⟩)⟩
def YP{r:Nat}{y:Value}(hr:Rel G w0 C H w)(s:Al H r=some (.map false es bo))(hv:VRel C w (.mp r) y):
 ∃b ms clock,y=.map (some b)/\C.π r=some (some (b,0))/\w.heap[b]?=some (.map ms clock)/\MOk ms clock/\KM C w es ms.toList/\BOk bo ms clock:=by
 cases hv with
 |@mp _ _ _ b c d=>
  obtain⟨e,ms,clock,i,j,n,p,q⟩:=hr.rows r _ s;have a:=i.symm.trans d;injection a with a;injection a with a;injection a with g h;subst g h
  exact⟨e,ms,clock,rfl,d,j,n,p,q⟩
def A0o{ty:TypeId}{K:KV}(hr:Rel G w0 C H w)(h:JK ie H K=some r):∃v a y d c,K v a=some r/\(Instr.makeMap ty none).run P w=.ok y c/\JB G w0 C w v a y d c:=by
 unfold JK at h;rw[BW]at h;have hb:=MN w (.map #[] 0);refine⟨_,_,.map (some w.heap.size),_,w.alloc (.map #[] 0),h,rfl,.mp (C.put_n _ _),hr.new_row hb ⟨w.heap.size,#[],0,C.put_n _ _,World.alloc_heap_new _ _,⟨by simp,by simp⟩,⟨rfl,λi p e=>by simp at e⟩,?_⟩,hr.new_ext hb⟩;unfold xX;split
 ·exact⟨rfl,rfl⟩
 ·exact⟨rfl,rfl⟩
 ·trivial
def qU{mt X Y:TypeId}{K:Ru}(V:P.underlying mt=some (.map X Y))(hk:PZ P X k)(hr:Rel G w0 C H w)(hm:VRel C w m ym)(hv:VRel C w v yv)(h:Oh m k v H K=some r):
 ∃M L,K M=some r/\(Instr.mapUpdate mt ym k yv).run P w=.ok () L/\Rel G w0 C M L/\Ext w0.own C w C L:=by
 unfold Oh at h;split at h
 ·rename_i s;obtain⟨x,F,h1⟩:=HC rfl h;obtain⟨es,bo,rfl,h2⟩:=Q6 h1;obtain⟨f,hf,a⟩:=Sw h2;obtain⟨b,ms,clock,rfl,R,hb,t,he,Q⟩:=YP hr F hm;obtain⟨q,hq,d⟩:=hk.find he hf;clear h h1 h2;cases f with
  |none=>
   simp only at a;rw[C5]at a;obtain⟨c,_⟩:=d;subst c;obtain⟨A,B,D⟩:=Xn (P:=P) (O:=w0.own) (es':=es++[(k,v)]) (bo':=wC bo) (ms':=ms.push {key:=k,val:=yv,born:=clock}) (clock':=clock+1) hr F R hb (by rw[l2n];exact he.append (.one rfl hv)) (t.push _ _) (by
    cases bo with
    |none=>trivial
    |some p=>obtain⟨c,y⟩:=Q;exact⟨by rw[l2n,Yr,c,y];rfl,by rw[y]⟩)
   refine⟨_,_,a,?_,B,D⟩;unfold Instr.mapUpdate;rw[CN,run_underlying V w];simp only[F3];rw[CN,l2l hb];simp only[F3];rw[CN,hk.check];simp only[F3];rw[CN,hq];simp only[F3];exact A
  |some p=>
   obtain⟨i,v0⟩:=p;simp only at a;rw[C5]at a;obtain⟨j,m0,N,Z,J,g,u⟩:=d;have N:i=j:=by omega
   subst N;subst u;have n:ms[i]?=some m0:=by simpa using J
   obtain⟨A,B,D⟩:=Xn (P:=P) (O:=w0.own) (es':=es.set i (k,v)) (bo':=bo) (ms':=ms.modify i λe=>{e with key:=k,val:=yv}) (clock':=clock) hr F R hb (by rw[l2o];exact he.modify i (λ_ _=>rfl) (λ_ _=>hv)) (t.modify i (λ_=>rfl)) (by
    cases bo with
    |none=>trivial
    |some p=>obtain⟨c,y⟩:=Q;exact⟨by rw[l2o,Xf (f:=λe=>{e with key:=k,val:=yv}) (λ_=>rfl)];exact c,y⟩)
   refine⟨_,_,a,?_,B,D⟩;unfold Instr.mapUpdate;rw[CN,run_underlying V w];simp only[F3];rw[CN,l2l hb];simp only[F3];rw[CN,hk.check];simp only[F3];rw[CN,hq];simp only[F3,n,rT,l1l,g];rw[CN,hk.stays];simp only[F3];exact A
 ·cases h
def vM{K:IH->Af}(hr:Rel G w0 C H w)(hm:VRel C w m ym)(h:A2n m H K=some r):
 ∃es,K es=some r/\((ym=.map none/\es=[])\/∃b ms clock,ym=.map (some b)/\w.heap[b]?=some (.map ms clock)/\KM C w es ms.toList):=by
 unfold A2n at h;split at h
 ·obtain⟨x,c,h1⟩:=HC rfl h;obtain⟨es,bo,rfl,h2⟩:=Q6 h1;obtain⟨b,ms,clock,rfl,g,hb,j,he,q⟩:=YP hr c hm;exact⟨es,h2,.inr ⟨b,ms,clock,rfl,hb,he⟩⟩
 ·rename_i es;refine⟨es,h,?_⟩;cases hm with
  |@imap _ _ _ b clock ms n hb c hk hn hc hv=>
   refine .inr ⟨b,ms,clock,rfl,hb,by simpa using c,λi p g=>?_⟩;obtain⟨d,rfl⟩:=uZ.1 g;have a:i<ms.size:=by omega
   refine⟨ms[i],by simp[a],?_,?_⟩
   ·have:=hk i d;simpa [Zk,a] using this
   ·have:=hv i d;have e:(ms.getD i default)=ms[i]:=by simp[Zk,a]
    rw[e]at this;exact this.up rfl rfl
 ·exact⟨[],h,.inl ⟨AA.1 hm,rfl⟩⟩
 ·cases h
def A5C{mt L D:TypeId}{ok:Bool}{K:K2}(n:P.underlying mt=some (.map L D))(u:TOk1 P D ie)(hk:PZ P L k)(hr:Rel G w0 C H w)(hm:VRel C w m ym)(h:Tt ie ok m k H K=some r):
 ∃v y,K v=some r/\(Instr.lookup mt ym k ok).run P w=.ok y w/\VRel C w v y:=by
 unfold Tt at h;obtain⟨es,h1,t⟩:=vM hr hm h;obtain⟨f,F,h2⟩:=Sw h1;obtain⟨z,hz,O⟩:=u.run_zero w;have B:VRel C w ie.zero z:=by rw[<-O];exact ZJ z
 clear h h1;have key:∀(ms:List MapEntry)(q:Option (Nat×Value)),rN k es ms 0 f q->KM C w es ms->
  ∃v y0 o,K (if ok=true then .tup [v,.v (.bool o)] else v)=some r/\VRel C w v y0/\((q=none/\y0=z/\o=false)\/∃i,q=some (i,y0)/\o=true):=by
  intro ms q a he;cases f with
  |none=>
   obtain⟨N,_⟩:=a;subst N;exact⟨ie.zero,z,false,by cases ok<;>exact h2,B,.inl ⟨rfl,rfl,rfl⟩⟩
  |some p=>
   obtain⟨i,M⟩:=p;obtain⟨j,m0,R,s,x,J,e⟩:=a;have A:VRel C w M m0.val:=by
    obtain⟨V,c,g,d⟩:=he.2 j _ s;rw[x]at c;injection c with c;subst c;exact d
   exact⟨M,m0.val,true,by cases ok<;>exact h2,A,.inr ⟨i,e,rfl⟩⟩
 have rel:∀{v:AV}{y0:Value}(o:Bool),VRel C w v y0->VRel C w (if ok=true then .tup [v,.v (.bool o)] else v) (if ok=true then .tuple #[y0,.bool o] else y0):=by
  intro v y0 o hv;cases ok with
  |true=>exact Ds.2 ⟨[y0,.bool o],rfl,.cons hv (.cons (.v _) .nil)⟩
  |false=>exact hv
 rcases t with⟨rfl,rfl⟩|⟨b,ms,clock,rfl,hb,he⟩
 ·have he:KM C w [] []:=⟨rfl,λi p Q=>by simp at Q⟩
  obtain⟨q,hq,a⟩:=hk.find he F;obtain⟨v,y0,o,c,g,d⟩:=key [] q a he;refine⟨_,_,c,?_,rel o g⟩;rcases d with⟨rfl,rfl,rfl⟩|⟨i,rfl,rfl⟩
  ·simp[Instr.lookup,run_underlying n,hk.check,hq,hz,Result.andThen]
  ·simp[Instr.lookup,run_underlying n,hk.check,hq,Result.andThen]
 ·obtain⟨q,hq,a⟩:=hk.find he F;obtain⟨v,y0,o,c,g,d⟩:=key _ q a he;refine⟨_,_,c,?_,rel o g⟩;rcases d with⟨rfl,rfl,rfl⟩|⟨i,rfl,rfl⟩
  ·simp[Instr.lookup,run_underlying n,l2l hb,hk.check,hq,hz,Result.andThen]
  ·simp[Instr.lookup,run_underlying n,l2l hb,hk.check,hq,Result.andThen]
def A0s{mt Z et:TypeId}{ts:Array TypeId}{ty:TypeId}{K:Ru}(t:ts[0]?=some mt)(Y:P.underlying mt=some (.map Z et))(hk:PZ P Z k)(hr:Rel G w0 C H w)(hm:VRel C w m ym)(h:dS m k H K=some r):
 ∃J c,K J=some r/\(Builtin.delete_ ts ty #[ym,k]).run P w=.ok (.tuple #[]) c/\Rel G w0 C J c/\Ext w0.own C w C c:=by
 unfold dS at h;split at h
 ·rename_i s;obtain⟨x,D,h1⟩:=HC rfl h;obtain⟨es,bo,rfl,h2⟩:=Q6 h1;obtain⟨f,hf,y⟩:=Sw h2;obtain⟨b,ms,clock,rfl,X,hb,g,he,V⟩:=YP hr D hm;obtain⟨q,hq,d⟩:=hk.find he hf;clear h h1 h2;have a:∀(c:World)(ms':Array MapEntry),(q=none/\ms'=ms\/∃i v,q=some (i,v)/\ms'=ms.eraseIdxIfInBounds i)->(setObj b (.map ms' clock)).run P w=.ok () c->(Builtin.delete_ ts ty #[.map (some b),k]).run P w=.ok (.tuple #[]) c:=by
   intro c ms' F A;rcases F with⟨rfl,rfl⟩|⟨i,v,rfl,rfl⟩
   ·simp[Builtin.delete_,t,run_underlying Y,l2l hb,hk.check,hq,A,Result.andThen]
   ·simp[Builtin.delete_,t,run_underlying Y,l2l hb,hk.check,hq,A,Result.andThen]
  cases f with
  |none=>
   obtain⟨B,_⟩:=d;subst B;obtain⟨u,M,N⟩:=Xn (P:=P) (O:=w0.own) (es':=es) (bo':=bo) (ms':=ms) (clock':=clock) hr D X hb he g V;have A:({w with heap:=w.heap.setIfInBounds b (.map ms clock)}:World)=w:=by
    have:w.heap.setIfInBounds b (.map ms clock)=w.heap:=by
     apply Array.ext_getElem?;intro j;by_cases Q:b=j
     ·subst Q;rw[(MapKept.heap_set hb).1,hb]
     ·exact(MapKept.heap_set hb).2 j (λe=>Q e.symm)
    rw[this]
   rw[A]at u;exact⟨H,w,y,a w ms (.inl ⟨rfl,rfl⟩) u,hr,.refl _ _ _⟩
  |some p=>
   obtain⟨i,v0⟩:=p;simp only at y;rw[C5]at y;obtain⟨j,m0,L,aa,ab,R,n⟩:=d;have L:i=j:=by omega
   subst L;subst n;obtain⟨u,M,N⟩:=Xn (P:=P) (O:=w0.own) (es':=es.eraseIdx i) (bo':=B8F bo i) (ms':=ms.eraseIdxIfInBounds i) (clock':=clock) hr D X hb (by rw[Qs];exact he.eraseIdx i) (g.erase i) (by
    cases bo with
    |none=>trivial
    |some p=>obtain⟨B,e2⟩:=V;exact⟨by rw[Qs,<-B,ZT],e2⟩)
   exact⟨_,_,y,a _ _ (.inr ⟨i,_,rfl,rfl⟩) u,M,N⟩
 ·cases h
def A0q{mt g e:TypeId}{ts:Array TypeId}{ty:TypeId}{K:K2}(a:ts[0]?=some mt)(d:P.underlying mt=some (.map g e))(hr:Rel G w0 C H w)(hm:VRel C w m ym)(h:qW m H K=some r):
 ∃v y,K v=some r/\(Builtin.len_ ts ty #[ym]).run P w=.ok y w/\VRel C w v y:=by
 unfold qW at h;obtain⟨es,h1,c⟩:=vM hr hm h;rw[Cs,Kk]at h1;refine⟨_,.int .i64 es.length,h1,?_,.v _⟩;rcases c with⟨rfl,rfl⟩|⟨b,ms,clock,rfl,hb,he⟩
 ·simp[Builtin.len_,a,run_underlying d,goInt]
 ·have:=he.1;simp only[Array.length_toList]at this;simp[Builtin.len_,a,run_underlying d,l2l hb,goInt,this]
def A0r{mt M et:TypeId}{K:KV}(hu:P.underlying mt=some (.map M et))(R:TOk1 P et ie)(hk:PZ P M k)(hr:Rel G w0 C H w)(hm:VRel C w m ym)(h:dR ie m k H K=some r):
 ∃v Y y w',K v Y=some r/\(Instr.mapEntry mt ym k).run P w=.ok y w'/\JB G w0 C w v Y y C w':=by
 unfold dR at h;split at h
 ·rename_i s;obtain⟨x,hl,h1⟩:=HC rfl h;obtain⟨es,bo,rfl,h2⟩:=Q6 h1;clear h h1;split at h2
  ·rename_i Z c;obtain⟨f,hf,n⟩:=Sw h2;obtain⟨b,ms,clock,rfl,hp,hb,V,he,ho⟩:=YP hr hl hm;obtain⟨o1,o2⟩:=ho;subst o2;obtain⟨q,hq,A⟩:=hk.find he hf;obtain⟨z,hz,ez⟩:=R.run_zero w;have J:VRel C w ie.zero z:=by rw[<-ez];exact ZJ z
   clear h2;have aa:∀(g:Option (Nat×Value)->Sem Value)(res:Result Value),(g q).run P w=res->(do
    Instr.checkKey false 10000 M k
    let x<-Instr.findKey M k ms.toList
    g x:Sem Value).run P w=res:=by
    intro g res hg;rw[CN,hk.check];simp only[F3];rw[CN,hq];exact hg
   cases f with
   |none=>
    simp only at n;rw[C5]at n;obtain⟨e1,_⟩:=A;subst e1;obtain⟨u,g2,L⟩:=Xn (P:=P) (O:=w0.own) (es':=es++[(k,ie.zero)]) (bo':=some (Z++[clock],clock+1)) (ms':=ms.push {key:=k,val:=z,born:=clock}) (clock':=clock+1) hr hl hp hb (by rw[l2n];exact he.append (.one rfl J)) (V.push _ _) ⟨by rw[l2n,Yr,o1];rfl,rfl⟩;refine⟨_,_,.tuple #[z,goInt clock],_,n,?_,Ds.2 ⟨[z,goInt clock],rfl,.cons (J.mono L) (.cons (.v _) .nil)⟩,g2,L⟩;unfold Instr.mapEntry;rw[CN,run_underlying hu w];simp only[F3];rw[CN,l2l hb];simp only[F3];rw[CN,hk.check];simp only[F3];rw[CN,hq];simp only[F3];rw[CN,hz];simp only[F3];rw[CN,u];rfl
   |some p=>
    obtain⟨i,v0⟩:=p;simp only at n;obtain⟨j,m0,e0,Q,t,a,F⟩:=A;have e0:i=j:=by omega
    subst e0;subst F;have d:ms[i]?=some m0:=by simpa using t
    have N:Z[i]?=some m0.born:=by rw[<-o1,vA,t];rfl
    rw[N]at n;simp only at n;have X:VRel C w v0 m0.val:=by
     obtain⟨m',u,g2,L⟩:=he.2 i _ Q;rw[t]at u;injection u with u;subst u;exact L
    have D:ms.modify i (λe=>{e with key:=k})=ms:=by
     apply Array.ext_getElem?;intro j;rw[l0r];by_cases B:i=j
     ·subst B;rw[d];simp[<-a]
     ·rw[Cr B]
    have hw:({w with heap:=w.heap.setIfInBounds b (.map ms clock)}:World)=w:=by
     have:w.heap.setIfInBounds b (.map ms clock)=w.heap:=by
      apply Array.ext_getElem?;intro j;by_cases B:b=j
      ·subst B;rw[(MapKept.heap_set hb).1,hb]
      ·exact(MapKept.heap_set hb).2 j (λe=>B e.symm)
     rw[this]
    refine⟨_,H,.tuple #[m0.val,goInt m0.born],w,n,?_,Ds.2 ⟨[m0.val,goInt m0.born],rfl,.cons X (.cons (.v _) .nil)⟩,hr,.refl _ _ _⟩;unfold Instr.mapEntry;rw[CN,run_underlying hu w];simp only[F3];rw[CN,l2l hb];simp only[F3];rw[CN,hk.check];simp only[F3];rw[CN,hq];simp only[F3,d,rT,l1l,a];rw[CN,hk.stays];simp only[F3,D];rw[CN,MapKept.run_setObj_map _ hb,hw];rfl
  ·cases h2
 ·cases h
def A0n{mt:TypeId}{m st v:AV}{ym ys yv:Value}{K:Ru}(hr:Rel G w0 C H w)(hm:VRel C w m ym)(Y:VRel C w st ys)(hv:VRel C w v yv)(h:qV m st v H K=some r):
 ∃A y,K A=some r/\(Instr.entryStore mt ym ys yv).run P w=.ok () y/\Rel G w0 C A y/\Ext w0.own C w C y:=by
 unfold qV at h;split at h
 ·rename_i s;obtain⟨x,D,h1⟩:=HC rfl h;obtain⟨es,bo,rfl,h2⟩:=Q6 h1;obtain⟨q,z,rfl,a⟩:=OL h2;clear h h1 h2;split at a
  ·rename_i J c;split at a
   ·rename_i i B;split at a
    ·rename_i p X;rw[C5]at a;obtain⟨b,ms,clock,rfl,t,hb,n,he,V⟩:=YP hr D hm;obtain⟨F,o2⟩:=V;subst o2;have u:=AA.1 Y;subst u;have d:ms.findIdx? (λe=>(e.born:Int)==z)=some i:=by
      have L:∀p:MapEntry->Bool,ms.findIdx? p=ms.toList.findIdx? p:=λp=>by cases ms;simp
      rw[L];rw[<-F,List.findIdx?_map]at B;rw[<-B]
      congr 1
      funext e
      simp only[Function.comp,L0];rw[kZ];simp
     obtain⟨m1,j,g,Z⟩:=he.2 i p X;obtain⟨M,N,Q⟩:=Xn (P:=P) (O:=w0.own) (es':=es.set i (p.1,v)) (bo':=some (J,clock)) (ms':=ms.modify i λe=>{e with val:=yv}) (clock':=clock) hr D t hb (by
      rw[l2o];refine he.modify i (λm hm=>?_) (λ_ _=>hv);rw[j]at hm;injection hm with hm;subst hm;exact g) (n.modify i (λ_=>rfl)) ⟨by rw[l2o,Xf (f:=λe=>{e with val:=yv}) (λ_=>rfl)];exact F,rfl⟩
     refine⟨_,_,a,?_,N,Q⟩;unfold Instr.entryStore;simp only;rw[CN,l2l hb];simp only[F3];rw[CN];have R:(asInt (.int q z)).run P w=.ok z w:=rfl;rw[R];simp only[F3,d];exact M
    ·cases a
   ·cases a
  ·cases a
 ·cases h
end
end
section
variable{f:AV->AV->Bool}{K:KV}{es:IH}{y ym:Value}
def Zv:Value->Value->Bool
 |.string a,.string b=>eqbL a.data.toList b.data.toList
 |.int k a,.int c b=>decide (k=c)&&decide (a=b)
 |.bool a,.bool b=>a==b
 |.slice none 0 0,.slice none 0 0=>true
 |.pointer none,.pointer none=>true
 |.map none,.map none=>true
 |.nilFunc,.nilFunc=>true
 |_,_=>false
where eqbL:Ha->Ha->Bool
 |[],[]=>true
 |a::l,b::m=>Nat.beq a.toNat b.toNat&&eqbL l m
 |_,_=>false
def rK(f:AV->AV->Bool):Is->Is->Bool
 |[],[]=>true
 |a::l,b::m=>f a b&&rK f l m
 |_,_=>false
def fnB:AV->AV->Bool
 |.fn (.func f) [] [],.fn (.func g) [] []=>Nat.beq f g
 |_,_=>false
def B7W{a b:AV}(h:fnB a b=true):a=b:=by
 unfold fnB at h;split at h
 ·rw[Xz h]
 ·cases h
def A60(f:AV->AV->Bool):IH->IH->Bool
 |[],[]=>true
 |a::l,b::m=>Zv a.1 b.1&&(f a.2 b.2&&A60 f l m)
 |_,_=>false
def Ze:Nat->AV->AV->Bool
 |_,.v x,.v y=>Zv x y
 |d+1,.list n cs,.list m es=>Nat.beq n m&&rK (Ze d) cs es
 |d+1,.agg cs,.agg es=>rK (Ze d) cs es
 |d+1,.tup cs,.tup es=>rK (Ze d) cs es
 |d+1,.imap es,.imap a=>A60 (Ze d) es a
 |_+1,.fn f c cs,.fn g a ds=>fnB (.fn f c cs) (.fn g a ds)
 |_,_,_=>false
def jE(a b:Af):Af:=
 match a with
 |some (v,[])=>(match b with
  |some (u,[])=>(match Ze 6 v u with|true=>some (v,[])|false=>none)
  |_=>none)
 |_=>none
def PH(F:Value×AV->IH->Af)(l:IH):IH->Af:=
 @List.rec (Value×AV) (λ_=>IH->Af) (λ_=>none)
  (λe rest ih pre=>@List.rec (Value×AV) (λ_=>Af) (F e pre) (λ_ _ _=>jE (F e (pre++rest)) (ih (pre++[e]))) rest) l
def A3S(x:Row)(K:IH->Af):Af:=match x with|.iter l _=>K l|_=>none
def dP(m:AV)(H:Hp)(K:KV):Af:=
 match m with
 |.imap es=>HV H λs=>K (.it s) ((s,.iter es none)::H)
 |.v (.map none)=>HV H λs=>K (.it s) ((s,.iter [] none)::H)
 |.mp s=>IN H s λx=>WN x λes _=>ck (es.all λp=>mI 3 p.2) (JI H s .gone λa=>HV a λt=>K (.it t) ((t,.iter es none)::a))
 |_=>none
def dQ(it:AV)(H:Hp)(K:KV):Af:=
 match it with
 |.it s=>IN H s λx=>A3S x λl=>@List.rec (Value×AV) (λ_=>Af) (K (.tup [.v (.bool false)]) H)
  (λ_ _ _=>PH (λe rest=>JI H s (.iter rest (some e)) λa=>K (.tup [.v (.bool true),rR e.1,e.2]) a) l []) l
 |_=>none
def A8r(x:Row)(K:Value×AV->Af):Af:=match x with|.iter _ (some p)=>K p|_=>none
def iP(it:AV)(H:Hp)(K:K2):Af:=
 match it with
 |.it s=>IN H s λx=>A8r x λp=>K (.tup [rR p.1,p.2])
 |_=>none
def B3b:∀{a b:Ha},Zv.eqbL a b=true->a=b:=by
 intro a
 induction a with
 |nil=>intro b h;cases b<;>simp[Zv.eqbL]at h;rfl
 |cons x a ih=>
  intro b h;cases b with
  |nil=>simp[Zv.eqbL]at h
  |cons y b=>
   simp only[Zv.eqbL,J2]at h;rw[ih h.2,UInt8.toNat_inj.1 (Xz h.1)]
def lP{a b:Value}(h:Zv a b=true):a=b:=by
 unfold Zv at h;split at h
 ·rename_i x y;obtain⟨⟨x⟩⟩:=x;obtain⟨⟨y⟩⟩:=y;have:=B3b h;simp at this;rw[this]
 ·simp only[J2,decide_eq_true_eq]at h;rw[h.1,h.2]
 ·rw[eq_of_beq h]
 ·rfl
 ·rfl
 ·rfl
 ·rfl
 ·cases h
def mK(c:∀a b,f a b=true->a=b):∀{l m:Is},rK f l m=true->l=m:=by
 intro l
 induction l with
 |nil=>intro m h;cases m<;>simp[rK]at h;rfl
 |cons a l ih=>
  intro m h;cases m with
  |nil=>simp[rK]at h
  |cons b m=>
   simp only[rK,J2]at h;rw[c a b h.1,ih h.2]
def B3B(c:∀a b,f a b=true->a=b):∀{l m:IH},A60 f l m=true->l=m:=by
 intro l
 induction l with
 |nil=>intro m h;cases m<;>simp[A60]at h;rfl
 |cons a l ih=>
  intro m h;cases m with
  |nil=>simp[A60]at h
  |cons b m=>
   simp only[A60,J2]at h;rw[show a=b from Prod.ext (lP h.1) (c _ _ h.2.1),ih h.2.2]
def A30:∀(d:Nat)(a b:AV),Ze d a b=true->a=b:=by
 intro d
 induction d with
 |zero=>
  intro a b h;cases a<;>cases b<;>simp[Ze]at h
  rw[lP h]
 |succ d ih=>
  intro a b h;cases a<;>cases b<;>simp only[Ze]at h<;>first|(cases h;done)|skip
  ·rw[lP h]
  ·simp only[J2]at h;rw[Xz h.1,mK ih h.2]
  ·exact B7W h
  ·rw[mK ih h]
  ·rw[mK ih h]
  ·rw[B3B ih h]
def A1x{a b:Af}{r:AV×Hp}(h:jE a b=some r):a=some r/\b=some r:=by
 unfold jE at h;split at h
 ·split at h
  ·split at h
   ·rename_i hq;rw[<-A30 _ _ _ hq];exact⟨h,h⟩
   ·cases h
  ·cases h
 ·cases h
section
variable{r:AV×Hp}
def jF(F:Value×AV->IH->Af)(e a:Value×AV)(l pre:IH):PH F (e::a::l) pre=jE (F e (pre++a::l)) (PH F (a::l) (pre++[e])):=rfl
def oY(F:Value×AV->IH->Af)(e:Value×AV)(pre:IH):PH F [e] pre=F e pre:=rfl
def T!{F:Value×AV->IH->Af}:∀(l pre:IH),PH F l pre=some r->∀(j:Nat)(e:Value×AV),l[j]?=some e->F e (pre++l.eraseIdx j)=some r:=by
 intro l
 induction l with
 |nil=>intro pre h;cases h
 |cons e l ih=>
  intro pre h j a he;cases l with
  |nil=>
   rw[oY]at h;cases j with
   |zero=>simp at he;subst he;simpa using h
   |succ j=>simp at he
  |cons c l=>
   rw[jF]at h;obtain⟨h1,h2⟩:=A1x h;cases j with
   |zero=>simp at he;subst he;simpa using h1
   |succ j=>
    have:=ih _ h2 j a (by simpa using he);simpa using this
variable{P:Program}{G:Gl}{w0:Base}{C:Ctx}{H:Hp}{w:World}
def Ext.weak{C':Ctx}{w':World}{O:Nat->Prop}(h:Ext (λ_=>False) C w C' w'):Ext O C w C' w':=
 ⟨h.π,h.F,h.keep,h.B,h.keepB,h.size,λb i a=>(h.new b i a).imp id False.elim,λb a=>(h.newB b a).imp id False.elim,h.grow⟩
def jM{mt B u:TypeId}(N:P.underlying mt=some (.map B u))(hr:Rel G w0 C H w)(hm:VRel C w (.imap es) ym)(h:(HV H λs=>K (.it s) ((s,.iter es none)::H))=some r):
 ∃v q y F D,K v q=some r/\(Instr.range mt ym).run P w=.ok y D/\JB G w0 C w v q y F D:=by
 rw[BW]at h;cases hm with
 |@imap _ _ _ b clock c x hb L hk hn hc hv=>
  have d:=MN w (.mapIter (some b) clock #[] clock);refine⟨_,_,.pointer (some ⟨w.heap.size,0,none⟩),_,w.alloc (.mapIter (some b) clock #[] clock),h,run_range_map w mt B u b c clock N hb,.it (C.put_n _ _),hr.new_row d ⟨w.heap.size,some b,clock,#[],clock,C.put_n _ _,World.alloc_heap_new _ _,.inr ⟨b,c,clock,rfl,rfl,rfl,x,(d.block b (hr.finB b x)).trans hb,?_,?_,trivial⟩⟩,hr.new_ext d⟩
  ·refine⟨?_,λm hm=>?_⟩
   ·rw[l20];intro i j g A k;have:=hn i j k (by simpa using A);have a:i<c.size:=by simpa using g
    have n:j<c.size:=by simpa using A
    simpa [Zk,a,n] using this
   ·obtain⟨i,g,rfl⟩:=List.mem_iff_getElem.1 hm;have a:i<c.size:=by simpa using g
    have:=hc i a;simpa [Zk,a] using this
  ·have J:(c.toList.filter λe=>!(#[]:Array Nat).contains e.born)=c.toList:=by simp
   rw[J];refine⟨by simpa using L,λi p M=>?_⟩;obtain⟨g,rfl⟩:=uZ.1 M;have a:i<c.size:=by omega
   have t:(c.getD i default)=c[i]:=by simp[Zk,a]
   refine⟨c[i],by simp[a],?_,?_⟩
   ·have:=hk i g;rwa[t]at this
   ·have:=hv i g;rw[t]at this;exact(this.mono (hr.new_ext (O:=λ_=>True) d).bare)
def Ctx.fixM(C:Ctx)(b:Nat):Ctx:={C with B:=λk=>C.B k\/k=b}
def Rel.freezeM{s b:Nat}{q:Bool}{D:Option (Hb×Nat)}(h:Rel G w0 C H w)(n:Al H s=some (.map q es D))(p:C.π s=some (some (b,0))):Rel G w0 (C.fixM b) (cut H s) w/\Ext w0.own C w (C.fixM b) w:=by
 have j:=h.own s _ b 0 n p;have e:Ext w0.own C w (C.fixM b) w:=⟨λ_ _=>rfl,λ_ _ h=>h,λ_ _ _=>rfl,λ_ h=>.inl h,λ_ _=>rfl,λ_ a _ f h=>⟨a,f,h,rfl⟩,λ_ _ h=>.inl h,λk h=>by rcases h with h|h;exact .inl h;exact .inr (h▸j.1),Oj _⟩
 have c:∀t x,Al (cut H s) t=some x->t≠s/\Al H t=some x:=λt x d=>by
  by_cases u:t=s
  ·subst u;rw[LI]at d;cases d
  ·rw[Po u]at d;exact⟨u,d⟩
 refine⟨⟨h.glob.mono e,h.below,λt x d=>h.lt t x (c t x d).2,λt x d=>(h.rows t x (c t x d).2).mono e (λ_ _ _=>rfl),?_,?_,h.fin,?_,?_⟩,e⟩
 ·intro t x k F d i;have hk:=h.own t x k F (c t x d).2 i;refine⟨hk.1,hk.2.1,λg=>?_⟩;rcases g with g|g
  ·exact hk.2.2 g
  ·subst g;exact(c t x d).1 (h.sep t s x _ _ _ _ (c t x d).2 n i p)
 ·intro t A x B k J L d v i m;exact h.sep t A x B k J L (c t x d).2 (c A B v).2 i m
 ·intro k g;rcases g with g|g
  ·exact h.finB k g
  ·subst g;exact(h.rows s _ n).block (λe=>by cases e) p
 ·intro k hk;rw[cut,BV]at hk;exact h.nx k hk
def A2v{mt Q M:TypeId}{m:AV}(F:P.underlying mt=some (.map Q M))(hr:Rel G w0 C H w)(hm:VRel C w m ym)(h:dP m H K=some r):
 ∃v p y C' q,K v p=some r/\(Instr.range mt ym).run P w=.ok y q/\JB G w0 C w v p y C' q:=by
 unfold dP at h;split at h
 ·exact jM F hr hm h
 ·rw[BW]at h;have J:=AA.1 hm;subst J;have e:=MN w (.mapIter none 0 #[] 0);exact⟨_,_,.pointer (some ⟨w.heap.size,0,none⟩),_,w.alloc (.mapIter none 0 #[] 0),h,run_range_nilMap w mt Q M F,.it (C.put_n _ _),hr.new_row e ⟨w.heap.size,none,0,#[],0,C.put_n _ _,World.alloc_heap_new _ _,.inl ⟨rfl,rfl,rfl⟩⟩,hr.new_ext e⟩
 ·rename_i s;obtain⟨x,O,h1⟩:=HC rfl h;obtain⟨es,bo,rfl,h2⟩:=Q6 h1;obtain⟨hc,N⟩:=Br h2;obtain⟨b,c,clock,rfl,hp,hb,n,he, -⟩:=YP hr O hm;rw[C5]at N;obtain⟨D,L⟩:=hr.freezeM O hp;have B:VRel (C.fixM b) w (.imap es) (.map (some b)):=by
   refine .imap c (.inr rfl) hb (by rw[<-he.1];simp) (λi g=>?_) (λi j A hj=>?_) (λi g=>?_) (λi g=>?_)
   ·obtain⟨m,u,X, -⟩:=he.2 i _ (JC g);have d:c[i]?=some m:=by simpa using u
    simp[Zk,d,X]
   ·have k:j<c.size:=by have:=he.1;simp at this;omega
    have a:i<c.size:=by omega
    have:=(l20.1 n.born) i j (by simpa using a) (by simpa using k) A;simpa [Zk,a,k] using this
   ·have a:i<c.size:=by have:=he.1;simp at this;omega
    have:=n.lt c[i] (by simp);simpa [Zk,a] using this
   ·obtain⟨m,u, -,Y⟩:=he.2 i _ (JC g);have d:c[i]?=some m:=by simpa using u
    have Z:(c.getD i default)=m:=by simp[Zk,d]
    rw[Z];have h8:=VRel.down (C:=C) (C':=C.bare) rfl rfl 3 _ _ (G8.1 hc _ (Of g)) Y;exact h8.mono L.bare
  obtain⟨v,p,y,C',q,R,V,t⟩:=jM F D B N;exact⟨v,p,y,C',q,R,V,t.1,t.2.1,L.trans t.2.2⟩
 ·cases h
def A5r{l:List MapEntry}(h:l.Pairwise λa b=>a.born≠b.born):∀(j:Nat)(e:MapEntry),l[j]?=some e->l.filter (λx=>decide (x.born≠e.born))=l.eraseIdx j:=by
 induction l with
 |nil=>intro j e he;simp at he
 |cons a l ih=>
  intro j e he;rw[l2k]at h;cases j with
  |zero=>
   simp at he;subst he;rw[l2h,Cr (by simp),List.eraseIdx_cons_zero,List.filter_eq_self];intro x c;have:=h.1 x c;simpa using λe=>this e.symm
  |succ j=>
   have he:l[j]?=some e:=by simpa using he
   rw[l2h,CZ (by have:=h.1 e (l1h he);simpa using this),List.eraseIdx_cons_succ,ih h.2 j e he]
def O!(w:World)(n:Nat)(hn:0<n):∃(j:Nat)(w1:World),j<n/\w1.heap=w.heap/\w1.os=w.os/\w1.tape=w.tape/\w1.output=w.output/\(choose (.mapNext n)).run P w=.ok j w1:=by
 by_cases a:n<=1
 ·exact⟨0,w,hn,rfl,rfl,rfl,rfl,by simp[choose,Sem.run,Question.forced,a]⟩
 ·exact⟨_,w.drew,Nat.mod_lt _ hn,rfl,rfl,rfl,rfl,by
   simp only[choose,Sem.run,Question.forced,decide_eq_true_eq,a,if_false,Question.cut];rfl⟩
def Below.of_heap{w w1:World}(h:w1.heap=w.heap)(a:w1.os=w.os)(d:w1.tape=w.tape)(c:w1.output=w.output):Below w.heap.size w w1:=
 ⟨a,d,c,by rw[h];exact Oj _,λ_ _=>by rw[h]⟩
def A2x{ty:TypeId}{it:AV}(hr:Rel G w0 C H w)(hv:VRel C w it y)(h:dQ it H K=some r):
 ∃v H' z w',K v H'=some r/\(Instr.next y false ty).run P w=.ok z w'/\JB G w0 C w v H' z C w':=by
 unfold dQ at h;split at h
 ·rename_i s;obtain⟨x,hl,h1⟩:=HC rfl h;clear h;unfold A3S at h1;split at h1
  ·rename_i l ar;cases hv with
   |@it _ _ _ b aq hp=>
    obtain⟨c,mo,since,seen,last,g1,g2,g3⟩:=hr.rows s _ hl;have V:=g1.symm.trans hp;injection V with V;injection V with V;injection V with e1 e2;subst e1 e2
    have t:(getObj c).run P w=.ok (.mapIter mo since seen last) w:=by simp[getObj,Sem.run,g2]
    rcases g3 with⟨rfl,rfl,_⟩|⟨m,k,clock,e4,e5,e6,hB,hm,M,he,ai⟩
    ·have h1:K (.tup [.v (.bool false)]) H=some r:=h1;refine⟨_,_,.tuple #[.bool false],w,h1,?_,Ds.2 ⟨[.bool false],rfl,.cons (.v _) .nil⟩,hr,.refl _ _ _⟩;simp only[Instr.next];rw[CN,t];rfl
    ·have e5:=e5.symm;have e6:=e6.symm;subst e4;subst e5;subst e6;have ah:(getObj m).run P w=.ok (.map k clock) w:=l2l hm;have g:∀x∈k.toList,x.born<clock:=M.lt;have Q:=next_test_false seen k clock clock g (Oj _);have Z:((k.filter λe=>!seen.contains e.born).filter λx=>decide (x.born<clock))=k.filter λe=>!seen.contains e.born:=by
      rw[Array.filter_eq_self];intro x R;have:=g x (by simp at R⊢;exact R.1);simpa using this
     have aa:((k.filter λe=>!seen.contains e.born).filter λx=>decide (x.born≥clock))= #[]:=by
      rw[Array.filter_eq_empty_iff];intro x R;have:=g x (by simp at R⊢;exact R.1);simp;omega
     obtain⟨L,hL⟩:∃L,L=k.filter λe=>!seen.contains e.born:=⟨_,rfl⟩
     rw[<-hL]at Z aa;have p:L.toList=k.toList.filter λe=>!seen.contains e.born:=by rw[hL,Array.toList_filter]
     rw[<-p]at he;have A:∀(res:Result Value),(do
      let x<-choose (.mapNext ((if L.isEmpty then #[none] else #[])++L.map some).size)
      match((if L.isEmpty then #[none] else #[])++L.map some)[x]? with
      |some (some e)=>do
       setObj c (.mapIter (some m) clock (seen.push e.born) clock)
       pure (.tuple #[.bool true,e.key,e.val])
      |some none=>pure (.tuple #[.bool false])
      |none=>stuck "Next: no such candidate" :Sem Value).run P w=res->(Instr.next (.pointer (some ⟨c,0,none⟩)) false ty).run P w=res:=by
      intro res ac;unfold Instr.next;simp only;rw[CN,t];simp only[F3];rw[CN,ah];simp only[F3,Q,tL,if_false,<-hL,Z,aa,Array.append_empty];exact ac
     cases l with
     |nil=>
      have h1:K (.tup [.v (.bool false)]) H=some r:=h1;have ad:L= #[]:=by
       have:=he.nil_inv;exact Array.toList_inj.1 (by simpa using this)
      refine⟨_,_,.tuple #[.bool false],w,h1,A _ ?_,Ds.2 ⟨[.bool false],rfl,.cons (.v _) .nil⟩,hr,.refl _ _ _⟩;subst ad;simp[choose,Sem.run,Question.forced]
     |cons X l0=>
      have h1:PH (λe rest=>JI H s (.iter rest (some e)) λH'=>K (.tup [.v (.bool true),rR e.1,e.2]) H') (X::l0) []=some r:=h1;have d:L.size=(X::l0).length:=by have:=he.1;simpa using this
      have am:L.isEmpty=false:=by simp[Array.isEmpty,d]
      obtain⟨j,w1,hj,a1,a2,a3,a4,af⟩:=O! (P:=P) w L.size (by rw[d];simp);have ab:j<(X::l0).length:=by rw[<-d];exact hj
      have i:=T! _ _ h1 j _ (JC ab);simp only[l35,C5]at i;obtain⟨a,J,u,B⟩:=he.2 j _ (JC ab);have ae:L[j]?=some a:=by simpa using J
      have F:w1.heap[c]?=some (.mapIter (some m) clock seen clock):=by rw[a1];exact g2
      have aj:c<w1.heap.size:=(l1q.1 F).1;have q:=Below.of_heap a1 a2 a3 a4;have ao:=hr.of_below q;have n:Ext w0.own C w C w1:=hr.ext_below q;have N:SameObj w1 (w1.putObj c (.mapIter (some m) clock (seen.push a.born) clock)) c (.mapIter (some m) clock (seen.push a.born) clock):=SameObj.putObj aj _;have ak:m≠c:=λe=>by subst e;rw[hm]at g2;cases g2
      have ag:(k.toList.filter λx=>!(seen.push a.born).contains x.born)=L.toList.eraseIdx j:=by
       rw[<-A5r (l:=L.toList) (by rw[p];exact M.born.filter _) j a J,p,List.filter_filter];apply List.filter_congr;intro x _;rw[Array.contains_push];by_cases R:x.born=a.born<;>simp[R]
      obtain⟨ap,Y⟩:=ao.set_obj (O:=w0.own) (y:=.iter ((X::l0).eraseIdx j) (some (X::l0)[j])) hl hp N (λarr T fz hc=>by rw[F]at hc;cases hc) (λex=>by
       refine⟨c,some m,clock,seen.push a.born,clock,hp,N.here,.inr ⟨m,k,clock,rfl,rfl,rfl,hB,(N.others m ak).trans (by rw[a1];exact hm),M,?_,?_⟩⟩
       ·rw[ag];exact(he.mono (n.trans ex.weak).bare).eraseIdx j
       ·refine⟨a,?_,Array.back?_push,u,B.mono (n.trans ex.weak).bare⟩;have:=l1h J;rw[p]at this;exact(l2u.1 this).1)
      refine⟨_,_,.tuple #[.bool true,a.key,a.val],_,i,A _ ?_,Ds.2 ⟨[.bool true,a.key,a.val],rfl,.cons (.v _) (.cons ?_ (.cons ?_ .nil))⟩,ap,n.trans Y⟩
      ·rw[am];simp only[tL,if_false,Array.empty_append,Array.size_map];rw[CN,af];simp only[F3,Array.getElem?_map,ae,rT];rw[CN];have:(setObj c (.mapIter (some m) clock (seen.push a.born) clock)).run P w1=.ok () (w1.putObj c (.mapIter (some m) clock (seen.push a.born) clock)):=by simp[setObj,Sem.run,F,World.putObj]
       rw[this];rfl
      ·rw[u];exact ZJ _
      ·exact((B.up rfl rfl).mono (n.trans Y))
  ·cases h1
 ·cases h
def A2E{it:AV}{K:K2}(hr:Rel G w0 C H w)(hv:VRel C w it y)(h:iP it H K=some r):
 ∃v z,K v=some r/\(Instr.entry y).run P w=.ok z w/\VRel C w v z:=by
 unfold iP at h;split at h
 ·rename_i s;obtain⟨x,L,h1⟩:=HC rfl h;clear h;unfold A8r at h1;split at h1
  ·rename_i left p;cases hv with
   |@it _ _ _ b j M=>
    obtain⟨k,Q,since,seen,last,B,D,F⟩:=hr.rows s _ L;have c:=B.symm.trans M;injection c with c;injection c with c;injection c with n q;subst n q
    have d:(getObj k).run P w=.ok (.mapIter Q since seen last) w:=by simp[getObj,Sem.run,D]
    rcases F with⟨_,_,A⟩|⟨m,i,clock,t,R,u,V,hm,g,he,a,k1,N,k3,O⟩
    ·cases A
    ·subst t;have e:(getObj m).run P w=.ok (.map i clock) w:=l2l hm;have J:i.find? (·.born==a.born)=some a:=by
      rw[<-Array.find?_toList];exact find_born a i.toList (by rw[List.nodup_iff_pairwise_ne,List.pairwise_map];exact g.born) k1
     refine⟨_,.tuple #[a.key,a.val],h1,?_,Ds.2 ⟨[a.key,a.val],rfl,.cons (by rw[k3];exact ZJ _) (.cons (O.up rfl rfl) .nil)⟩⟩;simp only[Instr.entry];rw[CN,d];simp only[F3,N];rw[CN,e];simp[u,J]
  ·cases h1
 ·cases h
end
end
end Go.Abs
end
