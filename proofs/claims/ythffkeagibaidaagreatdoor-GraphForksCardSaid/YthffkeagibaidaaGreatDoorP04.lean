import Derived.Test.YthffkeagibaidaaGreatDoorP03
set_option linter.all false
set_option maxHeartbeats 0
noncomputable section
namespace Go.Abs
open Go.RowKit
section
variable{aZ bd:Code}
def B3v(r:Nat)(K:AV->Hp->Prop):Exit->Tm->Hp->Prop
 |.normal,_,H=>∃N t ps aZ bd,Ao H r=some (.loop N t ps aZ bd none)/\K (.v (.bool true)) (upd H r (.loop N t ps aZ bd (some none)))
 |.ret,_,H=>∃N t ps aZ bd,Ao H r=some (.loop N t ps aZ bd none)/\K (.v (.bool false)) (upd H r (.loop N t ps aZ bd (some (some .ret))))
 |.exit id,_,H=>∃N t ps aZ bd,Ao H r=some (.loop N t ps aZ bd none)/\K (.v (.bool false)) (upd H r (.loop N t ps aZ bd (some (some (.exit id)))))
 |.goto l,_,H=>∃N t ps aZ bd,Ao H r=some (.loop N t ps aZ bd none)/\K (.v (.bool false)) (upd H r (.loop N t ps aZ bd (some (some (.goto l)))))
 |_,_,_=>False
section
variable{P:Program}{G:Gl}{ro:Option Nat}{N:Nat}{t:Tm}{H:Hp}
def A0y{o:Oper}{c:Call}{fv:Operand}{r:Nat}{K:AV->Hp->Prop}(R:o.op=.call c)(M:c.callee=.value fv)(hf:HC G t fv=.yl r){D:Nat}{t':Tm}{ps:Array Tmp}{args:Is}(m:c.args.toList.map (HC G t)=args)(hl:Ao H r=some (.loop D t' ps aZ bd (some none)))(ae:ps.size=args.length)(ad:∀p∈ps.toList,p<D)(h:∀b,NC P G (some b) (Ay H) D aZ (A55 (λt1 H1=>∃N1 k j g i,Ao H1 r=some (.loop N1 k j g i (some none))/\NC P G (some b) (Ay H) D bd (B3v r K) t1 (upd H1 r (.loop N1 k j g i none))) (λ_ _ _=>False)) (oX t' ps.toList args) H):Qx P G ro N o t H K:=by
 intro w0 s0 C a w Q s;have hv:=AJ s fv;rw[hf]at hv;generalize hy:a.eval fv=y at hv;cases hv with
 |yl L=>
 rename_i b ak;obtain⟨F,l,h1,h2,h3,h4,h5,h6,h7,h8,h9⟩:=s.rel.rows r _ hl;have e:=h1.symm.trans L;injection e with e;injection e with e;injection e with e1 J;subst e1 J
 have V:r<Ay H:=pO s.rel (by rw[L];simp);have d:=mE s c.args.toList;rw[m]at d;have A:(c.args.map a.eval).size=l.params.size:=by
  have:=d.1;simp at this;simp[h6,ae,this]
 refine⟨λf _=>trivial,?_⟩;rw[Oper.semAt_eq _ _ _ (by rw[R];intro c hc;cases hc)];have X:(execOp a.eval o).run P w=.ok (.round F l.fn ((l.params.zip (c.args.map a.eval)).foldl (λtmps(t,a)=>tmps.setIfInBounds t a) l.tmps) l.assign l.body) w:=by
  simp only[execOp,R,resolve,M,hy,Deferred.ofValue,Cr,Zn,Eu,invoke];have:=run_yield (P:=P) (w:=w) (args:= #[]++c.args.map a.eval) h2 (by simpa using A);simpa using this
 rw[X];refine⟨λhd=>by simp[mJ]at hd,?_⟩;have ht:=A2a (C:=C) (w:=w) l.params.toList args (c.args.toList.map a.eval) t' l.tmps (λp L=>by rw[h5];exact ad p (h6▸L)) d h9;have ah:(l.params.zip (c.args.map a.eval)).foldl (λtmps(x:Tmp×Value)=>match x with|(t,a)=>tmps.setIfInBounds t a) l.tmps=(l.params.toList.zip (c.args.toList.map a.eval)).foldl (λt(p:Tmp×Value)=>t.setIfInBounds p.1 p.2) l.tmps:=by
  have hz:(l.params.zip (c.args.map a.eval)).foldl (λtmps(p:Tmp×Value)=>tmps.setIfInBounds p.1 p.2) l.tmps=(l.params.toList.zip (c.args.toList.map a.eval)).foldl (λt(p:Tmp×Value)=>t.setIfInBounds p.1 p.2) l.tmps:=by
   rw[<-Array.foldl_toList];simp
  exact hz
 refine roundIn_of_wpIn trivial ?_;rw[ah,h7,h8];have ai:St G w0 0 C D (oX t' ps.toList args) H {tmps:=(l.params.toList.zip (c.args.toList.map a.eval)).foldl (λt(p:Tmp×Value)=>t.setIfInBounds p.1 p.2) l.tmps,defers:=[]} w:=
  ⟨s.rel,by rw[ht.2];exact h5,by rw[<-h6];exact ht.1,.nil,xQ _⟩
 refine wpIn_mono (h F w0 0 C _ w ai) ?_;rintro e a1 w1 ⟨C1,t1,H1,s1,x1,q1⟩;cases e with
 |normal=>
  obtain⟨N1,k,j,g,i,aa,n⟩:=q1;have q:C1.π r=some (some (F,0)):=(x1.π r V (by rw[L];simp)).trans L;obtain⟨l1,g1,g2,g3,g4,g5,g6,g7,g8,Y⟩:=s1.rel.set_loop (pend':=none) (O:=w0.own) aa q;obtain⟨af,J⟩:=Y {l1 with state:=.busy} rfl (by rw[g3];rfl) rfl rfl rfl rfl;refine⟨_,run_beginRound g1 g2,?_⟩;have st2:St G w0 0 C1 D t1 (upd H1 r (.loop N1 k j g i none)) a1 (w1.putObj F (.loop {l1 with state:=.busy})):=⟨af,s1.size,s1.tmps.mono J,s1.defers.mono J.B J.keepB,xQ _⟩
  refine wpIn_mono (n w0 0 C1 a1 _ st2) ?_;rintro e a3 w3 ⟨C3,t3,H3,s3,x3,q3⟩;have ac:C3.π r=some (some (F,0)):=(x3.π r V (by rw[q];simp)).trans q;have aj:Frm (Ay H) w0.own C w C3 w3:=(x1.trans J.frm).trans x3;have fin:∀jump:Option Code,(∃N t ps aZ bd,Ao H3 r=some (.loop N t ps aZ bd none)/\K (.v (.bool jump.isNone)) (upd H3 r (.loop N t ps aZ bd (some jump))))->
   ∃v w4,(Instr.endRound F jump).run P w3=.ok v w4/\∃Z y C' H',a.put o.dst v=a.put o.dst y/\K Z H'/\VRel C' w4 Z y/\Rel G w0 C' H' w4/\Ext w0.own C w C' w4:=by
   rintro jump ⟨N3,aq,ap,am,ao,ab,hK⟩;obtain⟨l3,k1,k2,k3,k4,k5,k6,k7,k8,u⟩:=s3.rel.set_loop (pend':=some jump) (O:=w0.own) ab ac;obtain⟨ag,e4⟩:=u {l3 with state:=if jump.isNone then .ready else .done,pending:=jump} (by cases jump<;>rfl) rfl rfl rfl rfl rfl;exact⟨_,_,run_endRound jump k1,_,_,C3,_,rfl,hK,.v _,ag,(aj.trans e4.frm).ext_of s.rel⟩
  cases e with
  |normal=>exact fin none q3
  |ret=>exact fin (some .ret) q3
  |exit id=>exact fin (some (.exit id)) q3
  |goto l=>exact fin (some (.goto l)) q3
  |panic ch=>exact q3.elim
  |outgrown=>exact q3.elim
 |_=>exact q1.elim
def A0w{m:Nat}{Q:Exit->Tm->Hp->Prop}{g:Operand}{ps:Array Tmp}{f:FuncId}{first cap:Is}(hg:HC G t g=.fn (.func f) first cap){fn:Func}(aq:P.funcs[f]?=some fn)(F:fn.body.isNone=false)(K:(fn.name== "runtime.NumGoroutine")=false)(h:Oa P G f (first++[.yl (Ay H)]++cap) ((Ay H,.loop N t ps aZ bd (some none))::H) (λ_ H2=>∃N' t' aj V X d,Ao H2 (Ay H)=some (.loop N' t' aj V X (some d))/\B3y Q t (cut H2 (Ay H)) d)):NC P G none m N (.rangeFunc g ps aZ bd) Q t H:=by
 intro w0 s0 C a w s;refine wpIn_rangeFunc ?_;intro aa _;have hv:=AJ s g;rw[hg]at hv;obtain⟨ys,zs,he,ax,ay⟩:=GL.1 hv;have af:=KT w (.deferred (some []));have k:(w.alloc (.deferred (some []))).heap.size=w.heap.size+1:=World.size_alloc _ _;have rD:Rel G w0 C H (w.alloc (.deferred (some []))):=s.rel.of_below af;have A:(w.alloc (.deferred (some []))).heap[w.heap.size]?=some (.deferred (some [])):=World.alloc_heap_new w _;obtain⟨ak,am⟩:=rD.addB (b:=w.heap.size) (by rw[k];omega) (.inl s.rel.below.size) (λr x o hx hp=>l1g _ ((s.rel.rows r x hx).block (Dr hx) hp));have eD:Ext w0.own C w (C.addB w.heap.size) (w.alloc (.deferred (some []))):=(s.rel.ext_below af).trans am;obtain⟨lp,i⟩:∃lp:Loop,lp={state:=.ready,pending:=none,fn:=aa,tmps:=a.tmps,params:=ps,assign:=aZ,body:=bd,defers:=w.heap.size}:=⟨_,rfl⟩
 have D:=KT (w.alloc (.deferred (some []))) (.loop lp);have eL:Ext w0.own (C.addB w.heap.size) (w.alloc (.deferred (some []))) ((C.addB w.heap.size).put (Ay H) (some ((w.alloc (.deferred (some []))).heap.size,0))) ((w.alloc (.deferred (some []))).alloc (.loop lp)):=ak.new_ext D;have j:((w.alloc (.deferred (some []))).alloc (.loop lp)).heap[(w.alloc (.deferred (some []))).heap.size]?=some (.loop lp):=World.alloc_heap_new _ _;have L:=eD.trans eL;have r1:=ak.new_row (x:=.loop N t ps aZ bd (some none)) D ⟨_,lp,Ctx.put_n _ _ _,j,by rw[i];rfl,by rw[i];rfl,by rw[i];exact s.size,by rw[i],by rw[i],by rw[i],(show lp.tmps=a.tmps by rw[i])▸s.tmps.mono L⟩;generalize ac:(C.addB w.heap.size).put (Ay H) (some ((w.alloc (.deferred (some []))).heap.size,0))=R at r1 L;generalize ad:(w.alloc (.deferred (some []))).alloc (.loop lp)=q at r1 L j;have ai:R.π (Ay H)=some (some (w.heap.size+1,0)):=by rw[<-ac,Ctx.put_n,k]
 have ab:R.B w.heap.size:=by rw[<-ac];exact .inr rfl
 have ao:q.heap[w.heap.size]?=some (.deferred (some [])):=by
  rw[<-ad];exact(D.block _ (by rw[k];omega)).trans A
 have ae:BU R q (first++[.yl (Ay H)]++cap) (ys++[.func (.yield (w.heap.size+1)) #[] #[]]++zs):=((ax.mono L).append (.cons (.yl ai) .nil)).append (ay.mono L);have J:=h w0 R q _ r1 ae;refine⟨w.heap.size+1,[{target:=.collected w.heap.size,args:= #[]}],q,{target:=.fn (.func f) zs.toArray,args:=ys.toArray++ #[Value.func (.yield (w.heap.size+1)) #[] #[]]},q,f,(ys++[Value.func (.yield (w.heap.size+1)) #[] #[]]++zs).toArray,q,?_,?_,λ_ _=>trivial,?_,λhd=>by simp[mJ]at hd,?_⟩
 ·rw[<-ad,i];exact run_enterLoop_outer _ _ _ _ _
 ·simp only[resolve,rangeCall,he,Deferred.ofValue,Zn];simp[Act.eval]
 ·simp only[invoke,callFunc,Cr,run_program,Eu,aq,K,F,mL,if_false,Zn]
  congr 2
  apply fB;simp
 ·refine CallsIn.mono (callsIn_wide.2 J) ?_;rintro e w2 ⟨v,y,n,H2,rfl,r2,az,x2,N',t',aj,V,X,d,ag,hq⟩;have u:Ext w0.own R q n w2:=x2.ext_of r1;have ah:n.π (Ay H)=some (some (w.heap.size+1,0)):=u.at ai;obtain⟨b',M,k1,k2,k3,k4,_⟩:=r2.rows (Ay H) _ ag;have Y:=k1.symm.trans ah;injection Y with Y;injection Y with Y;injection Y with e3 e4;subst e3
  have ar:=(l1q.1 k2).1;obtain⟨r3,Z⟩:=r2.set_obj (O:=w0.own) (y:=.gone) ag ah (SameObj.putObj ar (.loop {M with state:=.exhausted})) (λarr T fz hc=>by rw[k2]at hc;cases hc) (λ_=>trivial);have ex:Ext w0.own C w n (w2.putObj (w.heap.size+1) (.loop {M with state:=.exhausted})):=(L.trans u).trans Z;have p:=u.trans Z;have ap:DOk w0 s0 n (w2.putObj (w.heap.size+1) (.loop {M with state:=.exhausted})) (sT w.heap.size::a.defers):=by
   obtain⟨bs,d1,d2,d3⟩:=s.defers;refine⟨w.heap.size::bs,List.nodup_cons.2 ⟨λhm=>l1g _ (s.rel.finB _ (d3 _ hm).2.2.1),d1⟩,by rw[d2];rfl,λb hb=>?_⟩;rcases Rx.1 hb with rfl|hb
   ·exact⟨s.le,.inl s.rel.below.size,p.B _ ab,(p.keepB _ ab).trans ao⟩
   ·obtain⟨g1,g2,g3,g4⟩:=d3 b hb;exact⟨g1,g2,ex.B _ g3,(ex.keepB _ g3).trans g4⟩
  have st:St G w0 s0 n N t (cut H2 (Ay H)) {a with defers:=[sT w.heap.size]++a.defers} (w2.putObj (w.heap.size+1) (.loop {M with state:=.exhausted})):=
   ⟨r3,s.size,s.tmps.mono ex,ap,WW s.le ex.grow⟩
  refine⟨d,w2.putObj (w.heap.size+1) (.loop {M with state:=.exhausted}),?_,?_⟩
  ·have:=run_endLoop (P:=P) k2 (by rw[k3];cases d<;>simp[A8p]);have hj:M.pending=d:=by rw[k4];cases d<;>rfl
   rw[this,hj]
  ·cases d with
   |none=>exact⟨n,t,_,st,ex.frm,hq⟩
   |some c=>
    cases c with
    |ret=>exact wpIn_ret ⟨n,t,_,st,ex.frm,hq⟩
    |exit id=>exact wpIn_exit ⟨n,t,_,st,ex.frm,hq⟩
    |goto l=>exact wpIn_goto ⟨n,t,_,st,ex.frm,hq⟩
    |_=>exact hq.elim
end
end
section
variable{c:Call}{s:Nat}
def Wa(x:Row)(K:Nat->Tm->Array Tmp->Code->Code->Option (Option Code)->Af):Af:=match x with|.loop N t ps d e a=>K N t ps d e a|_=>none
def FC(H:Hp)(r:Nat)(ready:Bool)(to:Option (Option Code))(K:Ru):Af:=
 IZ H r λx=>Wa x λN t ps d e a=>match ready,a with
  |true,some none=>XA5 H r (.loop N t ps d e to) K
  |false,none=>XA5 H r (.loop N t ps d e to) K
  |_,_=>none
def K_(t:Tm)(ps:List Tmp):Is->(Tm->Af)->Af:=
 @List.rec Tmp (λ_=>Tm->Is->(Tm->Af)->Af) (λt d K=>@List.rec AV (λ_=>Af) (K t) (λ_ _ _=>none) d)
  (λp _ ih t d K=>@List.rec AV (λ_=>Af) none (λa d _=>ih ((p,a)::t) d K) d) ps t
def pQ(N:Nat)(ps:List Tmp):Bool:=@List.rec Tmp (λ_=>Bool) true (λp _ ih=>@Bool.rec (λ_=>Bool) false ih (Nat.blt p N)) ps
def OB(R:Rt)(r:Nat)(args:Is)(H:Hp)(K:KV):Af:=
 IZ H r λx=>Wa x λN t ps j k d=>match d with
  |some none=>ck (pQ N ps.toList) (K_ t ps.toList args λg=>R.run ⟨true,g.map (·.1),false,N,[]⟩ j g H λe m h=>match e with
   |.normal=>FC h r true none λi=>R.run ⟨true,g.map (·.1),false,N,[]⟩ k m i λe _ f=>match e with
    |.normal=>FC f r false (some none) λa=>K (.v (.bool true)) a
    |.ret=>FC f r false (some (some .ret)) λa=>K (.v (.bool false)) a
    |.exit id=>FC f r false (some (some (.exit id))) λa=>K (.v (.bool false)) a
    |.goto l=>FC f r false (some (some (.goto l))) λa=>K (.v (.bool false)) a
    |_=>none
   |_=>none)
  |_=>none
def A3O(E:XE)(R:Rt)(f:AV)(d:Is)(H:Hp)(K:KV):Af:=
 match f with
 |.fn (.func g) first cap=>ck (E.imp g) (WJ d cap λa=>WJ first a λall=>R.call g all H K)
 |.yl r=>OB R r d H K
 |_=>none
def B6K(i:TI)(K:TypeId->Af):Af:=(λ(_:Unit)=>match i.d with|.pointer e=>K e|_=>none) FA
def B91(E:XE)(e:TypeId)(esz:Nat)(ie i2:TI)(s x:AV)(H:Hp)(K:KV):Af:=(λ(_:Unit)=>@Bool.rec (λ_=>Af) (DJ e esz ie i2 s x H K) (qT e esz ie i2 s x H K) (E.ov e)) FA
def Ud(E:XE)(R:Rt)(t:Tm)(H:Hp)(c:Call)(K:KV):Af:=
 match c.callee with
 |.value j=>HX E t j λf=>gR E t c.args.toList λh=>A3O E R f h H K
 |.builtin .append=>match c.args.toList,c.argTypes.toList with
  |[s,x],[w,y]=>HX E t s λs=>HX E t x λx=>E.ty.getK w λi1=>E.ty.getK y λi2=>rU i1 λe a=>E.ty.getK e λd=>B91 E e a d i2 s x H K
  |_,_=>none
 |.builtin .copy=>match c.args.toList,c.argTypes.toList with
  |[s,x],ty::_=>HX E t s λs=>HX E t x λx=>E.ty.getK ty λi=>rU i λ_ a=>zD a s x H K
  |_,_=>none
 |.builtin .clear=>match c.args.toList,c.argTypes.toList with
  |[s],[ty]=>HX E t s λs=>E.ty.getK ty λi=>rU i λe a=>E.ty.getK e λd=>A0j a d s H λg=>K (.tup []) g
  |_,_=>none
 |.builtin .delete=>match c.args.toList,c.argTypes.toList with
  |[m,k],ty::_=>HX E t m λm=>HX E t k λk=>E.ty.getK ty λi=>sU i λq _=>A2F E q k λu=>zA m u H λg=>K (.tup []) g
  |_,_=>none
 |.builtin .unsafeString=>match c.args.toList,c.argTypes.toList with
  |[p,n],[v,_]=>HX E t p λp=>HX E t n λn=>E.ty.getK v λi=>B6K i λe=>E.ty.getK e λd=>ckS (Nat.beq d.size 1) (A01 e p n H K)
  |_,_=>none
 |_=>none
def Xb(E:XE)(R:Rt)(t:Tm)(H:Hp)(o:Op)(K:KV):Af:=
 match o with
 |.store ty x y=>HX E t x λp=>HX E t y λv=>E.ty.getK ty λi=>DD i p v H λa=>K (.v undef) a
 |.alloc ty=>E.ty.getK ty λi=>Bc ty i H K
 |.box ty x=>HX E t x λv=>HT ty v H K
 |.buildSlice ty n parts=>E.ty.getK ty λi=>rU i λe d=>E.ty.getK e λf=>YC E t i parts.toList λl=>F4 e d f n l H K
 |.call c=>Ud E R t H c K
 |.makeSlice ty l c=>HX E t l λl=>HX E t c λc=>E.ty.getK ty λi=>rU i λe d=>E.ty.getK e λf=>eMk e d f l c H K
 |.makeMap ty none=>E.ty.getK ty λi=>sU i λ_ j=>E.ty.getK j λf=>KR f H K
 |.mapUpdate ty m k v=>HX E t m λm=>HX E t k λk=>HX E t v λv=>E.ty.getK ty λi=>sU i λg _=>A2F E g k λh=>VT m h v H λa=>K (.v undef) a
 |.insert ty m k v=>HX E t m λm=>HX E t k λk=>HX E t v λv=>E.ty.getK ty λi=>sU i λg _=>A2F E g k λh=>VT m h v H λa=>K (.v undef) a
 |.mapEntry ty m k=>HX E t m λm=>HX E t k λk=>E.ty.getK ty λi=>sU i λg j=>A2F E g k λh=>E.ty.getK j λf=>Ym f m h H K
 |.entryStore _ m st v=>HX E t m λm=>HX E t st λst=>HX E t v λv=>lQ m st v H λa=>K (.v undef) a
 |.range ty x=>HX E t x λm=>E.ty.getK ty λi=>sU i λ_ _=>lO m H K
 |.next it false=>HX E t it λv=>Yk v H K
 |_=>none
section
variable{D:XE->Cf->Nat->List Oper->Bool}{E:XE}{P:Program}{R:Rt}{t:Tm}{H:Hp}{r:AV×Hp}{ro:Option Nat}{N:Nat}
def WB{x:Row}{K:Nat->Tm->Array Tmp->Code->Code->Option (Option Code)->Af}(h:Wa x K=some r):∃N t ps d e a,x=.loop N t ps d e a/\K N t ps d e a=some r:=by
 unfold Wa at h;split at h
 ·exact⟨_,_,_,_,_,_,rfl,h⟩
 ·cases h
def Lh{ready:Bool}{to:Option (Option Code)}{K:Ru}(h:FC H s ready to K=some r):
 ∃N t ps a d,Ao H s=some (.loop N t ps a d (if ready then some none else none))/\K (upd H s (.loop N t ps a d to))=some r:=by
 unfold FC at h;obtain⟨x,h1,h2⟩:=FR rfl h;obtain⟨N,t,ps,a,d,f,rfl,e⟩:=WB h2;clear h h2;have h:=e;clear e;split at h
 ·rw[CX]at h;exact⟨N,t,ps,a,d,h1,h⟩
 ·rw[CX]at h;exact⟨N,t,ps,a,d,h1,h⟩
 ·cases h
def vW:∀(ps:List Tmp)(t:Tm)(d:Is)(K:Tm->Af),K_ t ps d K=some r->ps.length=d.length/\K (oX t ps d)=some r:=by
 intro ps
 induction ps with
 |nil=>
  intro t d K h;cases d with
  |nil=>exact⟨rfl,h⟩
  |cons a d=>cases h
 |cons p ps ih=>
  intro t d K h;cases d with
  |nil=>cases h
  |cons a d=>
   obtain⟨h1,h2⟩:=ih ((p,a)::t) d K h;exact⟨by simpa using h1,h2⟩
def A2y{ps:List Tmp}(h:pQ N ps=true):∀p∈ps,p<N:=by
 induction ps with
 |nil=>intro p a;simp at a
 |cons q ps ih=>
  have e:pQ N (q::ps)=@Bool.rec (λ_=>Bool) false (pQ N ps) (Nat.blt q N):=rfl;rw[e]at h;cases hq:Nat.blt q N
  ·rw[hq]at h;cases h
  ·rw[hq]at h;intro p a;rcases Rx.1 a with rfl|a
   ·rwa[Ua]at hq
   ·exact ih h p a
def Sj(m:RSound D E P R){o:Oper}{j:Operand}{K:KV}(B:o.op=.call c)(a:c.callee=.value j)(y:HC E.G t j=.yl s)(h:OB R s (c.args.toList.map (HC E.G t)) H K=some r):Qx P E.G ro N o t H (λv p=>K v p=some r):=by
 unfold OB at h;obtain⟨x,A,h2⟩:=FR rfl h;obtain⟨L,O,ps,u,w,n,rfl,k⟩:=WB h2;clear h h2;have h:=k;clear k;split at h
 ·obtain⟨h1,h⟩:=Bb h;obtain⟨h2,h⟩:=vW _ _ _ _ h;refine A0y B a y rfl A (by simpa using h2) (A2y h1) λb=>?_;refine NC.mono (m.run (some b) _ u _ H _ r (Ay H) (λ_=>rfl) (λh=>by cases h) h) λe Q F hq=>?_;cases e with
  |normal=>
   obtain⟨q,C,i,d,f,g,hq⟩:=Lh hq;refine⟨q,C,i,d,f,g,NC.mono (m.run (some b) _ w _ _ _ r (Ay H) (λ_=>rfl) (λh=>by cases h) hq) λe V J hq=>?_⟩;cases e with
   |normal=>exact Lh hq
   |ret=>exact Lh hq
   |exit id=>exact Lh hq
   |goto l=>exact Lh hq
   |panic M=>cases hq
   |outgrown=>cases hq
  |_=>cases hq
 ·cases h
def wr(e:XE.Ok D E P){o:Oper}{v:AV}{a:Hp}{K:KV}(g:∀c,o.op≠.defer c)(h:A7A (E.env P) o.op t H (Ay H) (λi d=>i=v/\d=a))(f:K v a=some r):Qx P E.G ro N o t H (λv a=>K v a=some r):=
 Qx.mono (Rv g (H! (E:=E.env P) e.env h)) (by rintro _ _ ⟨rfl,rfl⟩;exact f)
def A70{o:Oper}{K:AV->Hp->Prop}{e:Hp}(d:∀{G:Gl}{w0:Base}{C:Ctx}{w:World},Rel G w0 C H w->Rel G w0 C e w)(h:Qx P E.G ro N o t e K):Qx P E.G ro N o t H K:=
 λw0 f C a w Q s=>h w0 f C a w Q ⟨d s.rel,s.size,s.tmps,s.defers,s.le⟩
def NW{o:Oper}{K:KV}(i:∀c,o.op≠.defer c)(h:∀(w0:Base)(s0:Nat)(C:Ctx)(N:Nat)(a:Act)(w:World),St E.G w0 s0 C N t H a w->∃v d y f e,K v d=some r/\((execOp a.eval o).run P w=.ok (.value y) e\/((execOp a.eval o).run P w=.ok .skip e/\y=undef))/\It E.G w0 C w v d y f e):Qx P E.G ro N o t H (λv d=>K v d=some r):=
 Rv i λw0 s0 C N a w s=>let⟨v,d,y,f,e,h1,h2,g⟩:=h w0 s0 C N a w s;⟨v,d,y,f,e,h1,h2,g.1,g.2.1,g.2.2⟩
def Jv(y:XE.Ok D E P)(hR:RSound D E P R){o:Oper}(Q:o.op=.call c){K:KV}(h:Ud E R t H c K=some r):Qx P E.G ro N o t H (λv A=>K v A=some r):=by
 have nd:∀c,o.op≠.defer c:=λc hc=>by rw[Q]at hc;cases hc
 unfold Ud at h;split at h
 ·rename_i fv d;have h:=OD y _ _ (AK y h);unfold A3O at h;split at h
  ·rename_i g first cap hf;obtain⟨_,h⟩:=Bb h;rw[LB,LB,<-fW]at h;obtain⟨⟨fn,h1,h2,J⟩,hc⟩:=hR.call _ _ _ _ _ h;exact PW Q d hf h1 h2 J hc
  ·rename_i s hf;exact Sj hR Q d hf h
  ·cases h
 ·rename_i d;split at h
  ·rename_i s x t1 t2 O j;obtain⟨i1,ab,h⟩:=AL (AK y (AK y h));obtain⟨i2,ac,h⟩:=AL h;obtain⟨e,B,L,h⟩:=O0 h;obtain⟨Z,F,h⟩:=AL h;have main:DJ e B Z i2 (HC E.G t s) (HC E.G t x) H K=some r->Qx P E.G ro N o t H (λv A=>K v A=some r):=λh=>by
    unfold DJ at h;obtain⟨H1,h,aj,M⟩:=iK h;obtain⟨v,A,hK,Y⟩:=qU (T:=E.T) ab ac L F h;refine A70 M ?_;exact wr y nd (by rw[Q];simp only[A7A,d,O,j];exact Y) hK
   change @Bool.rec (λ_=>Af) (DJ e B Z i2 (HC E.G t s) (HC E.G t x) H K) (qT e B Z i2 (HC E.G t s) (HC E.G t x) H K) (E.ov e)=some r at h;cases ad:E.ov e
   ·rw[ad]at h;exact main h
   rw[ad]at h;change qT e B Z i2 (HC E.G t s) (HC E.G t x) H K=some r at h;unfold qT at h;split at h
   rotate_left
   ·exact main h
   rename_i sz r1 o1 n1 ak;obtain⟨m,ys,q,ae,h⟩:=V3 h;obtain⟨H1,h,aj,M⟩:=iK h;obtain⟨v,A,hK,Y⟩:=qU (T:=E.T) ab ac L F h;refine NW nd λw0 s0 C N a w st=>?_;have af:=AJ st x;rw[ak]at af;obtain⟨v,A,u,C',V,⟨h1,h2⟩,J,h4⟩:=Ue (P:=P) (ty:=o.type) (ts:=c.argTypes) (T:=E.T) y.ty (t1:=t1) (t2:=t2) (by rw[<-B',j];rfl) (by rw[<-B',j];rfl) (M st.rel) (AJ st s) (z:=a.eval x) (λao m' ap q' ha ai _=>by
    injection ha with ha
    injection ha with e1 e2
    injection e2 with e2 e3
    subst e1 e2 e3;exact Tw st.rel af (q:=q) ae ai (λs hs=>by cases hs)) Y
   subst h1 h2;refine⟨v,A,u,C',V,hK,.inl ?_,h4⟩;have f:c.args.map a.eval= #[a.eval s,a.eval x]:=by apply fB;simp[O]
   rw[Gf Q _ d,f];show(do pure (Next.value (<-Builtin.append_ c.argTypes o.type #[a.eval s,a.eval x]))).run P w=_;rw[Cr,J];rfl
  ·cases h
 ·rename_i d;split at h
  ·rename_i s x ty am O j;obtain⟨i,X,h⟩:=AL (AK y (AK y h));obtain⟨e,B,L,h⟩:=O0 h;refine NW nd λw0 s0 C N a w st=>?_;obtain⟨v,A,u,V,h1,h2,J⟩:=A0g (P:=P) (T:=E.T) (ty:=o.type) (ts:=c.argTypes) y.ty (by rw[<-B',j];rfl) X L (y.pos ty i e B X (.inl L)) st.rel (AJ st s) (AJ st x) h;refine⟨v,A,u,C,V,h1,.inl ?_,J⟩;have f:c.args.map a.eval= #[a.eval s,a.eval x]:=by apply fB;simp[O]
   rw[Gf Q _ d,f];show(do pure (Next.value (<-Builtin.copy_ c.argTypes o.type #[a.eval s,a.eval x]))).run P w=_;rw[Cr,h2];rfl
  ·cases h
 ·rename_i d;split at h
  ·rename_i s ty O j;obtain⟨i,X,h⟩:=AL (AK y h);obtain⟨e,B,L,h⟩:=O0 h;obtain⟨Z,F,h⟩:=AL h;refine NW nd λw0 s0 C N a w st=>?_;obtain⟨A,V,h1,h2,J,h4⟩:=A0i (P:=P) (T:=E.T) (ty:=o.type) (ts:=c.argTypes) y.ty (by rw[<-B',j];rfl) X L F st.rel (AJ st s) h;refine⟨_,A,.tuple #[],C,V,h1,.inl ?_,CD.2 ⟨[],rfl,.nil⟩,J,h4⟩;have f:c.args.map a.eval= #[a.eval s]:=by apply fB;simp[O]
   rw[Gf Q _ d,f];show(do pure (Next.value (<-Builtin.clear_ c.argTypes o.type #[a.eval s]))).run P w=_;rw[Cr,h2];rfl
  ·cases h
 ·rename_i d;split at h
  ·rename_i m k ty am O j;obtain⟨i,X,h⟩:=AL (AK y (AK y h));obtain⟨kt,et,L,h⟩:=MG h;obtain⟨kv,hk,h,ah⟩:=RR y h;refine NW nd λw0 s0 C N a w st=>?_;obtain⟨A,V,h1,h2,J,h4⟩:=yZ (P:=P) (ty:=o.type) (ts:=c.argTypes) (by rw[<-B',j];rfl) (MF y X L) hk st.rel (AJ st m) h;refine⟨_,A,.tuple #[],C,V,h1,.inl ?_,CD.2 ⟨[],rfl,.nil⟩,J,h4⟩;have f:c.args.map a.eval= #[a.eval m,kv]:=by apply fB;simp[O,ah (AJ st k)]
   rw[Gf Q _ d,f];show(do pure (Next.value (<-Builtin.delete_ c.argTypes o.type #[a.eval m,kv]))).run P w=_;rw[Cr,h2];rfl
  ·cases h
 ·rename_i d;split at h
  ·rename_i p n pt it O j;obtain⟨i,X,h⟩:=AL (AK y (AK y h));unfold B6K at h;split at h
   ·rename_i e L;obtain⟨Z,F,h⟩:=AL h;obtain⟨ag,h⟩:=Jt h;refine NW nd λw0 s0 C N a w st=>?_;obtain⟨v,A,u,V,h1,h2,J⟩:=A00 (P:=P) (T:=E.T) (it:=it) (ty:=o.type) y.ty X L F (VQ ag) st.rel (AJ st p) (AJ st n) h;refine⟨v,A,u,C,V,h1,.inl ?_,J⟩;have f:c.args.map a.eval= #[a.eval p,a.eval n]:=by apply fB;simp[O]
    have aa:c.argTypes= #[pt,it]:=by apply fB;simp[j]
    rw[Gf Q _ d,f,aa];show(do pure (Next.value (<-Builtin.unsafeString_ #[pt,it] o.type #[a.eval p,a.eval n]))).run P w=_;rw[Cr,h2];rfl
   ·cases h
  ·cases h
 ·cases h
def FJ(f:XE.Ok D E P)(hR:RSound D E P R){o:Oper}{K:KV}(h:Xb E R t H o.op K=some r):Qx P E.G ro N o t H (λv g=>K v g=some r):=by
 unfold Xb at h;split at h
 all_goals try (cases h;done)
 case h_1 ty x y d=>
  obtain⟨i,j,h⟩:=AL (AK f (AK f h));obtain⟨g,J,L⟩:=A6i (T:=E.T) (ty:=ty) j h;refine Qx.mono (Rv (λc hc=>by rw[d]at hc;cases hc) (oU (E:=E.env P) (K:=λv aa=>v=.v undef/\aa=g) f.env (by rw[d];simpa [gX,XE.env] using L))) ?_;rintro _ _ ⟨rfl,rfl⟩;exact J
 case h_2 ty d=>
  obtain⟨i,j,h⟩:=AL h;obtain⟨v,g,J,L⟩:=zJ (T:=E.T) j h;exact wr f (λc hc=>by rw[d]at hc;cases hc) (by rw[d];exact L) J
 case h_3 ty x d=>
  obtain⟨v,g,J,L⟩:=A34 (ty:=ty) (AK f h);exact wr f (λc hc=>by rw[d]at hc;cases hc) (by rw[d];exact L) J
 case h_4 ty n parts d=>
  obtain⟨i,j,h⟩:=AL h;obtain⟨e,ab,A,h⟩:=O0 h;obtain⟨Y,B,h⟩:=AL h;obtain⟨l,h1,h2⟩:=Uc f _ _ h;obtain⟨v,g,J,L⟩:=A6y (T:=E.T) (ps:=parts.toList.map λp=>(p.1,HC E.G t p.2)) j A B (by rw[<-h2];simp[Oi,A]) h1;exact wr f (λc hc=>by rw[d]at hc;cases hc) (by rw[d];exact L) J
 case h_5 c d=>exact Jv f hR d h
 case h_6 ty l c d=>
  obtain⟨i,j,h⟩:=AL (AK f (AK f h));obtain⟨e,ab,A,h⟩:=O0 h;obtain⟨Y,B,h⟩:=AL h;refine Rv (λc hc=>by rw[d]at hc;cases hc) λw0 M C N a w s=>?_;obtain⟨v,g,y,O,q,J,X,hv,hr,L⟩:=A2X (P:=P) (T:=E.T) f.ty j A B (AJ s l) (AJ s c) s.rel h;refine⟨v,g,y,O,q,J,.inl ?_,hv,hr,L⟩;simp only[execOp,d];rw[Cr,X];rfl
 case h_7 ty d=>
  obtain⟨i,j,h⟩:=AL h;obtain⟨Z,Q,A,h⟩:=MG h;obtain⟨Y,B,h⟩:=AL h;refine NW (λc hc=>by rw[d]at hc;cases hc) λw0 M C N a w st=>?_;obtain⟨v,g,y,O,q,h1,h2,u⟩:=yV (P:=P) (ty:=ty) st.rel h;refine⟨v,g,y,O,q,h1,.inl ?_,u⟩;simp only[execOp,d];have:(Instr.makeMap ty (Option.map a.eval none)).run P w=.ok y q:=h2;rw[Cr,this];rfl
 case h_8 ty m k v d=>
  obtain⟨i,j,h⟩:=AL (AK f (AK f (AK f h)));obtain⟨Z,Q,A,h⟩:=MG h;obtain⟨kv,hk,h,F⟩:=RR f h;refine NW (λc hc=>by rw[d]at hc;cases hc) λw0 M C N a w st=>?_;obtain⟨g,q,h1,h2,u,V⟩:=lP (P:=P) (MF f j A) hk st.rel (AJ st m) (AJ st v) h;refine⟨_,g,undef,C,q,h1,.inr ⟨?_,rfl⟩,.v _,u,V⟩;simp only[execOp,d];rw[Cr,F (AJ st k),h2];rfl
 case h_9 ty m k v d=>
  obtain⟨i,j,h⟩:=AL (AK f (AK f (AK f h)));obtain⟨Z,Q,A,h⟩:=MG h;obtain⟨kv,hk,h,F⟩:=RR f h;refine NW (λc hc=>by rw[d]at hc;cases hc) λw0 M C N a w st=>?_;obtain⟨g,q,h1,h2,u,V⟩:=lP (P:=P) (MF f j A) hk st.rel (AJ st m) (AJ st v) h;refine⟨_,g,undef,C,q,h1,.inr ⟨?_,rfl⟩,.v _,u,V⟩;simp only[execOp,d];rw[Cr,F (AJ st k),h2];rfl
 case h_10 ty m k d=>
  obtain⟨i,j,h⟩:=AL (AK f (AK f h));obtain⟨Z,Q,A,h⟩:=MG h;obtain⟨kv,hk,h,F⟩:=RR f h;obtain⟨Y,B,h⟩:=AL h;refine NW (λc hc=>by rw[d]at hc;cases hc) λw0 M C N a w st=>?_;obtain⟨v,g,y,q,h1,h2,u⟩:=yY (P:=P) (MF f j A) (f.ty Q Y B) hk st.rel (AJ st m) h;refine⟨v,g,y,C,q,h1,.inl ?_,u⟩;simp only[execOp,d];rw[Cr,F (AJ st k),h2];rfl
 case h_11 ty m s v d=>
  have h:=AK f (AK f (AK f h));refine NW (λc hc=>by rw[d]at hc;cases hc) λw0 M C N a w st=>?_;obtain⟨g,q,h1,h2,u,V⟩:=yU (P:=P) (mt:=ty) st.rel (AJ st m) (AJ st s) (AJ st v) h;refine⟨_,g,undef,C,q,h1,.inr ⟨?_,rfl⟩,.v _,u,V⟩;simp only[execOp,d];rw[Cr,h2];rfl
 case h_12 ty x d=>
  obtain⟨i,j,h⟩:=AL (AK f h);obtain⟨Z,Q,A,h⟩:=MG h;refine NW (λc hc=>by rw[d]at hc;cases hc) λw0 M C N a w st=>?_;obtain⟨v,g,y,O,q,h1,h2,u⟩:=A07 (P:=P) (MF f j A) st.rel (AJ st x) h;refine⟨v,g,y,O,q,h1,.inl ?_,u⟩;simp only[execOp,d];rw[Cr,h2];rfl
 case h_13 it d=>
  have h:=AK f h;refine NW (λc hc=>by rw[d]at hc;cases hc) λw0 M C N a w st=>?_;obtain⟨v,g,y,q,h1,h2,u⟩:=A09 (P:=P) (ty:=o.type) st.rel (AJ st it) h;refine⟨v,g,y,C,q,h1,.inl ?_,u⟩;simp only[execOp,d];rw[Cr,h2];rfl
end
end
section
variable{K:KV}{d:Option Tmp}
def A2Q(b:Bool)(all:Is)(H:Hp)(K:KV)(x:Af):Af:=
 (λ(_:Unit)=>match b with
  |true=>(match all with|[v]=>K v H|_=>none)
  |false=>x) FA
def Dk(E:XE)(R:Rt)(f:AV)(c:Is)(H:Hp)(K:KV):Af:=
 match f with
 |.fn (.func g) first cap=>Vb c cap λa=>Vb first a λall=>A2Q (E.ne g) all H K (@Bool.rec (λ_=>Af) (zpm E g R all H λv=>K v H) (R.call g all H K) (E.imp g))
 |.yl r=>OB R r c H K
 |_=>none
def rE(E:XE)(R:Rt)(f:AV)(c:Is)(H:Hp)(K:KV):Af:=
 match f with
 |.fn (.func g) first cap=>Vb c cap λa=>Vb first a λall=>A2Q (E.ne g) all H K (@Bool.rec (λ_=>Af) (zpm E g R all H λv=>K v H) (@Bool.rec (λ_=>Af) (R.call g all H K) (Ak R g all H λv=>K v H) (E.lm g)) (E.imp g))
 |.yl r=>OB R r c H K
 |_=>none
def G'(E:XE)(R:Rt)(fz:Bool)(t:Tm)(H:Hp)(c:Call)(K:KV):Af:=
 match c.callee with
 |.value e=>HX E t e λf=>gR E t c.args.toList λa=>@Bool.rec (λ_=>Af) (Dk E R f a H K) (rE E R f a H K) fz
 |.builtin .append=>Ud E R t H c K
 |.builtin .copy=>Ud E R t H c K
 |.builtin .clear=>Ud E R t H c K
 |.builtin .delete=>Ud E R t H c K
 |.builtin .unsafeString=>Ud E R t H c K
 |.builtin _=>rG E R t H c λv=>K v H
 |_=>none
def B0Q:TD->Bool
 |.string=>true
 |_=>false
def zcv(E:XE)(R:Rt)(t:Tm)(H:Hp)(s d:TypeId)(x:Operand)(K:KV):Af:=
 E.ty.getK s λi=>E.ty.getK d λj=>(λ(_:Unit)=>match j.d with
  |.slice e _=>ckS (B0Q i.d) (E.ty.getK e λc=>ckS (X? c.d) (HX E t x λa=>yS e a H K))
  |_=>OC E R t H (.convert s d x) λv=>K v H) FA
def A!(E:XE)(R:Rt)(fz:Bool)(t:Tm)(H:Hp)(o:Op)(K:KV):Af:=
 match o with
 |.call c=>G' E R fz t H c K
 |.store a b c=>Xb E R t H (.store a b c) K
 |.alloc a=>Xb E R t H (.alloc a) K
 |.box a b=>Xb E R t H (.box a b) K
 |.makeSlice a b c=>Xb E R t H (.makeSlice a b c) K
 |.makeMap a b=>Xb E R t H (.makeMap a b) K
 |.mapUpdate a b c d=>Xb E R t H (.mapUpdate a b c d) K
 |.insert a b c d=>Xb E R t H (.insert a b c d) K
 |.mapEntry a b c=>Xb E R t H (.mapEntry a b c) K
 |.entryStore a b c d=>Xb E R t H (.entryStore a b c d) K
 |.range a b=>Xb E R t H (.range a b) K
 |.next a b=>Xb E R t H (.next a b) K
 |.convert a b c=>zcv E R t H a b c K
 |.buildSlice a b c=>@Bool.rec (λ_=>Af) (Xb E R t H (.buildSlice a b c) K) (OC E R t H (.buildSlice a b c) λv=>K v H) (fz&& !Nat.beq b 0)
 |o=>OC E R t H o λv=>K v H
def gdV(want:Bool)(v:AV)(K:Bool->Af):Af:=
 match v with
 |.v (.bool b)=>@Bool.rec (λ_=>Af) (@Bool.rec (λ_=>Af) (K true) (K false) b) (@Bool.rec (λ_=>Af) (K false) (K true) b) want
 |.dk=>none
 |_=>K false
def gdK(all:List Oper)(t:Tm)(g:Option (Nat×Bool))(K:Bool->Af):Af:=
 match g with
 |none=>K true
 |some (j,want)=>match all[j]? with
  |some p=>match p.dst with
   |some d=>B? t d λv=>gdV want v K
   |none=>K false
  |none=>K false
def zK(N:Nat)(d:Option Tmp)(K:Af):Af:=(λ(_:Unit)=>match d with|some d=>ckS (Nat.blt d N) K|none=>K) FA
def NN(t:Tm)(d:Option Tmp)(v:AV)(K:Tm->Af):Af:=(λ(_:Unit)=>match d with|some d=>K ((d,v)::t)|none=>K t) FA
def A2K(g:Option (Nat×Bool))(x y:Af):Af:=(λ(_:Unit)=>match g with|none=>x|some _=>y) FA
def DF(a:Af)(K:KV):Af:=match a with|some (v,H)=>K v H|none=>none
def A1K(E:XE)(R:Rt)(fz:Bool)(N:Nat)(all:List Oper)(l:List Oper):Tm->Hp->(Tm->Ru)->Af:=
 @List.rec Oper (λ_=>Tm->Hp->(Tm->Ru)->Af) (λt H K=>K t H)
  (λo _ ih t H K=>zK N o.dst (A2K o.guard (A! E R fz t H o.op λv a=>NN t o.dst v λc=>ih c a K)
   (DF (gdK all t o.guard λg=>@Bool.rec (λ_=>Af) (some (.v undef,H)) (A! E R fz t H o.op λv a=>some (v,a)) g) λv a=>NN t o.dst v λc=>ih c a K))) l
section
variable{D:XE->Cf->Nat->List Oper->Bool}{E:XE}{P:Program}{R:Rt}{t:Tm}{H:Hp}{r:AV×Hp}{ro:Option Nat}{N m:Nat}{fz:Bool}
def rH(n:XE.Ok D E P)(i:RSound D E P R){o:Oper}{c:Call}(f:o.op=.call c)(h:G' E R fz t H c K=some r):Qx P E.G ro N o t H (λv x=>K v x=some r):=by
 unfold G' at h;split at h
 ·rename_i u a;have h:=OD n _ _ (AK n h);cases fz
  ·have h:Dk E R (HC E.G t u) ([]++c.args.toList.map (HC E.G t)) H K=some r:=h;unfold Dk at h;split at h
   ·rename_i g first cap j;rw[Ki,Ki,<-fW]at h;cases e:E.ne g
    rotate_left
    ·rw[e]at h;unfold A2Q at h;simp only at h;split at h
     ·rename_i v k;exact A1H (n.ne g e) f a j k h
     ·cases h
    rw[e]at h;have h:@Bool.rec (λ_=>Af) (zpm E g R (first++c.args.toList.map (HC E.G t)++cap) H λv=>K v H) (R.call g (first++c.args.toList.map (HC E.G t)++cap) H K) (E.imp g)=some r:=h;cases q:E.imp g
    ·rw[q]at h;obtain⟨⟨fn,h1,h2,p⟩,hc⟩:=XB0 i h;exact Qx.mono (PW f a j h1 h2 p hc) (by rintro _ _ ⟨rfl,h⟩;exact h)
    ·rw[q]at h;obtain⟨⟨fn,h1,h2,p⟩,hc⟩:=i.call _ _ _ _ _ h;exact PW f a j h1 h2 p hc
   ·rename_i s j;exact Sj i f a j h
   ·cases h
  ·have h:rE E R (HC E.G t u) ([]++c.args.toList.map (HC E.G t)) H K=some r:=h;unfold rE at h;split at h
   ·rename_i g first cap j;rw[Ki,Ki,<-fW]at h;cases e:E.ne g
    rotate_left
    ·rw[e]at h;unfold A2Q at h;simp only at h;split at h
     ·rename_i v k;exact A1H (n.ne g e) f a j k h
     ·cases h
    rw[e]at h;have h:@Bool.rec (λ_=>Af) (zpm E g R (first++c.args.toList.map (HC E.G t)++cap) H λv=>K v H) (@Bool.rec (λ_=>Af) (R.call g (first++c.args.toList.map (HC E.G t)++cap) H K) (Ak R g (first++c.args.toList.map (HC E.G t)++cap) H λv=>K v H) (E.lm g)) (E.imp g)=some r:=h;cases q:E.imp g
    ·rw[q]at h;obtain⟨⟨fn,h1,h2,p⟩,hc⟩:=XB0 i h;exact Qx.mono (PW f a j h1 h2 p hc) (by rintro _ _ ⟨rfl,h⟩;exact h)
    ·rw[q]at h;have h:@Bool.rec (λ_=>Af) (R.call g (first++c.args.toList.map (HC E.G t)++cap) H K) (Ak R g (first++c.args.toList.map (HC E.G t)++cap) H λv=>K v H) (E.lm g)=some r:=h;cases w:E.lm g
     ·rw[w]at h;obtain⟨⟨fn,h1,h2,p⟩,hc⟩:=i.call _ _ _ _ _ h;exact PW f a j h1 h2 p hc
     ·rw[w]at h;obtain⟨⟨fn,h1,h2,p⟩,hc⟩:=Vl i (K:=λv=>K v H) h;exact Qx.mono (PW f a j h1 h2 p hc) (by rintro _ _ ⟨rfl,h⟩;exact h)
   ·rename_i s j;exact Sj i f a j h
   ·cases h
 ·exact Jv n i f h
 ·exact Jv n i f h
 ·exact Jv n i f h
 ·exact Jv n i f h
 ·exact Jv n i f h
 ·exact Qx.mono (Xd n i f h) (by rintro _ _ ⟨rfl,h⟩;exact h)
 ·cases h
def A1R(g:XE.Ok D E P)(hR:RSound D E P R){o:Oper}{s d:TypeId}{x:Operand}(J:o.op=.convert s d x)(h:zcv E R t H s d x K=some r):Qx P E.G ro N o t H (λv y=>K v y=some r):=by
 obtain⟨i,hi,h⟩:=AL h;obtain⟨j,hj,h⟩:=AL h;simp only at h;split at h
 ·rename_i e z hd;obtain⟨p,h⟩:=Jt h;obtain⟨V,F,h⟩:=AL h;obtain⟨f,h⟩:=Jt h;have h:=AK g h;refine Rv (λc hc=>by rw[J]at hc;cases hc) λw0 s0 C N a w st=>?_;obtain⟨str,hy,v,y,Y,Z,X,hK,n,hv,hr,hx⟩:=A06 (P:=P) st.rel (AJ st x) h;refine⟨v,y,Y,Z,X,hK,.inl ?_,hv,hr,hx⟩;have B:(convert s d (a.eval x)).run P w=.ok Y X:=by
   obtain⟨u1,L,Q⟩:=(g.ty s i hi).under;obtain⟨M,_⟩:=(g.ty d j hj).elem_slice hd;obtain⟨u3,O,A⟩:=(g.ty e V F).under;have u:u3=.int .u8:=by
    cases hq:V.d with
    |int k=>
     rw[hq]at f A;cases k<;>simp[X?]at f
     cases u3<;>simp[td]at A
     rw[A]
    |_=>rw[hq]at f;simp[X?]at f
   have q:u1=.string:=by
    cases hq:i.d with
    |string=>
     rw[hq]at Q;cases u1<;>simp[td]at Q
     rfl
    |_=>rw[hq]at p;simp[B0Q]at p
   subst u q;rw[hy];unfold convert;rw[Cr,run_underlying L w];simp only[Eu];rw[Cr,run_underlying M w];simp only[Eu];rw[Cr,run_underlying O w];simp only[Eu];exact n
  simp only[execOp,J];rw[Cr,B];rfl
 ·exact Qx.mono (Qj (K:=λv=>K v H) g hR (by rw[J];exact h)) (by rintro _ _ ⟨rfl,h⟩;exact h)
def YE(e:XE.Ok D E P)(f:RSound D E P R){o:Oper}(h:A! E R fz t H o.op K=some r):Qx P E.G ro N o t H (λv g=>K v g=some r):=by
 unfold A! at h;split at h
 ·rename_i c a;exact rH e f a h
 ·rename_i a;exact FJ e f (by rw[a];exact h)
 ·rename_i a;exact FJ e f (by rw[a];exact h)
 ·rename_i a;exact FJ e f (by rw[a];exact h)
 ·rename_i a;exact FJ e f (by rw[a];exact h)
 ·rename_i a;exact FJ e f (by rw[a];exact h)
 ·rename_i a;exact FJ e f (by rw[a];exact h)
 ·rename_i a;exact FJ e f (by rw[a];exact h)
 ·rename_i a;exact FJ e f (by rw[a];exact h)
 ·rename_i a;exact FJ e f (by rw[a];exact h)
 ·rename_i a;exact FJ e f (by rw[a];exact h)
 ·rename_i a;exact FJ e f (by rw[a];exact h)
 ·rename_i a;exact A1R e f a h
 ·rename_i b _ a;cases i:fz&& !Nat.beq b 0
  all_goals rw[i]at h
  ·exact FJ e f (by rw[a];exact h)
  ·exact Qx.mono (Qj (K:=λv=>K v H) e f (by rw[a];exact h)) (by rintro _ _ ⟨rfl,h⟩;exact h)
 ·exact Qx.mono (Qj e f h) (by rintro _ _ ⟨rfl,h⟩;exact h)
def Yb{all:List Oper}{o:Oper}{K:Bool->Af}(h:gdK all t o.guard K=some r):(K true=some r/\(Ff all t o=.run\/Ff all t o=.dep true))\/(K false=some r/\(Ff all t o=.skip\/Ff all t o=.dep false)):=by
 unfold gdK at h;unfold Ff;split at h
 ·rename_i c;rw[c];exact .inl ⟨h,.inl rfl⟩
 ·rename_i j want c;rw[c];simp only;split at h
  ·rename_i p e;rw[e];simp only;split at h
   ·rename_i d a;rw[a];rw[Rf]at h;simp only;unfold gdV at h;split at h
    ·rename_i b hb;rw[hb];simp only[Rs];cases want<;>cases b
     ·exact .inl ⟨h,.inr rfl⟩
     ·exact .inr ⟨h,.inr rfl⟩
     ·exact .inr ⟨h,.inr rfl⟩
     ·exact .inl ⟨h,.inr rfl⟩
    ·cases h
    ·rename_i h1 h2;refine .inr ⟨h,.inl ?_⟩;have:Rs (F7 t d)=.skip:=by
      unfold Rs;split
      ·rename_i b hb;exact absurd hb (h1 b)
      ·rename_i hb;exact absurd hb h2
      ·rfl
     rw[this]
   ·rename_i a;rw[a];exact .inr ⟨h,.inl rfl⟩
  ·rename_i e;rw[e];exact .inr ⟨h,.inl rfl⟩
def ZG{K:Af}(h:zK N d K=some r):dok N d/\K=some r:=by
 unfold zK at h;split at h
 ·obtain⟨h1,h2⟩:=Bb h;rw[Ua]at h1;exact⟨h1,h2⟩
 ·exact⟨trivial,h⟩
def RZ{a:Af}(h:DF a K=some r):∃v c,a=some (v,c)/\K v c=some r:=by
 unfold DF at h;split at h
 ·exact⟨_,_,rfl,h⟩
 ·cases h
def Ql{v:AV}{K:Tm->Af}:NN t d v K=K (OJ t d v):=by cases d<;>rfl
def E?(y:XE.Ok D E P)(A:RSound D E P R){all:List Oper}:∀(l:List Oper)(t:Tm)(H:Hp)(K:Tm->Ru),A1K E R fz N all l t H K=some r->
 uO P E.G ro m N all.toArray l (λe i c=>e=.normal/\K i c=some r) t H:=by
 intro l
 induction l with
 |nil=>intro t H K h;exact A6Z ⟨rfl,h⟩
 |cons o l ih=>
  intro t H K h;have h:zK N o.dst (A2K o.guard (A! E R fz t H o.op λv c=>NN t o.dst v λi=>A1K E R fz N all l i c K)
   (DF (gdK all t o.guard λg=>@Bool.rec (λ_=>Af) (some (.v undef,H)) (A! E R fz t H o.op λv c=>some (v,c)) g) λv c=>NN t o.dst v λi=>A1K E R fz N all l i c K))=some r:=h
  obtain⟨p,h⟩:=ZG h;intro w0 O C a w s;have j:=mF s.tmps all o;cases f:o.guard with
  |none=>
   have k:Ff all t o=.run:=by unfold Ff;rw[f]
   rw[f]at h;have h:(A! E R fz t H o.op λv c=>NN t o.dst v λi=>A1K E R fz N all l i c K)=some r:=h;refine zW p s (j.1 k) (Qx.mono (YE y A h) λv c hk=>?_);rw[Ql]at hk;exact ih _ _ _ hk
  |some F=>
   rw[f]at h;have h:(DF (gdK all t (some F) λg=>@Bool.rec (λ_=>Af) (some (.v undef,H)) (A! E R fz t H o.op λv c=>some (v,c)) g) λv c=>NN t o.dst v λi=>A1K E R fz N all l i c K)=some r:=h;rw[<-f]at h;obtain⟨v,B,J,n⟩:=RZ h;rw[Ql]at n;rcases Yb J with⟨h1,h2⟩|⟨h1,h2⟩
   ·have x:Region.wanted o (yielded all.toArray a.tmps)=true:=by
     rcases h2 with h2|h2
     ·exact j.1 h2
     ·exact j.2.2 _ h2
    refine zW p s x (Qx.mono (YE y A h1) λQ c hk=>?_);injection hk with hk;injection hk with q u
    subst q u;exact ih _ _ _ n
   ·have x:Region.wanted o (yielded all.toArray a.tmps)=false:=by
     rcases h2 with h2|h2
     ·exact j.2.1 h2
     ·exact j.2.2 _ h2
    have h1:some (AV.v undef,H)=some (v,B):=h1;injection h1 with h1;injection h1 with L M
    subst L M;exact A3i p s x (ih _ _ _ n)
end
end
section
variable{c:Code}{Q:Exit->Tm->Hp->Prop}{F:Tm->Ru}
def B04(a:AV)(H:Hp)(K:KV):Af:=match a with
 |.sl sz r o n=>IZ H r λx=>KY x λ_ cs=>Fb (Nat.mul n sz) (CL o cs) λc=>ck (c.all (tZ 3)) (XA5 H r .gone λd=>K (.list n c) d)
 |a=>K a H
def A9I(F:Tm->Ru)(us:List (Nat×Nat)):Tm->Ru:=
 @List.rec (Nat×Nat) (λ_=>Tm->Ru) F (λu _ ih t H=>B? t u.1 λa=>B04 a H λe d=>ih ((u.1,e)::t) d) us
def B4z(rc:List (Nat×List (Nat×Nat)))(id:Nat)(F:Tm->Ru)(t:Tm)(H:Hp):Af:=(λ(_:Unit)=>@List.rec (Nat×List (Nat×Nat)) (λ_=>Tm->Ru) F (λp _ ih=>@Bool.rec (λ_=>Tm->Ru) ih (A9I F p.2) (Nat.beq p.1 (Nat.add id 1000000))) rc t H) FA
section
variable{P:Program}{G:Gl}{w0:Base}{C:Ctx}{H:Hp}{w:World}{r:AV×Hp}{ro:Option Nat}{m N:Nat}
def A0b(hr:Rel G w0 C H w){a:AV}{y:Value}(R:VRel C w a y){K:KV}(h:B04 a H K=some r):∃v M C',K v M=some r/\VRel C' w v y/\Rel G w0 C' M w/\Ext w0.own C w C' w:=by
 unfold B04 at h;split at h
 ·rename_i sz s o n;obtain⟨q0,e,cs,A,h1⟩:=HG h;obtain⟨f,h2⟩:=Jl _ _ _ _ h1;rw[Cs]at f h2;obtain⟨hc,p⟩:=Bb h2;rw[CX]at p;cases R with
  |slz ad=>
   have p:K (.list 0 ((cs.drop o).take (0*sz))) (cut H s)=some r:=p;rw[Nat.zero_mul,List.take_zero]at p;exact⟨_,_,C,p,.list0,hr.cut_row s,.refl _ _ _⟩
  |@sl _ _ _ _ _ _ bk O cap arr T fz J t ab V=>
   rcases hr.rows s _ A with⟨_,h6⟩|⟨X,d,j,aa,u⟩
   ·rw[h6]at J;cases J
   ·have q:=u.at_.symm.trans J;injection q with q;injection q with q;injection q with Y Z;subst Y Z
    obtain⟨L,x⟩:=hr.freeze A u;have g:BU C w ((cs.drop o).take (n*sz)) ((((j.toList.drop d).take cs.length).drop o).take (n*sz)):=(u.vals.unsel.drop o).take _;have ac:((cs.drop o).take (n*sz)).length=n*sz:=by
     have:n*sz<=(cs.drop o).length:=f;rw[xS];omega
    refine⟨_,_,C.fix X,p,.list t (λi=>((((j.toList.drop d).take cs.length).drop o).take (n*sz)).getD i undef) (λi k=>.inr rfl) (λi k=>?_) (λi k=>?_),L,x⟩
    ·have k:i<((cs.drop o).take (n*sz)).length:=k;have B:i<n*sz:=by omega
     have D:o+i<cs.length:=by have:n*sz<=(cs.drop o).length:=f;simp at this;omega
     rw[WE,u.cell];rw[Tc,oI,CJ B,fX,oI,CJ D,fX,B'];have hf:=u.fits;rw[l1k (by omega)];rfl
    ·have h4:=g.get i k;have h5:tZ 3 (((cs.drop o).take (n*sz))[i])=true:=Gb.1 hc _ (Na k);rw[Tc,II (by rw[g.1];exact k)];exact(VRel.down (C:=C) (C':=C.bare) rfl rfl 3 _ _ h5 h4).mono x.bare
 ·exact⟨_,_,C,h,R,hr,.refl _ _ _⟩
def NC.ghost{t:Tm}(h:∀w0 d C a w,St G w0 d C N t H a w->∃f i g,St G w0 d f N i g a w/\Ext w0.own C w f w/\NC P G ro m N c Q i g):NC P G ro m N c Q t H:=λw0 d C a w s=>by
 obtain⟨f,i,g,h1,h2,u⟩:=h w0 d C a w s;exact wpIn_mono (u w0 d f a w h1) λe x y ⟨j,v,k,n,p,q⟩=>⟨j,v,k,n,h2.frm.trans p,q⟩
def Y_(k:∀t H,F t H=some r->NC P G ro m N c Q t H):∀(us:List (Nat×Nat))(t:Tm)(H:Hp),A9I F us t H=some r->NC P G ro m N c Q t H:=by
 intro us
 induction us with
 |nil=>intro t H h;exact k t H h
 |cons u us ih=>
  intro t H h;have h:(B? t u.1 λa=>B04 a H λj d=>A9I F us ((u.1,j)::t) d)=some r:=h;rw[Rf]at h;refine NC.ghost λw0 n C a w s=>?_;obtain⟨v,d,f,hk,hv,e,he⟩:=A0b s.rel (s.tmps u.1) h;refine⟨f,(u.1,v)::t,d,⟨e,s.size,λi=>?_,s.defers.mono he.B he.keepB,s.le⟩,he,ih _ _ hk⟩;show VRel f w (if i=u.1 then v else F7 t i) _;by_cases g:i=u.1
  ·subst g;rw[CJ rfl];exact hv
  ·rw[Co g];exact(s.tmps i).mono he
def Z'{id:Nat}(a:∀t H,F t H=some r->NC P G ro m N c Q t H):∀(rc:List (Nat×List (Nat×Nat)))(t:Tm)(H:Hp),B4z rc id F t H=some r->NC P G ro m N c Q t H:=by
 intro rc
 induction rc with
 |nil=>intro t H h;exact a t H h
 |cons p rc ih=>
  intro t H h;have h:@Bool.rec (λ_=>Tm->Ru) (B4z rc id F) (A9I F p.2) (Nat.beq p.1 (Nat.add id 1000000)) t H=some r:=h;cases hb:Nat.beq p.1 (Nat.add id 1000000)
  ·rw[hb]at h;exact ih t H h
  ·rw[hb]at h;exact Y_ a _ t H h
end
end
section
variable{cf:Cf}{c:Code}{e:Exit}{Q:Exit->Tm->Hp->Prop}{H:Hp}{K:KQ}{N:Nat}{t t':Tm}
abbrev Draws:=Cf->Nat->List Oper->Tm->Hp->(Tm->Ru)->Af
def oZ(e:Exit)(t:Tm)(H:Hp)(k:Tm->Ru)(K:KQ):Af:=(λ(_:Unit)=>match e with|.normal=>k t H|e=>K e t H) FA
def A0s(id:Nat)(e:Exit)(t:Tm)(H:Hp)(K:KQ):Af:=(λ(_:Unit)=>match e with|.exit i=>@Bool.rec (λ_=>Af) (K (.exit i) t H) (K .normal t H) (Nat.beq i id)|e=>K e t H) FA
def A1(v:AV)(x y:Af):Af:=match v with|.v (.bool true)=>x|.v (.bool false)=>y|_=>none
def VW(lv:Hb)(t:Tm):(Tm->Af)->Af:=@List.rec Nat (λ_=>(Tm->Af)->Af) (λK=>K []) (λu _ ih K=>B? t u λv=>ih λl=>K ((u,v)::l)) lv
def Cur(lv:Hb):Type:=@List.rec Nat (λ_=>Type) Ru (λ_ _ ih=>AV->ih) lv
def A6K(lv:Hb):(Tm->Ru)->Cur lv:=
 @List.rec Nat (λlv=>(Tm->Ru)->Cur lv) (λF H=>F [] H) (λu _ ih F v=>ih λt H=>F ((u,v)::t) H) lv
def A6J(lv:Hb):Cur lv->Tm->Ru:=
 @List.rec Nat (λlv=>Cur lv->Tm->Ru) (λc _ H=>c H) (λu _ ih c t H=>B? t u λv=>ih (c v) t H) lv
def XY(lv:Hb)(t:Tm):Tm:=lv.map λu=>(u,F7 t u)
def qX(lv:Hb):∀(F:Tm->Ru)(t:Tm)(H:Hp),A6J lv (A6K lv F) t H=F (XY lv t) H:=by
 induction lv with
 |nil=>intro F t H;rfl
 |cons u lv ih=>
  intro F t H;have e:A6J (u::lv) (A6K (u::lv) F) t H=B? t u λv=>A6J lv (A6K lv λt H=>F ((u,v)::t) H) t H:=rfl;rw[e,Rf,ih];rfl
def B1d(lv:Hb)(body:Tm->Hp->KQ->Af)(K:KQ)(n:Nat):Cur lv:=
 @Nat.rec (λ_=>Cur lv) (A6K lv λ_ _=>none) (λ_ ih=>A6K lv λt H=>body t H λe d a=>oZ e d a (λt H=>A6J lv ih t H) K) n
def oQ(lv:Hb)(body:Tm->Hp->KQ->Af)(K:KQ)(n:Nat)(t:Tm)(H:Hp):Af:=A6J lv (B1d lv body K n) t H
def E_(lv:Hb)(body:Tm->Hp->KQ->Af)(K:KQ)(t:Tm)(H:Hp):oQ lv body K 0 t H=none:=qX lv _ t H
def F'(lv:Hb)(body:Tm->Hp->KQ->Af)(K:KQ)(n:Nat)(t:Tm)(H:Hp):oQ lv body K (n+1) t H=body (XY lv t) H λe d a=>oZ e d a (oQ lv body K n) K:=qX lv _ t H
def L!(lv:Hb)(t:Tm)(u:Nat):F7 (XY lv t) u=F7 t u\/F7 (XY lv t) u=.dk:=by
 induction lv with
 |nil=>exact .inr rfl
 |cons v lv ih=>
  have e:F7 (XY (v::lv) t) u=if u=v then F7 t v else F7 (XY lv t) u:=rfl
  rw[e];split
  ·rename_i h;subst h;exact .inl rfl
  ·exact ih
def B0z(p:Option (Option Code))(t:Tm)(H:Hp)(K:KQ):Af:=
 match p with
 |some none=>K .normal t H
 |some (some .ret)=>K .ret t H
 |some (some (.exit id))=>K (.exit id) t H
 |some (some (.goto l))=>K (.goto l) t H
 |_=>none
def E!(E:XE)(R:Rt)(cf:Cf)(g:Operand)(ps:Array Tmp)(i j:Code)(t:Tm)(H:Hp)(K:KQ):Af:=
 @Bool.rec (λ_=>Af) (VW cf.lv t λt=>HX E t g λf=>match f with
  |.fn (.func g) first cap=>GP H λs=>WJ first (.yl s::cap) λall=>R.call g all ((s,.loop cf.n t ps i j (some none))::H) λ_ d=>IZ d s λx=>Wa x λ_ _ _ _ _ a=>XA5 d s .gone λh=>B0z a t h K
  |_=>none) none cf.b
def xZ(e:Exit)(t:Tm)(H:Hp)(k:Nat->Tm->Ru)(K:KQ):Af:=(λ(_:Unit)=>match e with|.goto l=>k l t H|e=>K e t H) FA
def A0D(run:uJ)(cf:Cf)(c:Code)(K:KQ)(n:Nat):Nat->Tm->Ru:=
 @Nat.rec (λ_=>Nat->Tm->Ru) (λ_ _ _=>none) (λ_ ih l t H=>match findLabel c l with
  |some rest=>run cf rest t H λe t H=>xZ e t H ih K
  |none=>none) n
def Xc(E:XE)(R:Rt)(Z:Draws)(cf:Cf)(c:Code):Tm->Hp->KQ->Af:=
 @Code.rec (λ_=>Tm->Hp->KQ->Af)
  (λt H K=>K .normal t H)
  (λid f draw t H K=>B4z cf.rc id (λt H=>@Bool.rec (λ_=>Af) (A1K E R cf.fz cf.n f.toList f.toList t H λt H=>K .normal t H) (Z cf id f.toList t H λt H=>K .normal t H) draw) t H)
  (λ_ _ a d t H K=>a t H λe t H=>oZ e t H (λt H=>d t H K) K)
  (λx _ _ a d t H K=>HX E t x λv=>A1 v (a t H K) (d t H K))
  (λid _ ih t H K=>ih t H λe t H=>A0s id e t H K)
  (λ_ ih t H K=>oQ cf.lv ih K E.lf t H)
  (λg ps h i _ _ t H K=>E! E R cf g ps h i t H K)
  (λid t H K=>K (.exit id) t H)
  (λc ih t H K=>@Bool.rec (λ_=>Af) (ih t H λe t H=>xZ e t H (A0D R.run cf c K E.lf) K) none cf.b)
  (λ_ t H K=>K .normal t H)
  (λl t H K=>K (.goto l) t H)
  (λt H K=>K .ret t H)
  (λ_ _ _ _=>none) c
section
variable{D:XE->Cf->Nat->List Oper->Bool}{E:XE}{P:Program}{R:Rt}{Z:Draws}{r:AV×Hp}{ro:Option Nat}{m:Nat}
def A0B(D:XE->Cf->Nat->List Oper->Bool)(E:XE)(P:Program)(Z:Draws):Prop:=
 ∀(ro:Option Nat)(cf:Cf)(id:Nat)(a:List Oper)(t:Tm)(H:Hp)(K:Tm->Ru)(r:AV×Hp)(m:Nat),(cf.b=false->D E cf id a=true)->Z cf id a t H K=some r->
  NC P E.G ro m cf.n (.region id a.toArray true) (λe t' d=>e=.normal/\K t' d=some r) t H
def iL{k:Tm->Ru}(h:oZ e t H k K=some r):(e=.normal/\k t H=some r)\/(e≠.normal/\K e t H=some r):=by
 unfold oZ at h;split at h
 ·exact .inl ⟨rfl,h⟩
 ·rename_i a;exact .inr ⟨a,h⟩
theorem NC.congr{G:Gl}(hc:∀u,F7 t' u=F7 t u\/F7 t' u=.dk)(h:NC P G ro m N c Q t' H):NC P G ro m N c Q t H:=
 λw0 d C a w s=>h w0 d C a w (s.congr hc)
theorem dJ.congr{G:Gl}(hc:∀u,F7 t' u=F7 t u\/F7 t' u=.dk)(h:dJ P G ro m N c Q t' H):dJ P G ro m N c Q t H:=
 λw0 d C a w s=>h w0 d C a w (s.congr hc)
def F!:∀(lv:Hb)(K:Tm->Af),VW lv t K=some r->∃t',K t'=some r/\∀u,F7 t' u=F7 t u\/F7 t' u=.dk:=by
 intro lv
 induction lv with
 |nil=>intro K h;exact⟨[],h,λu=>.inr rfl⟩
 |cons v lv ih=>
  intro K h;have h:(B? t v λx=>VW lv t λl=>K ((v,x)::l))=some r:=h;rw[Rf]at h;obtain⟨t',h1,h2⟩:=ih _ h;refine⟨_,h1,λu=>?_⟩;simp only[F7];split
  ·rename_i a;rw[a];exact .inl rfl
  ·exact h2 u
def uZ{G:Gl}{lv:Hb}{body:Tm->Hp->KQ->Af}(hb:∀t H(K:KQ),body t H K=some r->NC P G ro m N c (λe t' a=>K e t' a=some r) t H):∀(n:Nat)(t:Tm)(H:Hp),oQ lv body K n t H=some r->
 dJ P G ro m N c (λe t' a=>K e t' a=some r) t H:=by
 intro n
 induction n with
 |zero=>intro t H h;rw[E_]at h;cases h
 |succ n ih=>
  intro t H h;rw[F']at h;refine dJ.congr (L! lv t) (A0z (NC.mono (hb _ _ _ h) λe g f hq=>?_));rcases iL hq with⟨rfl,h⟩|⟨d,h⟩
  ·exact ih _ _ h
  ·cases e with
   |normal=>exact absurd rfl d
   |_=>exact h
def rC(M:XE.Ok D E P)(O:RSound D E P R)(q:ro≠none->cf.b=true){g:Operand}{ps:Array Tmp}{s u:Code}(h:E! E R cf g ps s u t H K=some r):NC P E.G ro m cf.n (.rangeFunc g ps s u) (λe t' j=>K e t' j=some r) t H:=by
 unfold E! at h;cases hb:cf.b
 ·rw[hb]at h;have hn:ro=none:=by
   cases ro with
   |none=>rfl
   |some b=>have:=q (by simp);rw[hb]at this;cases this
  subst hn;obtain⟨t',h,hc⟩:=F! _ _ h;refine NC.congr hc ?_;have h:=AK M h;split at h
  ·rename_i f first cap X;rw[BQ,LB]at h;obtain⟨⟨fn,h1,h2,L⟩,d⟩:=O.call _ _ _ _ _ h;have e:first++AV.yl (Ay H)::cap=first++[.yl (Ay H)]++cap:=by simp
   rw[e]at d;refine A0w X h1 h2 L ?_;intro w0 C w ys hr V;refine(d w0 C w ys hr V).mono ?_;rintro e w' ⟨v,y,B,j,he,p,hv,Y,hk⟩;refine⟨v,y,B,j,he,p,hv,Y,?_⟩;obtain⟨x,i,k⟩:=FR rfl hk;obtain⟨N',t2,aa,F,J,A,rfl,a⟩:=WB k;rw[CX]at a;unfold B0z at a;split at a
   ·exact⟨_,_,_,_,_,_,i,a⟩
   ·exact⟨_,_,_,_,_,_,i,a⟩
   ·exact⟨_,_,_,_,_,_,i,a⟩
   ·exact⟨_,_,_,_,_,_,i,a⟩
   ·cases a
  ·cases h
 ·rw[hb]at h;cases h
def A36{D:Nat->List Oper->Bool}:∀(c:Code)(l:Nat)(rest:Code),PT D c=true->findLabel c l=some rest->PT D rest=true:=by
 intro c
 induction c with
 |seq a b g i=>
  intro l rest d h;simp only[PT,I0]at d;unfold findLabel at h;split at h
  ·rename_i r0 f;injection h with h
   subst h;simp only[PT,I0];exact⟨g _ _ d.1 f,d.2⟩
  ·exact i _ _ d.2 h
 |label j=>
  intro l rest d h;unfold findLabel at h;split at h
  ·injection h with h;subst h;rfl
  ·cases h
 |_=>intro l rest d h;simp[findLabel]at h
def xY{k:Nat->Tm->Ru}(a:∀l,e≠.goto l)(h:xZ e t H k K=some r):K e t H=some r:=by
 cases e with
 |goto l=>exact absurd rfl (a l)
 |_=>exact h
def vB(g:RSound D E P R)(i:PT (D E cf) c=true):∀(n l:Nat)(t:Tm)(H:Hp),A0D R.run cf c K n l t H=some r->
 ∃rest,findLabel c l=some rest/\uN P E.G m cf.n c rest (λe t' f=>K e t' f=some r) t H:=by
 intro n
 induction n with
 |zero=>intro l t H h;cases h
 |succ n ih=>
  intro l t H h;have h:(match findLabel c l with
   |some rest=>R.run cf rest t H λe t H=>xZ e t H (A0D R.run cf c K n) K
   |none=>none)=some r:=h
  split at h
  ·rename_i rest d;refine⟨rest,d,qY (λl t H hq=>ih l t H hq) (λe t H a hq=>xY a hq) (g.run none cf rest t H _ r m (λh=>absurd rfl h) (λ_=>A36 _ _ _ i d) h)⟩
  ·cases h
def vE(u:XE.Ok D E P)(w:RSound D E P R)(O:A0B D E P Z)(q:ro≠none->cf.b=true):∀(c:Code)(t:Tm)(H:Hp)(K:KQ),(cf.b=false->PT (D E cf) c=true)->Xc E R Z cf c t H K=some r->
 NC P E.G ro m cf.n c (λe t' L=>K e t' L=some r) t H:=by
 intro c
 induction c with
 |skip=>intro t H K _ h;exact A6R h
 |region id k draw=>
  intro t H K d h;refine Z' (λt H h=>?_) cf.rc t H h;have e:k=k.toList.toArray:=by simp
  cases draw
  ·rw[e];exact NC.mono (A0v (E? u w _ _ _ _ h)) (by rintro _ _ _ ⟨rfl,h⟩;exact h)
  ·rw[e];exact NC.mono (O ro cf id k.toList t H _ r m d h) (by rintro _ _ _ ⟨rfl,h⟩;exact h)
 |seq x y F J=>
  intro t H K d h;have h:(Xc E R Z cf x t H λe t H=>oZ e t H (λt H=>Xc E R Z cf y t H K) K)=some r:=h;have f:cf.b=false->PT (D E cf) x=true/\PT (D E cf) y=true:=λhb=>by simpa [PT] using d hb
  refine B0f (NC.mono (F t H _ (λhb=>(f hb).1) h) λe V M hq=>?_);rcases iL hq with⟨rfl,h⟩|⟨j,h⟩
  ·exact J _ _ _ (λhb=>(f hb).2) h
  ·cases e with
   |normal=>exact absurd rfl j
   |_=>exact h
 |cond x a b B C=>
  intro t H K d h;have h:(HX E t x λv=>A1 v (Xc E R Z cf a t H K) (Xc E R Z cf b t H K))=some r:=h;have f:cf.b=false->PT (D E cf) a=true/\PT (D E cf) b=true:=λhb=>by simpa [PT] using d hb
  have h:=AK u h;unfold A1 at h;split at h
  ·rename_i hv;exact zU hv (λ_=>B _ _ _ (λhb=>(f hb).1) h) (λhb=>by cases hb)
  ·rename_i hv;exact zU hv (λhb=>by cases hb) (λ_=>C _ _ _ (λhb=>(f hb).2) h)
  ·cases h
 |block id x ih=>
  intro t H K d h;have h:(Xc E R Z cf x t H λe t H=>A0s id e t H K)=some r:=h;refine A3h (NC.mono (ih t H _ d h) λe V M hq=>?_);unfold A0s at hq;cases e with
  |exit i=>
   simp only at hq;simp only[Q!];cases p:Nat.beq i id
   ·rw[p]at hq;rw[Co (λe=>by rw[e,tB]at p;cases p)];exact hq
   ·rw[p]at hq;rw[CJ (VQ p)];exact hq
  |_=>exact hq
 |loop x ih=>
  intro t H K d h;have h:oQ cf.lv (λt H K=>Xc E R Z cf x t H K) K E.lf t H=some r:=h;exact zR (uZ (λt H K h=>ih t H K d h) _ _ _ h)
 |rangeFunc g ps X Y _ _=>
  intro t H K _ h;exact rC u w q h
 |exit id=>intro t H K _ h;exact A6T h
 |scope x ih=>
  intro t H K d h;have h:@Bool.rec (λ_=>Af) (Xc E R Z cf x t H λe t H=>xZ e t H (A0D R.run cf x K E.lf) K) none cf.b=some r:=h;cases hb:cf.b
  ·rw[hb]at h;have hn:ro=none:=by
    cases ro with
    |none=>rfl
    |some b=>have:=q (by simp);rw[hb]at this;cases this
   subst hn;have A:PT (D E cf) x=true:=d hb;exact A3f (qY (λl t H hq=>vB w A _ _ _ _ hq) (λe t H j hq=>xY j hq) (ih t H _ d h))
  ·rw[hb]at h;cases h
 |label l=>intro t H K _ h;exact A3g h
 |goto l=>intro t H K _ h;exact A6S h
 |ret=>intro t H K _ h;exact B0g h
 |refuse s=>intro t H K _ h;cases h
end
end
section
variable{v:AV}{a:Af}{cf:Cf}{bs:List (Nat×Nat)}{hs:List Hp}{efs ms:Hb}{ops:List Oper}{i:Nat}{ef:Oper->Bool}{K:Tm->Ru}{α:Type}{D:XE->Cf->Nat->List Oper->Bool}
def Od(E:XE):Op->Bool
 |.move _=>true
 |.assign _=>true
 |.pick .. =>true
 |.nilCheck _=>true
 |.binOp .. =>true
 |.unOp .. =>true
 |.convert s _ _=>match E.ty.get s with
  |some i=>match i.d with
   |.slice .. =>false
   |.pointer _=>false
   |.other=>false
   |_=>true
  |none=>false
 |.makeFunc .. =>true
 |.fieldAddr .. =>true
 |.field .. =>true
 |.indexAddr .. =>true
 |.index .. =>true
 |.slice ty _ _ _ _=>match E.ty.get ty with
  |some i=>match i.d with
   |.array .. =>false
   |_=>true
  |none=>false
 |.extract .. =>true
 |.build .. =>true
 |.buildSlice .. =>true
 |.call c=>match c.callee with
  |.builtin .len=>match c.argTypes.toList with
   |[ty]=>(match E.ty.get ty with
    |some i=>match i.d with
     |.map .. =>false
     |_=>true
    |none=>false)
   |_=>false
  |.builtin .min=>true
  |.builtin .max=>true
  |_=>false
 |_=>false
def Nu(E:XE)(fz:Bool):Op->Bool
 |.move _=>false
 |.assign _=>false
 |.pick .. =>false
 |.nilCheck _=>false
 |.binOp .. =>false
 |.unOp .. =>false
 |.convert s d _=>match E.ty.get s,E.ty.get d with
  |some i,some j=>match i.d,j.d with
   |.string,.slice .. =>true
   |_,_=>false
  |_,_=>true
 |.makeFunc .. =>false
 |.fieldAddr .. =>false
 |.field .. =>false
 |.indexAddr .. =>false
 |.index .. =>false
 |.slice .. =>false
 |.extract .. =>false
 |.build .. =>false
 |.buildSlice _ b _=>!(fz&& !Nat.beq b 0)
 |.load .. =>false
 |.lookup .. =>false
 |.makeInterface .. =>false
 |.call c=>match c.callee with
  |.value (.func f)=>E.imp f
  |.value (.tmp _)=>!fz
  |.builtin .len=>false
  |.builtin .min=>false
  |.builtin .max=>false
  |.builtin .cap=>false
  |.builtin .unsafeSliceData=>false
  |_=>true
 |_=>true
def uY(E:XE)(R:Rt)(t:Tm)(H:Hp)(o:Op)(K:K2):Af:=
 (λ(_:Unit)=>match o with
  |.move x=>HX E t x K
  |.assign x=>HX E t x K
  |o=>Ai (OC E R t H o λv=>some (v,[])) K) FA
def A1L(E:XE)(R:Rt)(fz:Bool)(all:List Oper)(o:Oper)(t1:Tm)(H:Hp):Af:=
 gdK all t1 o.guard λg=>@Bool.rec (λ_=>Af) (some (.v undef,H)) (@Bool.rec (λ_=>Af) (Ai (OC E R t1 H o.op λv=>some (v,[])) λv=>some (v,H)) (A! E R fz t1 H o.op λv c=>some (v,c)) (Nu E fz o.op)) g
def zdr(E:XE)(R:Rt)(fz:Bool)(N:Nat)(all:List Oper)(l:List Oper):Tm->Hp->(Tm->Ru)->Af:=
 @List.rec Oper (λ_=>Tm->Hp->(Tm->Ru)->Af) (λt H K=>K t H)
  (λo _ ih t H K=>zK N o.dst (VW (L7 all o) t λe=>A2K o.guard
   (@Bool.rec (λ_=>Af) (uY E R e H o.op λv=>NN t o.dst v λd=>ih d H K) (DF (A! E R fz e H o.op λv c=>some (v,c)) λv c=>NN t o.dst v λd=>ih d c K) (Nu E fz o.op))
   (DF (A1L E R fz all o e H) λv c=>NN t o.dst v λd=>ih d c K))) l
def gQ(E:XE)(R:Rt)(fz:Bool)(N:Nat)(all:List Oper)(l:List Oper):Tm->Hp->(List Tm->Is->List Hp->Tm->Ru)->Af:=
 @List.rec Oper (λ_=>Tm->Hp->(List Tm->Is->List Hp->Tm->Ru)->Af) (λt H K=>K [] [] [H] t H)
  (λo _ ih t H K=>zK N o.dst (VW (L7 all o) t λc=>A2K o.guard
   (@Bool.rec (λ_=>Af) (uY E R c H o.op λv=>NN t o.dst v λe=>ih e H λts vs hs=>K (c::ts) (v::vs) hs) (DF (A! E R fz c H o.op λv d=>some (v,d)) λv d=>NN t o.dst v λe=>ih e d λts vs hs=>K (c::ts) (v::vs) (H::hs)) (Nu E fz o.op))
   (DF (A1L E R fz all o c H) λv d=>NN t o.dst v λe=>ih e d λts vs hs=>K (c::ts) (v::vs) (@Bool.rec (λ_=>List Hp) hs (H::hs) (Nu E fz o.op))))) l
def nP(l:List α)(n:Nat)(K:α->Af):Af:=
 (λ(_:Unit)=>@List.rec α (λ_=>Nat->Af) (λ_=>none) (λa _ ih n=>@Nat.rec (λ_=>Af) (K a) (λm _=>ih m) n) l n) FA
def fJ:AV->AV->Bool
 |.v x,.v y=>Xi x y
 |.ptr r p k,.ptr c h e=>Nat.beq r c&&(Nat.beq p h&&Nat.beq k e)
 |.sl z r o n,.sl j c g f=>Nat.beq z j&&(Nat.beq r c&&(Nat.beq o g&&Nat.beq n f))
 |.iptr cs,.iptr d=>mG (oN 6) cs d
 |.mp r,.mp c=>Nat.beq r c
 |a,b=>oN 6 a b
def B0l{a b:AV}(h:fJ a b=true):a=b:=by
 unfold fJ at h;split at h
 ·rw[fM h]
 ·simp only[I0]at h;rw[VQ h.1,VQ h.2.1,VQ h.2.2]
 ·simp only[I0]at h;rw[VQ h.1,VQ h.2.1,VQ h.2.2.1,VQ h.2.2.2]
 ·rw[gL (A0A 6) h]
 ·rw[VQ h]
 ·exact A0A 6 _ _ h
def AN(a:Af)(v:AV):Af:=match a with
 |some (u,_)=>some (.v (.bool (fJ u v)),[])
 |none=>none
def Qm(a:Af)(K:Af):Af:=match a with
 |some (.v (.bool true),_)=>K
 |_=>none
def A5m{K:Af}{r:AV×Hp}(h:Qm a K=some r):(∃c,a=some (.v (.bool true),c))/\K=some r:=by
 unfold Qm at h;split at h
 ·exact⟨⟨_,rfl⟩,h⟩
 ·cases h
def iU{H0:Hp}(h:AN a v=some (.v (.bool true),H0)):∃c,a=some (v,c):=by
 unfold AN at h;split at h
 ·injection h with h
  injection h with h _
  injection h with h
  injection h with h
  exact⟨_,by rw[B0l h]⟩
 ·cases h
def A1T(E:XE)(R:Rt)(all:List Oper)(bs:List (Nat×Nat))(ts:List Tm)(vs:Is)(hs:List Hp)(K:Af):Af:=
 (λ(_:Unit)=>@List.rec (Nat×Nat) (λ_=>Af) K (λp _ ih=>@Prod.rec Nat Nat (λ_=>Af) (λi k=>nP all i λo=>nP ts i λc=>nP vs i λv=>nP hs k λH=>
  Qm (gdK all c o.guard λg=>@Bool.rec (λ_=>Af) (some (.v (.bool true),[])) (AN (OC E R c H o.op λu=>some (u,[])) v) g) ih) p) bs) FA
def Ea(ef:Oper->Bool):Nat->List Oper->Hb
 |_,[]=>[]
 |i,o::l=>match ef o with
  |true=>i::Ea ef (i+1) l
  |false=>Ea ef (i+1) l
def wG(E:XE)(ef:Oper->Bool)(ms efs:Hb):Nat->List Oper->Bool
 |_,[]=>true
 |i,o::l=>(ef o||(Od E o.op||efs.all λe=>match Nat.blt e i with
  |true=>tb (ms.getD i 0) e
  |false=>tb (ms.getD e 0) i))&&wG E ef ms efs (i+1) l
def GX(E:XE)(fz:Bool)(o:Oper):Bool:=Nu E fz o.op
def A2r(ms:Hb)(i k:Nat):Nat->Hb->Bool
 |_,[]=>true
 |a,e::l=>(!tb (ms.getD i 0) e||Nat.blt a k)&&((!tb (ms.getD e 0) i||Nat.ble k a)&&A2r ms i k (a+1) l)
def A2i(E:XE)(ef:Oper->Bool)(ms efs:Hb)(bs:List (Nat×Nat)):Nat->Nat->List Oper->Bool
 |_,_,[]=>true
 |i,c,o::l=>(ef o||(Od E o.op||(List.range (efs.length+1)).all λk=>Nat.beq k c||(!A2r ms i k 0 efs||bs.any λp=>Nat.beq p.1 i&&Nat.beq p.2 k)))&&
  A2i E ef ms efs bs (i+1) (match ef o with|true=>c+1|false=>c) l
def A4A(id:Nat):List (Nat×List (Nat×Nat))->Option (List (Nat×Nat))
 |[]=>none
 |p::l=>match Nat.beq p.1 id with|true=>some p.2|false=>A4A id l
def iX(E:XE)(cf:Cf)(id:Nat)(ops:List Oper):Bool:=
 pH ops (Ea (GX E cf.fz) 0 ops)&&(match A4A id cf.rc with
  |none=>wG E (GX E cf.fz) (Qo ops) (Ea (GX E cf.fz) 0 ops) 0 ops
  |some bs=>A2i E (GX E cf.fz) (Qo ops) (Ea (GX E cf.fz) 0 ops) bs 0 0 ops)
def B19(E:XE)(ef:Oper->Bool)(ms efs:Hb):Nat->Nat->List Oper->List (Nat×Nat)
 |_,_,[]=>[]
 |i,c,o::l=>(match ef o||Od E o.op with
  |true=>[]
  |false=>((List.range (efs.length+1)).filter λk=>!Nat.beq k c&&A2r ms i k 0 efs).map λk=>(i,k))++B19 E ef ms efs (i+1) (match ef o with|true=>c+1|false=>c) l
def B5L(E:XE)(R:Rt)(cf:Cf)(ops:List Oper)(bs:List (Nat×Nat))(t:Tm)(H:Hp)(K:Tm->Ru):Af:=
 ckS (pH ops (Ea (GX E cf.fz) 0 ops)&&A2i E (GX E cf.fz) (Qo ops) (Ea (GX E cf.fz) 0 ops) bs 0 0 ops) (gQ E R cf.fz cf.n ops ops t H λts vs hs d c=>A1T E R ops bs ts vs hs (K d c))
def B5M(E:XE)(R:Rt)(cf:Cf)(id:Nat)(ops:List Oper)(t:Tm)(H:Hp)(K:Tm->Ru):Af:=
 (λ(_:Unit)=>match A4A id cf.rc with
  |none=>zdr E R cf.fz cf.n ops ops t H K
  |some bs=>gQ E R cf.fz cf.n ops ops t H λts vs hs d c=>A1T E R ops bs ts vs hs (K d c)) FA
def A0F(E:XE)(R:Rt):Draws:=λcf id ops t H K=>
 @Bool.rec (λ_=>Af) (B5M E R cf id ops t H K) (B5L E R cf ops (B19 E (GX E cf.fz) (Qo ops) (Ea (GX E cf.fz) 0 ops) 0 0 ops) t H K) cf.b
section
variable{E:XE}{P:Program}{R:Rt}{t:Tm}{H:Hp}{r:AV×Hp}{ro:Option Nat}{N m:Nat}{fz:Bool}
def xW{o:Op}(h:Od E o=true)(H p:Hp)(K:K2):OC E R t H o K=OC E R t p o K:=by
 cases o with
 |move x=>rfl
 |assign x=>rfl
 |pick c a b=>rfl
 |nilCheck x=>rfl
 |binOp a b c d e=>rfl
 |unOp a b c=>rfl
 |convert a b c=>
  have key:∀v,(E.ty.getK a λi=>E.ty.getK b λj=>cvK E a b i j v H K)=(E.ty.getK a λi=>E.ty.getK b λj=>cvK E a b i j v p K):=by
   intro v;have h:(match E.ty.get a with|some i=>(match i.d with|.slice .. =>false|.pointer _=>false|.other=>false|_=>true)|none=>false)=true:=h;rw[BT.getK_eq,BT.getK_eq];cases hs:E.ty.get a with
   |none=>rfl
   |some i=>
    rw[hs]at h;simp only at h;simp only
    congr 1
    funext j
    unfold cvK;cases g:i.d with
    |slice e z=>rw[g]at h;cases h
    |pointer e=>rw[g]at h;cases h
    |other=>rw[g]at h;cases h
    |_=>rfl
  show(HX E t c λv=>E.ty.getK a λi=>E.ty.getK b λj=>cvK E a b i j v H K)=(HX E t c λv=>E.ty.getK a λi=>E.ty.getK b λj=>cvK E a b i j v p K)
  congr 1
  funext v
  exact key v
 |makeFunc a b c=>rfl
 |fieldAddr a b c=>rfl
 |field a b c=>rfl
 |indexAddr a b c=>rfl
 |index a b c=>rfl
 |slice a b c d e=>
  have h:(match E.ty.get a with|some i=>(match i.d with|.array .. =>false|_=>true)|none=>false)=true:=h;have key:∀v l q m,(E.ty.getK a λi=>D_ i v l q m H K)=(E.ty.getK a λi=>D_ i v l q m p K):=by
   intro v l q m;rw[BT.getK_eq,BT.getK_eq];cases hs:E.ty.get a with
   |none=>rfl
   |some i=>
    rw[hs]at h;simp only at h;simp only;unfold D_;cases g:i.d with
    |array n e z=>rw[g]at h;cases h
    |_=>rfl
  show(HX E t b λv=>gO E t c λl=>gO E t d λh=>gO E t e λm=>E.ty.getK a λi=>D_ i v l h m H K)=(HX E t b λv=>gO E t c λl=>gO E t d λh=>gO E t e λm=>E.ty.getK a λi=>D_ i v l h m p K)
  congr 1
  funext v
  congr 1
  funext l
  congr 1
  funext q
  congr 1
  funext m
  exact key v l q m
 |extract a b=>rfl
 |build a b=>rfl
 |buildSlice a b c=>rfl
 |call c=>
  unfold Od at h;obtain⟨callee,args,ts⟩:=c;cases callee with
  |value f=>cases h
  |invoke a b=>cases h
  |builtin b=>
   cases b with
   |len=>
    have h:(match ts.toList with|[ty]=>(match E.ty.get ty with|some i=>(match i.d with|.map .. =>false|_=>true)|none=>false)|_=>false)=true:=h;have w:∀u,OC E R t u (.call ⟨.builtin .len,args,ts⟩) K=(match args.toList,ts.toList with|[x],[ty]=>HX E t x λv=>E.ty.getK ty λi=>A7y i v u K|_,_=>none):=λ_=>rfl;rw[w,w];split
    ·rename_i x ty y s;rw[s]at h
     congr 1
     funext v
     rw[BT.getK_eq,BT.getK_eq];cases hs:E.ty.get ty with
     |none=>rfl
     |some i=>
      simp only[hs]at h;simp only;unfold A7y;cases g:i.d with
      |map k e=>rw[g]at h;cases h
      |_=>rfl
    ·rfl
   |min=>rfl
   |max=>rfl
   |_=>cases h
 |_=>cases h
inductive Trc(S:Oper->Tm->Hp->AV->Hp->Prop)(ef:Oper->Bool):List Oper->Tm->Hp->Is->List Hp->Tm->Hp->Prop
 |nil {t:Tm} {H:Hp}:Trc S ef [] t H [] [H] t H
 |rd {o:Oper} {l:List Oper} {t:Tm} {H:Hp} {v:AV} {vs:Is} {hs:List Hp} {t':Tm} {H':Hp} (he:ef o=false) (h:S o t H v H) (k:Trc S ef l (OJ t o.dst v) H vs hs t' H'):Trc S ef (o::l) t H (v::vs) hs t' H'
 |ef {o:Oper} {l:List Oper} {t:Tm} {H H1:Hp} {v:AV} {vs:Is} {hs:List Hp} {t':Tm} {H':Hp} (he:ef o=true) (h:S o t H v H1) (k:Trc S ef l (OJ t o.dst v) H1 vs hs t' H'):Trc S ef (o::l) t H (v::vs) (H::hs) t' H'
def Stp(E:XE)(R:Rt)(fz:Bool)(N:Nat)(all:List Oper)(o:Oper)(t:Tm)(H:Hp)(v:AV)(c:Hp):Prop:=
 dok N o.dst/\(((Ff all (Gn all o t) o=.run\/Ff all (Gn all o t) o=.dep true)/\
  ((GX E fz o=false/\(∃e,OC E R (Gn all o t) H o.op (λv=>some (v,[]))=some (v,e))/\c=H)\/(GX E fz o=true/\A! E R fz (Gn all o t) H o.op (λv d=>some (v,d))=some (v,c))))\/
  ((Ff all (Gn all o t) o=.skip\/Ff all (Gn all o t) o=.dep false)/\v=.v undef/\c=H))
def vA(lv:Hb)(t:Tm):∀K:Tm->Af,VW lv t K=K (XY lv t):=by
 induction lv with
 |nil=>intro K;rfl
 |cons u lv ih=>
  intro K;have e:VW (u::lv) t K=B? t u λv=>VW lv t λl=>K ((u,v)::l):=rfl;rw[e,Rf,ih];rfl
def A0E{x:Operand}{K:K2}(h:HX E t x K=some r):∃v c,HX E t x (λv=>some (v,[]))=some (v,c)/\K v=some r:=by
 cases x with
 |tmp i=>
  have h:B? t i K=some r:=h;rw[Rf]at h;exact⟨_,[],(Rf t i _).trans rfl,h⟩
 |const v=>exact⟨_,[],rfl,h⟩
 |global g=>
  have h:(E.gl.getK g λcs=>K (.iptr cs))=some r:=h;obtain⟨cs,h1,h2⟩:=AL h;refine⟨_,[],?_,h2⟩;have:HX E t (.global g) (λv=>some (v,[]))=E.gl.getK g λcs=>some (.iptr cs,[]):=rfl;rw[this,BT.getK_eq,h1]
 |func f=>exact⟨_,[],rfl,h⟩
def oP{o:Op}{K:K2}(h:uY E R t H o K=some r):∃v c,OC E R t H o (λv=>some (v,[]))=some (v,c)/\K v=some r:=by
 unfold uY at h;split at h
 ·exact A0E h
 ·exact A0E h
 ·exact O9 h
def A1P{all:List Oper}:∀(l:List Oper)(t:Tm)(H:Hp)(K:Tm->Ru),zdr E R fz N all l t H K=some r->
 ∃vs hs d c,Trc (Stp E R fz N all) (GX E fz) l t H vs hs d c/\K d c=some r:=by
 intro l
 induction l with
 |nil=>intro t H K h;exact⟨_,_,_,_,.nil,h⟩
 |cons o l ih=>
  intro t H K h;have h:zK N o.dst (VW (L7 all o) t λw=>A2K o.guard
   (@Bool.rec (λ_=>Af) (uY E R w H o.op λv=>NN t o.dst v λd=>zdr E R fz N all l d H K) (DF (A! E R fz w H o.op λv c=>some (v,c)) λv c=>NN t o.dst v λd=>zdr E R fz N all l d c K) (Nu E fz o.op))
   (DF (A1L E R fz all o w H) λv c=>NN t o.dst v λd=>zdr E R fz N all l d c K))=some r:=h
  obtain⟨p,h⟩:=ZG h;rw[vA]at h;have u:XY (L7 all o) t=Gn all o t:=rfl;rw[u]at h;cases n:o.guard with
  |none=>
   have j:Ff all (Gn all o t) o=.run:=by unfold Ff;rw[n]
   rw[n]at h;have h:@Bool.rec (λ_=>Af) (uY E R (Gn all o t) H o.op λv=>NN t o.dst v λd=>zdr E R fz N all l d H K) (DF (A! E R fz (Gn all o t) H o.op λv c=>some (v,c)) λv c=>NN t o.dst v λd=>zdr E R fz N all l d c K) (Nu E fz o.op)=some r:=h;cases he:Nu E fz o.op
   ·rw[he]at h;obtain⟨v,y,q,e⟩:=oP h;rw[Ql]at e;obtain⟨vs,hs,d,c,f,g⟩:=ih _ _ _ e;exact⟨_,_,_,_,.rd he ⟨p,.inl ⟨.inl j,.inl ⟨he,⟨_,q⟩,rfl⟩⟩⟩ f,g⟩
   ·rw[he]at h;obtain⟨v,x,q,e⟩:=RZ h;rw[Ql]at e;obtain⟨vs,hs,d,c,f,g⟩:=ih _ _ _ e;exact⟨_,_,_,_,.ef he ⟨p,.inl ⟨.inl j,.inr ⟨he,q⟩⟩⟩ f,g⟩
  |some B=>
   rw[n]at h;have h:(DF (A1L E R fz all o (Gn all o t) H) λv c=>NN t o.dst v λd=>zdr E R fz N all l d c K)=some r:=h;obtain⟨v,x,q,e⟩:=RZ h;rw[Ql]at e;obtain⟨vs,hs,d,c,f,g⟩:=ih _ _ _ e;rcases Yb q with⟨h1,h2⟩|⟨h1,h2⟩
   ·cases he:Nu E fz o.op
    ·rw[he]at h1;obtain⟨C,y,s,k⟩:=O9 h1;injection k with k;injection k with k A
     subst k A;exact⟨_,_,_,_,.rd he ⟨p,.inl ⟨h2,.inl ⟨he,⟨_,s⟩,rfl⟩⟩⟩ f,g⟩
    ·rw[he]at h1;exact⟨_,_,_,_,.ef he ⟨p,.inl ⟨h2,.inr ⟨he,h1⟩⟩⟩ f,g⟩
   ·have h1:some (AV.v undef,H)=some (v,x):=h1;injection h1 with h1;injection h1 with s k
    subst s k;cases he:GX E fz o
    ·exact⟨_,_,_,_,.rd he ⟨p,.inr ⟨h2,rfl,rfl⟩⟩ f,g⟩
    ·exact⟨_,_,_,_,.ef he ⟨p,.inr ⟨h2,rfl,rfl⟩⟩ f,g⟩
def Sh(ef:Oper->Bool)(l:List Oper)(i:Nat):Nat:=((l.take i).filter ef).length
def YJ(o:Oper)(l:List Oper)(val:Nat->AV)(t:Tm):∀i,Gi (o::l) val t (λ_=>true) (i+1)=Gi l (λj=>val (j+1)) (OJ t o.dst (val 0)) (λ_=>true) i:=by
 intro i
 induction i with
 |zero=>rfl
 |succ i ih=>
  have d:Gi (o::l) val t (λ_=>true) (i+1+1)=(match true,(o::l)[i+1]? with|true,some c=>OJ (Gi (o::l) val t (λ_=>true) (i+1)) c.dst (val (i+1))|_,_=>Gi (o::l) val t (λ_=>true) (i+1)):=rfl;have e:Gi l (λj=>val (j+1)) (OJ t o.dst (val 0)) (λ_=>true) (i+1)=(match true,l[i]? with|true,some c=>OJ (Gi l (λj=>val (j+1)) (OJ t o.dst (val 0)) (λ_=>true) i) c.dst (val (i+1))|_,_=>Gi l (λj=>val (j+1)) (OJ t o.dst (val 0)) (λ_=>true) i):=rfl;rw[d,e,ih,l0q]
theorem Trc.at{S:Oper->Tm->Hp->AV->Hp->Prop}{l:List Oper}{vs:Is}{g:Tm}{f:Hp}(h:Trc S ef l t H vs hs g f):
 hs.getD 0 []=H/\g=Gi l (λj=>vs.getD j .dk) t (λ_=>true) l.length/\f=hs.getD (Sh ef l l.length) []/\
 ∀(i:Nat)(o:Oper),l[i]?=some o->S o (Gi l (λj=>vs.getD j .dk) t (λ_=>true) i) (hs.getD (Sh ef l i) []) (vs.getD i .dk) (hs.getD (Sh ef l (i+1)) []):=by
 induction h with
 |nil=>exact⟨rfl,rfl,rfl,λi o h=>by simp at h⟩
 |@rd o l t H v vs hs g f he d k ih=>
  obtain⟨h1,h2,n,q⟩:=ih;have hc:∀i,Sh ef (o::l) (i+1)=Sh ef l i:=λi=>by simp[Sh,he]
  have e:∀i,Gi (o::l) (λj=>(v::vs).getD j .dk) t (λ_=>true) (i+1)=Gi l (λj=>vs.getD j .dk) (OJ t o.dst v) (λ_=>true) i:=λi=>by rw[YJ];simp
  refine⟨h1,?_,?_,?_⟩
  ·rw[Kg,e];exact h2
  ·rw[Kg,hc];exact n
  ·intro i p c;cases i with
   |zero=>
    simp at c;subst c;rw[hc,show Sh ef (o::l) 0=0 from rfl,show Sh ef l 0=0 from rfl,h1];exact d
   |succ i=>
    rw[hc,hc,e];have:=q i p (by simpa using c);simpa using this
 |@ef o l t H s v vs hs g f he d k ih=>
  obtain⟨h1,h2,n,q⟩:=ih;have hc:∀i,Sh ef (o::l) (i+1)=Sh ef l i+1:=λi=>by simp[Sh,he]
  have e:∀i,Gi (o::l) (λj=>(v::vs).getD j .dk) t (λ_=>true) (i+1)=Gi l (λj=>vs.getD j .dk) (OJ t o.dst v) (λ_=>true) i:=λi=>by rw[YJ];simp
  refine⟨rfl,?_,?_,?_⟩
  ·rw[Kg,e];exact h2
  ·rw[Kg,hc];simpa using n
  ·intro i p c;cases i with
   |zero=>
    simp at c;subst c;rw[hc,show Sh ef (o::l) 0=0 from rfl,show Sh ef l 0=0 from rfl];have:(H::hs).getD (0+1) []=s:=by simpa using h1
    rw[this];exact d
   |succ i=>
    rw[hc,hc,e];have:=q i p (by simpa using c);simpa using this
def tT:∀(l:List Oper)(n a e:Nat),(Ea ef n l)[a]?=some e->∃j o,e=n+j/\l[j]?=some o/\ef o=true/\Sh ef l j=a:=by
 intro l
 induction l with
 |nil=>intro n a e h;simp[Ea]at h
 |cons o l ih=>
  intro n a e h;unfold Ea at h;cases he:ef o
  ·rw[he]at h;obtain⟨j,p,h1,h2,c,d⟩:=ih _ _ _ h;exact⟨j+1,p,by omega,by simpa using h2,c,by simpa [Sh,he] using d⟩
  ·rw[he]at h;cases a with
   |zero=>simp at h;exact⟨0,o,by omega,rfl,he,rfl⟩
   |succ a=>
    obtain⟨j,p,h1,h2,c,d⟩:=ih _ _ _ (by simpa using h);exact⟨j+1,p,by omega,by simpa using h2,c,by simpa [Sh,he] using d⟩
def A6U:∀(l:List Oper)(n j:Nat)(o:Oper),l[j]?=some o->ef o=true->(Ea ef n l)[Sh ef l j]?=some (n+j):=by
 intro l
 induction l with
 |nil=>intro n j o h;simp at h
 |cons p l ih=>
  intro n j o h he;unfold Ea;cases j with
  |zero=>simp at h;subst h;rw[he];rfl
  |succ j=>
   have:=ih (n+1) j o (by simpa using h) he;cases c:ef p
   ·simpa [Sh,c,WE,Nat.add_comm 1 j] using this
   ·simpa [Sh,c,WE,Nat.add_comm 1 j] using this
def tS:∀(l:List Oper)(n:Nat),(Ea ef n l).length=Sh ef l l.length:=by
 intro l
 induction l with
 |nil=>intro n;rfl
 |cons p l ih=>
  intro n;unfold Ea;cases c:ef p
  ·simpa [Sh,c] using ih (n+1)
  ·simpa [Sh,c] using ih (n+1)
def lY(l:List Oper){i j:Nat}(h:i<=j):Sh ef l i<=Sh ef l j:=by
 unfold Sh;have:l.take i=(l.take j).take i:=by rw[List.take_take,l1x h]
 rw[this];exact((List.take_sublist i (l.take j)).filter ef).length_le
def Vi{l:List Oper}{o:Oper}(h:l[i]?=some o):Sh ef l (i+1)=Sh ef l i+(if ef o then 1 else 0):=by
 unfold Sh;rw[List.take_add_one,h,List.filter_append,E6];cases he:ef o<;>simp[he]
def A4z:∀(l:List Oper)(n:Nat),wG E ef ms efs n l=true->∀(j:Nat)(o:Oper),l[j]?=some o->ef o=false->Od E o.op=true\/∀e∈efs,(e<n+j->tb (ms.getD (n+j) 0) e=true)/\(n+j<=e->tb (ms.getD e 0) (n+j)=true):=by
 intro l
 induction l with
 |nil=>intro n _ j o h;simp at h
 |cons p l ih=>
  intro n h j o d he;simp only[wG,I0]at h;cases j with
  |zero=>
   simp at d;subst d;have h1:=h.1;rw[he,Bool.false_or,l1d]at h1;rcases h1 with h1|h1
   ·exact .inl h1
   ·refine .inr λe hm=>?_;have:=Gb.1 h1 e hm;cases hb:Nat.blt e n
    ·rw[hb]at this;have:¬e<n:=λc=>by rw[<-Ua,hb]at c;cases c
     exact⟨λc=>by omega,λ_=>by simpa using ‹_›⟩
    ·rw[hb]at this;have c:e<n:=by rw[<-Ua];exact hb
     exact⟨λ_=>this,λf=>by omega⟩
  |succ j=>
   have:=ih (n+1) h.2 j o (by simpa using d) he;rw[show n+(j+1)=n+1+j from by omega];exact this
def Stp.aopg(e:XE.Ok D E P)(f:RSound D E P R){all:List Oper}{o:Oper}{d:Hp}(h:Stp E R fz N all o t H v d):B0o P E.G ro N all o (Gn all o t) H v d:=by
 obtain⟨_,⟨c,h⟩|⟨c,h1,h2⟩⟩:=h
 ·refine .inl ⟨c,?_⟩;rcases h with⟨_,⟨p,h⟩,rfl⟩|⟨_,h⟩
  ·refine Qx.mono (Qj e f h) ?_;rintro n g ⟨k,h⟩;injection h with h;injection h with h
   exact⟨h,k⟩
  ·refine Qx.mono (YE e f h) ?_;intro n g h;injection h with h;injection h with h j
   exact⟨h,j⟩
 ·exact .inr ⟨c,h1,h2⟩
def A1Q(x:XE.Ok D E P)(F:RSound D E P R){id:Nat}(hD:pH ops (Ea (GX E cf.fz) 0 ops)=true)(B:wG E (GX E cf.fz) (Qo ops) (Ea (GX E cf.fz) 0 ops) 0 ops=true)(h:zdr E R cf.fz cf.n ops ops t H K=some r):
 NC P E.G ro m cf.n (.region id ops.toArray true) (λe t' y=>e=.normal/\K t' y=some r) t H:=by
 obtain⟨vs,hs,t',y,Y,hK⟩:=A1P ops t H K h;obtain⟨h0,X,C,s⟩:=Y.at;have hk:=iW hD;have hr:=A4z ops 0 B;have e0:H=(λk=>hs.getD k []) 0:=h0.symm;rw[e0];refine zT (efs:=Ea (GX E cf.fz) 0 ops) (val:=λj=>vs.getD j .dk) (Hs:=λk=>hs.getD k []) x.mix hk (λo d=>?_) ?_ ?_ ?_
 ·obtain⟨i,M⟩:=List.getElem?_of_mem d;exact(s i o M).1
 ·intro i o d V k ae hp;have he:GX E cf.fz o=false:=by
   cases he:GX E cf.fz o
   ·rfl
   ·exact absurd (A6U ops 0 i o d he) (by rw[Le];exact V _)
  have q:=s i o d;have J:Sh (GX E cf.fz) ops (i+1)=Sh (GX E cf.fz) ops i:=by rw[Vi d,he];simp
  rw[J]at q;rcases hr i o d he with hf|f
  ·refine Stp.aopg (fz:=cf.fz) x F ?_;obtain⟨hd,⟨L,h⟩|⟨L,h1,h2⟩⟩:=q
   ·rcases h with⟨_,⟨H0,h⟩,_⟩|⟨h,_⟩
    ·exact⟨hd,.inl ⟨L,.inl ⟨he,⟨H0,by rw[xW hf _ (hs.getD (Sh (GX E cf.fz) ops i) [])];exact h⟩,rfl⟩⟩⟩
    ·rw[he]at h;cases h
   ·exact⟨hd,.inr ⟨L,h1,rfl⟩⟩
  ·have u:=tS (ef:=GX E cf.fz) ops 0;have ac:i<ops.length:=(pR.1 d).1;have O:k=Sh (GX E cf.fz) ops i:=by
    rcases Nat.lt_trichotomy k (Sh (GX E cf.fz) ops i) with Q|heq|aa
    ·exfalso;have c:k<(Ea (GX E cf.fz) 0 ops).length:=by rw[u];exact l2m Q (lY ops (by omega))
     obtain⟨j,p,h1,h2,w,A⟩:=tT ops 0 k _ (II c);have ad:j<i:=by
      rcases Nat.lt_or_ge j i with h|h
      ·exact h
      ·exfalso;have:=lY (ef:=GX E cf.fz) ops h;omega
     have:=(f _ (Na c)).1 (by omega);rw[Le,pA]at this;have:=hp.1 k _ (II c) (ME this);omega
    ·exact heq
    ·exfalso;have g:Sh (GX E cf.fz) ops i<(Ea (GX E cf.fz) 0 ops).length:=by omega
     obtain⟨j,p,h1,h2,w,A⟩:=tT ops 0 _ _ (II g);have ab:i<=j:=by
      rcases Nat.lt_or_ge j i with h|h
      ·exfalso;have Z:=lY (ef:=GX E cf.fz) ops (show j+1<=i from h);rw[Vi h2,w]at Z;simp at Z;omega
      ·exact h
     have:=(f _ (Na g)).2 (by omega);rw[Le,pA]at this;have:=hp.2 _ _ (II g) (ME this);omega
   rw[O];exact Stp.aopg (fz:=cf.fz) x F q
 ·intro a i o d M;obtain⟨j,p,h1,h2,w,A⟩:=tT ops 0 a i M;rw[Le]at h1;subst h1;rw[d]at h2;injection h2 with h2;subst h2
  have:=s i o d;rw[Vi d,w,A]at this;exact Stp.aopg (fz:=cf.fz) x F this
 ·refine⟨rfl,?_⟩;rw[<-X];have:hs.getD (Ea (GX E cf.fz) 0 ops).length []=y:=by rw[tS];exact C.symm
  rw[this];exact hK
def F_{all:List Oper}:∀(l:List Oper)(t:Tm)(H:Hp)(K:List Tm->Is->List Hp->Tm->Ru),gQ E R fz N all l t H K=some r->
 ∃ts vs hs d c,Trc (Stp E R fz N all) (GX E fz) l t H vs hs d c/\K ts vs hs d c=some r/\vs.length=l.length/\∀(i:Nat)(o:Oper),l[i]?=some o->ts[i]?=some (Gn all o (Gi l (λj=>vs.getD j .dk) t (λ_=>true) i)):=by
 intro l
 induction l with
 |nil=>intro t H K h;exact⟨_,_,_,_,_,.nil,h,rfl,λi o h=>by simp at h⟩
 |cons o l ih=>
  intro t H K h;have h:zK N o.dst (VW (L7 all o) t λy=>A2K o.guard
   (@Bool.rec (λ_=>Af) (uY E R y H o.op λv=>NN t o.dst v λd=>gQ E R fz N all l d H λts vs hs=>K (y::ts) (v::vs) hs) (DF (A! E R fz y H o.op λv c=>some (v,c)) λv c=>NN t o.dst v λd=>gQ E R fz N all l d c λts vs hs=>K (y::ts) (v::vs) (H::hs)) (Nu E fz o.op))
   (DF (A1L E R fz all o y H) λv c=>NN t o.dst v λd=>gQ E R fz N all l d c λts vs hs=>K (y::ts) (v::vs) (@Bool.rec (λ_=>List Hp) hs (H::hs) (Nu E fz o.op))))=some r:=h
  obtain⟨x,h⟩:=ZG h;rw[vA]at h;have J:XY (L7 all o) t=Gn all o t:=rfl;rw[J]at h;have key:∀(v:AV)(ts:List Tm)(vs:Is),(∀(i:Nat)(p:Oper),l[i]?=some p->ts[i]?=some (Gn all p (Gi l (λj=>vs.getD j .dk) (OJ t o.dst v) (λ_=>true) i)))->
   ∀(i:Nat)(p:Oper),(o::l)[i]?=some p->(Gn all o t::ts)[i]?=some (Gn all p (Gi (o::l) (λj=>(v::vs).getD j .dk) t (λ_=>true) i)):=by
   intro v ts vs O i p F;cases i with
   |zero=>simp at F;subst F;rfl
   |succ i=>
    rw[YJ];have:=O i p (by simpa using F);simpa using this
  cases w:o.guard with
  |none=>
   have s:Ff all (Gn all o t) o=.run:=by unfold Ff;rw[w]
   rw[w]at h;have h:@Bool.rec (λ_=>Af) (uY E R (Gn all o t) H o.op λv=>NN t o.dst v λd=>gQ E R fz N all l d H λts vs hs=>K (Gn all o t::ts) (v::vs) hs) (DF (A! E R fz (Gn all o t) H o.op λv c=>some (v,c)) λv c=>NN t o.dst v λd=>gQ E R fz N all l d c λts vs hs=>K (Gn all o t::ts) (v::vs) (H::hs)) (Nu E fz o.op)=some r:=h;cases he:Nu E fz o.op
   ·rw[he]at h;obtain⟨v,M,A,g⟩:=oP h;rw[Ql]at g;obtain⟨ts,vs,hs,d,c,k,f,n,q⟩:=ih _ _ _ g;exact⟨_,_,_,_,_,.rd he ⟨x,.inl ⟨.inl s,.inl ⟨he,⟨_,A⟩,rfl⟩⟩⟩ k,f,by simp[n],key v ts vs q⟩
   ·rw[he]at h;obtain⟨v,L,A,g⟩:=RZ h;rw[Ql]at g;obtain⟨ts,vs,hs,d,c,k,f,n,q⟩:=ih _ _ _ g;exact⟨_,_,_,_,_,.ef he ⟨x,.inl ⟨.inl s,.inr ⟨he,A⟩⟩⟩ k,f,by simp[n],key v ts vs q⟩
  |some V=>
   rw[w]at h;have h:(DF (A1L E R fz all o (Gn all o t) H) λv c=>NN t o.dst v λd=>gQ E R fz N all l d c λts vs hs=>K (Gn all o t::ts) (v::vs) (@Bool.rec (λ_=>List Hp) hs (H::hs) (Nu E fz o.op)))=some r:=h;obtain⟨v,L,A,g⟩:=RZ h;rw[Ql]at g;obtain⟨ts,vs,hs,d,c,k,f,n,q⟩:=ih _ _ _ g;rcases Yb A with⟨h1,h2⟩|⟨h1,h2⟩
   ·cases he:Nu E fz o.op
    ·rw[he]at h1 f;obtain⟨Q,M,C,e⟩:=O9 h1;injection e with e;injection e with e B
     subst e B;exact⟨_,_,_,_,_,.rd he ⟨x,.inl ⟨h2,.inl ⟨he,⟨_,C⟩,rfl⟩⟩⟩ k,f,by simp[n],key Q ts vs q⟩
    ·rw[he]at h1 f;exact⟨_,_,_,_,_,.ef he ⟨x,.inl ⟨h2,.inr ⟨he,h1⟩⟩⟩ k,f,by simp[n],key v ts vs q⟩
   ·have h1:some (AV.v undef,H)=some (v,L):=h1;injection h1 with h1;injection h1 with C e
    subst C e;cases he:GX E fz o
    ·have u:Nu E fz o.op=false:=he;rw[u]at f;exact⟨_,_,_,_,_,.rd he ⟨x,.inr ⟨h2,rfl,rfl⟩⟩ k,f,by simp[n],key _ ts vs q⟩
    ·have u:Nu E fz o.op=true:=he;rw[u]at f;exact⟨_,_,_,_,_,.ef he ⟨x,.inr ⟨h2,rfl,rfl⟩⟩ k,f,by simp[n],key _ ts vs q⟩
def Vy:∀{l:List α}{n:Nat}{K:α->Af},nP l n K=some r->∃a,l[n]?=some a/\K a=some r:=by
 intro l
 induction l with
 |nil=>intro n K h;cases h
 |cons a l ih=>
  intro n K h;cases n with
  |zero=>exact⟨a,rfl,h⟩
  |succ n=>
   obtain⟨b,h1,h2⟩:=ih (show nP l n K=some r from h);exact⟨b,by simpa using h1,h2⟩
def A1S{all:List Oper}{ts:List Tm}{vs:Is}{K:Af}:∀{bs:List (Nat×Nat)},A1T E R all bs ts vs hs K=some r->
 K=some r/\∀p∈bs,∃o c v f,all[p.1]?=some o/\ts[p.1]?=some c/\vs[p.1]?=some v/\hs[p.2]?=some f/\(((Ff all c o=.run\/Ff all c o=.dep true)/\∃j,OC E R c f o.op (λu=>some (u,[]))=some (v,j))\/(Ff all c o=.skip\/Ff all c o=.dep false)):=by
 intro bs
 induction bs with
 |nil=>intro h;exact⟨h,λp e=>by simp at e⟩
 |cons p bs ih=>
  intro h;obtain⟨i,k⟩:=p;have h:(nP all i λo=>nP ts i λc=>nP vs i λv=>nP hs k λH=>Qm (gdK all c o.guard λg=>@Bool.rec (λ_=>Af) (some (.v (.bool true),[])) (AN (OC E R c H o.op λu=>some (u,[])) v) g) (A1T E R all bs ts vs hs K))=some r:=h;obtain⟨o,h1,h⟩:=Vy h;obtain⟨c,h2,h⟩:=Vy h;obtain⟨v,q,h⟩:=Vy h;obtain⟨f,s,h⟩:=Vy h;obtain⟨⟨j,w⟩,x⟩:=A5m h;obtain⟨y,A⟩:=ih x;refine⟨y,λp e=>?_⟩;simp only[Rx]at e;rcases e with rfl|e
  ·refine⟨o,c,v,f,h1,h2,q,s,?_⟩;rcases Yb w with⟨n,d⟩|⟨n,d⟩
   ·exact .inl ⟨d,iU n⟩
   ·exact .inr d
  ·exact A p e
def A9c{i k:Nat}(g:B6O ops efs i k):∀(l:Hb)(a:Nat),(∀b,l[b]?=efs[a+b]?)->A2r (Qo ops) i k a l=true:=by
 intro l
 induction l with
 |nil=>intro a _;rfl
 |cons e l ih=>
  intro a f;have d:efs[a]?=some e:=by have:=f 0;simpa using this.symm
  simp only[A2r,I0,l1d,tD];refine⟨?_,?_,ih (a+1) λb=>?_⟩
  ·cases c:tb ((Qo ops).getD i 0) e
   ·exact .inl rfl
   ·refine .inr ?_;rw[pA]at c;rw[Ua];exact g.1 a e d (ME c)
  ·cases c:tb ((Qo ops).getD e 0) i
   ·exact .inl rfl
   ·refine .inr ?_;rw[pA]at c;rw[Zl];exact g.2 a e d (ME c)
  ·have:=f (b+1);rw[l0q]at this;rw[this];congr 1;omega
def A2h:∀(l:List Oper)(n c:Nat),A2i E ef ms efs bs n c l=true->∀(j:Nat)(o:Oper),l[j]?=some o->ef o=false->Od E o.op=true\/∀k,k<=efs.length->A2r ms (n+j) k 0 efs=true->k=c+Sh ef l j\/(n+j,k)∈bs:=by
 intro l
 induction l with
 |nil=>intro n c _ j o h;simp at h
 |cons p l ih=>
  intro n c h j o g he;simp only[A2i,I0]at h;cases j with
  |zero=>
   simp at g;subst g;have h1:=h.1;rw[he,Bool.false_or,l1d]at h1;rcases h1 with h1|h1
   ·exact .inl h1
   ·refine .inr λk hk f=>?_;have h2:=Gb.1 h1 k (I2.2 (by omega));rw[Nat.add_zero]at f;rw[f]at h2;simp only[l1d,Bool.not_true,mL,false_or,I0,List.any_eq_true]at h2;rcases h2 with h2|⟨q,hq,d,e⟩
    ·exact .inl (by rw[VQ h2];simp[Sh])
    ·refine .inr ?_;obtain⟨q1,q2⟩:=q;have d:=VQ d;have e:=VQ e;simp only at d e;subst d e;exact hq
  |succ j=>
   have:=ih (n+1) _ h.2 j o (by simpa using g) he;rw[show n+(j+1)=n+1+j from by omega];rcases this with d|d
   ·exact .inl d
   ·refine .inr λk hk f=>?_;rcases d k hk f with e|e
    ·refine .inl ?_;rw[e];cases s:ef p<;>simp[Sh,s]
     omega
    ·exact .inr e
def gP(w:XE.Ok D E P)(F:RSound D E P R){id:Nat}(hD:pH ops (Ea (GX E cf.fz) 0 ops)=true)(M:A2i E (GX E cf.fz) (Qo ops) (Ea (GX E cf.fz) 0 ops) bs 0 0 ops=true)(h:(gQ E R cf.fz cf.n ops ops t H λts vs hs J u=>A1T E R ops bs ts vs hs (K J u))=some r):
 NC P E.G ro m cf.n (.region id ops.toArray true) (λe J u=>e=.normal/\K J u=some r) t H:=by
 obtain⟨ts,vs,hs,J,u,ad,Q,af,ae⟩:=F_ ops t H _ h;obtain⟨Q,x⟩:=A1S Q;obtain⟨h0,ac,O,s⟩:=ad.at;have hk:=iW hD;have hr:=A2h ops 0 0 M;have e0:H=(λk=>hs.getD k []) 0:=h0.symm;rw[e0];refine zT (efs:=Ea (GX E cf.fz) 0 ops) (val:=λj=>vs.getD j .dk) (Hs:=λk=>hs.getD k []) w.mix hk (λo c=>?_) ?_ ?_ ?_
 ·obtain⟨i,Y⟩:=List.getElem?_of_mem c;exact(s i o Y).1
 ·intro i o c ab k aa hp;have he:GX E cf.fz o=false:=by
   cases he:GX E cf.fz o
   ·rfl
   ·exact absurd (A6U ops 0 i o c he) (by rw[Le];exact ab _)
  have g:=s i o c;have V:Sh (GX E cf.fz) ops (i+1)=Sh (GX E cf.fz) ops i:=by rw[Vi c,he];simp
  rw[V]at g;rcases hr i o c he with hf|A
  ·refine Stp.aopg (fz:=cf.fz) w F ?_;obtain⟨y,⟨d,h⟩|⟨d,h1,h2⟩⟩:=g
   ·rcases h with⟨_,⟨L,h⟩,_⟩|⟨h,_⟩
    ·exact⟨y,.inl ⟨d,.inl ⟨he,⟨L,by rw[xW hf _ (hs.getD (Sh (GX E cf.fz) ops i) [])];exact h⟩,rfl⟩⟩⟩
    ·rw[he]at h;cases h
   ·exact⟨y,.inr ⟨d,h1,rfl⟩⟩
  ·rcases A k aa (by rw[Le];exact A9c hp _ 0 (λb=>by rw[Le])) with Z|q
   ·rw[Z,Le];exact Stp.aopg (fz:=cf.fz) w F g
   ·rw[Le]at q;obtain⟨o',t1,v,Hk,h1,h2,B,C,f⟩:=x _ q;simp only at h1 h2 B C;rw[c]at h1;injection h1 with h1;subst h1
    rw[ae i o c]at h2;injection h2 with h2;subst h2
    have hv:vs.getD i .dk=v:=by rw[Tc,B];rfl
    have X:hs.getD k []=Hk:=by rw[Tc,C];rfl
    refine Stp.aopg (fz:=cf.fz) w F ?_;obtain⟨y,⟨d,h⟩|⟨d,h1,h2⟩⟩:=g
    ·rcases f with⟨_,L,f⟩|f
     ·refine⟨y,.inl ⟨d,.inl ⟨he,⟨L,?_⟩,rfl⟩⟩⟩;rw[hv,X];exact f
     ·exfalso;rcases d with d|d<;>rcases f with f|f<;>(rw[d]at f;cases f)
    ·exact⟨y,.inr ⟨d,h1,rfl⟩⟩
 ·intro a i o c Y;obtain⟨j,p,h1,h2,B,C⟩:=tT ops 0 a i Y;rw[Le]at h1;subst h1;rw[c]at h2;injection h2 with h2;subst h2
  have:=s i o c;rw[Vi c,B,C]at this;exact Stp.aopg (fz:=cf.fz) w F this
 ·refine⟨rfl,?_⟩;rw[<-ac];have:hs.getD (Ea (GX E cf.fz) 0 ops).length []=u:=by rw[tS];exact O.symm
  rw[this];exact Q
def F?(j:XE.Ok D E P)(k:RSound D E P R){id:Nat}(c:iX E cf id ops=true)(h:B5M E R cf id ops t H K=some r):
 NC P E.G ro m cf.n (.region id ops.toArray true) (λe g f=>e=.normal/\K g f=some r) t H:=by
 unfold iX at c;rw[I0]at c;have h:(match A4A id cf.rc with
  |none=>zdr E R cf.fz cf.n ops ops t H K
  |some bs=>gQ E R cf.fz cf.n ops ops t H λts vs hs g f=>A1T E R ops bs ts vs hs (K g f))=some r:=h
 cases d:A4A id cf.rc with
 |none=>rw[d]at c h;exact A1Q j k c.1 c.2 h
 |some bs=>rw[d]at c h;exact gP j k c.1 c.2 h
def vD(f:∀E cf id ops,D E cf id ops=true->iX E cf id ops=true)(d:XE.Ok D E P)(e:RSound D E P R):A0B D E P (A0F E R):=by
 intro ro cf id ops t H K r m hb h;unfold A0F at h;cases c:cf.b
 ·rw[c]at h;exact F? d e (f _ _ _ _ (hb c)) h
 ·rw[c]at h;unfold B5L at h;obtain⟨h1,h2⟩:=Jt h;rw[I0]at h1;exact gP d e h1.1 h1.2 h2
end
end
def jn{α:Type}(k:α)(F:α->Af):Af:=(λ(_:Unit)=>F k) FA
def dO(R:Rt)(n:Nat)(f:AV)(t:Tm)(ps:Array Tmp)(e h:Code)(H:Hp)(K:Option (Option Code)->Ru):Af:=
 match f with
 |.fn (.func g) first cap=>GP H λs=>WJ first (.yl s::cap) λall=>R.call g all ((s,.loop n t ps e h (some none))::H) λ_ c=>IZ c s λx=>Wa x λ_ _ _ _ _ a=>XA5 c s .gone λd=>K a d
 |_=>none
def ZV(p:Option (Option Code))(x y:Af)(e g:Nat->Af):Af:=
 match p with
 |some none=>x
 |some (some .ret)=>y
 |some (some (.exit id))=>e id
 |some (some (.goto l))=>g l
 |_=>none
def rdK(run:uJ)(N:Nat)(t:Tm)(ps:Array Tmp)(args:Is)(g h:Code)(H:Hp)(P:Hp->Ru->Af)(Q:Exit->Ru):Af:=
 K_ t ps.toList args λa=>run ⟨true,a.map (·.1),false,N,[]⟩ g a H λe i c=>match e with
  |.normal=>P c λd=>run ⟨true,a.map (·.1),false,N,[]⟩ h i d λe _ f=>Q e f
  |_=>none
def wE:Code->List (Operand×Array Tmp×Code×Code)
 |.seq x y=>wE x++wE y
 |.cond _ x y=>wE x++wE y
 |.block _ x=>wE x
 |.loop x=>wE x
 |.scope x=>wE x
 |.rangeFunc g ps a c=>[(g,ps,a,c)]
 |_=>[]
def Up(c:Code)(k:Nat):Operand×Array Tmp×Code×Code:=(wE c).getD k (.func 0,#[],.skip,.skip)
abbrev zI:AV:=.v (.int .i64 0)
abbrev zS:AV:=.v (.string ⟨⟨[]⟩⟩)
abbrev zL:AV:=.v (.slice none 0 0)
abbrev zB:AV:=.v (.bool false)
section
variable{s u:Ha}
abbrev I(n:Int):AV:=.v (.int .i64 n)
abbrev Bo(b:Bool):AV:=.v (.bool b)
abbrev S(l:Ha):AV:=.v (.string ⟨⟨l⟩⟩)
section
variable{K:K2}{i j:TI}{k:IntKind}{a b:Int}
def Ck:Al i .add (.v (.int k a)) (.v (.int k b)) K=K (.v (.int k (k.wrap (a+b)))):=by
 have:Al i .add (.v (.int k a)) (.v (.int k b)) K=ck (decide (k=k)) (JA k (a+b) λz=>K (.v (.int k z))):=rfl;rw[this,Iz rfl];exact XA0 _ _ _
def Gx:Al i .sub (.v (.int k a)) (.v (.int k b)) K=K (.v (.int k (k.wrap (a-b)))):=by
 have:Al i .sub (.v (.int k a)) (.v (.int k b)) K=ck (decide (k=k)) (JA k (a-b) λz=>K (.v (.int k z))):=rfl;rw[this,Iz rfl];exact XA0 _ _ _
def LQ:Al i .mul (.v (.int k a)) (.v (.int k b)) K=K (.v (.int k (k.wrap (a*b)))):=by
 have:Al i .mul (.v (.int k a)) (.v (.int k b)) K=ck (decide (k=k)) (JA k (a*b) λz=>K (.v (.int k z))):=rfl;rw[this,Iz rfl];exact XA0 _ _ _
def zH(h:b≠0):Al i .quo (.v (.int k a)) (.v (.int k b)) K=K (.v (.int k (k.wrap (a.tdiv b)))):=by
 have:Al i .quo (.v (.int k a)) (.v (.int k b)) K=ck (decide (k=k)) (ck (!tH b 0) (JA k (a.tdiv b) λz=>K (.v (.int k z)))):=rfl;rw[this,Iz rfl,JN,Iy h];exact XA0 _ _ _
def RY(h:b≠0):Al i .rem (.v (.int k a)) (.v (.int k b)) K=K (.v (.int k (a.tmod b))):=by
 have:Al i .rem (.v (.int k a)) (.v (.int k b)) K=ck (decide (k=k)) (ck (!tH b 0) (fI (a.tmod b) λz=>K (.v (.int k z)))):=rfl;rw[this,Iz rfl,JN,Iy h];exact Mi (a.tmod b) (λz=>K (.v (.int k z)))
def CA:Al i .lss (.v (.int k a)) (.v (.int k b)) K=K (Bo (decide (a<b))):=by
 have:Al i .lss (.v (.int k a)) (.v (.int k b)) K=ck (decide (k=k)) (bB (!Zq b a) K):=rfl;rw[this,Iz rfl,IJ];have e:(!decide (b<=a))=decide (a<b):=by rw[eZ];simp
 rw[e];exact JB _ _
def Yt:Al i .leq (.v (.int k a)) (.v (.int k b)) K=K (Bo (decide (a<=b))):=by
 have:Al i .leq (.v (.int k a)) (.v (.int k b)) K=ck (decide (k=k)) (bB (Zq a b) K):=rfl;rw[this,Iz rfl,IJ];exact JB _ _
def DE:Al i .gtr (.v (.int k a)) (.v (.int k b)) K=K (Bo (decide (b<a))):=by
 have:Al i .gtr (.v (.int k a)) (.v (.int k b)) K=ck (decide (k=k)) (bB (!Zq a b) K):=rfl;rw[this,Iz rfl,IJ];have e:(!decide (a<=b))=decide (b<a):=by rw[eZ];simp
 rw[e];exact JB _ _
def Kn:Al i .geq (.v (.int k a)) (.v (.int k b)) K=K (Bo (decide (b<=a))):=by
 have:Al i .geq (.v (.int k a)) (.v (.int k b)) K=ck (decide (k=k)) (bB (Zq b a) K):=rfl;rw[this,Iz rfl,IJ];exact JB _ _
def CP:Al i .eql (.v (.int k a)) (.v (.int k b)) K=K (Bo (decide (a=b))):=by
 have:Al i .eql (.v (.int k a)) (.v (.int k b)) K=ck (decide (k=k)) (bB (tH a b) K):=rfl;rw[this,Iz rfl,JN];exact JB _ _
def GY:Al i .neq (.v (.int k a)) (.v (.int k b)) K=K (Bo (!decide (a=b))):=by
 have:Al i .neq (.v (.int k a)) (.v (.int k b)) K=ck (decide (k=k)) (bB (!tH a b) K):=rfl;rw[this,Iz rfl,JN];exact JB _ _
def GK:Al i .eql (S s) (S u) K=K (Bo (decide (s=u))):=by
 have:Al i .eql (S s) (S u) K=bB (yO s u) K:=rfl;rw[this,LO,JB,show(s==u)=decide (s=u) from by by_cases h:s=u<;>simp[h]]
def ZF:Al i .neq (S s) (S u) K=K (Bo (!decide (s=u))):=by
 have:Al i .neq (S s) (S u) K=bB (!yO s u) K:=rfl;rw[this,LO,JB,show(s==u)=decide (s=u) from by by_cases h:s=u<;>simp[h]]
def DA{q:Bool}{x y:Af}:A1 (Bo q) x y=if q=true then x else y:=by cases q<;>rfl
end
def Ca{α:Type}(k:α)(F:α->Af):jn k F=F k:=rfl
def BX{x:Int}(h1: -9223372036854775808<=x)(h2:x<9223372036854775808):IntKind.i64.wrap x=x:=by
 simp only[IntKind.wrap,IntKind.bits,IntKind.signed];have c:(2^64:Int)=18446744073709551616:=by decide
 have d:(2^(64-1):Int)=9223372036854775808:=by decide
 simp only[c,d,xR,decide_eq_true_eq];split<;>omega
end
section
variable{v:AV}{q q':Bool}{H:Hp}{args:Is}{D n:Nat}{P:Program}{R:Rt}{F:Rt->AV->AV->AV->AV->Hp->KV->Af}{α:Type}{x:Value}
def BT.All(p:Nat->α->Prop):BT α->Prop
 |.leaf=>True
 |.node k v l r=>p k v/\l.All p/\r.All p
def uH{p:Nat->α->Prop}:(BT.leaf:BT α).All p:=trivial
def uG{p:Nat->α->Prop}{k:Nat}{v:α}{l r:BT α}(h:p k v)(a:l.All p)(hr:r.All p):(BT.node k v l r).All p:=⟨h,a,hr⟩
theorem BT.All.get{p:Nat->α->Prop}:∀{b:BT α},b.All p->∀{i:Nat}{v:α},b.get i=some v->p i v:=by
 intro b
 induction b with
 |leaf=>intro _ i v h;cases h
 |node k w l r a c=>
  intro e i v h;obtain⟨h1,h2,d⟩:=e;simp only[BT.get]at h;split at h
  ·rename_i hk;injection h with h
   subst h;rw[VQ hk];exact h1
  ·split at h
   ·exact a h2 h
   ·exact c d h
abbrev NF:=Rt->Is->Hp->KV->Af
def ar0(F:Hp->KV->Af)(l:Is):Hp->KV->Af:=match l with|[]=>F|_=>λ_ _=>none
def ar1(F:AV->Hp->KV->Af)(l:Is):Hp->KV->Af:=match l with|[a]=>F a|_=>λ_ _=>none
def ar2(F:AV->AV->Hp->KV->Af)(l:Is):Hp->KV->Af:=match l with|[a,b]=>F a b|_=>λ_ _=>none
def ar3(F:AV->AV->AV->Hp->KV->Af)(l:Is):Hp->KV->Af:=match l with|[a,b,c]=>F a b c|_=>λ_ _=>none
def ar4(F:AV->AV->AV->AV->Hp->KV->Af)(l:Is):Hp->KV->Af:=match l with|[a,b,c,d]=>F a b c d|_=>λ_ _=>none
def Qy(E:XE)(R:Rt):uJ:=λa c t H K=>Xc E R (A0F E R) a c t H K
def Lk(E:XE)(f:Nat)(F:NF):Prop:=∀(R:Rt)(args:Is)(H:Hp)(K:KV)(r:AV×Hp),F R args H K=some r->zfn E (Qy E R) f args H K=some r
def lk0{E:XE}{f:Nat}{F:Rt->Hp->KV->Af}(h:∀R H K,zfn E (Qy E R) f [] H K=F R H K):Lk E f λR=>ar0 (F R):=λR args H K r hr=>by
 match args,hr with
 |[],hr=>exact(h R H K).trans hr
def lk1{E:XE}{f:Nat}{F:Rt->AV->Hp->KV->Af}(h:∀R a H K,zfn E (Qy E R) f [a] H K=F R a H K):Lk E f λR=>ar1 (F R):=λR args H K r hr=>by
 match args,hr with
 |[a],hr=>exact(h R a H K).trans hr
def lk2{E:XE}{f:Nat}{F:Rt->AV->AV->Hp->KV->Af}(h:∀R a b H K,zfn E (Qy E R) f [a,b] H K=F R a b H K):Lk E f λR=>ar2 (F R):=λR args H K r hr=>by
 match args,hr with
 |[a,b],hr=>exact(h R a b H K).trans hr
def lk3{E:XE}{f:Nat}{F:Rt->AV->AV->AV->Hp->KV->Af}(h:∀R a b c H K,zfn E (Qy E R) f [a,b,c] H K=F R a b c H K):Lk E f λR=>ar3 (F R):=λR args H K r hr=>by
 match args,hr with
 |[a,b,c],hr=>exact(h R a b c H K).trans hr
def lk4{E:XE}{f:Nat}(h:∀R a b c d H K,zfn E (Qy E R) f [a,b,c,d] H K=F R a b c d H K):Lk E f λR=>ar4 (F R):=λR args H K r hr=>by
 match args,hr with
 |[a,b,c,d],hr=>exact(h R a b c d H K).trans hr
def dI(E:XE)(nT:BT NF)(R:Rt):A7b:=λf args H K=>match nT.get f with|some F=>F R args H K|none=>zfn E (Qy E R) f args H K
abbrev OF:=Is->Hp->KV->Af->Af
def mH(E:XE)(P:Program)(f:Nat)(F:OF):Prop:=∀(args:Is)(H:Hp)(K:KV)(alt:Af)(r:AV×Hp),F args H K alt=some r->
 alt=some r\/(TY P f/\Oa P E.G f args H (λc a=>K c a=some r))
def zN(E:XE)(nT:BT NF)(oT:BT OF)(R:Rt):A7b:=λf args H K=>match oT.get f with
 |some F=>F args H K (dI E nT R f args H K)
 |none=>dI E nT R f args H K
def SZ(E:XE)(nT:BT NF)(oT:BT OF)(n:Nat):Rt:=@Nat.rec (λ_=>Rt) ⟨λ_ _ _ _=>none,λ_ _ _ _ _=>none⟩ (λ_ R=>⟨zN E nT oT R,Qy E R⟩) n
section
variable{E:XE}{nT:BT NF}{oT:BT OF}{f:Nat}
def RQ{F:NF}(h:nT.get f=some F)(a:oT.get f=none)(n:Nat)(args:Is)(H:Hp)(K:KV):(SZ E nT oT (n+1)).call f args H K=F (SZ E nT oT n) args H K:=by
 show zN E nT oT (SZ E nT oT n) f args H K=_;unfold zN;rw[a];unfold dI;simp only[h]
def U!{F:Rt->Hp->KV->Af}(h:nT.get f=some λR=>ar0 (F R))(a:oT.get f=none)(n:Nat)(H:Hp)(K:KV):(SZ E nT oT (n+1)).call f [] H K=F (SZ E nT oT n) H K:=RQ h a n _ H K
def U'{F:Rt->AV->Hp->KV->Af}(h:nT.get f=some λR=>ar1 (F R))(c:oT.get f=none)(n:Nat)(a:AV)(H:Hp)(K:KV):(SZ E nT oT (n+1)).call f [a] H K=F (SZ E nT oT n) a H K:=RQ h c n _ H K
def T_{F:Rt->AV->AV->Hp->KV->Af}(h:nT.get f=some λR=>ar2 (F R))(c:oT.get f=none)(n:Nat)(a b:AV)(H:Hp)(K:KV):(SZ E nT oT (n+1)).call f [a,b] H K=F (SZ E nT oT n) a b H K:=RQ h c n _ H K
def T?{F:Rt->AV->AV->AV->Hp->KV->Af}(h:nT.get f=some λR=>ar3 (F R))(d:oT.get f=none)(n:Nat)(a b c:AV)(H:Hp)(K:KV):(SZ E nT oT (n+1)).call f [a,b,c] H K=F (SZ E nT oT n) a b c H K:=RQ h d n _ H K
def T!(h:nT.get f=some λR=>ar4 (F R))(e:oT.get f=none)(n:Nat)(a b c d:AV)(H:Hp)(K:KV):(SZ E nT oT (n+1)).call f [a,b,c,d] H K=F (SZ E nT oT n) a b c d H K:=RQ h e n _ H K
end
def S_{E:XE}{nT:BT NF}{oT:BT OF}(e:XE.Ok iX E P)(s:nT.All (Lk E))(p:oT.All (mH E P)):∀n,RSound iX E P (SZ E nT oT n):=by
 intro n
 induction n with
 |zero=>
  refine⟨?_,?_⟩
  ·intro ro k c t H K r m h1 h2 h;cases h
  ·intro f args H K r h;cases h
 |succ n ih=>
  have u:A0B iX E P (A0F E (SZ E nT oT n)):=vD (λ_ _ _ _ h=>h) e ih;have a:Y9 iX E P (Qy E (SZ E nT oT n)):=λro k c t H K r m i w h=>vE e ih u i c t H K w h;have d:∀(f:Nat)(args:Is)(H:Hp)(K:KV)(r:AV×Hp),dI E nT (SZ E nT oT n) f args H K=some r->TY P f/\Oa P E.G f args H (λv j=>K v j=some r):=λf args H K r h=>by
   unfold dI at h;split at h
   ·rename_i F g;exact oR e a (s.get g _ _ _ _ _ h)
   ·exact oR e a h
  refine⟨a,λf args H K r h=>?_⟩;have h:zN E nT oT (SZ E nT oT n) f args H K=some r:=h;unfold zN at h;split at h
  ·rename_i F g;rcases p.get g _ _ _ _ _ h with h|h
   ·exact d f args H K r h
   ·exact h
  ·exact d f args H K r h
def WQ{G:Gl}{f:Nat}{K:KV}{r:AV×Hp}(g:K (.v x) H=some r)(hc:∀w0 C w a,Rel G w0 C H w->BU C w args a->Calls P f a.toArray w λe c=>e=.returned x/\Below w.heap.size w c):Oa P G f args H (λi d=>K i d=some r):=λw0 C w a hr h=>
 (hc w0 C w a hr h).mono λe c ⟨he,hb⟩=>⟨.v x,x,C,H,he,hr.of_below hb,.v _,(hr.ext_below hb).frm,g⟩
def PS(R:Rt)(f:Nat)(args:Is)(v:AV):Prop:=∀H K,Ak R f args H K=K v
def Fx(b:Bool)(D:Nat)(a c:AV)(H:Hp)(q:Bool):Prop:=∀K:Bool->K2,IG b H D a K=K q c
def Er{b:Bool}:Fx b D (.v x) (.v x) H false:=λK=>by cases D<;>rfl
def Qr{cs:Is}:Fx true D (.list n cs) (.list n cs) H false:=λK=>by cases D<;>rfl
def A1m{es:IH}:Fx true D (.imap es) (.imap es) H false:=λK=>by cases D<;>rfl
def Qi(b:Bool)(D:Nat)(l a:Is)(H:Hp)(q:Bool):Prop:=∀K:Bool->Is->Af,Hy (IG b H D) l K=K q a
def Bq{b:Bool}:Qi b D [] [] H false:=λ_=>rfl
def Az{b:Bool}{a c:AV}{l d:Is}(h:Fx b D a c H q)(k:Qi b D l d H q'):Qi b D (a::l) (c::d) H (q||q'):=λK=>by
 have e:Hy (IG b H D) (a::l) K=IG b H D a λq c=>Hy (IG b H D) l λq' d=>K (@Bool.rec (λ_=>Bool) q' true q) (c::d):=rfl;rw[e,h,k];cases q<;>rfl
theorem JO{b:Bool}(f:α->Value):∀(l:List α),Qi b D (l.map λx=>.v (f x)) (l.map λx=>.v (f x)) H false
 |[]=>Bq
 |a::l=>Az (q:=false) (q':=false) Er (JO f l)
def PJ{b:Bool}{cs cs':Is}(h:Qi b D cs cs' H q):Fx b (D+1) (.agg cs) (.agg cs') H q:=λK=>h _
def Zu{b:Bool}{cs cs':Is}(h:Qi b D cs cs' H q):Fx b (D+1) (.tup cs) (.tup cs') H q:=λK=>h _
def BO{r:Nat}{x:Row}{K:Row->Af}(h:Ao H r=some x):IZ H r K=K x:=by
 induction H with
 |nil=>simp[Ao]at h
 |cons p H ih=>
  obtain⟨k,y⟩:=p;simp only[Ao]at h;have e:IZ ((k,y)::H) r K=@Bool.rec (λ_=>Af) (IZ H r K) (K y) (Nat.beq r k):=rfl;rw[e];by_cases hk:r=k
  ·rw[CJ hk]at h;rw[hk,tB,<-(XR h).1]
  ·rw[Co hk]at h;have:Nat.beq r k=false:=by
    cases hb:Nat.beq r k
    ·rfl
    ·exact absurd (VQ hb) hk
   rw[this];exact ih h
def UW{b:Bool}{sz s n:Nat}{e:TypeId}{cs cs':Is}(i:Ao H s=some (.cells q e cs))(hn:cs.length=n*sz)(h:Qi b D cs cs' H q'):Fx b (D+1) (.sl sz s 0 n) (.list n cs') H true:=λK=>by
 have d:IG b H (D+1) (.sl sz s 0 n) K=IZ H s λx=>KY x λ_ cs=>Fb (Nat.mul n sz) (CL 0 cs) λc=>Hy (IG b H D) c λ_ a=>K true (.list n a):=rfl;rw[d,BO i];have g:(KY (.cells q e cs) λ_ cs=>Fb (Nat.mul n sz) (CL 0 cs) λc=>Hy (IG b H D) c λ_ a=>K true (.list n a))=Fb (n*sz) cs λc=>Hy (IG b H D) c λ_ a=>K true (.list n a):=rfl;rw[g,MK _ _ _ (by omega),l1z (by omega),h]
def CS(R:Rt)(f:Nat)(args:Is)(v:AV):Prop:=∀K:KV,(∀c a,(∀b,∃q,Fx b depth c v a q)->K c a=some (v,[]))->R.call f args [] K=some (v,[])
def AX{f:Nat}{args args':Is}{K:K2}(hc:CS R f args' v)(e:Qi true depth args args' H q):Ak R f args H K=K v:=by
 unfold Ak;rw[e];have:=hc (λa c=>IG (!q) c depth a λ_ g=>some (g,[])) (λa i h=>by
  obtain⟨q',d⟩:=h (!q);exact d _)
 rw[this];rfl
def CS.ps{f:Nat}(hc:CS R f args v)(a:∀H,Qi true depth args args H false):PS R f args v:=λH K=>AX hc (a H)
end
section
variable{v zi zj:AV}{H:Hp}{k q:IntKind}
abbrev W(x:BitVec 32):AV:=.v (.int .u32 (x.toNat:Int))
abbrev By(b:UInt8):AV:=.v (.int .u8 (b.toNat:Int))
def Ix(l:Ha):Is:=l.map λb=>By b
def CQ(l:List (BitVec 32)):Is:=l.map λx=>W x
def Uf(h:k.signed=false)(z:Int):k.wrap z=z%(2^k.bits:Nat):=by
 simp only[IntKind.wrap,h,Bool.false_and];simp
def Jh(x:BitVec 32):BitVec.ofInt 32 (x.toNat:Int)=x:=by
 apply BitVec.eq_of_toNat_eq;simp
def Xf{n:Nat}(h:n<4294967296):IntKind.u32.wrap (n:Int)=(n:Int):=by
 rw[Uf rfl];show(n:Int)%(4294967296:Nat)=n;omega
section
variable{K:K2}{i j:TI}{x y:BitVec 32}
def tX(op:BinOp)(f:IT)(c:Gz op=false)(a:A0a op=f):Al i op (W x) (W y) K=f .u32 x.toNat y.toNat K:=by
 have:Al i op (W x) (W y) K=@Bool.rec (λ_=>Af) (ck (decide (IntKind.u32=.u32)) (A0a op .u32 x.toNat y.toNat K)) (A0a op .u32 x.toNat y.toNat K) (Gz op):=rfl;rw[this,c,a];rfl
def MT:Al i .add (W x) (W y) K=K (W (x+y)):=by
 rw[tX .add A9z rfl rfl];unfold A9z;rw[XA0,Uf rfl];have:((x.toNat:Int)+(y.toNat:Int))%(2^IntKind.u32.bits:Nat)=((x+y).toNat:Int):=by
  rw[BitVec.toNat_add];show((x.toNat:Int)+(y.toNat:Int))%(4294967296:Nat)=_;simp only[Int.natCast_emod,Int.natCast_add]
 show K (.v (.int .u32 (((x.toNat:Int)+(y.toNat:Int))%(2^IntKind.u32.bits:Nat))))=_;rw[this]
def RX:Al i .xor (W x) (W y) K=K (W (x^^^y)):=by
 rw[tX .xor A9x rfl rfl];unfold A9x;rw[Mi];have e:(BitVec.ofInt IntKind.u32.bits (x.toNat:Int)^^^BitVec.ofInt IntKind.u32.bits (y.toNat:Int)).toNat=(x^^^y).toNat:=by
  show(BitVec.ofInt 32 (x.toNat:Int)^^^BitVec.ofInt 32 (y.toNat:Int)).toNat=_;rw[Jh,Jh]
 rw[e,Xf (x^^^y).isLt]
def qP:Al i .and (W x) (W y) K=K (W (x&&&y)):=by
 rw[tX .and A9y rfl rfl];unfold A9y;rw[Mi];have e:(BitVec.ofInt IntKind.u32.bits (x.toNat:Int)&&&BitVec.ofInt IntKind.u32.bits (y.toNat:Int)).toNat=(x&&&y).toNat:=by
  show(BitVec.ofInt 32 (x.toNat:Int)&&&BitVec.ofInt 32 (y.toNat:Int)).toNat=_;rw[Jh,Jh]
 rw[e,Xf (x&&&y).isLt]
def Ys:Al i .or (W x) (W y) K=K (W (x|||y)):=by
 rw[tX .or iOr rfl rfl];unfold iOr;rw[Mi];have e:(BitVec.ofInt IntKind.u32.bits (x.toNat:Int)|||BitVec.ofInt IntKind.u32.bits (y.toNat:Int)).toNat=(x|||y).toNat:=by
  show(BitVec.ofInt 32 (x.toNat:Int)|||BitVec.ofInt 32 (y.toNat:Int)).toNat=_;rw[Jh,Jh]
 rw[e,Xf (x|||y).isLt]
def A6g:Nh .xor (W x) K=K (W (~~~x)):=by
 have a:Nh .xor (W x) K=fI (IntKind.u32.wrap ((BitVec.ofInt IntKind.u32.bits (if IntKind.u32.signed=true then-1 else IntKind.u32.max)^^^BitVec.ofInt IntKind.u32.bits (x.toNat:Int)).toNat)) λz=>K (.v (.int .u32 z)):=rfl;rw[a,Mi];have e:(BitVec.ofInt IntKind.u32.bits (if IntKind.u32.signed=true then-1 else IntKind.u32.max)^^^BitVec.ofInt IntKind.u32.bits (x.toNat:Int)).toNat=(~~~x).toNat:=by
  show(BitVec.ofInt 32 4294967295^^^BitVec.ofInt 32 (x.toNat:Int)).toNat=_;rw[Jh];have:BitVec.ofInt 32 4294967295=BitVec.allOnes 32:=by decide
  rw[this,BitVec.allOnes_xor]
 rw[e,Xf (~~~x).isLt]
def Hu{z:Int}{k:Nat}(hz:z=k)(hk:k<=32):Al i .shr (W x) (.v (.int q z)) K=K (W (x>>>k)):=by
 subst hz;have:Al i .shr (W x) (.v (.int q (k:Int))) K=ck (Zq 0 (k:Int)) (fI ((x.toNat:Int).fdiv (2^(min (k:Int).toNat 32))) λz=>K (.v (.int .u32 z))):=rfl;rw[this,Mi];have h1:Zq 0 (k:Int)=true:=by rw[IJ];simp
 have h2:(x.toNat:Int).fdiv (2^(min (k:Int).toNat 32))=((x>>>k).toNat:Int):=by
  rw[XV,l1x hk,BitVec.toNat_ushiftRight,Nat.shiftRight_eq_div_pow];have:((2:Int)^k)=((2^k:Nat):Int):=by simp
  rw[this,Int.fdiv_eq_ediv_of_nonneg _ (Int.natCast_nonneg _)];exact(Int.natCast_ediv _ _).symm
 rw[h1,h2];rfl
def Js{z:Int}{k:Nat}(hz:z=k)(hk:k<=32):Al i .shl (W x) (.v (.int q z)) K=K (W (x<<<k)):=by
 subst hz;have:Al i .shl (W x) (.v (.int q (k:Int))) K=ck (Zq 0 (k:Int)) (JA .u32 ((x.toNat:Int)*2^(min (k:Int).toNat 32)) λz=>K (.v (.int .u32 z))):=rfl;rw[this,XA0,Uf rfl];have h1:Zq 0 (k:Int)=true:=by rw[IJ];simp
 have h2:((x.toNat:Int)*2^(min (k:Int).toNat 32))%(2^IntKind.u32.bits:Nat)=((x<<<k).toNat:Int):=by
  rw[XV,l1x hk,BitVec.toNat_shiftLeft,Nat.shiftLeft_eq];have:((2:Int)^k)=((2^k:Nat):Int):=by simp
  rw[this,<-Int.natCast_mul];exact(Int.natCast_emod _ _).symm
 rw[h1,h2];rfl
def A6w{a b c d:Nat}:EE ⟨a,b,.int k,zi⟩ ⟨c,d,.int .u8,zj⟩ (W x) K=K (By (UInt8.ofNat x.toNat)):=by
 have:EE ⟨a,b,.int k,zi⟩ ⟨c,d,.int .u8,zj⟩ (W x) K=JA .u8 (x.toNat:Int) λz=>K (.v (.int .u8 z)):=rfl;rw[this,XA0,Uf rfl];have:(x.toNat:Int)%(2^IntKind.u8.bits:Nat)=((UInt8.ofNat x.toNat).toNat:Int):=by
  rw[UInt8.toNat_ofNat'];exact(Int.natCast_emod _ _).symm
 rw[this]
def A6x{a b d e:Nat}{c:UInt8}:EE ⟨a,b,.int k,zi⟩ ⟨d,e,.int .u32,zj⟩ (By c) K=K (W (BitVec.ofNat 32 c.toNat)):=by
 have:EE ⟨a,b,.int k,zi⟩ ⟨d,e,.int .u32,zj⟩ (By c) K=JA .u32 (c.toNat:Int) λz=>K (.v (.int .u32 z)):=rfl;rw[this,XA0,Uf rfl];have:(c.toNat:Int)%(2^IntKind.u32.bits:Nat)=((BitVec.ofNat 32 c.toNat).toNat:Int):=by
  rw[BitVec.toNat_ofNat];exact(Int.natCast_emod _ _).symm
 rw[this]
def A6F:Ai (some (v,H)) K=K v:=id rfl
def A0m{a:KV}:DF (some (v,H)) a=a v H:=id rfl
end
end
section
variable{v:AV}{H H':Hp}{e n s sz:Nat}{K:Nat->Is->Af}{P:Nat->Prop}{x y:Row}{ie:TI}
def Wf(H:Hp):Prop:=∀k∈H.map (·.1),k<Ay H
def A5H(H:Hp)(r:Nat)(y:Row):(upd H r y).map (·.1)=H.map (·.1):=by
 induction H with
 |nil=>rfl
 |cons p H ih=>
  obtain⟨k,x⟩:=p;by_cases hk:r=k
  ·subst hk;simp[upd]
  ·simp[upd,hk,ih]
def EH:Wf []:=λk h=>by simp at h
def Bw(h:Wf H):Wf ((Ay H,x)::H):=λk hk=>by
 show k<Ay H+1;simp only[Zm,Rx]at hk;rcases hk with rfl|hk
 ·omega
 ·have:=h k hk;omega
def BF{r:Nat}(h:Wf H):Wf (upd H r y):=λk hk=>by rw[CU];rw[A5H]at hk;exact h k hk
def A5w(h:Ao H s=some x):s∈H.map (·.1):=by
 induction H with
 |nil=>simp[Ao]at h
 |cons p H ih=>
  obtain⟨k,y⟩:=p;simp only[Ao]at h;split at h
  ·rename_i hk;simp[hk]
  ·simp[ih h]
def Wf.lt(h:Wf H)(a:Ao H s=some x):s<Ay H:=h s (A5w a)
def Av(a:x≠.gone):Ao ((Ay H,x)::H) (Ay H)=some x:=by
 simp only[Ao,CJ];cases x<;>first|rfl|exact absurd rfl a
def AQ(c:s<Ay H)(a:Ao H s=some y):Ao ((Ay H,x)::H) s=some y:=by
 simp only[Ao];rw[Co (by omega)];exact a
structure Lat(H H':Hp)(P:Nat->Prop):Prop where
 wf:Wf H->Wf H'
 nx:Ay H<=Ay H'
 keep:Wf H->∀s x,Ao H s=some x->¬P s->Ao H' s=some x
def Lat.refl(H:Hp)(P:Nat->Prop):Lat H H P:=⟨id,MZ _,λ_ _ _ h _=>h⟩
def Lat.trans{H H' a:Hp}{P Q R:Nat->Prop}(h:Lat H H' P)(k:Lat H' a Q)(g:∀s,s<Ay H->P s->R s)(hq:∀s,s<Ay H->Q s->R s):Lat H a R:=
 ⟨λw=>k.wf (h.wf w),WW h.nx k.nx,λw s x c hn=>k.keep (h.wf w) s x (h.keep w s x c λd=>hn (g s (w.lt c) d)) λf=>hn (hq s (w.lt c) f)⟩
def Lat.cons(H:Hp)(x:Row)(P:Nat->Prop):Lat H ((Ay H,x)::H) P:=⟨Bw,l1p _,λw s y a _=>AQ (w.lt a) a⟩
theorem Lat.upd(H:Hp)(r:Nat)(y:Row)(a:P r):Lat H (upd H r y) P:=⟨BF,by rw[CU];exact MZ _,λ_ s x c hn=>by rw[Aj (λe=>hn (by rw[e];exact a))];exact c⟩
def AT(H:Hp)(e sz:Nat)(v:AV)(n:Nat)(cs:Is):Prop:=
 (v=.v (.slice none 0 0)/\n=0/\cs=[])\/∃r q,v=.sl sz r 0 n/\Ao H r=some (.cells q e cs)/\cs.length=n*sz
def AD(v:AV)(s:Nat):Prop:=∃sz o n,v=.sl sz s o n
def AT.lat{cs:Is}(h:AT H e sz v n cs)(w:Wf H)(k:Lat H H' P)(c:∀s,AD v s->¬P s):AT H' e sz v n cs:=by
 rcases h with h|⟨r,q,h1,h2,a⟩
 ·exact .inl h
 ·exact .inr ⟨r,q,h1,k.keep w r _ h2 (c r ⟨sz,0,n,h1⟩),a⟩
theorem AT.lt{cs:Is}(h:AT H e sz v n cs)(w:Wf H)(d:AD v s):s<Ay H:=by
 obtain⟨a,b,c,rfl⟩:=d;rcases h with⟨h,_⟩|⟨r,q,h1,h2,f⟩
 ·cases h
 ·injection h1 with _ h1;subst h1;exact w.lt h2
def A2V{cs:Is}:TU H (.list n cs) K=K n cs:=rfl
def B4S{l:Ha}:TU H (S l) K=K l.length (Ix l):=by
 have:TU H (S l) K=HB l 0 λm=>WK l λc=>K m c:=rfl;rw[this,Cz,V1,Le];rfl
def Oz{cs:Is}(h:AT H e sz v n cs):TU H v K=K n cs:=by
 rcases h with⟨rfl,rfl,rfl⟩|⟨r,q,rfl,h2,a⟩
 ·rfl
 ·have:TU H (.sl sz r 0 n) K=IZ H r λx=>KY x λ_ cs=>Fb (Nat.mul n sz) (CL 0 cs) λc=>K n c:=rfl;rw[this,BO h2];show Fb (n*sz) cs (λc=>K n c)=_;rw[MK _ _ _ (by omega),l1z (by omega)]
def apt{e sz n m:Nat}{ie i2:TI}{v src:AV}{cs ys:Is}(h:AT H e sz v n cs)(Q:∀K:Nat->Is->Af,TU H src K=K m ys)(k:ys.length=m*sz)(h1:ys.all AV.one=true)(hsz:sz≠0)(hz:(Br ie.zero).length=sz)(R:(vX i2.d&&Xp sz src)=true)(hb:(n+m)*ie.bytes<=70368744177664)(j:n+m<=70368744177664):
 ∃A H',(∀K:KV,DJ e sz ie i2 v src H K=K A H')/\AT H' e sz A (n+m) (cs++ys)/\(∀s,AD A s->s=Ay H)/\Lat H H' (AD v):=by
 have f:∀K:KV,lX e sz ie i2 v src H K=(match(generalizing:=false) v with
  |.v (.slice none 0 0)=>ck (Nat.ble (Nat.mul m ie.bytes) 70368744177664&&Nat.ble m 70368744177664) (@Bool.rec (λ_=>Af) (GP H λr=>K (.sl sz r 0 m) ((r,.cells false e ys)::H)) (K (.v (.slice none 0 0)) H) (Nat.beq m 0))
  |.sl t r1 o n=>IZ H r1 λx=>KY x λE cs=>HB cs 0 λcl=>
   ck (Nat.beq E e&&(Nat.beq t sz&&(Nat.beq (Nat.add o (Nat.mul n sz)) cl&&(Nat.ble (Nat.mul (Nat.add n m) ie.bytes) 70368744177664&&Nat.ble (Nat.add n m) 70368744177664))))
    (WJ (CL o cs) ys λi=>XA5 H r1 .gone λH'=>GP H λr=>fN (Nat.add n m) λX=>K (.sl sz r 0 X) ((r,.cells false e i)::H'))
  |_=>none):=λK=>by
  unfold lX;rw[Q,Cz,CH,Cz];have c:(Nat.beq (0+ys.length) (Nat.mul m sz)&&(Qb ys&&(!Nat.beq sz 0&&(Nat.beq (0+(Br ie.zero).length) sz&&(vX i2.d&&Xp sz src)))))=true:=by
   have p:Nat.beq sz 0=false:=by
    cases hb:Nat.beq sz 0
    ·rfl
    ·exact absurd (VQ hb) hsz
   rw[FV,h1,R,hz,k,p];simp
  rw[c];rfl
 rcases h with⟨rfl,rfl,rfl⟩|⟨r,q,rfl,h2,D⟩
 ·have c:(Nat.ble (Nat.mul m ie.bytes) 70368744177664&&Nat.ble m 70368744177664)=true:=by
   simp only[Le]at hb j;rw[I0,Zl,Zl];exact⟨hb,j⟩
  cases m with
  |zero=>
   refine⟨.v (.slice none 0 0),H,λK=>?_,.inl ⟨rfl,rfl,by rw[l30];exact tC (by rw[k,Nat.zero_mul])⟩,λs ⟨a,b,c,g⟩=>by(cases g),⟨λw=>w,MZ _,λ_ u y V _=>V⟩⟩;show lX e sz ie i2 (.v (.slice none 0 0)) src H K=_;rw[f K];simp only[c];rfl
  |succ m=>
   refine⟨.sl sz (Ay H) 0 (m+1),(Ay H,.cells false e ys)::H,λK=>?_,.inr ⟨Ay H,false,by rw[Le],by rw[l30];exact Av (by simp),by rw[l30,Le];exact k⟩,λs ⟨a,b,c,g⟩=>by injection g with _ g;exact g.symm,Lat.cons _ _ _⟩;show lX e sz ie i2 (.v (.slice none 0 0)) src H K=_;rw[f K];have M:Nat.beq (m+1) 0=false:=rfl;simp only[c,M,BQ];rfl
 ·refine⟨.sl sz (Ay H) 0 (n+m),(Ay H,.cells false e (cs++ys))::upd H r .gone,λK=>?_,.inr ⟨Ay H,false,rfl,?_,by rw[E6,D,k,B!]⟩,λs ⟨a,b,c,g⟩=>by injection g with _ g;exact g.symm,?_⟩
  ·have N:DJ e sz ie i2 (.sl sz r 0 n) src H K=IZ H r λx=>KY x λE cs=>HB cs 0 λcl=>@Bool.rec (λ_=>Af) (UX (Nat.add 0 (Nat.mul n sz)) cs λi=>XA5 H r (.cells false E i) λL=>lX e sz ie i2 (.sl sz r 0 n) src L K) (lX e sz ie i2 (.sl sz r 0 n) src H K) (Nat.beq (Nat.add 0 (Nat.mul n sz)) cl):=rfl;rw[N,BO h2];have C:∀F:TypeId->Is->Af,KY (.cells q e cs) F=F e cs:=λ_=>rfl;rw[C,Cz];have B:Nat.beq (Nat.add 0 (Nat.mul n sz)) (0+cs.length)=true:=by
    show Nat.beq (0+n*sz) (0+cs.length)=true;rw[D];exact tB _
   rw[B];show lX e sz ie i2 (.sl sz r 0 n) src H K=_;rw[f K];simp only;rw[BO h2,C,Cz];have c:(Nat.beq e e&&(Nat.beq sz sz&&(Nat.beq (Nat.add 0 (Nat.mul n sz)) (0+cs.length)&&(Nat.ble (Nat.mul (Nat.add n m) ie.bytes) 70368744177664&&Nat.ble (Nat.add n m) 70368744177664))))=true:=by
    rw[B,tB,tB];simp only[xR,I0,Zl];exact⟨hb,j⟩
   rw[c];show WJ (CL 0 cs) ys _=_;rw[LB,CX,BQ,Ep,Cs];rfl
  ·have:=Av (H:=upd H r .gone) (x:=.cells false e (cs++ys)) (by simp);rw[CU]at this;exact this
  ·have O:Lat H (upd H r .gone) (AD (.sl sz r 0 n)):=Lat.upd H r .gone ⟨sz,0,n,rfl⟩;have J:=Lat.cons (upd H r .gone) (.cells false e (cs++ys)) (AD (.sl sz r 0 n));rw[CU]at J;exact O.trans J (λ_ _ h=>h) (λ_ _ h=>h)
def A2M(a:AV):∀n(K:Is->Af),Yc n [a] K=K (List.replicate n a):=by
 intro n K;rw[UY]
 congr 1
 induction n with
 |zero=>rfl
 |succ n ih=>simp[Ur,ih,l17]
def ZI{a z:AV}(hz:∀K:Is->Af,Gy ie.zero K=K [z])(d:∀K:Is->Af,Gy a K=K [a])(h1:AV.one a=true)(K:KV):F4 e 1 ie 1 [(0,1,a)] H K=K (.sl 1 (Ay H) 0 1) ((Ay H,.cells false e [a])::H):=by
 unfold F4;rw[hz];show Yc 1 [z] (λcs=>WI [(0,1,a)] cs λc=>GP H λs=>K (.sl 1 s 0 1) ((s,.cells false e c)::H))=_;rw[A2M];show Gy a (λvs=>HB vs 0 λn=>ck (Nat.beq n 1) (ck (Qb vs) (D8 0 vs [z] λc=>GP H λs=>K (.sl 1 s 0 1) ((s,.cells false e c)::H))))=_;rw[d];have:Qb [a]=true:=by rw[FV];simp[h1]
 show ck (Qb [a]) (GP H λs=>K (.sl 1 s 0 1) ((s,.cells false e [a])::H))=_;rw[this,BQ];rfl
def Nn{cs:Is}(h:cs.length=n):AT ((Ay H,.cells false e cs)::H) e 1 (.sl 1 (Ay H) 0 n) n cs:=.inr ⟨Ay H,false,rfl,Av (by simp),by omega⟩
def A1D(l:Ha):(Ix l).all AV.one=true:=by simp[Ix,AV.one,Value.oneCell']
def Nl(l:Ha):(Ix l).length=l.length:=by simp[Ix]
def V5(a b:Ha):Ix a++Ix b=Ix (a++b):=by simp[Ix]
end
end Go.Abs
end
