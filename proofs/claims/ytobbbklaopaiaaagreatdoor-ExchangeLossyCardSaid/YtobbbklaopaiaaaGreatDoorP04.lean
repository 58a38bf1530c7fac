import Derived.Test.YtobbbklaopaiaaaGreatDoorP03
set_option linter.all false
set_option maxHeartbeats 100000000
noncomputable section
namespace Go.Abs
open Go.RowKit
section
variable{aZ bd:Code}
def B8x(r:Nat)(K:AV->Hp->Prop):Exit->Tm->Hp->Prop
 |.normal,_,H=>∃N t ps aZ bd,Aj H r=some (.loop N t ps aZ bd none)/\K (.v (.bool true)) (upd H r (.loop N t ps aZ bd (some none)))
 |.ret,_,H=>∃N t ps aZ bd,Aj H r=some (.loop N t ps aZ bd none)/\K (.v (.bool false)) (upd H r (.loop N t ps aZ bd (some (some .ret))))
 |.exit id,_,H=>∃N t ps aZ bd,Aj H r=some (.loop N t ps aZ bd none)/\K (.v (.bool false)) (upd H r (.loop N t ps aZ bd (some (some (.exit id)))))
 |.goto l,_,H=>∃N t ps aZ bd,Aj H r=some (.loop N t ps aZ bd none)/\K (.v (.bool false)) (upd H r (.loop N t ps aZ bd (some (some (.goto l)))))
 |_,_,_=>False
section
variable{P:Program}{G:Gl}{ro:Option Nat}{N:Nat}{t:Tm}{H:Hp}
def A4y{o:Oper}{c:Call}{fv:Operand}{r:Nat}{K:AV->Hp->Prop}(R:o.op=.call c)(M:c.callee=.value fv)(hf:JL G t fv=.yl r){D:Nat}{t':Tm}{ps:Array Tmp}{args:Is}(m:c.args.toList.map (JL G t)=args)(hl:Aj H r=some (.loop D t' ps aZ bd (some none)))(ae:ps.size=args.length)(ad:∀p∈ps.toList,p<D)(h:∀b,To P G (some b) (As H) D aZ (A9R (λt1 H1=>∃N1 k j g i,Aj H1 r=some (.loop N1 k j g i (some none))/\To P G (some b) (As H) D bd (B8x r K) t1 (upd H1 r (.loop N1 k j g i none))) (λ_ _ _=>False)) (xU t' ps.toList args) H):TB P G ro N o t H K:=by
 intro w0 s0 C a w Q s;have hv:=AY s fv;rw[hf]at hv;generalize hy:a.eval fv=y at hv;cases hv with
 |yl L=>
 rename_i b am;obtain⟨F,l,h1,h2,h3,h4,h5,h6,h7,h8,h9⟩:=s.rel.rows r _ hl;have e:=h1.symm.trans L;injection e with e;injection e with e;injection e with e1 J;subst e1 J
 have V:r<As H:=yK s.rel (by rw[L];simp);have d:=vB s c.args.toList;rw[m]at d;have A:(c.args.map a.eval).size=l.params.size:=by
  have:=d.1;simp at this;simp[h6,ae,this]
 refine⟨λf _=>trivial,?_⟩;rw[Oper.semAt_eq _ _ _ (by rw[R];intro c hc;cases hc)];have X:(execOp a.eval o).run P w=.ok (.round F l.fn ((l.params.zip (c.args.map a.eval)).foldl (λtmps(t,a)=>tmps.setIfInBounds t a) l.tmps) l.assign l.body) w:=by
  simp only[execOp,R,resolve,M,hy,Deferred.ofValue,Dm,lM,FX,invoke];have:=run_yield (P:=P) (w:=w) (args:= #[]++c.args.map a.eval) h2 (by simpa using A);simpa using this
 rw[X];refine⟨λhd=>by simp[vJ]at hd,?_⟩;have ht:=A6x (C:=C) (w:=w) l.params.toList args (c.args.toList.map a.eval) t' l.tmps (λp L=>by rw[h5];exact ad p (h6▸L)) d h9;have ah:(l.params.zip (c.args.map a.eval)).foldl (λtmps(x:Tmp×Value)=>match x with|(t,a)=>tmps.setIfInBounds t a) l.tmps=(l.params.toList.zip (c.args.toList.map a.eval)).foldl (λt(p:Tmp×Value)=>t.setIfInBounds p.1 p.2) l.tmps:=by
  have hz:(l.params.zip (c.args.map a.eval)).foldl (λtmps(p:Tmp×Value)=>tmps.setIfInBounds p.1 p.2) l.tmps=(l.params.toList.zip (c.args.toList.map a.eval)).foldl (λt(p:Tmp×Value)=>t.setIfInBounds p.1 p.2) l.tmps:=by
   rw[<-Array.foldl_toList];simp
  exact hz
 refine roundIn_of_wpIn trivial ?_;rw[ah,h7,h8];have ai:St G w0 0 C D (xU t' ps.toList args) H {tmps:=(l.params.toList.zip (c.args.toList.map a.eval)).foldl (λt(p:Tmp×Value)=>t.setIfInBounds p.1 p.2) l.tmps,defers:=[]} w:=
  ⟨s.rel,by rw[ht.2];exact h5,by rw[<-h6];exact ht.1,.nil,Y_ _⟩
 refine wpIn_mono (h F w0 0 C _ w ai) ?_;rintro e a1 w1 ⟨C1,t1,H1,s1,x1,q1⟩;cases e with
 |normal=>
  obtain⟨N1,k,j,g,i,aa,n⟩:=q1;have q:C1.π r=some (some (F,0)):=(x1.π r V (by rw[L];simp)).trans L;obtain⟨l1,g1,g2,g3,g4,g5,g6,g7,g8,Y⟩:=s1.rel.set_loop (pend':=none) (O:=w0.own) aa q;obtain⟨af,J⟩:=Y {l1 with state:=.busy} rfl (by rw[g3];rfl) rfl rfl rfl rfl;refine⟨_,run_beginRound g1 g2,?_⟩;have aj:St G w0 0 C1 D t1 (upd H1 r (.loop N1 k j g i none)) a1 (w1.putObj F (.loop {l1 with state:=.busy})):=⟨af,s1.size,s1.tmps.mono J,s1.defers.mono J.B J.keepB,Y_ _⟩
  refine wpIn_mono (n w0 0 C1 a1 _ aj) ?_;rintro e a3 w3 ⟨C3,t3,H3,s3,x3,q3⟩;have ac:C3.π r=some (some (F,0)):=(x3.π r V (by rw[q];simp)).trans q;have ak:Frm (As H) w0.own C w C3 w3:=(x1.trans J.frm).trans x3;have fin:∀jump:Option Code,(∃N t ps aZ bd,Aj H3 r=some (.loop N t ps aZ bd none)/\K (.v (.bool jump.isNone)) (upd H3 r (.loop N t ps aZ bd (some jump))))->
   ∃v w4,(Instr.endRound F jump).run P w3=.ok v w4/\∃Z y C' H',a.put o.dst v=a.put o.dst y/\K Z H'/\VRel C' w4 Z y/\Rel G w0 C' H' w4/\Ext w0.own C w C' w4:=by
   rintro jump ⟨N3,aq,ap,an,ao,ab,hK⟩;obtain⟨l3,k1,k2,k3,k4,k5,k6,k7,k8,u⟩:=s3.rel.set_loop (pend':=some jump) (O:=w0.own) ab ac;obtain⟨ag,e4⟩:=u {l3 with state:=if jump.isNone then .ready else .done,pending:=jump} (by cases jump<;>rfl) rfl rfl rfl rfl rfl;exact⟨_,_,run_endRound jump k1,_,_,C3,_,rfl,hK,.v _,ag,(ak.trans e4.frm).ext_of s.rel⟩
  cases e with
  |normal=>exact fin none q3
  |ret=>exact fin (some .ret) q3
  |exit id=>exact fin (some (.exit id)) q3
  |goto l=>exact fin (some (.goto l)) q3
  |panic ch=>exact q3.elim
  |outgrown=>exact q3.elim
 |_=>exact q1.elim
def A4w{m:Nat}{Q:Exit->Tm->Hp->Prop}{g:Operand}{ps:Array Tmp}{f:FuncId}{first cap:Is}(hg:JL G t g=.fn (.func f) first cap){fn:Func}(ao:P.funcs[f]?=some fn)(F:fn.body.isNone=false)(K:(fn.name== "runtime.NumGoroutine")=false)(h:QP P G f (first++[.yl (As H)]++cap) ((As H,.loop N t ps aZ bd (some none))::H) (λ_ H2=>∃N' t' ai R V d,Aj H2 (As H)=some (.loop N' t' ai R V (some d))/\B8A Q t (cut H2 (As H)) d)):To P G none m N (.rangeFunc g ps aZ bd) Q t H:=by
 intro w0 s0 C a w s;refine wpIn_rangeFunc ?_;intro Z _;have hv:=AY s g;rw[hg]at hv;obtain⟨ys,zs,he,aq,ar⟩:=Jr.1 hv;have ae:=Nw w (.deferred (some []));have k:(w.alloc (.deferred (some []))).heap.size=w.heap.size+1:=World.size_alloc _ _;have rD:Rel G w0 C H (w.alloc (.deferred (some []))):=s.rel.of_below ae;have A:(w.alloc (.deferred (some []))).heap[w.heap.size]?=some (.deferred (some [])):=World.alloc_heap_new w _;obtain⟨aj,ak⟩:=rD.addB (b:=w.heap.size) (by rw[k];omega) (.inl s.rel.below.size) (λr x o hx hp=>l1l _ ((s.rel.rows r x hx).block (E8 hx) hp));have eD:Ext w0.own C w (C.addB w.heap.size) (w.alloc (.deferred (some []))):=(s.rel.ext_below ae).trans ak;obtain⟨lp,i⟩:∃lp:Loop,lp={state:=.ready,pending:=none,fn:=Z,tmps:=a.tmps,params:=ps,assign:=aZ,body:=bd,defers:=w.heap.size}:=⟨_,rfl⟩
 have D:=Nw (w.alloc (.deferred (some []))) (.loop lp);have eL:Ext w0.own (C.addB w.heap.size) (w.alloc (.deferred (some []))) ((C.addB w.heap.size).put (As H) (some ((w.alloc (.deferred (some []))).heap.size,0))) ((w.alloc (.deferred (some []))).alloc (.loop lp)):=aj.new_ext D;have j:((w.alloc (.deferred (some []))).alloc (.loop lp)).heap[(w.alloc (.deferred (some []))).heap.size]?=some (.loop lp):=World.alloc_heap_new _ _;have L:=eD.trans eL;have r1:=aj.new_row (x:=.loop N t ps aZ bd (some none)) D ⟨_,lp,Ctx.put_n _ _ _,j,by rw[i];rfl,by rw[i];rfl,by rw[i];exact s.size,by rw[i],by rw[i],by rw[i],(show lp.tmps=a.tmps by rw[i])▸s.tmps.mono L⟩;generalize ab:(C.addB w.heap.size).put (As H) (some ((w.alloc (.deferred (some []))).heap.size,0))=M at r1 L;generalize ac:(w.alloc (.deferred (some []))).alloc (.loop lp)=q at r1 L j;have ah:M.π (As H)=some (some (w.heap.size+1,0)):=by rw[<-ab,Ctx.put_n,k]
 have aa:M.B w.heap.size:=by rw[<-ab];exact .inr rfl
 have am:q.heap[w.heap.size]?=some (.deferred (some [])):=by
  rw[<-ac];exact(D.block _ (by rw[k];omega)).trans A
 have ad:CI M q (first++[.yl (As H)]++cap) (ys++[.func (.yield (w.heap.size+1)) #[] #[]]++zs):=((aq.mono L).append (.cons (.yl ah) .nil)).append (ar.mono L);have J:=h w0 M q _ r1 ad;refine⟨w.heap.size+1,[{target:=.collected w.heap.size,args:= #[]}],q,{target:=.fn (.func f) zs.toArray,args:=ys.toArray++ #[Value.func (.yield (w.heap.size+1)) #[] #[]]},q,f,(ys++[Value.func (.yield (w.heap.size+1)) #[] #[]]++zs).toArray,q,?_,?_,λ_ _=>trivial,?_,λhd=>by simp[vJ]at hd,?_⟩
 ·rw[<-ac,i];exact run_enterLoop_outer _ _ _ _ _
 ·simp only[resolve,rangeCall,he,Deferred.ofValue,lM];simp[Act.eval]
 ·simp only[invoke,callFunc,Dm,run_program,FX,ao,K,F,yM,if_false,lM]
  congr 2
  apply pF;simp
 ·refine CallsIn.mono (callsIn_wide.2 J) ?_;rintro e w2 ⟨v,y,n,H2,rfl,r2,ax,x2,N',t',ai,R,V,d,af,hq⟩;have u:Ext w0.own M q n w2:=x2.ext_of r1;have ag:n.π (As H)=some (some (w.heap.size+1,0)):=u.at ah;obtain⟨b',l2,k1,k2,k3,k4,_⟩:=r2.rows (As H) _ af;have X:=k1.symm.trans ag;injection X with X;injection X with X;injection X with e3 e4;subst e3
  have ap:=(l1v.1 k2).1;obtain⟨r3,Y⟩:=r2.set_obj (O:=w0.own) (y:=.gone) af ag (SameObj.putObj ap (.loop {l2 with state:=.exhausted})) (λarr T fz hc=>by rw[k2]at hc;cases hc) (λ_=>trivial);have ex:Ext w0.own C w n (w2.putObj (w.heap.size+1) (.loop {l2 with state:=.exhausted})):=(L.trans u).trans Y;have p:=u.trans Y;have an:DOk w0 s0 n (w2.putObj (w.heap.size+1) (.loop {l2 with state:=.exhausted})) (M' w.heap.size::a.defers):=by
   obtain⟨bs,d1,d2,d3⟩:=s.defers;refine⟨w.heap.size::bs,List.nodup_cons.2 ⟨λhm=>l1l _ (s.rel.finB _ (d3 _ hm).2.2.1),d1⟩,by rw[d2];rfl,λb hb=>?_⟩;rcases Tz.1 hb with rfl|hb
   ·exact⟨s.le,.inl s.rel.below.size,p.B _ aa,(p.keepB _ aa).trans am⟩
   ·obtain⟨g1,g2,g3,g4⟩:=d3 b hb;exact⟨g1,g2,ex.B _ g3,(ex.keepB _ g3).trans g4⟩
  have st:St G w0 s0 n N t (cut H2 (As H)) {a with defers:=[M' w.heap.size]++a.defers} (w2.putObj (w.heap.size+1) (.loop {l2 with state:=.exhausted})):=
   ⟨r3,s.size,s.tmps.mono ex,an,ZK s.le ex.grow⟩
  refine⟨d,w2.putObj (w.heap.size+1) (.loop {l2 with state:=.exhausted}),?_,?_⟩
  ·have:=run_endLoop (P:=P) k2 (by rw[k3];cases d<;>simp[B3p]);have hj:l2.pending=d:=by rw[k4];cases d<;>rfl
   rw[this,hj]
  ·cases d with
   |none=>exact⟨n,t,_,st,ex.frm,hq⟩
   |some c=>
    cases c with
    |ret=>exact wpIn_ret ⟨n,t,_,st,ex.frm,hq⟩
    |exit id=>exact wpIn_exit ⟨n,t,_,st,ex.frm,hq⟩
    |goto l=>exact wpIn_goto ⟨n,t,_,st,ex.frm,hq⟩
    |_=>exact hq.elim
end
end
section
variable{c:Call}{s:Nat}
def ZJ(x:Row)(K:Nat->Tm->Array Tmp->Code->Code->Option (Option Code)->Af):Af:=match x with|.loop N t ps b d a=>K N t ps b d a|_=>none
def E7(H:Hp)(r:Nat)(ready:Bool)(to:Option (Option Code))(K:Ru):Af:=
 I6 H r λx=>ZJ x λN t ps b d a=>match ready,a with
  |true,some none=>Ll H r (.loop N t ps b d to) K
  |false,none=>Ll H r (.loop N t ps b d to) K
  |_,_=>none
def A2Y(t:Tm)(ps:List Tmp):Is->(Tm->Af)->Af:=
 @List.rec Tmp (λ_=>Tm->Is->(Tm->Af)->Af) (λt b K=>@List.rec AV (λ_=>Af) (K t) (λ_ _ _=>none) b)
  (λp _ ih t b K=>@List.rec AV (λ_=>Af) none (λa b _=>ih ((p,a)::t) b K) b) ps t
def yL(N:Nat)(ps:List Tmp):Bool:=@List.rec Tmp (λ_=>Bool) true (λp _ ih=>@Bool.rec (λ_=>Bool) false ih (Nat.blt p N)) ps
def XA6(R:Rt)(r:Nat)(args:Is)(H:Hp)(K:KV):Af:=
 I6 H r λx=>ZJ x λN t ps i j b=>match b with
  |some none=>ck (yL N ps.toList) (A2Y t ps.toList args λf=>R.run ⟨true,f.map (·.1),false,N,[]⟩ i f H λe k g=>match e with
   |.normal=>E7 g r true none λh=>R.run ⟨true,f.map (·.1),false,N,[]⟩ j k h λe _ d=>match e with
    |.normal=>E7 d r false (some none) λa=>K (.v (.bool true)) a
    |.ret=>E7 d r false (some (some .ret)) λa=>K (.v (.bool false)) a
    |.exit id=>E7 d r false (some (some (.exit id))) λa=>K (.v (.bool false)) a
    |.goto l=>E7 d r false (some (some (.goto l))) λa=>K (.v (.bool false)) a
    |_=>none
   |_=>none)
  |_=>none
def A8c(E:XE)(R:Rt)(f:AV)(b:Is)(H:Hp)(K:KV):Af:=
 match f with
 |.fn (.func g) first cap=>ck (E.imp g) (Yy b cap λa=>Yy first a λall=>R.call g all H K)
 |.yl r=>XA6 R r b H K
 |_=>none
def C1Q(i:TI)(K:TypeId->Af):Af:=(λ(_:Unit)=>match i.d with|.pointer e=>K e|_=>none) Iv
def C41(E:XE)(e:TypeId)(esz:Nat)(ie i2:TI)(s x:AV)(H:Hp)(K:KV):Af:=(λ(_:Unit)=>@Bool.rec (λ_=>Af) (E5 e esz ie i2 s x H K) (KD e esz ie i2 s x H K) (E.ov e)) Iv
def Xv(E:XE)(R:Rt)(t:Tm)(H:Hp)(c:Call)(K:KV):Af:=
 match c.callee with
 |.value h=>Kd E t h λf=>qR E t c.args.toList λg=>A8c E R f g H K
 |.builtin .append=>match c.args.toList,c.argTypes.toList with
  |[s,x],[v,w]=>Kd E t s λs=>Kd E t x λx=>E.ty.getK v λi1=>E.ty.getK w λi2=>G! i1 λe a=>E.ty.getK e λb=>C41 E e a b i2 s x H K
  |_,_=>none
 |.builtin .copy=>match c.args.toList,c.argTypes.toList with
  |[s,x],ty::_=>Kd E t s λs=>Kd E t x λx=>E.ty.getK ty λi=>G! i λ_ a=>A1S a s x H K
  |_,_=>none
 |.builtin .clear=>match c.args.toList,c.argTypes.toList with
  |[s],[ty]=>Kd E t s λs=>E.ty.getK ty λi=>G! i λe a=>E.ty.getK e λb=>uN a b s H λd=>K (.tup []) d
  |_,_=>none
 |.builtin .delete=>match c.args.toList,c.argTypes.toList with
  |[m,k],ty::_=>Kd E t m λm=>Kd E t k λk=>E.ty.getK ty λi=>M! i λj _=>A75 E j k λq=>iK m q H λd=>K (.tup []) d
  |_,_=>none
 |.builtin .unsafeString=>match c.args.toList,c.argTypes.toList with
  |[p,n],[u,_]=>Kd E t p λp=>Kd E t n λn=>E.ty.getK u λi=>C1Q i λe=>E.ty.getK e λb=>ckS (Nat.beq b.size 1) (A3X e p n H K)
  |_,_=>none
 |_=>none
def eM(E:XE)(R:Rt)(t:Tm)(H:Hp)(o:Op)(K:KV):Af:=
 match o with
 |.store ty x y=>Kd E t x λp=>Kd E t y λv=>E.ty.getK ty λi=>E4 i p v H λa=>K (.v undef) a
 |.alloc ty=>E.ty.getK ty λi=>Bz ty i H K
 |.box ty x=>Kd E t x λv=>Hr ty v H K
 |.buildSlice ty n parts=>E.ty.getK ty λi=>G! i λe b=>E.ty.getK e λd=>jM E t i parts.toList λl=>GM e b d n l H K
 |.call c=>Xv E R t H c K
 |.makeSlice ty l c=>Kd E t l λl=>Kd E t c λc=>E.ty.getK ty λi=>G! i λe b=>E.ty.getK e λd=>eMk e b d l c H K
 |.makeMap ty none=>E.ty.getK ty λi=>M! i λ_ h=>E.ty.getK h λd=>LC d H K
 |.mapUpdate ty m k v=>Kd E t m λm=>Kd E t k λk=>Kd E t v λv=>E.ty.getK ty λi=>M! i λf _=>A75 E f k λg=>Mm m g v H λa=>K (.v undef) a
 |.insert ty m k v=>Kd E t m λm=>Kd E t k λk=>Kd E t v λv=>E.ty.getK ty λi=>M! i λf _=>A75 E f k λg=>Mm m g v H λa=>K (.v undef) a
 |.mapEntry ty m k=>Kd E t m λm=>Kd E t k λk=>E.ty.getK ty λi=>M! i λf h=>A75 E f k λg=>E.ty.getK h λd=>B1g d m g H K
 |.entryStore _ m st v=>Kd E t m λm=>Kd E t st λst=>Kd E t v λv=>B1f m st v H λa=>K (.v undef) a
 |.range ty x=>Kd E t x λm=>E.ty.getK ty λi=>M! i λ_ _=>WN m H K
 |.next it false=>Kd E t it λv=>YB v H K
 |_=>none
section
variable{D:XE->Cf->Nat->List Oper->Bool}{E:XE}{P:Program}{R:Rt}{t:Tm}{H:Hp}{r:AV×Hp}{ro:Option Nat}{N:Nat}
def dM{x:Row}{K:Nat->Tm->Array Tmp->Code->Code->Option (Option Code)->Af}(h:ZJ x K=some r):∃N t ps b d a,x=.loop N t ps b d a/\K N t ps b d a=some r:=by
 unfold ZJ at h;split at h
 ·exact⟨_,_,_,_,_,_,rfl,h⟩
 ·cases h
def NJ{ready:Bool}{to:Option (Option Code)}{K:Ru}(h:E7 H s ready to K=some r):
 ∃N t ps a b,Aj H s=some (.loop N t ps a b (if ready then some none else none))/\K (upd H s (.loop N t ps a b to))=some r:=by
 unfold E7 at h;obtain⟨x,h1,h2⟩:=Iy rfl h;obtain⟨N,t,ps,a,b,e,rfl,d⟩:=dM h2;clear h h2;have h:=d;clear d;split at h
 ·rw[Dh]at h;exact⟨N,t,ps,a,b,h1,h⟩
 ·rw[Dh]at h;exact⟨N,t,ps,a,b,h1,h⟩
 ·cases h
def A0B:∀(ps:List Tmp)(t:Tm)(b:Is)(K:Tm->Af),A2Y t ps b K=some r->ps.length=b.length/\K (xU t ps b)=some r:=by
 intro ps
 induction ps with
 |nil=>
  intro t b K h;cases b with
  |nil=>exact⟨rfl,h⟩
  |cons a b=>cases h
 |cons p ps ih=>
  intro t b K h;cases b with
  |nil=>cases h
  |cons a b=>
   obtain⟨h1,h2⟩:=ih ((p,a)::t) b K h;exact⟨by simpa using h1,h2⟩
def A70{ps:List Tmp}(h:yL N ps=true):∀p∈ps,p<N:=by
 induction ps with
 |nil=>intro p a;simp at a
 |cons q ps ih=>
  have e:yL N (q::ps)=@Bool.rec (λ_=>Bool) false (yL N ps) (Nat.blt q N):=rfl;rw[e]at h;cases hq:Nat.blt q N
  ·rw[hq]at h;cases h
  ·rw[hq]at h;intro p a;rcases Tz.1 a with rfl|a
   ·rwa[Wr]at hq
   ·exact ih h p a
def Vx(m:RSound D E P R){o:Oper}{j:Operand}{K:KV}(B:o.op=.call c)(a:c.callee=.value j)(y:JL E.G t j=.yl s)(h:XA6 R s (c.args.toList.map (JL E.G t)) H K=some r):TB P E.G ro N o t H (λv p=>K v p=some r):=by
 unfold XA6 at h;obtain⟨x,A,h2⟩:=Iy rfl h;obtain⟨L,O,ps,u,w,n,rfl,k⟩:=dM h2;clear h h2;have h:=k;clear k;split at h
 ·obtain⟨h1,h⟩:=B5 h;obtain⟨h2,h⟩:=A0B _ _ _ _ h;refine A4y B a y rfl A (by simpa using h2) (A70 h1) λb=>?_;refine To.mono (m.run (some b) _ u _ H _ r (As H) (λ_=>rfl) (λh=>by cases h) h) λe Q F hq=>?_;cases e with
  |normal=>
   obtain⟨q,C,i,d,f,g,hq⟩:=NJ hq;refine⟨q,C,i,d,f,g,To.mono (m.run (some b) _ w _ _ _ r (As H) (λ_=>rfl) (λh=>by cases h) hq) λe V J hq=>?_⟩;cases e with
   |normal=>exact NJ hq
   |ret=>exact NJ hq
   |exit id=>exact NJ hq
   |goto l=>exact NJ hq
   |panic M=>cases hq
   |outgrown=>cases hq
  |_=>cases hq
 ·cases h
def wr(b:XE.Ok D E P){o:Oper}{v:AV}{H':Hp}{K:KV}(e:∀c,o.op≠.defer c)(f:B2t (E.env P) o.op t H (As H) (λg a=>g=v/\a=H'))(d:K v H'=some r):TB P E.G ro N o t H (λv H'=>K v H'=some r):=
 TB.mono (UA e (A2E (E:=E.env P) b.env f)) (by rintro _ _ ⟨rfl,rfl⟩;exact d)
def B20{o:Oper}{K:AV->Hp->Prop}{d:Hp}(b:∀{G:Gl}{w0:Base}{C:Ctx}{w:World},Rel G w0 C H w->Rel G w0 C d w)(h:TB P E.G ro N o t d K):TB P E.G ro N o t H K:=
 λw0 e C a w Q s=>h w0 e C a w Q ⟨b s.rel,s.size,s.tmps,s.defers,s.le⟩
def QL{o:Oper}{K:KV}(g:∀c,o.op≠.defer c)(h:∀(w0:Base)(s0:Nat)(C:Ctx)(N:Nat)(a:Act)(w:World),St E.G w0 s0 C N t H a w->∃v b y e d,K v b=some r/\((execOp a.eval o).run P w=.ok (.value y) d\/((execOp a.eval o).run P w=.ok .skip d/\y=undef))/\Kz E.G w0 C w v b y e d):TB P E.G ro N o t H (λv b=>K v b=some r):=
 UA g λw0 s0 C N a w s=>let⟨v,b,y,e,d,h1,h2,f⟩:=h w0 s0 C N a w s;⟨v,b,y,e,d,h1,h2,f.1,f.2.1,f.2.2⟩
def LI(j:XE.Ok D E P)(hR:RSound D E P R){o:Oper}(O:o.op=.call c){K:KV}(h:Xv E R t H c K=some r):TB P E.G ro N o t H (λv y=>K v y=some r):=by
 have nd:∀c,o.op≠.defer c:=λc hc=>by rw[O]at hc;cases hc
 unfold Xv at h;split at h
 ·rename_i fv b;have h:=R8 j _ _ (Bb j h);unfold A8c at h;split at h
  ·rename_i g first cap hf;obtain⟨_,h⟩:=B5 h;rw[MK,MK,<-ZL]at h;obtain⟨⟨fn,h1,h2,F⟩,hc⟩:=hR.call _ _ _ _ _ h;exact SZ O b hf h1 h2 F hc
  ·rename_i s hf;exact Vx hR O b hf h
  ·cases h
 ·rename_i b;split at h
  ·rename_i s x t1 t2 M f;obtain⟨i1,ab,h⟩:=Bf (Bb j (Bb j h));obtain⟨i2,ac,h⟩:=Bf h;obtain⟨e,A,J,h⟩:=Rx h;obtain⟨Y,B,h⟩:=Bf h;have main:E5 e A Y i2 (JL E.G t s) (JL E.G t x) H K=some r->TB P E.G ro N o t H (λv y=>K v y=some r):=λh=>by
    unfold E5 at h;obtain⟨H1,h,aj,L⟩:=rQ h;obtain⟨v,y,hK,X⟩:=zP (T:=E.T) ab ac J B h;refine B20 L ?_;exact wr j nd (by rw[O];simp only[B2t,b,M,f];exact X) hK
   change @Bool.rec (λ_=>Af) (E5 e A Y i2 (JL E.G t s) (JL E.G t x) H K) (KD e A Y i2 (JL E.G t s) (JL E.G t x) H K) (E.ov e)=some r at h;cases ad:E.ov e
   ·rw[ad]at h;exact main h
   rw[ad]at h;change KD e A Y i2 (JL E.G t s) (JL E.G t x) H K=some r at h;unfold KD at h;split at h
   rotate_left
   ·exact main h
   rename_i sz r1 o1 n1 ak;obtain⟨m,ys,q,ae,h⟩:=Zf h;obtain⟨H1,h,aj,L⟩:=rQ h;obtain⟨v,y,hK,X⟩:=zP (T:=E.T) ab ac J B h;refine QL nd λw0 s0 C N a w st=>?_;have af:=AY st x;rw[ak]at af;obtain⟨v,y,u,C',Q,⟨h1,h2⟩,F,Z⟩:=Xw (P:=P) (ty:=o.type) (ts:=c.argTypes) (T:=E.T) j.ty (t1:=t1) (t2:=t2) (by rw[<-l27,f];rfl) (by rw[<-l27,f];rfl) (L st.rel) (AY st s) (z:=a.eval x) (λan m' ao q' ha ai _=>by
    injection ha with ha
    injection ha with e1 e2
    injection e2 with e2 e3
    subst e1 e2 e3;exact WT st.rel af (q:=q) ae ai (λs hs=>by cases hs)) X
   subst h1 h2;refine⟨v,y,u,C',Q,hK,.inl ?_,Z⟩;have d:c.args.map a.eval= #[a.eval s,a.eval x]:=by apply pF;simp[M]
   rw[I9 O _ b,d];show(do pure (Next.value (<-Builtin.append_ c.argTypes o.type #[a.eval s,a.eval x]))).run P w=_;rw[Dm,F];rfl
  ·cases h
 ·rename_i b;split at h
  ·rename_i s x ty am M f;obtain⟨i,V,h⟩:=Bf (Bb j (Bb j h));obtain⟨e,A,J,h⟩:=Rx h;refine QL nd λw0 s0 C N a w st=>?_;obtain⟨v,y,u,Q,h1,h2,F⟩:=A4c (P:=P) (T:=E.T) (ty:=o.type) (ts:=c.argTypes) j.ty (by rw[<-l27,f];rfl) V J (j.pos ty i e A V (.inl J)) st.rel (AY st s) (AY st x) h;refine⟨v,y,u,C,Q,h1,.inl ?_,F⟩;have d:c.args.map a.eval= #[a.eval s,a.eval x]:=by apply pF;simp[M]
   rw[I9 O _ b,d];show(do pure (Next.value (<-Builtin.copy_ c.argTypes o.type #[a.eval s,a.eval x]))).run P w=_;rw[Dm,h2];rfl
  ·cases h
 ·rename_i b;split at h
  ·rename_i s ty M f;obtain⟨i,V,h⟩:=Bf (Bb j h);obtain⟨e,A,J,h⟩:=Rx h;obtain⟨Y,B,h⟩:=Bf h;refine QL nd λw0 s0 C N a w st=>?_;obtain⟨y,Q,h1,h2,F,Z⟩:=A4e (P:=P) (T:=E.T) (ty:=o.type) (ts:=c.argTypes) j.ty (by rw[<-l27,f];rfl) V J B st.rel (AY st s) h;refine⟨_,y,.tuple #[],C,Q,h1,.inl ?_,DG.2 ⟨[],rfl,.nil⟩,F,Z⟩;have d:c.args.map a.eval= #[a.eval s]:=by apply pF;simp[M]
   rw[I9 O _ b,d];show(do pure (Next.value (<-Builtin.clear_ c.argTypes o.type #[a.eval s]))).run P w=_;rw[Dm,h2];rfl
  ·cases h
 ·rename_i b;split at h
  ·rename_i m k ty am M f;obtain⟨i,V,h⟩:=Bf (Bb j (Bb j h));obtain⟨kt,et,J,h⟩:=PB h;obtain⟨kv,hk,h,ah⟩:=Vg j h;refine QL nd λw0 s0 C N a w st=>?_;obtain⟨y,Q,h1,h2,F,Z⟩:=A1Q (P:=P) (ty:=o.type) (ts:=c.argTypes) (by rw[<-l27,f];rfl) (PA j V J) hk st.rel (AY st m) h;refine⟨_,y,.tuple #[],C,Q,h1,.inl ?_,DG.2 ⟨[],rfl,.nil⟩,F,Z⟩;have d:c.args.map a.eval= #[a.eval m,kv]:=by apply pF;simp[M,ah (AY st k)]
   rw[I9 O _ b,d];show(do pure (Next.value (<-Builtin.delete_ c.argTypes o.type #[a.eval m,kv]))).run P w=_;rw[Dm,h2];rfl
  ·cases h
 ·rename_i b;split at h
  ·rename_i p n pt it M f;obtain⟨i,V,h⟩:=Bf (Bb j (Bb j h));unfold C1Q at h;split at h
   ·rename_i e J;obtain⟨Y,B,h⟩:=Bf h;obtain⟨ag,h⟩:=LG h;refine QL nd λw0 s0 C N a w st=>?_;obtain⟨v,y,u,Q,h1,h2,F⟩:=A3W (P:=P) (T:=E.T) (it:=it) (ty:=o.type) j.ty V J B (Yo ag) st.rel (AY st p) (AY st n) h;refine⟨v,y,u,C,Q,h1,.inl ?_,F⟩;have d:c.args.map a.eval= #[a.eval p,a.eval n]:=by apply pF;simp[M]
    have aa:c.argTypes= #[pt,it]:=by apply pF;simp[f]
    rw[I9 O _ b,d,aa];show(do pure (Next.value (<-Builtin.unsafeString_ #[pt,it] o.type #[a.eval p,a.eval n]))).run P w=_;rw[Dm,h2];rfl
   ·cases h
  ·cases h
 ·cases h
def Ic(d:XE.Ok D E P)(hR:RSound D E P R){o:Oper}{K:KV}(h:eM E R t H o.op K=some r):TB P E.G ro N o t H (λv f=>K v f=some r):=by
 unfold eM at h;split at h
 all_goals try (cases h;done)
 case h_1 ty x y b=>
  obtain⟨i,g,h⟩:=Bf (Bb d (Bb d h));obtain⟨f,F,J⟩:=B1a (T:=E.T) (ty:=ty) g h;refine TB.mono (UA (λc hc=>by rw[b]at hc;cases hc) (xQ (E:=E.env P) (K:=λv aa=>v=.v undef/\aa=f) d.env (by rw[b];simpa [qU,XE.env] using J))) ?_;rintro _ _ ⟨rfl,rfl⟩;exact F
 case h_2 ty b=>
  obtain⟨i,g,h⟩:=Bf h;obtain⟨v,f,F,J⟩:=A1W (T:=E.T) g h;exact wr d (λc hc=>by rw[b]at hc;cases hc) (by rw[b];exact J) F
 case h_3 ty x b=>
  obtain⟨v,f,F,J⟩:=A7s (ty:=ty) (Bb d h);exact wr d (λc hc=>by rw[b]at hc;cases hc) (by rw[b];exact J) F
 case h_4 ty n parts b=>
  obtain⟨i,g,h⟩:=Bf h;obtain⟨e,ab,u,h⟩:=Rx h;obtain⟨Y,A,h⟩:=Bf h;obtain⟨l,h1,h2⟩:=Xu d _ _ h;obtain⟨v,f,F,J⟩:=B1v (T:=E.T) (ps:=parts.toList.map λp=>(p.1,JL E.G t p.2)) g u A (by rw[<-h2];simp[QY,u]) h1;exact wr d (λc hc=>by rw[b]at hc;cases hc) (by rw[b];exact J) F
 case h_5 c b=>exact LI d hR b h
 case h_6 ty l c b=>
  obtain⟨i,g,h⟩:=Bf (Bb d (Bb d h));obtain⟨e,ab,u,h⟩:=Rx h;obtain⟨Y,A,h⟩:=Bf h;refine UA (λc hc=>by rw[b]at hc;cases hc) λw0 L C N a w s=>?_;obtain⟨v,f,y,M,j,F,X,hv,hr,J⟩:=A7m (P:=P) (T:=E.T) d.ty g u A (AY s l) (AY s c) s.rel h;refine⟨v,f,y,M,j,F,.inl ?_,hv,hr,J⟩;simp only[execOp,b];rw[Dm,X];rfl
 case h_7 ty b=>
  obtain⟨i,g,h⟩:=Bf h;obtain⟨Z,O,u,h⟩:=PB h;obtain⟨Y,A,h⟩:=Bf h;refine QL (λc hc=>by rw[b]at hc;cases hc) λw0 L C N a w st=>?_;obtain⟨v,f,y,M,j,h1,h2,q⟩:=A1L (P:=P) (ty:=ty) st.rel h;refine⟨v,f,y,M,j,h1,.inl ?_,q⟩;simp only[execOp,b];have:(Instr.makeMap ty (Option.map a.eval none)).run P w=.ok y j:=h2;rw[Dm,this];rfl
 case h_8 ty m k v b=>
  obtain⟨i,g,h⟩:=Bf (Bb d (Bb d (Bb d h)));obtain⟨Z,O,u,h⟩:=PB h;obtain⟨kv,V,h,B⟩:=Vg d h;refine QL (λc hc=>by rw[b]at hc;cases hc) λw0 L C N a w st=>?_;obtain⟨f,j,h1,h2,q,Q⟩:=uK (P:=P) (PA d g u) V st.rel (AY st m) (AY st v) h;refine⟨_,f,undef,C,j,h1,.inr ⟨?_,rfl⟩,.v _,q,Q⟩;simp only[execOp,b];rw[Dm,B (AY st k),h2];rfl
 case h_9 ty m k v b=>
  obtain⟨i,g,h⟩:=Bf (Bb d (Bb d (Bb d h)));obtain⟨Z,O,u,h⟩:=PB h;obtain⟨kv,V,h,B⟩:=Vg d h;refine QL (λc hc=>by rw[b]at hc;cases hc) λw0 L C N a w st=>?_;obtain⟨f,j,h1,h2,q,Q⟩:=uK (P:=P) (PA d g u) V st.rel (AY st m) (AY st v) h;refine⟨_,f,undef,C,j,h1,.inr ⟨?_,rfl⟩,.v _,q,Q⟩;simp only[execOp,b];rw[Dm,B (AY st k),h2];rfl
 case h_10 ty m k b=>
  obtain⟨i,g,h⟩:=Bf (Bb d (Bb d h));obtain⟨Z,O,u,h⟩:=PB h;obtain⟨kv,V,h,B⟩:=Vg d h;obtain⟨Y,A,h⟩:=Bf h;refine QL (λc hc=>by rw[b]at hc;cases hc) λw0 L C N a w st=>?_;obtain⟨v,f,y,j,h1,h2,q⟩:=A1P (P:=P) (PA d g u) (d.ty O Y A) V st.rel (AY st m) h;refine⟨v,f,y,C,j,h1,.inl ?_,q⟩;simp only[execOp,b];rw[Dm,B (AY st k),h2];rfl
 case h_11 ty m s v b=>
  have h:=Bb d (Bb d (Bb d h));refine QL (λc hc=>by rw[b]at hc;cases hc) λw0 L C N a w st=>?_;obtain⟨f,j,h1,h2,q,Q⟩:=A1K (P:=P) (mt:=ty) st.rel (AY st m) (AY st s) (AY st v) h;refine⟨_,f,undef,C,j,h1,.inr ⟨?_,rfl⟩,.v _,q,Q⟩;simp only[execOp,b];rw[Dm,h2];rfl
 case h_12 ty x b=>
  obtain⟨i,g,h⟩:=Bf (Bb d h);obtain⟨Z,O,u,h⟩:=PB h;refine QL (λc hc=>by rw[b]at hc;cases hc) λw0 L C N a w st=>?_;obtain⟨v,f,y,M,j,h1,h2,q⟩:=A43 (P:=P) (PA d g u) st.rel (AY st x) h;refine⟨v,f,y,M,j,h1,.inl ?_,q⟩;simp only[execOp,b];rw[Dm,h2];rfl
 case h_13 it b=>
  have h:=Bb d h;refine QL (λc hc=>by rw[b]at hc;cases hc) λw0 L C N a w st=>?_;obtain⟨v,f,y,j,h1,h2,q⟩:=A45 (P:=P) (ty:=o.type) st.rel (AY st it) h;refine⟨v,f,y,C,j,h1,.inl ?_,q⟩;simp only[execOp,b];rw[Dm,h2];rfl
end
end
section
variable{K:KV}{d:Option Tmp}
def A1B(b:Bool)(all:Is)(H:Hp)(K:KV)(x:Af):Af:=
 (λ(_:Unit)=>match b with
  |true=>(match all with|[v]=>K v H|_=>none)
  |false=>x) Iv
def Ct(E:XE)(R:Rt)(f:AV)(b:Is)(H:Hp)(K:KV):Af:=
 match f with
 |.fn (.func g) first cap=>SN b cap λa=>SN first a λall=>A1B (E.ne g) all H K (@Bool.rec (λ_=>Af) (zpm E g R all H λv=>K v H) (R.call g all H K) (E.imp g))
 |.yl r=>XA6 R r b H K
 |_=>none
def A?(E:XE)(R:Rt)(f:AV)(b:Is)(H:Hp)(K:KV):Af:=
 match f with
 |.fn (.func g) first cap=>SN b cap λa=>SN first a λall=>A1B (E.ne g) all H K (@Bool.rec (λ_=>Af) (zpm E g R all H λv=>K v H) (@Bool.rec (λ_=>Af) (R.call g all H K) (Ao R g all H λv=>K v H) (E.lm g)) (E.imp g))
 |.yl r=>XA6 R r b H K
 |_=>none
def A2B(E:XE)(R:Rt)(fz:Bool)(t:Tm)(H:Hp)(c:Call)(K:KV):Af:=
 match c.callee with
 |.value b=>Kd E t b λf=>qR E t c.args.toList λa=>@Bool.rec (λ_=>Af) (Ct E R f a H K) (A? E R f a H K) fz
 |.builtin .append=>Xv E R t H c K
 |.builtin .copy=>Xv E R t H c K
 |.builtin .clear=>Xv E R t H c K
 |.builtin .delete=>Xv E R t H c K
 |.builtin .unsafeString=>Xv E R t H c K
 |.builtin _=>B? E R t H c λv=>K v H
 |_=>none
def B5V:TD->Bool
 |.string=>true
 |_=>false
def zcv(E:XE)(R:Rt)(t:Tm)(H:Hp)(s d:TypeId)(x:Operand)(K:KV):Af:=
 E.ty.getK s λi=>E.ty.getK d λj=>(λ(_:Unit)=>match j.d with
  |.slice e _=>ckS (B5V i.d) (E.ty.getK e λb=>ckS (A3M b.d) (Kd E t x λa=>A1I e a H K))
  |_=>R6 E R t H (.convert s d x) λv=>K v H) Iv
def zop(E:XE)(R:Rt)(fz:Bool)(t:Tm)(H:Hp)(o:Op)(K:KV):Af:=
 match o with
 |.call c=>A2B E R fz t H c K
 |.store a b c=>eM E R t H (.store a b c) K
 |.alloc a=>eM E R t H (.alloc a) K
 |.box a b=>eM E R t H (.box a b) K
 |.makeSlice a b c=>eM E R t H (.makeSlice a b c) K
 |.makeMap a b=>eM E R t H (.makeMap a b) K
 |.mapUpdate a b c d=>eM E R t H (.mapUpdate a b c d) K
 |.insert a b c d=>eM E R t H (.insert a b c d) K
 |.mapEntry a b c=>eM E R t H (.mapEntry a b c) K
 |.entryStore a b c d=>eM E R t H (.entryStore a b c d) K
 |.range a b=>eM E R t H (.range a b) K
 |.next a b=>eM E R t H (.next a b) K
 |.convert a b c=>zcv E R t H a b c K
 |.buildSlice a b c=>@Bool.rec (λ_=>Af) (eM E R t H (.buildSlice a b c) K) (R6 E R t H (.buildSlice a b c) λv=>K v H) fz
 |o=>R6 E R t H o λv=>K v H
def gdV(want:Bool)(v:AV)(K:Bool->Af):Af:=
 match v with
 |.v (.bool b)=>@Bool.rec (λ_=>Af) (@Bool.rec (λ_=>Af) (K true) (K false) b) (@Bool.rec (λ_=>Af) (K false) (K true) b) want
 |.dk=>none
 |_=>K false
def gdK(all:List Oper)(t:Tm)(g:Option (Nat×Bool))(K:Bool->Af):Af:=
 match g with
 |none=>K true
 |some (j,want)=>match all[j]? with
  |some p=>match p.dst with
   |some d=>gtm t d λv=>gdV want v K
   |none=>K false
  |none=>K false
def A1Y(N:Nat)(d:Option Tmp)(K:Af):Af:=(λ(_:Unit)=>match d with|some d=>ckS (Nat.blt d N) K|none=>K) Iv
def Q7(t:Tm)(d:Option Tmp)(v:AV)(K:Tm->Af):Af:=(λ(_:Unit)=>match d with|some d=>K ((d,v)::t)|none=>K t) Iv
def A79(g:Option (Nat×Bool))(x y:Af):Af:=(λ(_:Unit)=>match g with|none=>x|some _=>y) Iv
def D5(a:Af)(K:KV):Af:=match a with|some (v,H)=>K v H|none=>none
def A2v(E:XE)(R:Rt)(fz:Bool)(N:Nat)(all:List Oper)(l:List Oper):Tm->Hp->(Tm->Ru)->Af:=
 @List.rec Oper (λ_=>Tm->Hp->(Tm->Ru)->Af) (λt H K=>K t H)
  (λo _ ih t H K=>A1Y N o.dst (A79 o.guard (zop E R fz t H o.op λv a=>Q7 t o.dst v λb=>ih b a K)
   (D5 (gdK all t o.guard λg=>@Bool.rec (λ_=>Af) (some (.v undef,H)) (zop E R fz t H o.op λv a=>some (v,a)) g) λv a=>Q7 t o.dst v λb=>ih b a K))) l
section
variable{D:XE->Cf->Nat->List Oper->Bool}{E:XE}{P:Program}{R:Rt}{t:Tm}{H:Hp}{r:AV×Hp}{ro:Option Nat}{N m:Nat}{fz:Bool}
def B_(k:XE.Ok D E P)(f:RSound D E P R){o:Oper}{c:Call}(e:o.op=.call c)(h:A2B E R fz t H c K=some r):TB P E.G ro N o t H (λv w=>K v w=some r):=by
 unfold A2B at h;split at h
 ·rename_i q a;have h:=R8 k _ _ (Bb k h);cases fz
  ·have h:Ct E R (JL E.G t q) ([]++c.args.toList.map (JL E.G t)) H K=some r:=h;unfold Ct at h;split at h
   ·rename_i g first cap i;rw[Jv,Jv,<-ZL]at h;cases b:E.ne g
    rotate_left
    ·rw[b]at h;unfold A1B at h;simp only at h;split at h
     ·rename_i v j;exact A5Z (k.ne g b) e a i j h
     ·cases h
    rw[b]at h;have h:@Bool.rec (λ_=>Af) (zpm E g R (first++c.args.toList.map (JL E.G t)++cap) H λv=>K v H) (R.call g (first++c.args.toList.map (JL E.G t)++cap) H K) (E.imp g)=some r:=h;cases p:E.imp g
    ·rw[p]at h;obtain⟨⟨fn,h1,h2,n⟩,hc⟩:=eA f h;exact TB.mono (SZ e a i h1 h2 n hc) (by rintro _ _ ⟨rfl,h⟩;exact h)
    ·rw[p]at h;obtain⟨⟨fn,h1,h2,n⟩,hc⟩:=f.call _ _ _ _ _ h;exact SZ e a i h1 h2 n hc
   ·rename_i s i;exact Vx f e a i h
   ·cases h
  ·have h:A? E R (JL E.G t q) ([]++c.args.toList.map (JL E.G t)) H K=some r:=h;unfold A? at h;split at h
   ·rename_i g first cap i;rw[Jv,Jv,<-ZL]at h;cases b:E.ne g
    rotate_left
    ·rw[b]at h;unfold A1B at h;simp only at h;split at h
     ·rename_i v j;exact A5Z (k.ne g b) e a i j h
     ·cases h
    rw[b]at h;have h:@Bool.rec (λ_=>Af) (zpm E g R (first++c.args.toList.map (JL E.G t)++cap) H λv=>K v H) (@Bool.rec (λ_=>Af) (R.call g (first++c.args.toList.map (JL E.G t)++cap) H K) (Ao R g (first++c.args.toList.map (JL E.G t)++cap) H λv=>K v H) (E.lm g)) (E.imp g)=some r:=h;cases p:E.imp g
    ·rw[p]at h;obtain⟨⟨fn,h1,h2,n⟩,hc⟩:=eA f h;exact TB.mono (SZ e a i h1 h2 n hc) (by rintro _ _ ⟨rfl,h⟩;exact h)
    ·rw[p]at h;have h:@Bool.rec (λ_=>Af) (R.call g (first++c.args.toList.map (JL E.G t)++cap) H K) (Ao R g (first++c.args.toList.map (JL E.G t)++cap) H λv=>K v H) (E.lm g)=some r:=h;cases u:E.lm g
     ·rw[u]at h;obtain⟨⟨fn,h1,h2,n⟩,hc⟩:=f.call _ _ _ _ _ h;exact SZ e a i h1 h2 n hc
     ·rw[u]at h;obtain⟨⟨fn,h1,h2,n⟩,hc⟩:=YL f (K:=λv=>K v H) h;exact TB.mono (SZ e a i h1 h2 n hc) (by rintro _ _ ⟨rfl,h⟩;exact h)
   ·rename_i s i;exact Vx f e a i h
   ·cases h
 ·exact LI k f e h
 ·exact LI k f e h
 ·exact LI k f e h
 ·exact LI k f e h
 ·exact LI k f e h
 ·exact TB.mono (eO k f e h) (by rintro _ _ ⟨rfl,h⟩;exact h)
 ·cases h
def A6b(f:XE.Ok D E P)(hR:RSound D E P R){o:Oper}{s d:TypeId}{x:Operand}(F:o.op=.convert s d x)(h:zcv E R t H s d x K=some r):TB P E.G ro N o t H (λv u=>K v u=some r):=by
 obtain⟨i,hi,h⟩:=Bf h;obtain⟨j,hj,h⟩:=Bf h;simp only at h;split at h
 ·rename_i e z hd;obtain⟨n,h⟩:=LG h;obtain⟨Q,B,h⟩:=Bf h;obtain⟨b,h⟩:=LG h;have h:=Bb f h;refine UA (λc hc=>by rw[F]at hc;cases hc) λw0 s0 C N a w st=>?_;obtain⟨str,hy,v,u,X,Y,V,Z,g,hv,hr,hx⟩:=A42 (P:=P) st.rel (AY st x) h;refine⟨v,u,X,Y,V,Z,.inl ?_,hv,hr,hx⟩;have A:(convert s d (a.eval x)).run P w=.ok X V:=by
   obtain⟨u1,J,O⟩:=(f.ty s i hi).under;obtain⟨L,_⟩:=(f.ty d j hj).elem_slice hd;obtain⟨u3,M,y⟩:=(f.ty e Q B).under;have q:u3=.int .u8:=by
    cases hq:Q.d with
    |int k=>
     rw[hq]at b y;cases k<;>simp[A3M]at b
     cases u3<;>simp[td]at y
     rw[y]
    |_=>rw[hq]at b;simp[A3M]at b
   have p:u1=.string:=by
    cases hq:i.d with
    |string=>
     rw[hq]at O;cases u1<;>simp[td]at O
     rfl
    |_=>rw[hq]at n;simp[B5V]at n
   subst q p;rw[hy];unfold convert;rw[Dm,run_underlying J w];simp only[FX];rw[Dm,run_underlying L w];simp only[FX];rw[Dm,run_underlying M w];simp only[FX];exact g
  simp only[execOp,F];rw[Dm,A];rfl
 ·exact TB.mono (Tp (K:=λv=>K v H) f hR (by rw[F];exact h)) (by rintro _ _ ⟨rfl,h⟩;exact h)
def jO(b:XE.Ok D E P)(e:RSound D E P R){o:Oper}(h:zop E R fz t H o.op K=some r):TB P E.G ro N o t H (λv f=>K v f=some r):=by
 unfold zop at h;split at h
 ·rename_i c a;exact B_ b e a h
 ·rename_i a;exact Ic b e (by rw[a];exact h)
 ·rename_i a;exact Ic b e (by rw[a];exact h)
 ·rename_i a;exact Ic b e (by rw[a];exact h)
 ·rename_i a;exact Ic b e (by rw[a];exact h)
 ·rename_i a;exact Ic b e (by rw[a];exact h)
 ·rename_i a;exact Ic b e (by rw[a];exact h)
 ·rename_i a;exact Ic b e (by rw[a];exact h)
 ·rename_i a;exact Ic b e (by rw[a];exact h)
 ·rename_i a;exact Ic b e (by rw[a];exact h)
 ·rename_i a;exact Ic b e (by rw[a];exact h)
 ·rename_i a;exact Ic b e (by rw[a];exact h)
 ·rename_i a;exact A6b b e a h
 ·rename_i a;cases fz
  ·exact Ic b e (by rw[a];exact h)
  ·exact TB.mono (Tp (K:=λv=>K v H) b e (by rw[a];exact h)) (by rintro _ _ ⟨rfl,h⟩;exact h)
 ·exact TB.mono (Tp b e h) (by rintro _ _ ⟨rfl,h⟩;exact h)
def hC{all:List Oper}{o:Oper}{K:Bool->Af}(h:gdK all t o.guard K=some r):(K true=some r/\(GY all t o=.run\/GY all t o=.dep true))\/(K false=some r/\(GY all t o=.skip\/GY all t o=.dep false)):=by
 unfold gdK at h;unfold GY;split at h
 ·rename_i c;rw[c];exact .inl ⟨h,.inl rfl⟩
 ·rename_i j want c;rw[c];simp only;split at h
  ·rename_i p e;rw[e];simp only;split at h
   ·rename_i d a;rw[a];rw[Wv]at h;simp only;unfold gdV at h;split at h
    ·rename_i b hb;rw[hb];simp only[U9];cases want<;>cases b
     ·exact .inl ⟨h,.inr rfl⟩
     ·exact .inr ⟨h,.inr rfl⟩
     ·exact .inr ⟨h,.inr rfl⟩
     ·exact .inl ⟨h,.inr rfl⟩
    ·cases h
    ·rename_i h1 h2;refine .inr ⟨h,.inl ?_⟩;have:U9 (XA3 t d)=.skip:=by
      unfold U9;split
      ·rename_i b hb;exact absurd hb (h1 b)
      ·rename_i hb;exact absurd hb h2
      ·rfl
     rw[this]
   ·rename_i a;rw[a];exact .inr ⟨h,.inl rfl⟩
  ·rename_i e;rw[e];exact .inr ⟨h,.inl rfl⟩
def mH{K:Af}(h:A1Y N d K=some r):dok N d/\K=some r:=by
 unfold A1Y at h;split at h
 ·obtain⟨h1,h2⟩:=B5 h;rw[Wr]at h1;exact⟨h1,h2⟩
 ·exact⟨trivial,h⟩
def Vp{a:Af}(h:D5 a K=some r):∃v b,a=some (v,b)/\K v b=some r:=by
 unfold D5 at h;split at h
 ·exact⟨_,_,rfl,h⟩
 ·cases h
def Ts{v:AV}{K:Tm->Af}:Q7 t d v K=K (RF t d v):=by cases d<;>rfl
def A2u(y:XE.Ok D E P)(A:RSound D E P R){all:List Oper}:∀(l:List Oper)(t:Tm)(H:Hp)(K:Tm->Ru),A2v E R fz N all l t H K=some r->
 Y' P E.G ro m N all.toArray l (λe f b=>e=.normal/\K f b=some r) t H:=by
 intro l
 induction l with
 |nil=>intro t H K h;exact B1Z ⟨rfl,h⟩
 |cons o l ih=>
  intro t H K h;have h:A1Y N o.dst (A79 o.guard (zop E R fz t H o.op λv b=>Q7 t o.dst v λf=>A2v E R fz N all l f b K)
   (D5 (gdK all t o.guard λg=>@Bool.rec (λ_=>Af) (some (.v undef,H)) (zop E R fz t H o.op λv b=>some (v,b)) g) λv b=>Q7 t o.dst v λf=>A2v E R fz N all l f b K))=some r:=h
  obtain⟨p,h⟩:=mH h;intro w0 O C a w s;have j:=vE s.tmps all o;cases c:o.guard with
  |none=>
   have k:GY all t o=.run:=by unfold GY;rw[c]
   rw[c]at h;have h:(zop E R fz t H o.op λv b=>Q7 t o.dst v λf=>A2v E R fz N all l f b K)=some r:=h;refine A26 p s (j.1 k) (TB.mono (jO y A h) λv b i=>?_);rw[Ts]at i;exact ih _ _ _ i
  |some F=>
   rw[c]at h;have h:(D5 (gdK all t (some F) λg=>@Bool.rec (λ_=>Af) (some (.v undef,H)) (zop E R fz t H o.op λv b=>some (v,b)) g) λv b=>Q7 t o.dst v λf=>A2v E R fz N all l f b K)=some r:=h;rw[<-c]at h;obtain⟨v,B,J,n⟩:=Vp h;rw[Ts]at n;rcases hC J with⟨h1,h2⟩|⟨h1,h2⟩
   ·have x:Region.wanted o (yielded all.toArray a.tmps)=true:=by
     rcases h2 with h2|h2
     ·exact j.1 h2
     ·exact j.2.2 _ h2
    refine A26 p s x (TB.mono (jO y A h1) λQ b i=>?_);injection i with i;injection i with q u
    subst q u;exact ih _ _ _ n
   ·have x:Region.wanted o (yielded all.toArray a.tmps)=false:=by
     rcases h2 with h2|h2
     ·exact j.2.1 h2
     ·exact j.2.2 _ h2
    have h1:some (AV.v undef,H)=some (v,B):=h1;injection h1 with h1;injection h1 with L M
    subst L M;exact A7E p s x (ih _ _ _ n)
end
end
section
variable{cf:Cf}{c:Code}{e:Exit}{Q:Exit->Tm->Hp->Prop}{H:Hp}{K:KQ}{N:Nat}{t t':Tm}
abbrev A63:=Cf->Nat->List Oper->Tm->Hp->(Tm->Ru)->Af
def xW(e:Exit)(t:Tm)(H:Hp)(k:Tm->Ru)(K:KQ):Af:=(λ(_:Unit)=>match e with|.normal=>k t H|e=>K e t H) Iv
def A4r(id:Nat)(e:Exit)(t:Tm)(H:Hp)(K:KQ):Af:=(λ(_:Unit)=>match e with|.exit i=>@Bool.rec (λ_=>Af) (K (.exit i) t H) (K .normal t H) (Nat.beq i id)|e=>K e t H) Iv
def A2(v:AV)(x y:Af):Af:=match v with|.v (.bool true)=>x|.v (.bool false)=>y|_=>none
def ZG(lv:Hb)(t:Tm):(Tm->Af)->Af:=@List.rec Nat (λ_=>(Tm->Af)->Af) (λK=>K []) (λu _ ih K=>gtm t u λv=>ih λl=>K ((u,v)::l)) lv
def Cur(lv:Hb):Type:=@List.rec Nat (λ_=>Type) Ru (λ_ _ ih=>AV->ih) lv
def B1K(lv:Hb):(Tm->Ru)->Cur lv:=
 @List.rec Nat (λlv=>(Tm->Ru)->Cur lv) (λF H=>F [] H) (λu _ ih F v=>ih λt H=>F ((u,v)::t) H) lv
def B1I(lv:Hb):Cur lv->Tm->Ru:=
 @List.rec Nat (λlv=>Cur lv->Tm->Ru) (λc _ H=>c H) (λu _ ih c t H=>gtm t u λv=>ih (c v) t H) lv
def gR(lv:Hb)(t:Tm):Tm:=lv.map λu=>(u,XA3 t u)
def zT(lv:Hb):∀(F:Tm->Ru)(t:Tm)(H:Hp),B1I lv (B1K lv F) t H=F (gR lv t) H:=by
 induction lv with
 |nil=>intro F t H;rfl
 |cons u lv ih=>
  intro F t H;have e:B1I (u::lv) (B1K (u::lv) F) t H=gtm t u λv=>B1I lv (B1K lv λt H=>F ((u,v)::t) H) t H:=rfl;rw[e,Wv,ih];rfl
def B6e(lv:Hb)(body:Tm->Hp->KQ->Af)(K:KQ)(n:Nat):Cur lv:=
 @Nat.rec (λ_=>Cur lv) (B1K lv λ_ _=>none) (λ_ ih=>B1K lv λt H=>body t H λe b a=>xW e b a (λt H=>B1I lv ih t H) K) n
def xO(lv:Hb)(body:Tm->Hp->KQ->Af)(K:KQ)(n:Nat)(t:Tm)(H:Hp):Af:=B1I lv (B6e lv body K n) t H
def A2w(lv:Hb)(body:Tm->Hp->KQ->Af)(K:KQ)(t:Tm)(H:Hp):xO lv body K 0 t H=none:=zT lv _ t H
def A2x(lv:Hb)(body:Tm->Hp->KQ->Af)(K:KQ)(n:Nat)(t:Tm)(H:Hp):xO lv body K (n+1) t H=body (gR lv t) H λe b a=>xW e b a (xO lv body K n) K:=zT lv _ t H
def A30(lv:Hb)(t:Tm)(u:Nat):XA3 (gR lv t) u=XA3 t u\/XA3 (gR lv t) u=.dk:=by
 induction lv with
 |nil=>exact .inr rfl
 |cons v lv ih=>
  have e:XA3 (gR (v::lv) t) u=if u=v then XA3 t v else XA3 (gR lv t) u:=rfl
  rw[e];split
  ·rename_i h;subst h;exact .inl rfl
  ·exact ih
def B5H(p:Option (Option Code))(t:Tm)(H:Hp)(K:KQ):Af:=
 match p with
 |some none=>K .normal t H
 |some (some .ret)=>K .ret t H
 |some (some (.exit id))=>K (.exit id) t H
 |some (some (.goto l))=>K (.goto l) t H
 |_=>none
def A2s(E:XE)(R:Rt)(cf:Cf)(g:Operand)(ps:Array Tmp)(i j:Code)(t:Tm)(H:Hp)(K:KQ):Af:=
 @Bool.rec (λ_=>Af) (ZG cf.lv t λt=>Kd E t g λf=>match f with
  |.fn (.func g) first cap=>Ik H λs=>Yy first (.yl s::cap) λall=>R.call g all ((s,.loop cf.n t ps i j (some none))::H) λ_ d=>I6 d s λx=>ZJ x λ_ _ _ _ _ a=>Ll d s .gone λh=>B5H a t h K
  |_=>none) none cf.b
def A1p(e:Exit)(t:Tm)(H:Hp)(k:Nat->Tm->Ru)(K:KQ):Af:=(λ(_:Unit)=>match e with|.goto l=>k l t H|e=>K e t H) Iv
def A4G(run:X!)(cf:Cf)(c:Code)(K:KQ)(n:Nat):Nat->Tm->Ru:=
 @Nat.rec (λ_=>Nat->Tm->Ru) (λ_ _ _=>none) (λ_ ih l t H=>match findLabel c l with
  |some rest=>run cf rest t H λe t H=>A1p e t H ih K
  |none=>none) n
def eN(E:XE)(R:Rt)(Z:A63)(cf:Cf)(c:Code):Tm->Hp->KQ->Af:=
 @Code.rec (λ_=>Tm->Hp->KQ->Af)
  (λt H K=>K .normal t H)
  (λid f draw t H K=>@Bool.rec (λ_=>Af) (A2v E R cf.fz cf.n f.toList f.toList t H λt H=>K .normal t H) (Z cf id f.toList t H λt H=>K .normal t H) draw)
  (λ_ _ a d t H K=>a t H λe t H=>xW e t H (λt H=>d t H K) K)
  (λx _ _ a d t H K=>Kd E t x λv=>A2 v (a t H K) (d t H K))
  (λid _ ih t H K=>ih t H λe t H=>A4r id e t H K)
  (λ_ ih t H K=>xO cf.lv ih K E.lf t H)
  (λg ps h i _ _ t H K=>A2s E R cf g ps h i t H K)
  (λid t H K=>K (.exit id) t H)
  (λc ih t H K=>@Bool.rec (λ_=>Af) (ih t H λe t H=>A1p e t H (A4G R.run cf c K E.lf) K) none cf.b)
  (λ_ t H K=>K .normal t H)
  (λl t H K=>K (.goto l) t H)
  (λt H K=>K .ret t H)
  (λ_ _ _ _=>none) c
section
variable{D:XE->Cf->Nat->List Oper->Bool}{E:XE}{P:Program}{R:Rt}{Z:A63}{r:AV×Hp}{ro:Option Nat}{m:Nat}
def A4C(D:XE->Cf->Nat->List Oper->Bool)(E:XE)(P:Program)(Z:A63):Prop:=
 ∀(ro:Option Nat)(cf:Cf)(id:Nat)(a:List Oper)(t:Tm)(H:Hp)(K:Tm->Ru)(r:AV×Hp)(m:Nat),(cf.b=false->D E cf id a=true)->Z cf id a t H K=some r->
  To P E.G ro m cf.n (.region id a.toArray true) (λe t' d=>e=.normal/\K t' d=some r) t H
def rR{k:Tm->Ru}(h:xW e t H k K=some r):(e=.normal/\k t H=some r)\/(e≠.normal/\K e t H=some r):=by
 unfold xW at h;split at h
 ·exact .inl ⟨rfl,h⟩
 ·rename_i a;exact .inr ⟨a,h⟩
theorem To.congr{G:Gl}(hc:∀u,XA3 t' u=XA3 t u\/XA3 t' u=.dk)(h:To P G ro m N c Q t' H):To P G ro m N c Q t H:=
 λw0 b C a w s=>h w0 b C a w (s.congr hc)
theorem nL.congr{G:Gl}(hc:∀u,XA3 t' u=XA3 t u\/XA3 t' u=.dk)(h:nL P G ro m N c Q t' H):nL P G ro m N c Q t H:=
 λw0 b C a w s=>h w0 b C a w (s.congr hc)
def A2y:∀(lv:Hb)(K:Tm->Af),ZG lv t K=some r->∃t',K t'=some r/\∀u,XA3 t' u=XA3 t u\/XA3 t' u=.dk:=by
 intro lv
 induction lv with
 |nil=>intro K h;exact⟨[],h,λu=>.inr rfl⟩
 |cons v lv ih=>
  intro K h;have h:(gtm t v λx=>ZG lv t λl=>K ((v,x)::l))=some r:=h;rw[Wv]at h;obtain⟨t',h1,h2⟩:=ih _ h;refine⟨_,h1,λu=>?_⟩;simp only[XA3];split
  ·rename_i a;rw[a];exact .inl rfl
  ·exact h2 u
def A0a{G:Gl}{lv:Hb}{body:Tm->Hp->KQ->Af}(hb:∀t H(K:KQ),body t H K=some r->To P G ro m N c (λe t' a=>K e t' a=some r) t H):∀(n:Nat)(t:Tm)(H:Hp),xO lv body K n t H=some r->
 nL P G ro m N c (λe t' a=>K e t' a=some r) t H:=by
 intro n
 induction n with
 |zero=>intro t H h;rw[A2w]at h;cases h
 |succ n ih=>
  intro t H h;rw[A2x]at h;refine nL.congr (A30 lv t) (A4z (To.mono (hb _ _ _ h) λe f d hq=>?_));rcases rR hq with⟨rfl,h⟩|⟨b,h⟩
  ·exact ih _ _ h
  ·cases e with
   |normal=>exact absurd rfl b
   |_=>exact h
def A!(M:XE.Ok D E P)(O:RSound D E P R)(q:ro≠none->cf.b=true){g:Operand}{ps:Array Tmp}{s u:Code}(h:A2s E R cf g ps s u t H K=some r):To P E.G ro m cf.n (.rangeFunc g ps s u) (λe t' j=>K e t' j=some r) t H:=by
 unfold A2s at h;cases hb:cf.b
 ·rw[hb]at h;have hn:ro=none:=by
   cases ro with
   |none=>rfl
   |some b=>have:=q (by simp);rw[hb]at this;cases this
  subst hn;obtain⟨t',h,hc⟩:=A2y _ _ h;refine To.congr hc ?_;have h:=Bb M h;split at h
  ·rename_i f first cap X;rw[BW,MK]at h;obtain⟨⟨fn,h1,h2,L⟩,d⟩:=O.call _ _ _ _ _ h;have e:first++AV.yl (As H)::cap=first++[.yl (As H)]++cap:=by simp
   rw[e]at d;refine A4w X h1 h2 L ?_;intro w0 C w ys hr V;refine(d w0 C w ys hr V).mono ?_;rintro e w' ⟨v,y,B,j,he,p,hv,hx,Y⟩;refine⟨v,y,B,j,he,p,hv,hx,?_⟩;obtain⟨x,i,k⟩:=Iy rfl Y;obtain⟨N',t2,aa,F,J,A,rfl,a⟩:=dM k;rw[Dh]at a;unfold B5H at a;split at a
   ·exact⟨_,_,_,_,_,_,i,a⟩
   ·exact⟨_,_,_,_,_,_,i,a⟩
   ·exact⟨_,_,_,_,_,_,i,a⟩
   ·exact⟨_,_,_,_,_,_,i,a⟩
   ·cases a
  ·cases h
 ·rw[hb]at h;cases h
def A7u{D:Nat->List Oper->Bool}:∀(c:Code)(l:Nat)(rest:Code),SU D c=true->findLabel c l=some rest->SU D rest=true:=by
 intro c
 induction c with
 |seq a b g i=>
  intro l rest d h;simp only[SU,K0]at d;unfold findLabel at h;split at h
  ·rename_i r0 f;injection h with h
   subst h;simp only[SU,K0];exact⟨g _ _ d.1 f,d.2⟩
  ·exact i _ _ d.2 h
 |label j=>
  intro l rest d h;unfold findLabel at h;split at h
  ·injection h with h;subst h;rfl
  ·cases h
 |_=>intro l rest d h;simp[findLabel]at h
def A1o{k:Nat->Tm->Ru}(a:∀l,e≠.goto l)(h:A1p e t H k K=some r):K e t H=some r:=by
 cases e with
 |goto l=>exact absurd rfl (a l)
 |_=>exact h
def A0c(f:RSound D E P R)(g:SU (D E cf) c=true):∀(n l:Nat)(t:Tm)(H:Hp),A4G R.run cf c K n l t H=some r->
 ∃rest,findLabel c l=some rest/\X_ P E.G m cf.n c rest (λe t' d=>K e t' d=some r) t H:=by
 intro n
 induction n with
 |zero=>intro l t H h;cases h
 |succ n ih=>
  intro l t H h;have h:(match findLabel c l with
   |some rest=>R.run cf rest t H λe t H=>A1p e t H (A4G R.run cf c K n) K
   |none=>none)=some r:=h
  split at h
  ·rename_i rest b;refine⟨rest,b,zU (λl t H hq=>ih l t H hq) (λe t H a hq=>A1o a hq) (f.run none cf rest t H _ r m (λh=>absurd rfl h) (λ_=>A7u _ _ _ g b) h)⟩
  ·cases h
def A0e(u:XE.Ok D E P)(w:RSound D E P R)(O:A4C D E P Z)(q:ro≠none->cf.b=true):∀(c:Code)(t:Tm)(H:Hp)(K:KQ),(cf.b=false->SU (D E cf) c=true)->eN E R Z cf c t H K=some r->
 To P E.G ro m cf.n c (λe t' L=>K e t' L=some r) t H:=by
 intro c
 induction c with
 |skip=>intro t H K _ h;exact B1S h
 |region id d draw=>
  intro t H K f h;have h:@Bool.rec (λ_=>Af) (A2v E R cf.fz cf.n d.toList d.toList t H λt H=>K .normal t H) (Z cf id d.toList t H λt H=>K .normal t H) draw=some r:=h;have e:d=d.toList.toArray:=by simp
  cases draw
  ·rw[e];exact To.mono (A4v (A2u u w _ _ _ _ h)) (by rintro _ _ _ ⟨rfl,h⟩;exact h)
  ·rw[e];exact To.mono (O ro cf id d.toList t H _ r m f h) (by rintro _ _ _ ⟨rfl,h⟩;exact h)
 |seq x y F J=>
  intro t H K f h;have h:(eN E R Z cf x t H λe t H=>xW e t H (λt H=>eN E R Z cf y t H K) K)=some r:=h;have j:cf.b=false->SU (D E cf) x=true/\SU (D E cf) y=true:=λhb=>by simpa [SU] using f hb
  refine B5c (To.mono (F t H _ (λhb=>(j hb).1) h) λe V M hq=>?_);rcases rR hq with⟨rfl,h⟩|⟨k,h⟩
  ·exact J _ _ _ (λhb=>(j hb).2) h
  ·cases e with
   |normal=>exact absurd rfl k
   |_=>exact h
 |cond x a b B C=>
  intro t H K f h;have h:(Kd E t x λv=>A2 v (eN E R Z cf a t H K) (eN E R Z cf b t H K))=some r:=h;have j:cf.b=false->SU (D E cf) a=true/\SU (D E cf) b=true:=λhb=>by simpa [SU] using f hb
  have h:=Bb u h;unfold A2 at h;split at h
  ·rename_i hv;exact A24 hv (λ_=>B _ _ _ (λhb=>(j hb).1) h) (λhb=>by cases hb)
  ·rename_i hv;exact A24 hv (λhb=>by cases hb) (λ_=>C _ _ _ (λhb=>(j hb).2) h)
  ·cases h
 |block id x ih=>
  intro t H K f h;have h:(eN E R Z cf x t H λe t H=>A4r id e t H K)=some r:=h;refine A7D (To.mono (ih t H _ f h) λe V M hq=>?_);unfold A4r at hq;cases e with
  |exit i=>
   simp only at hq;simp only[A3k];cases p:Nat.beq i id
   ·rw[p]at hq;rw[C5 (λe=>by rw[e,jH]at p;cases p)];exact hq
   ·rw[p]at hq;rw[Dl (Yo p)];exact hq
  |_=>exact hq
 |loop x ih=>
  intro t H K f h;have h:xO cf.lv (λt H K=>eN E R Z cf x t H K) K E.lf t H=some r:=h;exact A22 (A0a (λt H K h=>ih t H K f h) _ _ _ h)
 |rangeFunc g ps X Y _ _=>
  intro t H K _ h;exact A! u w q h
 |exit id=>intro t H K _ h;exact B1U h
 |scope x ih=>
  intro t H K f h;have h:@Bool.rec (λ_=>Af) (eN E R Z cf x t H λe t H=>A1p e t H (A4G R.run cf x K E.lf) K) none cf.b=some r:=h;cases hb:cf.b
  ·rw[hb]at h;have hn:ro=none:=by
    cases ro with
    |none=>rfl
    |some b=>have:=q (by simp);rw[hb]at this;cases this
   subst hn;have A:SU (D E cf) x=true:=f hb;exact A7B (zU (λl t H hq=>A0c w A _ _ _ _ hq) (λe t H k hq=>A1o k hq) (ih t H _ f h))
  ·rw[hb]at h;cases h
 |label l=>intro t H K _ h;exact A7C h
 |goto l=>intro t H K _ h;exact B1T h
 |ret=>intro t H K _ h;exact B5d h
 |refuse s=>intro t H K _ h;cases h
end
end
section
variable{v:AV}{a:Af}{cf:Cf}{bs:List (Nat×Nat)}{hs:List Hp}{efs ms:Hb}{ops:List Oper}{i:Nat}{ef:Oper->Bool}{K:Tm->Ru}{α:Type}{D:XE->Cf->Nat->List Oper->Bool}
def QU(E:XE):Op->Bool
 |.move _=>true
 |.assign _=>true
 |.pick .. =>true
 |.nilCheck _=>true
 |.binOp .. =>true
 |.unOp .. =>true
 |.convert s _ _=>match E.ty.get s with
  |some i=>match i.d with
   |.slice .. =>false
   |.pointer _=>false
   |.other=>false
   |_=>true
  |none=>false
 |.makeFunc .. =>true
 |.fieldAddr .. =>true
 |.field .. =>true
 |.indexAddr .. =>true
 |.index .. =>true
 |.slice ty _ _ _ _=>match E.ty.get ty with
  |some i=>match i.d with
   |.array .. =>false
   |_=>true
  |none=>false
 |.extract .. =>true
 |.build .. =>true
 |.buildSlice .. =>true
 |.call c=>match c.callee with
  |.builtin .len=>match c.argTypes.toList with
   |[ty]=>(match E.ty.get ty with
    |some i=>match i.d with
     |.map .. =>false
     |_=>true
    |none=>false)
   |_=>false
  |.builtin .min=>true
  |.builtin .max=>true
  |_=>false
 |_=>false
def Qn(E:XE)(fz:Bool):Op->Bool
 |.move _=>false
 |.assign _=>false
 |.pick .. =>false
 |.nilCheck _=>false
 |.binOp .. =>false
 |.unOp .. =>false
 |.convert s d _=>match E.ty.get s,E.ty.get d with
  |some i,some j=>match i.d,j.d with
   |.string,.slice .. =>true
   |_,_=>false
  |_,_=>true
 |.makeFunc .. =>false
 |.fieldAddr .. =>false
 |.field .. =>false
 |.indexAddr .. =>false
 |.index .. =>false
 |.slice .. =>false
 |.extract .. =>false
 |.build .. =>false
 |.buildSlice .. =>!fz
 |.load .. =>false
 |.lookup .. =>false
 |.makeInterface .. =>false
 |.call c=>match c.callee with
  |.value (.func f)=>E.imp f
  |.value (.tmp _)=>!fz
  |.builtin .len=>false
  |.builtin .min=>false
  |.builtin .max=>false
  |.builtin .cap=>false
  |.builtin .unsafeSliceData=>false
  |_=>true
 |_=>true
def A08(E:XE)(R:Rt)(t:Tm)(H:Hp)(o:Op)(K:K2):Af:=
 (λ(_:Unit)=>match o with
  |.move x=>Kd E t x K
  |.assign x=>Kd E t x K
  |o=>Ar (R6 E R t H o λv=>some (v,[])) K) Iv
def A66(E:XE)(R:Rt)(fz:Bool)(all:List Oper)(o:Oper)(t1:Tm)(H:Hp):Af:=
 gdK all t1 o.guard λg=>@Bool.rec (λ_=>Af) (some (.v undef,H)) (@Bool.rec (λ_=>Af) (Ar (R6 E R t1 H o.op λv=>some (v,[])) λv=>some (v,H)) (zop E R fz t1 H o.op λv b=>some (v,b)) (Qn E fz o.op)) g
def zdr(E:XE)(R:Rt)(fz:Bool)(N:Nat)(all:List Oper)(l:List Oper):Tm->Hp->(Tm->Ru)->Af:=
 @List.rec Oper (λ_=>Tm->Hp->(Tm->Ru)->Af) (λt H K=>K t H)
  (λo _ ih t H K=>A1Y N o.dst (ZG (Ol all o) t λd=>A79 o.guard
   (@Bool.rec (λ_=>Af) (A08 E R d H o.op λv=>Q7 t o.dst v λc=>ih c H K) (D5 (zop E R fz d H o.op λv b=>some (v,b)) λv b=>Q7 t o.dst v λc=>ih c b K) (Qn E fz o.op))
   (D5 (A66 E R fz all o d H) λv b=>Q7 t o.dst v λc=>ih c b K))) l
def qQ(E:XE)(R:Rt)(fz:Bool)(N:Nat)(all:List Oper)(l:List Oper):Tm->Hp->(List Tm->Is->List Hp->Tm->Ru)->Af:=
 @List.rec Oper (λ_=>Tm->Hp->(List Tm->Is->List Hp->Tm->Ru)->Af) (λt H K=>K [] [] [H] t H)
  (λo _ ih t H K=>A1Y N o.dst (ZG (Ol all o) t λb=>A79 o.guard
   (@Bool.rec (λ_=>Af) (A08 E R b H o.op λv=>Q7 t o.dst v λd=>ih d H λts vs hs=>K (b::ts) (v::vs) hs) (D5 (zop E R fz b H o.op λv c=>some (v,c)) λv c=>Q7 t o.dst v λd=>ih d c λts vs hs=>K (b::ts) (v::vs) (H::hs)) (Qn E fz o.op))
   (D5 (A66 E R fz all o b H) λv c=>Q7 t o.dst v λd=>ih d c λts vs hs=>K (b::ts) (v::vs) (@Bool.rec (λ_=>List Hp) hs (H::hs) (Qn E fz o.op))))) l
def wK(l:List α)(n:Nat)(K:α->Af):Af:=
 (λ(_:Unit)=>@List.rec α (λ_=>Nat->Af) (λ_=>none) (λa _ ih n=>@Nat.rec (λ_=>Af) (K a) (λm _=>ih m) n) l n) Iv
def dZ:AV->AV->Bool
 |.v x,.v y=>eU x y
 |.ptr r p k,.ptr c h e=>Nat.beq r c&&(Nat.beq p h&&Nat.beq k e)
 |.sl z r o n,.sl j c g f=>Nat.beq z j&&(Nat.beq r c&&(Nat.beq o g&&Nat.beq n f))
 |.iptr cs,.iptr d=>vF (Vw 6) cs d
 |.mp r,.mp c=>Nat.beq r c
 |a,b=>Vw 6 a b
def B5h{a b:AV}(h:dZ a b=true):a=b:=by
 unfold dZ at h;split at h
 ·rw[pP h]
 ·simp only[K0]at h;rw[Yo h.1,Yo h.2.1,Yo h.2.2]
 ·simp only[K0]at h;rw[Yo h.1,Yo h.2.1,Yo h.2.2.1,Yo h.2.2.2]
 ·rw[qK (A4A 6) h]
 ·rw[Yo h]
 ·exact A4A 6 _ _ h
def Bc(a:Af)(v:AV):Af:=match a with
 |some (u,_)=>some (.v (.bool (dZ u v)),[])
 |none=>none
def Ra(a:Af)(K:Af):Af:=match a with
 |some (.v (.bool true),_)=>K
 |_=>none
def B0a{K:Af}{r:AV×Hp}(h:Ra a K=some r):(∃b,a=some (.v (.bool true),b))/\K=some r:=by
 unfold Ra at h;split at h
 ·exact⟨⟨_,rfl⟩,h⟩
 ·cases h
def rY{H0:Hp}(h:Bc a v=some (.v (.bool true),H0)):∃b,a=some (v,b):=by
 unfold Bc at h;split at h
 ·injection h with h
  injection h with h _
  injection h with h
  injection h with h
  exact⟨_,by rw[B5h h]⟩
 ·cases h
def A6d(E:XE)(R:Rt)(all:List Oper)(bs:List (Nat×Nat))(ts:List Tm)(vs:Is)(hs:List Hp)(K:Af):Af:=
 (λ(_:Unit)=>@List.rec (Nat×Nat) (λ_=>Af) K (λp _ ih=>@Prod.rec Nat Nat (λ_=>Af) (λi k=>wK all i λo=>wK ts i λb=>wK vs i λv=>wK hs k λH=>
  Ra (gdK all b o.guard λg=>@Bool.rec (λ_=>Af) (some (.v (.bool true),[])) (Bc (R6 E R b H o.op λu=>some (u,[])) v) g) ih) p) bs) Iv
def F9(ef:Oper->Bool):Nat->List Oper->Hb
 |_,[]=>[]
 |i,o::l=>match ef o with
  |true=>i::F9 ef (i+1) l
  |false=>F9 ef (i+1) l
def A0L(E:XE)(ef:Oper->Bool)(ms efs:Hb):Nat->List Oper->Bool
 |_,[]=>true
 |i,o::l=>(ef o||(QU E o.op||efs.all λe=>match Nat.blt e i with
  |true=>tb (ms.getD i 0) e
  |false=>tb (ms.getD e 0) i))&&A0L E ef ms efs (i+1) l
def J3(E:XE)(fz:Bool)(o:Oper):Bool:=Qn E fz o.op
def A6N(ms:Hb)(i k:Nat):Nat->Hb->Bool
 |_,[]=>true
 |a,e::l=>(!tb (ms.getD i 0) e||Nat.blt a k)&&((!tb (ms.getD e 0) i||Nat.ble k a)&&A6N ms i k (a+1) l)
def A6E(E:XE)(ef:Oper->Bool)(ms efs:Hb)(bs:List (Nat×Nat)):Nat->Nat->List Oper->Bool
 |_,_,[]=>true
 |i,b,o::l=>(ef o||(QU E o.op||(List.range (efs.length+1)).all λk=>Nat.beq k b||(!A6N ms i k 0 efs||bs.any λp=>Nat.beq p.1 i&&Nat.beq p.2 k)))&&
  A6E E ef ms efs bs (i+1) (match ef o with|true=>b+1|false=>b) l
def A9n(id:Nat):List (Nat×List (Nat×Nat))->Option (List (Nat×Nat))
 |[]=>none
 |p::l=>match Nat.beq p.1 id with|true=>some p.2|false=>A9n id l
def sA(E:XE)(cf:Cf)(id:Nat)(ops:List Oper):Bool:=
 yD ops (F9 (J3 E cf.fz) 0 ops)&&(match A9n id cf.rc with
  |none=>A0L E (J3 E cf.fz) (Tv ops) (F9 (J3 E cf.fz) 0 ops) 0 ops
  |some bs=>A6E E (J3 E cf.fz) (Tv ops) (F9 (J3 E cf.fz) 0 ops) bs 0 0 ops)
def B6c(E:XE)(ef:Oper->Bool)(ms efs:Hb):Nat->Nat->List Oper->List (Nat×Nat)
 |_,_,[]=>[]
 |i,b,o::l=>(match ef o||QU E o.op with
  |true=>[]
  |false=>((List.range (efs.length+1)).filter λk=>!Nat.beq k b&&A6N ms i k 0 efs).map λk=>(i,k))++B6c E ef ms efs (i+1) (match ef o with|true=>b+1|false=>b) l
def C0Q(E:XE)(R:Rt)(cf:Cf)(ops:List Oper)(bs:List (Nat×Nat))(t:Tm)(H:Hp)(K:Tm->Ru):Af:=
 ckS (yD ops (F9 (J3 E cf.fz) 0 ops)&&A6E E (J3 E cf.fz) (Tv ops) (F9 (J3 E cf.fz) 0 ops) bs 0 0 ops) (qQ E R cf.fz cf.n ops ops t H λts vs hs c b=>A6d E R ops bs ts vs hs (K c b))
def C0R(E:XE)(R:Rt)(cf:Cf)(id:Nat)(ops:List Oper)(t:Tm)(H:Hp)(K:Tm->Ru):Af:=
 (λ(_:Unit)=>match A9n id cf.rc with
  |none=>zdr E R cf.fz cf.n ops ops t H K
  |some bs=>qQ E R cf.fz cf.n ops ops t H λts vs hs c b=>A6d E R ops bs ts vs hs (K c b)) Iv
def A4J(E:XE)(R:Rt):A63:=λcf id ops t H K=>
 @Bool.rec (λ_=>Af) (C0R E R cf id ops t H K) (C0Q E R cf ops (B6c E (J3 E cf.fz) (Tv ops) (F9 (J3 E cf.fz) 0 ops) 0 0 ops) t H K) cf.b
section
variable{E:XE}{P:Program}{R:Rt}{t:Tm}{H:Hp}{r:AV×Hp}{ro:Option Nat}{N m:Nat}{fz:Bool}
def A1l{o:Op}(h:QU E o=true)(H H':Hp)(K:K2):R6 E R t H o K=R6 E R t H' o K:=by
 cases o with
 |move x=>rfl
 |assign x=>rfl
 |pick c a b=>rfl
 |nilCheck x=>rfl
 |binOp a b c d e=>rfl
 |unOp a b c=>rfl
 |convert a b c=>
  have key:∀v,(E.ty.getK a λi=>E.ty.getK b λj=>cvK E a b i j v H K)=(E.ty.getK a λi=>E.ty.getK b λj=>cvK E a b i j v H' K):=by
   intro v;have h:(match E.ty.get a with|some i=>(match i.d with|.slice .. =>false|.pointer _=>false|.other=>false|_=>true)|none=>false)=true:=h;rw[BT.getK_eq,BT.getK_eq];cases hs:E.ty.get a with
   |none=>rfl
   |some i=>
    rw[hs]at h;simp only at h;simp only
    congr 1
    funext j
    unfold cvK;cases g:i.d with
    |slice e z=>rw[g]at h;cases h
    |pointer e=>rw[g]at h;cases h
    |other=>rw[g]at h;cases h
    |_=>rfl
  show(Kd E t c λv=>E.ty.getK a λi=>E.ty.getK b λj=>cvK E a b i j v H K)=(Kd E t c λv=>E.ty.getK a λi=>E.ty.getK b λj=>cvK E a b i j v H' K)
  congr 1
  funext v
  exact key v
 |makeFunc a b c=>rfl
 |fieldAddr a b c=>rfl
 |field a b c=>rfl
 |indexAddr a b c=>rfl
 |index a b c=>rfl
 |slice a b c d e=>
  have h:(match E.ty.get a with|some i=>(match i.d with|.array .. =>false|_=>true)|none=>false)=true:=h;have key:∀v l p m,(E.ty.getK a λi=>A2q i v l p m H K)=(E.ty.getK a λi=>A2q i v l p m H' K):=by
   intro v l p m;rw[BT.getK_eq,BT.getK_eq];cases hs:E.ty.get a with
   |none=>rfl
   |some i=>
    rw[hs]at h;simp only at h;simp only;unfold A2q;cases g:i.d with
    |array n e z=>rw[g]at h;cases h
    |_=>rfl
  show(Kd E t b λv=>qN E t c λl=>qN E t d λh=>qN E t e λm=>E.ty.getK a λi=>A2q i v l h m H K)=(Kd E t b λv=>qN E t c λl=>qN E t d λh=>qN E t e λm=>E.ty.getK a λi=>A2q i v l h m H' K)
  congr 1
  funext v
  congr 1
  funext l
  congr 1
  funext p
  congr 1
  funext m
  exact key v l p m
 |extract a b=>rfl
 |build a b=>rfl
 |buildSlice a b c=>rfl
 |call c=>
  unfold QU at h;obtain⟨callee,args,ts⟩:=c;cases callee with
  |value f=>cases h
  |invoke a b=>cases h
  |builtin b=>
   cases b with
   |len=>
    have h:(match ts.toList with|[ty]=>(match E.ty.get ty with|some i=>(match i.d with|.map .. =>false|_=>true)|none=>false)|_=>false)=true:=h;have u:∀s,R6 E R t s (.call ⟨.builtin .len,args,ts⟩) K=(match args.toList,ts.toList with|[x],[ty]=>Kd E t x λv=>E.ty.getK ty λi=>B2r i v s K|_,_=>none):=λ_=>rfl;rw[u,u];split
    ·rename_i x ty w q;rw[q]at h
     congr 1
     funext v
     rw[BT.getK_eq,BT.getK_eq];cases hs:E.ty.get ty with
     |none=>rfl
     |some i=>
      simp only[hs]at h;simp only;unfold B2r;cases g:i.d with
      |map k e=>rw[g]at h;cases h
      |_=>rfl
    ·rfl
   |min=>rfl
   |max=>rfl
   |_=>cases h
 |_=>cases h
inductive Trc(S:Oper->Tm->Hp->AV->Hp->Prop)(ef:Oper->Bool):List Oper->Tm->Hp->Is->List Hp->Tm->Hp->Prop
 |nil {t:Tm} {H:Hp}:Trc S ef [] t H [] [H] t H
 |rd {o:Oper} {l:List Oper} {t:Tm} {H:Hp} {v:AV} {vs:Is} {hs:List Hp} {t':Tm} {H':Hp} (he:ef o=false) (h:S o t H v H) (k:Trc S ef l (RF t o.dst v) H vs hs t' H'):Trc S ef (o::l) t H (v::vs) hs t' H'
 |ef {o:Oper} {l:List Oper} {t:Tm} {H H1:Hp} {v:AV} {vs:Is} {hs:List Hp} {t':Tm} {H':Hp} (he:ef o=true) (h:S o t H v H1) (k:Trc S ef l (RF t o.dst v) H1 vs hs t' H'):Trc S ef (o::l) t H (v::vs) (H::hs) t' H'
def Stp(E:XE)(R:Rt)(fz:Bool)(N:Nat)(all:List Oper)(o:Oper)(t:Tm)(H:Hp)(v:AV)(b:Hp):Prop:=
 dok N o.dst/\(((GY all (IK all o t) o=.run\/GY all (IK all o t) o=.dep true)/\
  ((J3 E fz o=false/\(∃d,R6 E R (IK all o t) H o.op (λv=>some (v,[]))=some (v,d))/\b=H)\/(J3 E fz o=true/\zop E R fz (IK all o t) H o.op (λv c=>some (v,c))=some (v,b))))\/
  ((GY all (IK all o t) o=.skip\/GY all (IK all o t) o=.dep false)/\v=.v undef/\b=H))
def A0b(lv:Hb)(t:Tm):∀K:Tm->Af,ZG lv t K=K (gR lv t):=by
 induction lv with
 |nil=>intro K;rfl
 |cons u lv ih=>
  intro K;have e:ZG (u::lv) t K=gtm t u λv=>ZG lv t λl=>K ((u,v)::l):=rfl;rw[e,Wv,ih];rfl
def A4I{x:Operand}{K:K2}(h:Kd E t x K=some r):∃v b,Kd E t x (λv=>some (v,[]))=some (v,b)/\K v=some r:=by
 cases x with
 |tmp i=>
  have h:gtm t i K=some r:=h;rw[Wv]at h;exact⟨_,[],(Wv t i _).trans rfl,h⟩
 |const v=>exact⟨_,[],rfl,h⟩
 |global g=>
  have h:(E.gl.getK g λcs=>K (.iptr cs))=some r:=h;obtain⟨cs,h1,h2⟩:=Bf h;refine⟨_,[],?_,h2⟩;have:Kd E t (.global g) (λv=>some (v,[]))=E.gl.getK g λcs=>some (.iptr cs,[]):=rfl;rw[this,BT.getK_eq,h1]
 |func f=>exact⟨_,[],rfl,h⟩
def xN{o:Op}{K:K2}(h:A08 E R t H o K=some r):∃v b,R6 E R t H o (λv=>some (v,[]))=some (v,b)/\K v=some r:=by
 unfold A08 at h;split at h
 ·exact A4I h
 ·exact A4I h
 ·exact Rz h
def A69{all:List Oper}:∀(l:List Oper)(t:Tm)(H:Hp)(K:Tm->Ru),zdr E R fz N all l t H K=some r->
 ∃vs hs c b,Trc (Stp E R fz N all) (J3 E fz) l t H vs hs c b/\K c b=some r:=by
 intro l
 induction l with
 |nil=>intro t H K h;exact⟨_,_,_,_,.nil,h⟩
 |cons o l ih=>
  intro t H K h;have h:A1Y N o.dst (ZG (Ol all o) t λu=>A79 o.guard
   (@Bool.rec (λ_=>Af) (A08 E R u H o.op λv=>Q7 t o.dst v λc=>zdr E R fz N all l c H K) (D5 (zop E R fz u H o.op λv b=>some (v,b)) λv b=>Q7 t o.dst v λc=>zdr E R fz N all l c b K) (Qn E fz o.op))
   (D5 (A66 E R fz all o u H) λv b=>Q7 t o.dst v λc=>zdr E R fz N all l c b K))=some r:=h
  obtain⟨n,h⟩:=mH h;rw[A0b]at h;have s:gR (Ol all o) t=IK all o t:=rfl;rw[s]at h;cases k:o.guard with
  |none=>
   have g:GY all (IK all o t) o=.run:=by unfold GY;rw[k]
   rw[k]at h;have h:@Bool.rec (λ_=>Af) (A08 E R (IK all o t) H o.op λv=>Q7 t o.dst v λc=>zdr E R fz N all l c H K) (D5 (zop E R fz (IK all o t) H o.op λv b=>some (v,b)) λv b=>Q7 t o.dst v λc=>zdr E R fz N all l c b K) (Qn E fz o.op)=some r:=h;cases he:Qn E fz o.op
   ·rw[he]at h;obtain⟨v,x,p,d⟩:=xN h;rw[Ts]at d;obtain⟨vs,hs,c,b,e,f⟩:=ih _ _ _ d;exact⟨_,_,_,_,.rd he ⟨n,.inl ⟨.inl g,.inl ⟨he,⟨_,p⟩,rfl⟩⟩⟩ e,f⟩
   ·rw[he]at h;obtain⟨v,w,p,d⟩:=Vp h;rw[Ts]at d;obtain⟨vs,hs,c,b,e,f⟩:=ih _ _ _ d;exact⟨_,_,_,_,.ef he ⟨n,.inl ⟨.inl g,.inr ⟨he,p⟩⟩⟩ e,f⟩
  |some A=>
   rw[k]at h;have h:(D5 (A66 E R fz all o (IK all o t) H) λv b=>Q7 t o.dst v λc=>zdr E R fz N all l c b K)=some r:=h;obtain⟨v,w,p,d⟩:=Vp h;rw[Ts]at d;obtain⟨vs,hs,c,b,e,f⟩:=ih _ _ _ d;rcases hC p with⟨h1,h2⟩|⟨h1,h2⟩
   ·cases he:Qn E fz o.op
    ·rw[he]at h1;obtain⟨B,x,q,j⟩:=Rz h1;injection j with j;injection j with j y
     subst j y;exact⟨_,_,_,_,.rd he ⟨n,.inl ⟨h2,.inl ⟨he,⟨_,q⟩,rfl⟩⟩⟩ e,f⟩
    ·rw[he]at h1;exact⟨_,_,_,_,.ef he ⟨n,.inl ⟨h2,.inr ⟨he,h1⟩⟩⟩ e,f⟩
   ·have h1:some (AV.v undef,H)=some (v,w):=h1;injection h1 with h1;injection h1 with q j
    subst q j;cases he:J3 E fz o
    ·exact⟨_,_,_,_,.rd he ⟨n,.inr ⟨h2,rfl,rfl⟩⟩ e,f⟩
    ·exact⟨_,_,_,_,.ef he ⟨n,.inr ⟨h2,rfl,rfl⟩⟩ e,f⟩
def Vv(ef:Oper->Bool)(l:List Oper)(i:Nat):Nat:=((l.take i).filter ef).length
def jV(o:Oper)(l:List Oper)(val:Nat->AV)(t:Tm):∀i,II (o::l) val t (λ_=>true) (i+1)=II l (λj=>val (j+1)) (RF t o.dst (val 0)) (λ_=>true) i:=by
 intro i
 induction i with
 |zero=>rfl
 |succ i ih=>
  have c:II (o::l) val t (λ_=>true) (i+1+1)=(match true,(o::l)[i+1]? with|true,some b=>RF (II (o::l) val t (λ_=>true) (i+1)) b.dst (val (i+1))|_,_=>II (o::l) val t (λ_=>true) (i+1)):=rfl;have d:II l (λj=>val (j+1)) (RF t o.dst (val 0)) (λ_=>true) (i+1)=(match true,l[i]? with|true,some b=>RF (II l (λj=>val (j+1)) (RF t o.dst (val 0)) (λ_=>true) i) b.dst (val (i+1))|_,_=>II l (λj=>val (j+1)) (RF t o.dst (val 0)) (λ_=>true) i):=rfl;rw[c,d,ih,l0r]
theorem Trc.at{S:Oper->Tm->Hp->AV->Hp->Prop}{l:List Oper}{vs:Is}{e:Tm}{H':Hp}(h:Trc S ef l t H vs hs e H'):
 hs.getD 0 []=H/\e=II l (λj=>vs.getD j .dk) t (λ_=>true) l.length/\H'=hs.getD (Vv ef l l.length) []/\
 ∀(i:Nat)(o:Oper),l[i]?=some o->S o (II l (λj=>vs.getD j .dk) t (λ_=>true) i) (hs.getD (Vv ef l i) []) (vs.getD i .dk) (hs.getD (Vv ef l (i+1)) []):=by
 induction h with
 |nil=>exact⟨rfl,rfl,rfl,λi o h=>by simp at h⟩
 |@rd o l t H v vs hs e H' he c k ih=>
  obtain⟨h1,h2,f,g⟩:=ih;have hc:∀i,Vv ef (o::l) (i+1)=Vv ef l i:=λi=>by simp[Vv,he]
  have d:∀i,II (o::l) (λj=>(v::vs).getD j .dk) t (λ_=>true) (i+1)=II l (λj=>vs.getD j .dk) (RF t o.dst v) (λ_=>true) i:=λi=>by rw[jV];simp
  refine⟨h1,?_,?_,?_⟩
  ·rw[LV,d];exact h2
  ·rw[LV,hc];exact f
  ·intro i p b;cases i with
   |zero=>
    simp at b;subst b;rw[hc,show Vv ef (o::l) 0=0 from rfl,show Vv ef l 0=0 from rfl,h1];exact c
   |succ i=>
    rw[hc,hc,d];have:=g i p (by simpa using b);simpa using this
 |@ef o l t H n v vs hs e H' he c k ih=>
  obtain⟨h1,h2,f,g⟩:=ih;have hc:∀i,Vv ef (o::l) (i+1)=Vv ef l i+1:=λi=>by simp[Vv,he]
  have d:∀i,II (o::l) (λj=>(v::vs).getD j .dk) t (λ_=>true) (i+1)=II l (λj=>vs.getD j .dk) (RF t o.dst v) (λ_=>true) i:=λi=>by rw[jV];simp
  refine⟨rfl,?_,?_,?_⟩
  ·rw[LV,d];exact h2
  ·rw[LV,hc];simpa using f
  ·intro i p b;cases i with
   |zero=>
    simp at b;subst b;rw[hc,show Vv ef (o::l) 0=0 from rfl,show Vv ef l 0=0 from rfl];have:(H::hs).getD (0+1) []=n:=by simpa using h1
    rw[this];exact c
   |succ i=>
    rw[hc,hc,d];have:=g i p (by simpa using b);simpa using this
def S':∀(l:List Oper)(n a e:Nat),(F9 ef n l)[a]?=some e->∃j o,e=n+j/\l[j]?=some o/\ef o=true/\Vv ef l j=a:=by
 intro l
 induction l with
 |nil=>intro n a e h;simp[F9]at h
 |cons o l ih=>
  intro n a e h;unfold F9 at h;cases he:ef o
  ·rw[he]at h;obtain⟨j,p,h1,h2,b,c⟩:=ih _ _ _ h;exact⟨j+1,p,by omega,by simpa using h2,b,by simpa [Vv,he] using c⟩
  ·rw[he]at h;cases a with
   |zero=>simp at h;exact⟨0,o,by omega,rfl,he,rfl⟩
   |succ a=>
    obtain⟨j,p,h1,h2,b,c⟩:=ih _ _ _ (by simpa using h);exact⟨j+1,p,by omega,by simpa using h2,b,by simpa [Vv,he] using c⟩
def B1V:∀(l:List Oper)(n j:Nat)(o:Oper),l[j]?=some o->ef o=true->(F9 ef n l)[Vv ef l j]?=some (n+j):=by
 intro l
 induction l with
 |nil=>intro n j o h;simp at h
 |cons p l ih=>
  intro n j o h he;unfold F9;cases j with
  |zero=>simp at h;subst h;rw[he];rfl
  |succ j=>
   have:=ih (n+1) j o (by simpa using h) he;cases b:ef p
   ·simpa [Vv,b,lN,Nat.add_comm 1 j] using this
   ·simpa [Vv,b,lN,Nat.add_comm 1 j] using this
def R_:∀(l:List Oper)(n:Nat),(F9 ef n l).length=Vv ef l l.length:=by
 intro l
 induction l with
 |nil=>intro n;rfl
 |cons p l ih=>
  intro n;unfold F9;cases b:ef p
  ·simpa [Vv,b] using ih (n+1)
  ·simpa [Vv,b] using ih (n+1)
def uR(l:List Oper){i j:Nat}(h:i<=j):Vv ef l i<=Vv ef l j:=by
 unfold Vv;have:l.take i=(l.take j).take i:=by rw[List.take_take,l22 h]
 rw[this];exact((List.take_sublist i (l.take j)).filter ef).length_le
def YH{l:List Oper}{o:Oper}(h:l[i]?=some o):Vv ef l (i+1)=Vv ef l i+(if ef o then 1 else 0):=by
 unfold Vv;rw[List.take_add_one,h,List.filter_append,EC];cases he:ef o<;>simp[he]
def A9m:∀(l:List Oper)(n:Nat),A0L E ef ms efs n l=true->∀(j:Nat)(o:Oper),l[j]?=some o->ef o=false->QU E o.op=true\/∀e∈efs,(e<n+j->tb (ms.getD (n+j) 0) e=true)/\(n+j<=e->tb (ms.getD e 0) (n+j)=true):=by
 intro l
 induction l with
 |nil=>intro n _ j o h;simp at h
 |cons p l ih=>
  intro n h j o c he;simp only[A0L,K0]at h;cases j with
  |zero=>
   simp at c;subst c;have h1:=h.1;rw[he,Bool.false_or,l1i]at h1;rcases h1 with h1|h1
   ·exact .inl h1
   ·refine .inr λe hm=>?_;have:=GE.1 h1 e hm;cases hb:Nat.blt e n
    ·rw[hb]at this;have:¬e<n:=λb=>by rw[<-Wr,hb]at b;cases b
     exact⟨λb=>by omega,λ_=>by simpa using ‹_›⟩
    ·rw[hb]at this;have b:e<n:=by rw[<-Wr];exact hb
     exact⟨λ_=>this,λd=>by omega⟩
  |succ j=>
   have:=ih (n+1) h.2 j o (by simpa using c) he;rw[show n+(j+1)=n+1+j from by omega];exact this
def Stp.aopg(d:XE.Ok D E P)(e:RSound D E P R){all:List Oper}{o:Oper}{c:Hp}(h:Stp E R fz N all o t H v c):B5n P E.G ro N all o (IK all o t) H v c:=by
 obtain⟨_,⟨b,h⟩|⟨b,h1,h2⟩⟩:=h
 ·refine .inl ⟨b,?_⟩;rcases h with⟨_,⟨n,h⟩,rfl⟩|⟨_,h⟩
  ·refine TB.mono (Tp d e h) ?_;rintro k f ⟨j,h⟩;injection h with h;injection h with h
   exact⟨h,j⟩
  ·refine TB.mono (jO d e h) ?_;intro k f h;injection h with h;injection h with h g
   exact⟨h,g⟩
 ·exact .inr ⟨b,h1,h2⟩
def A6a(w:XE.Ok D E P)(C:RSound D E P R){id:Nat}(hD:yD ops (F9 (J3 E cf.fz) 0 ops)=true)(A:A0L E (J3 E cf.fz) (Tv ops) (F9 (J3 E cf.fz) 0 ops) 0 ops=true)(h:zdr E R cf.fz cf.n ops ops t H K=some r):
 To P E.G ro m cf.n (.region id ops.toArray true) (λe t' x=>e=.normal/\K t' x=some r) t H:=by
 obtain⟨vs,hs,t',x,X,hK⟩:=A69 ops t H K h;obtain⟨h0,V,B,q⟩:=X.at;have hk:=rZ hD;have hr:=A9m ops 0 A;have e0:H=(λk=>hs.getD k []) 0:=h0.symm;rw[e0];refine A23 (efs:=F9 (J3 E cf.fz) 0 ops) (val:=λj=>vs.getD j .dk) (Hs:=λk=>hs.getD k []) w.mix hk (λo c=>?_) ?_ ?_ ?_
 ·obtain⟨i,L⟩:=List.getElem?_of_mem c;exact(q i o L).1
 ·intro i o c Q k ae hp;have he:J3 E cf.fz o=false:=by
   cases he:J3 E cf.fz o
   ·rfl
   ·exact absurd (B1V ops 0 i o c he) (by rw[Jt];exact Q _)
  have g:=q i o c;have F:Vv (J3 E cf.fz) ops (i+1)=Vv (J3 E cf.fz) ops i:=by rw[YH c,he];simp
  rw[F]at g;rcases hr i o c he with hf|d
  ·refine Stp.aopg (fz:=cf.fz) w C ?_;obtain⟨Z,⟨J,h⟩|⟨J,h1,h2⟩⟩:=g
   ·rcases h with⟨_,⟨H0,h⟩,_⟩|⟨h,_⟩
    ·exact⟨Z,.inl ⟨J,.inl ⟨he,⟨H0,by rw[A1l hf _ (hs.getD (Vv (J3 E cf.fz) ops i) [])];exact h⟩,rfl⟩⟩⟩
    ·rw[he]at h;cases h
   ·exact⟨Z,.inr ⟨J,h1,rfl⟩⟩
  ·have s:=R_ (ef:=J3 E cf.fz) ops 0;have ac:i<ops.length:=(yO.1 c).1;have M:k=Vv (J3 E cf.fz) ops i:=by
    rcases Nat.lt_trichotomy k (Vv (J3 E cf.fz) ops i) with O|heq|aa
    ·exfalso;have b:k<(F9 (J3 E cf.fz) 0 ops).length:=by rw[s];exact l2s O (uR ops (by omega))
     obtain⟨j,p,h1,h2,u,y⟩:=S' ops 0 k _ (K8 b);have ad:j<i:=by
      rcases Nat.lt_or_ge j i with h|h
      ·exact h
      ·exfalso;have:=uR (ef:=J3 E cf.fz) ops h;omega
     have:=(d _ (PD b)).1 (by omega);rw[Jt,xX]at this;have:=hp.1 k _ (K8 b) (P0 this);omega
    ·exact heq
    ·exfalso;have f:Vv (J3 E cf.fz) ops i<(F9 (J3 E cf.fz) 0 ops).length:=by omega
     obtain⟨j,p,h1,h2,u,y⟩:=S' ops 0 _ _ (K8 f);have ab:i<=j:=by
      rcases Nat.lt_or_ge j i with h|h
      ·exfalso;have Y:=uR (ef:=J3 E cf.fz) ops (show j+1<=i from h);rw[YH h2,u]at Y;simp at Y;omega
      ·exact h
     have:=(d _ (PD f)).2 (by omega);rw[Jt,xX]at this;have:=hp.2 _ _ (K8 f) (P0 this);omega
   rw[M];exact Stp.aopg (fz:=cf.fz) w C g
 ·intro a i o c L;obtain⟨j,p,h1,h2,u,y⟩:=S' ops 0 a i L;rw[Jt]at h1;subst h1;rw[c]at h2;injection h2 with h2;subst h2
  have:=q i o c;rw[YH c,u,y]at this;exact Stp.aopg (fz:=cf.fz) w C this
 ·refine⟨rfl,?_⟩;rw[<-V];have:hs.getD (F9 (J3 E cf.fz) 0 ops).length []=x:=by rw[R_];exact B.symm
  rw[this];exact hK
def A2A{all:List Oper}:∀(l:List Oper)(t:Tm)(H:Hp)(K:List Tm->Is->List Hp->Tm->Ru),qQ E R fz N all l t H K=some r->
 ∃ts vs hs c b,Trc (Stp E R fz N all) (J3 E fz) l t H vs hs c b/\K ts vs hs c b=some r/\vs.length=l.length/\∀(i:Nat)(o:Oper),l[i]?=some o->ts[i]?=some (IK all o (II l (λj=>vs.getD j .dk) t (λ_=>true) i)):=by
 intro l
 induction l with
 |nil=>intro t H K h;exact⟨_,_,_,_,_,.nil,h,rfl,λi o h=>by simp at h⟩
 |cons o l ih=>
  intro t H K h;have h:A1Y N o.dst (ZG (Ol all o) t λx=>A79 o.guard
   (@Bool.rec (λ_=>Af) (A08 E R x H o.op λv=>Q7 t o.dst v λc=>qQ E R fz N all l c H λts vs hs=>K (x::ts) (v::vs) hs) (D5 (zop E R fz x H o.op λv b=>some (v,b)) λv b=>Q7 t o.dst v λc=>qQ E R fz N all l c b λts vs hs=>K (x::ts) (v::vs) (H::hs)) (Qn E fz o.op))
   (D5 (A66 E R fz all o x H) λv b=>Q7 t o.dst v λc=>qQ E R fz N all l c b λts vs hs=>K (x::ts) (v::vs) (@Bool.rec (λ_=>List Hp) hs (H::hs) (Qn E fz o.op))))=some r:=h
  obtain⟨w,h⟩:=mH h;rw[A0b]at h;have F:gR (Ol all o) t=IK all o t:=rfl;rw[F]at h;have key:∀(v:AV)(ts:List Tm)(vs:Is),(∀(i:Nat)(p:Oper),l[i]?=some p->ts[i]?=some (IK all p (II l (λj=>vs.getD j .dk) (RF t o.dst v) (λ_=>true) i)))->
   ∀(i:Nat)(p:Oper),(o::l)[i]?=some p->(IK all o t::ts)[i]?=some (IK all p (II (o::l) (λj=>(v::vs).getD j .dk) t (λ_=>true) i)):=by
   intro v ts vs M i p C;cases i with
   |zero=>simp at C;subst C;rfl
   |succ i=>
    rw[jV];have:=M i p (by simpa using C);simpa using this
  cases u:o.guard with
  |none=>
   have q:GY all (IK all o t) o=.run:=by unfold GY;rw[u]
   rw[u]at h;have h:@Bool.rec (λ_=>Af) (A08 E R (IK all o t) H o.op λv=>Q7 t o.dst v λc=>qQ E R fz N all l c H λts vs hs=>K (IK all o t::ts) (v::vs) hs) (D5 (zop E R fz (IK all o t) H o.op λv b=>some (v,b)) λv b=>Q7 t o.dst v λc=>qQ E R fz N all l c b λts vs hs=>K (IK all o t::ts) (v::vs) (H::hs)) (Qn E fz o.op)=some r:=h;cases he:Qn E fz o.op
   ·rw[he]at h;obtain⟨v,L,y,f⟩:=xN h;rw[Ts]at f;obtain⟨ts,vs,hs,c,b,g,e,k,n⟩:=ih _ _ _ f;exact⟨_,_,_,_,_,.rd he ⟨w,.inl ⟨.inl q,.inl ⟨he,⟨_,y⟩,rfl⟩⟩⟩ g,e,by simp[k],key v ts vs n⟩
   ·rw[he]at h;obtain⟨v,J,y,f⟩:=Vp h;rw[Ts]at f;obtain⟨ts,vs,hs,c,b,g,e,k,n⟩:=ih _ _ _ f;exact⟨_,_,_,_,_,.ef he ⟨w,.inl ⟨.inl q,.inr ⟨he,y⟩⟩⟩ g,e,by simp[k],key v ts vs n⟩
  |some Q=>
   rw[u]at h;have h:(D5 (A66 E R fz all o (IK all o t) H) λv b=>Q7 t o.dst v λc=>qQ E R fz N all l c b λts vs hs=>K (IK all o t::ts) (v::vs) (@Bool.rec (λ_=>List Hp) hs (H::hs) (Qn E fz o.op)))=some r:=h;obtain⟨v,J,y,f⟩:=Vp h;rw[Ts]at f;obtain⟨ts,vs,hs,c,b,g,e,k,n⟩:=ih _ _ _ f;rcases hC y with⟨h1,h2⟩|⟨h1,h2⟩
   ·cases he:Qn E fz o.op
    ·rw[he]at h1 e;obtain⟨O,L,B,d⟩:=Rz h1;injection d with d;injection d with d A
     subst d A;exact⟨_,_,_,_,_,.rd he ⟨w,.inl ⟨h2,.inl ⟨he,⟨_,B⟩,rfl⟩⟩⟩ g,e,by simp[k],key O ts vs n⟩
    ·rw[he]at h1 e;exact⟨_,_,_,_,_,.ef he ⟨w,.inl ⟨h2,.inr ⟨he,h1⟩⟩⟩ g,e,by simp[k],key v ts vs n⟩
   ·have h1:some (AV.v undef,H)=some (v,J):=h1;injection h1 with h1;injection h1 with B d
    subst B d;cases he:J3 E fz o
    ·have s:Qn E fz o.op=false:=he;rw[s]at e;exact⟨_,_,_,_,_,.rd he ⟨w,.inr ⟨h2,rfl,rfl⟩⟩ g,e,by simp[k],key _ ts vs n⟩
    ·have s:Qn E fz o.op=true:=he;rw[s]at e;exact⟨_,_,_,_,_,.ef he ⟨w,.inr ⟨h2,rfl,rfl⟩⟩ g,e,by simp[k],key _ ts vs n⟩
def YV:∀{l:List α}{n:Nat}{K:α->Af},wK l n K=some r->∃a,l[n]?=some a/\K a=some r:=by
 intro l
 induction l with
 |nil=>intro n K h;cases h
 |cons a l ih=>
  intro n K h;cases n with
  |zero=>exact⟨a,rfl,h⟩
  |succ n=>
   obtain⟨b,h1,h2⟩:=ih (show wK l n K=some r from h);exact⟨b,by simpa using h1,h2⟩
def A6c{all:List Oper}{ts:List Tm}{vs:Is}{K:Af}:∀{bs:List (Nat×Nat)},A6d E R all bs ts vs hs K=some r->
 K=some r/\∀p∈bs,∃o b v e,all[p.1]?=some o/\ts[p.1]?=some b/\vs[p.1]?=some v/\hs[p.2]?=some e/\(((GY all b o=.run\/GY all b o=.dep true)/\∃f,R6 E R b e o.op (λu=>some (u,[]))=some (v,f))\/(GY all b o=.skip\/GY all b o=.dep false)):=by
 intro bs
 induction bs with
 |nil=>intro h;exact⟨h,λp d=>by simp at d⟩
 |cons p bs ih=>
  intro h;obtain⟨i,k⟩:=p;have h:(wK all i λo=>wK ts i λb=>wK vs i λv=>wK hs k λH=>Ra (gdK all b o.guard λg=>@Bool.rec (λ_=>Af) (some (.v (.bool true),[])) (Bc (R6 E R b H o.op λu=>some (u,[])) v) g) (A6d E R all bs ts vs hs K))=some r:=h;obtain⟨o,h1,h⟩:=YV h;obtain⟨b,h2,h⟩:=YV h;obtain⟨v,n,h⟩:=YV h;obtain⟨e,q,h⟩:=YV h;obtain⟨⟨f,s⟩,w⟩:=B0a h;obtain⟨x,y⟩:=ih w;refine⟨x,λp d=>?_⟩;simp only[Tz]at d;rcases d with rfl|d
  ·refine⟨o,b,v,e,h1,h2,n,q,?_⟩;rcases hC s with⟨j,c⟩|⟨j,c⟩
   ·exact .inl ⟨c,rY j⟩
   ·exact .inr c
  ·exact y p d
def B44{i k:Nat}(g:C1T ops efs i k):∀(l:Hb)(a:Nat),(∀b,l[b]?=efs[a+b]?)->A6N (Tv ops) i k a l=true:=by
 intro l
 induction l with
 |nil=>intro a _;rfl
 |cons e l ih=>
  intro a f;have d:efs[a]?=some e:=by have:=f 0;simpa using this.symm
  simp only[A6N,K0,l1i,Z?];refine⟨?_,?_,ih (a+1) λb=>?_⟩
  ·cases c:tb ((Tv ops).getD i 0) e
   ·exact .inl rfl
   ·refine .inr ?_;rw[xX]at c;rw[Wr];exact g.1 a e d (P0 c)
  ·cases c:tb ((Tv ops).getD e 0) i
   ·exact .inl rfl
   ·refine .inr ?_;rw[xX]at c;rw[jJ];exact g.2 a e d (P0 c)
  ·have:=f (b+1);rw[l0r]at this;rw[this];congr 1;omega
def A6D:∀(l:List Oper)(n c:Nat),A6E E ef ms efs bs n c l=true->∀(j:Nat)(o:Oper),l[j]?=some o->ef o=false->QU E o.op=true\/∀k,k<=efs.length->A6N ms (n+j) k 0 efs=true->k=c+Vv ef l j\/(n+j,k)∈bs:=by
 intro l
 induction l with
 |nil=>intro n c _ j o h;simp at h
 |cons p l ih=>
  intro n c h j o f he;simp only[A6E,K0]at h;cases j with
  |zero=>
   simp at f;subst f;have h1:=h.1;rw[he,Bool.false_or,l1i]at h1;rcases h1 with h1|h1
   ·exact .inl h1
   ·refine .inr λk s e=>?_;have h2:=GE.1 h1 k (KE.2 (by omega));rw[Nat.add_zero]at e;rw[e]at h2;simp only[l1i,Bool.not_true,yM,false_or,K0,List.any_eq_true]at h2;rcases h2 with h2|⟨q,hq,b,d⟩
    ·exact .inl (by rw[Yo h2];simp[Vv])
    ·refine .inr ?_;obtain⟨q1,q2⟩:=q;have b:=Yo b;have d:=Yo d;simp only at b d;subst b d;exact hq
  |succ j=>
   have:=ih (n+1) _ h.2 j o (by simpa using f) he;rw[show n+(j+1)=n+1+j from by omega];rcases this with b|b
   ·exact .inl b
   ·refine .inr λk s e=>?_;rcases b k s e with d|d
    ·refine .inl ?_;rw[d];cases g:ef p<;>simp[Vv,g]
     omega
    ·exact .inr d
def qP(w:XE.Ok D E P)(F:RSound D E P R){id:Nat}(hD:yD ops (F9 (J3 E cf.fz) 0 ops)=true)(M:A6E E (J3 E cf.fz) (Tv ops) (F9 (J3 E cf.fz) 0 ops) bs 0 0 ops=true)(h:(qQ E R cf.fz cf.n ops ops t H λts vs hs J u=>A6d E R ops bs ts vs hs (K J u))=some r):
 To P E.G ro m cf.n (.region id ops.toArray true) (λe J u=>e=.normal/\K J u=some r) t H:=by
 obtain⟨ts,vs,hs,J,u,ad,Q,af,ae⟩:=A2A ops t H _ h;obtain⟨Q,x⟩:=A6c Q;obtain⟨h0,ac,O,s⟩:=ad.at;have hk:=rZ hD;have hr:=A6D ops 0 0 M;have e0:H=(λk=>hs.getD k []) 0:=h0.symm;rw[e0];refine A23 (efs:=F9 (J3 E cf.fz) 0 ops) (val:=λj=>vs.getD j .dk) (Hs:=λk=>hs.getD k []) w.mix hk (λo c=>?_) ?_ ?_ ?_
 ·obtain⟨i,Y⟩:=List.getElem?_of_mem c;exact(s i o Y).1
 ·intro i o c ab k aa hp;have he:J3 E cf.fz o=false:=by
   cases he:J3 E cf.fz o
   ·rfl
   ·exact absurd (B1V ops 0 i o c he) (by rw[Jt];exact ab _)
  have g:=s i o c;have V:Vv (J3 E cf.fz) ops (i+1)=Vv (J3 E cf.fz) ops i:=by rw[YH c,he];simp
  rw[V]at g;rcases hr i o c he with hf|A
  ·refine Stp.aopg (fz:=cf.fz) w F ?_;obtain⟨y,⟨d,h⟩|⟨d,h1,h2⟩⟩:=g
   ·rcases h with⟨_,⟨L,h⟩,_⟩|⟨h,_⟩
    ·exact⟨y,.inl ⟨d,.inl ⟨he,⟨L,by rw[A1l hf _ (hs.getD (Vv (J3 E cf.fz) ops i) [])];exact h⟩,rfl⟩⟩⟩
    ·rw[he]at h;cases h
   ·exact⟨y,.inr ⟨d,h1,rfl⟩⟩
  ·rcases A k aa (by rw[Jt];exact B44 hp _ 0 (λb=>by rw[Jt])) with Z|q
   ·rw[Z,Jt];exact Stp.aopg (fz:=cf.fz) w F g
   ·rw[Jt]at q;obtain⟨o',t1,v,Hk,h1,h2,B,C,f⟩:=x _ q;simp only at h1 h2 B C;rw[c]at h1;injection h1 with h1;subst h1
    rw[ae i o c]at h2;injection h2 with h2;subst h2
    have hv:vs.getD i .dk=v:=by rw[Vf,B];rfl
    have X:hs.getD k []=Hk:=by rw[Vf,C];rfl
    refine Stp.aopg (fz:=cf.fz) w F ?_;obtain⟨y,⟨d,h⟩|⟨d,h1,h2⟩⟩:=g
    ·rcases f with⟨_,L,f⟩|f
     ·refine⟨y,.inl ⟨d,.inl ⟨he,⟨L,?_⟩,rfl⟩⟩⟩;rw[hv,X];exact f
     ·exfalso;rcases d with d|d<;>rcases f with f|f<;>(rw[d]at f;cases f)
    ·exact⟨y,.inr ⟨d,h1,rfl⟩⟩
 ·intro a i o c Y;obtain⟨j,p,h1,h2,B,C⟩:=S' ops 0 a i Y;rw[Jt]at h1;subst h1;rw[c]at h2;injection h2 with h2;subst h2
  have:=s i o c;rw[YH c,B,C]at this;exact Stp.aopg (fz:=cf.fz) w F this
 ·refine⟨rfl,?_⟩;rw[<-ac];have:hs.getD (F9 (J3 E cf.fz) 0 ops).length []=u:=by rw[R_];exact O.symm
  rw[this];exact Q
def A2z(g:XE.Ok D E P)(j:RSound D E P R){id:Nat}(b:sA E cf id ops=true)(h:C0R E R cf id ops t H K=some r):
 To P E.G ro m cf.n (.region id ops.toArray true) (λe f d=>e=.normal/\K f d=some r) t H:=by
 unfold sA at b;rw[K0]at b;have h:(match A9n id cf.rc with
  |none=>zdr E R cf.fz cf.n ops ops t H K
  |some bs=>qQ E R cf.fz cf.n ops ops t H λts vs hs f d=>A6d E R ops bs ts vs hs (K f d))=some r:=h
 cases c:A9n id cf.rc with
 |none=>rw[c]at b h;exact A6a g j b.1 b.2 h
 |some bs=>rw[c]at b h;exact qP g j b.1 b.2 h
def A0d(f:∀E cf id ops,D E cf id ops=true->sA E cf id ops=true)(d:XE.Ok D E P)(e:RSound D E P R):A4C D E P (A4J E R):=by
 intro ro cf id ops t H K r m hb h;unfold A4J at h;cases c:cf.b
 ·rw[c]at h;exact A2z d e (f _ _ _ _ (hb c)) h
 ·rw[c]at h;unfold C0Q at h;obtain⟨h1,h2⟩:=LG h;rw[K0]at h1;exact qP d e h1.1 h1.2 h2
end
end
def jn{α:Type}(k:α)(F:α->Af):Af:=(λ(_:Unit)=>F k) Iv
def nQ(R:Rt)(n:Nat)(f:AV)(t:Tm)(ps:Array Tmp)(d e:Code)(H:Hp)(K:Option (Option Code)->Ru):Af:=
 match f with
 |.fn (.func g) first cap=>Ik H λs=>Yy first (.yl s::cap) λall=>R.call g all ((s,.loop n t ps d e (some none))::H) λ_ b=>I6 b s λx=>ZJ x λ_ _ _ _ _ a=>Ll b s .gone λc=>K a c
 |_=>none
def mW(p:Option (Option Code))(x y:Af)(e g:Nat->Af):Af:=
 match p with
 |some none=>x
 |some (some .ret)=>y
 |some (some (.exit id))=>e id
 |some (some (.goto l))=>g l
 |_=>none
def rdK(run:X!)(N:Nat)(t:Tm)(ps:Array Tmp)(args:Is)(f g:Code)(H:Hp)(P:Hp->Ru->Af)(Q:Exit->Ru):Af:=
 A2Y t ps.toList args λa=>run ⟨true,a.map (·.1),false,N,[]⟩ f a H λe h b=>match e with
  |.normal=>P b λc=>run ⟨true,a.map (·.1),false,N,[]⟩ g h c λe _ d=>Q e d
  |_=>none
def A0I:Code->List (Operand×Array Tmp×Code×Code)
 |.seq x y=>A0I x++A0I y
 |.cond _ x y=>A0I x++A0I y
 |.block _ x=>A0I x
 |.loop x=>A0I x
 |.scope x=>A0I x
 |.rangeFunc g ps a b=>[(g,ps,a,b)]
 |_=>[]
def WY(c:Code)(k:Nat):Operand×Array Tmp×Code×Code:=(A0I c).getD k (.func 0,#[],.skip,.skip)
abbrev zI:AV:=.v (.int .i64 0)
abbrev zS:AV:=.v (.string ⟨⟨[]⟩⟩)
abbrev zL:AV:=.v (.slice none 0 0)
abbrev zB:AV:=.v (.bool false)
section
variable{s u:Ha}
abbrev I(n:Int):AV:=.v (.int .i64 n)
abbrev Bo(b:Bool):AV:=.v (.bool b)
abbrev S(l:Ha):AV:=.v (.string ⟨⟨l⟩⟩)
section
variable{K:K2}{i j:TI}{k:IntKind}{a b:Int}
def Do:Ap i .add (.v (.int k a)) (.v (.int k b)) K=K (.v (.int k (k.wrap (a+b)))):=by
 have:Ap i .add (.v (.int k a)) (.v (.int k b)) K=ck (decide (k=k)) (Oo k (a+b) λz=>K (.v (.int k z))):=rfl;rw[this,Hj rfl];exact IQ _ _ _
def KB:Ap i .sub (.v (.int k a)) (.v (.int k b)) K=K (.v (.int k (k.wrap (a-b)))):=by
 have:Ap i .sub (.v (.int k a)) (.v (.int k b)) K=ck (decide (k=k)) (Oo k (a-b) λz=>K (.v (.int k z))):=rfl;rw[this,Hj rfl];exact IQ _ _ _
def Qv:Ap i .mul (.v (.int k a)) (.v (.int k b)) K=K (.v (.int k (k.wrap (a*b)))):=by
 have:Ap i .mul (.v (.int k a)) (.v (.int k b)) K=ck (decide (k=k)) (Oo k (a*b) λz=>K (.v (.int k z))):=rfl;rw[this,Hj rfl];exact IQ _ _ _
def A1V(h:b≠0):Ap i .quo (.v (.int k a)) (.v (.int k b)) K=K (.v (.int k (k.wrap (a.tdiv b)))):=by
 have:Ap i .quo (.v (.int k a)) (.v (.int k b)) K=ck (decide (k=k)) (ck (!ieq b 0) (Oo k (a.tdiv b) λz=>K (.v (.int k z)))):=rfl;rw[this,Hj rfl,QI,HX h];exact IQ _ _ _
def Qu(h:b≠0):Ap i .rem (.v (.int k a)) (.v (.int k b)) K=K (.v (.int k (a.tmod b))):=by
 have:Ap i .rem (.v (.int k a)) (.v (.int k b)) K=ck (decide (k=k)) (ck (!ieq b 0) (fI (a.tmod b) λz=>K (.v (.int k z)))):=rfl;rw[this,Hj rfl,QI,HX h];exact Vl (a.tmod b) (λz=>K (.v (.int k z)))
def DO:Ap i .lss (.v (.int k a)) (.v (.int k b)) K=K (Bo (decide (a<b))):=by
 have:Ap i .lss (.v (.int k a)) (.v (.int k b)) K=ck (decide (k=k)) (bB (!pG b a) K):=rfl;rw[this,Hj rfl,L1];have e:(!decide (b<=a))=decide (a<b):=by rw[tS];simp
 rw[e];exact OH _ _
def iR:Ap i .leq (.v (.int k a)) (.v (.int k b)) K=K (Bo (decide (a<=b))):=by
 have:Ap i .leq (.v (.int k a)) (.v (.int k b)) K=ck (decide (k=k)) (bB (pG a b) K):=rfl;rw[this,Hj rfl,L1];exact OH _ _
def Eo:Ap i .gtr (.v (.int k a)) (.v (.int k b)) K=K (Bo (decide (b<a))):=by
 have:Ap i .gtr (.v (.int k a)) (.v (.int k b)) K=ck (decide (k=k)) (bB (!pG a b) K):=rfl;rw[this,Hj rfl,L1];have e:(!decide (a<=b))=decide (b<a):=by rw[tS];simp
 rw[e];exact OH _ _
def KC:Ap i .geq (.v (.int k a)) (.v (.int k b)) K=K (Bo (decide (b<=a))):=by
 have:Ap i .geq (.v (.int k a)) (.v (.int k b)) K=ck (decide (k=k)) (bB (pG b a) K):=rfl;rw[this,Hj rfl,L1];exact OH _ _
def CQ:Ap i .eql (.v (.int k a)) (.v (.int k b)) K=K (Bo (decide (a=b))):=by
 have:Ap i .eql (.v (.int k a)) (.v (.int k b)) K=ck (decide (k=k)) (bB (ieq a b) K):=rfl;rw[this,Hj rfl,QI];exact OH _ _
def IS:Ap i .neq (.v (.int k a)) (.v (.int k b)) K=K (Bo (!decide (a=b))):=by
 have:Ap i .neq (.v (.int k a)) (.v (.int k b)) K=ck (decide (k=k)) (bB (!ieq a b) K):=rfl;rw[this,Hj rfl,QI];exact OH _ _
def Mb:Ap i .eql (S s) (S u) K=K (Bo (decide (s=u))):=by
 have:Ap i .eql (S s) (S u) K=bB (eqB s u) K:=rfl;rw[this,QK,OH,show(s==u)=decide (s=u) from by by_cases h:s=u<;>simp[h]]
def Zj:Ap i .neq (S s) (S u) K=K (Bo (!decide (s=u))):=by
 have:Ap i .neq (S s) (S u) K=bB (!eqB s u) K:=rfl;rw[this,QK,OH,show(s==u)=decide (s=u) from by by_cases h:s=u<;>simp[h]]
def FA{q:Bool}{x y:Af}:A2 (Bo q) x y=if q=true then x else y:=by cases q<;>rfl
end
def BJ{α:Type}(k:α)(F:α->Af):jn k F=F k:=rfl
def CV{x:Int}(h1: -9223372036854775808<=x)(h2:x<9223372036854775808):IntKind.i64.wrap x=x:=by
 simp only[IntKind.wrap,IntKind.bits,IntKind.signed];have c:(2^64:Int)=18446744073709551616:=by decide
 have d:(2^(64-1):Int)=9223372036854775808:=by decide
 simp only[c,d,Z!,decide_eq_true_eq];split<;>omega
end
def A2t{E:XE}{g:Nat}{R:Rt}{args:Is}{H:Hp}{K:K2}(h:∀s,args≠[.ptr s 0 0]):zpm E g R args H K=Ao R g args H K:=by
 show @Bool.rec (λ_=>Af) (Ao R g args H K) (J4 R g args H K) (E.lm g)=_;cases E.lm g
 ·rfl
 ·show J4 R g args H K=_;unfold J4;split
  ·rename_i s;exact absurd rfl (h s)
  ·rfl
section
variable{v:AV}{b q q':Bool}{H:Hp}{args:Is}{D n:Nat}{P:Program}{R:Rt}{F:Rt->AV->AV->AV->AV->Hp->KV->Af}{α:Type}{x:Value}
def BT.All(p:Nat->α->Prop):BT α->Prop
 |.leaf=>True
 |.node k v l r=>p k v/\l.All p/\r.All p
def W?{p:Nat->α->Prop}:(BT.leaf:BT α).All p:=trivial
def W!{p:Nat->α->Prop}{k:Nat}{v:α}{l r:BT α}(h:p k v)(a:l.All p)(hr:r.All p):(BT.node k v l r).All p:=⟨h,a,hr⟩
theorem BT.All.get{p:Nat->α->Prop}:∀{b:BT α},b.All p->∀{i:Nat}{v:α},b.get i=some v->p i v:=by
 intro b
 induction b with
 |leaf=>intro _ i v h;cases h
 |node k w l r a c=>
  intro e i v h;obtain⟨h1,h2,d⟩:=e;simp only[BT.get]at h;split at h
  ·rename_i g;injection h with h
   subst h;rw[Yo g];exact h1
  ·split at h
   ·exact a h2 h
   ·exact c d h
abbrev NF:=Rt->Is->Hp->KV->Af
def ar0(F:Hp->KV->Af)(l:Is):Hp->KV->Af:=match l with|[]=>F|_=>λ_ _=>none
def ar1(F:AV->Hp->KV->Af)(l:Is):Hp->KV->Af:=match l with|[a]=>F a|_=>λ_ _=>none
def ar2(F:AV->AV->Hp->KV->Af)(l:Is):Hp->KV->Af:=match l with|[a,b]=>F a b|_=>λ_ _=>none
def ar3(F:AV->AV->AV->Hp->KV->Af)(l:Is):Hp->KV->Af:=match l with|[a,b,c]=>F a b c|_=>λ_ _=>none
def ar4(F:AV->AV->AV->AV->Hp->KV->Af)(l:Is):Hp->KV->Af:=match l with|[a,b,c,d]=>F a b c d|_=>λ_ _=>none
def ar5(F:AV->AV->AV->AV->AV->Hp->KV->Af)(l:Is):Hp->KV->Af:=match l with|[a,b,c,d,e]=>F a b c d e|_=>λ_ _=>none
def OK(E:XE)(R:Rt):X! :=λa c t H K=>eN E R (A4J E R) a c t H K
def Lk(E:XE)(f:Nat)(F:NF):Prop:=∀(R:Rt)(args:Is)(H:Hp)(K:KV)(r:AV×Hp),F R args H K=some r->zfn E (OK E R) f args H K=some r
def lk0{E:XE}{f:Nat}{F:Rt->Hp->KV->Af}(h:∀R H K,zfn E (OK E R) f [] H K=F R H K):Lk E f λR=>ar0 (F R):=λR args H K r hr=>by
 match args,hr with
 |[],hr=>exact(h R H K).trans hr
def lk1{E:XE}{f:Nat}{F:Rt->AV->Hp->KV->Af}(h:∀R a H K,zfn E (OK E R) f [a] H K=F R a H K):Lk E f λR=>ar1 (F R):=λR args H K r hr=>by
 match args,hr with
 |[a],hr=>exact(h R a H K).trans hr
def lk2{E:XE}{f:Nat}{F:Rt->AV->AV->Hp->KV->Af}(h:∀R a b H K,zfn E (OK E R) f [a,b] H K=F R a b H K):Lk E f λR=>ar2 (F R):=λR args H K r hr=>by
 match args,hr with
 |[a,b],hr=>exact(h R a b H K).trans hr
def lk3{E:XE}{f:Nat}{F:Rt->AV->AV->AV->Hp->KV->Af}(h:∀R a b c H K,zfn E (OK E R) f [a,b,c] H K=F R a b c H K):Lk E f λR=>ar3 (F R):=λR args H K r hr=>by
 match args,hr with
 |[a,b,c],hr=>exact(h R a b c H K).trans hr
def lk4{E:XE}{f:Nat}(h:∀R a b c d H K,zfn E (OK E R) f [a,b,c,d] H K=F R a b c d H K):Lk E f λR=>ar4 (F R):=λR args H K r hr=>by
 match args,hr with
 |[a,b,c,d],hr=>exact(h R a b c d H K).trans hr
def lk5{E:XE}{f:Nat}{F:Rt->AV->AV->AV->AV->AV->Hp->KV->Af}(h:∀R a b c d e H K,zfn E (OK E R) f [a,b,c,d,e] H K=F R a b c d e H K):Lk E f λR=>ar5 (F R):=λR args H K r hr=>by
 match args,hr with
 |[a,b,c,d,e],hr=>exact(h R a b c d e H K).trans hr
def YI(E:XE)(nT:BT NF)(R:Rt):B28:=λf args H K=>match nT.get f with|some F=>F R args H K|none=>zfn E (OK E R) f args H K
abbrev OF:=Is->Hp->KV->Af->Af
def zZ(E:XE)(P:Program)(f:Nat)(F:OF):Prop:=∀(args:Is)(H:Hp)(K:KV)(alt:Af)(r:AV×Hp),F args H K alt=some r->
 alt=some r\/(ZF P f/\QP P E.G f args H (λc a=>K c a=some r))
def A20(E:XE)(nT:BT NF)(oT:BT OF)(R:Rt):B28:=λf args H K=>match oT.get f with
 |some F=>F args H K (YI E nT R f args H K)
 |none=>YI E nT R f args H K
def Wm(E:XE)(nT:BT NF)(oT:BT OF)(n:Nat):Rt:=@Nat.rec (λ_=>Rt) ⟨λ_ _ _ _=>none,λ_ _ _ _ _=>none⟩ (λ_ R=>⟨A20 E nT oT R,OK E R⟩) n
section
variable{E:XE}{nT:BT NF}{oT:BT OF}{f:Nat}
def Ve{F:NF}(h:nT.get f=some F)(a:oT.get f=none)(n:Nat)(args:Is)(H:Hp)(K:KV):(Wm E nT oT (n+1)).call f args H K=F (Wm E nT oT n) args H K:=by
 show A20 E nT oT (Wm E nT oT n) f args H K=_;unfold A20;rw[a];unfold YI;simp only[h]
def A3A{F:Rt->Hp->KV->Af}(h:nT.get f=some λR=>ar0 (F R))(a:oT.get f=none)(n:Nat)(H:Hp)(K:KV):(Wm E nT oT (n+1)).call f [] H K=F (Wm E nT oT n) H K:=Ve h a n _ H K
def A3z{F:Rt->AV->Hp->KV->Af}(h:nT.get f=some λR=>ar1 (F R))(c:oT.get f=none)(n:Nat)(a:AV)(H:Hp)(K:KV):(Wm E nT oT (n+1)).call f [a] H K=F (Wm E nT oT n) a H K:=Ve h c n _ H K
def A3y{F:Rt->AV->AV->Hp->KV->Af}(h:nT.get f=some λR=>ar2 (F R))(c:oT.get f=none)(n:Nat)(a b:AV)(H:Hp)(K:KV):(Wm E nT oT (n+1)).call f [a,b] H K=F (Wm E nT oT n) a b H K:=Ve h c n _ H K
def A3x{F:Rt->AV->AV->AV->Hp->KV->Af}(h:nT.get f=some λR=>ar3 (F R))(d:oT.get f=none)(n:Nat)(a b c:AV)(H:Hp)(K:KV):(Wm E nT oT (n+1)).call f [a,b,c] H K=F (Wm E nT oT n) a b c H K:=Ve h d n _ H K
def A3w(h:nT.get f=some λR=>ar4 (F R))(e:oT.get f=none)(n:Nat)(a b c d:AV)(H:Hp)(K:KV):(Wm E nT oT (n+1)).call f [a,b,c,d] H K=F (Wm E nT oT n) a b c d H K:=Ve h e n _ H K
end
def A3v{E:XE}{nT:BT NF}{oT:BT OF}(e:XE.Ok sA E P)(s:nT.All (Lk E))(p:oT.All (zZ E P)):∀n,RSound sA E P (Wm E nT oT n):=by
 intro n
 induction n with
 |zero=>
  refine⟨?_,?_⟩
  ·intro ro k c t H K r m h1 h2 h;cases h
  ·intro f args H K r h;cases h
 |succ n ih=>
  have u:A4C sA E P (A4J E (Wm E nT oT n)):=A0d (λ_ _ _ _ h=>h) e ih;have a:jE sA E P (OK E (Wm E nT oT n)):=λro k c t H K r m i w h=>A0e e ih u i c t H K w h;have d:∀(f:Nat)(args:Is)(H:Hp)(K:KV)(r:AV×Hp),YI E nT (Wm E nT oT n) f args H K=some r->ZF P f/\QP P E.G f args H (λv j=>K v j=some r):=λf args H K r h=>by
   unfold YI at h;split at h
   ·rename_i F g;exact xP e a (s.get g _ _ _ _ _ h)
   ·exact xP e a h
  refine⟨a,λf args H K r h=>?_⟩;have h:A20 E nT oT (Wm E nT oT n) f args H K=some r:=h;unfold A20 at h;split at h
  ·rename_i F g;rcases p.get g _ _ _ _ _ h with h|h
   ·exact d f args H K r h
   ·exact h
  ·exact d f args H K r h
def eB{G:Gl}{f:Nat}{K:KV}{r:AV×Hp}(g:K (.v x) H=some r)(hc:∀w0 C w a,Rel G w0 C H w->CI C w args a->Calls P f a.toArray w λe c=>e=.returned x/\Below w.heap.size w c):QP P G f args H (λi d=>K i d=some r):=λw0 C w a hr h=>
 (hc w0 C w a hr h).mono λe c ⟨he,hb⟩=>⟨.v x,x,C,H,he,hr.of_below hb,.v _,(hr.ext_below hb).frm,g⟩
def PS(R:Rt)(f:Nat)(args:Is)(v:AV):Prop:=∀H K,Ao R f args H K=K v
def Fx(b:Bool)(D:Nat)(a c:AV)(H:Hp)(q:Bool):Prop:=∀K:Bool->K2,HQ b H D a K=K q c
def C7:Fx b D (.v x) (.v x) H false:=λK=>by cases D<;>rfl
def On{cs:Is}:Fx true D (.list n cs) (.list n cs) H false:=λK=>by cases D<;>rfl
def Rg{cs:Is}:Fx true D (.iptr cs) (.iptr cs) H false:=λK=>by cases D<;>rfl
def hY{es:IH}:Fx true D (.imap es) (.imap es) H false:=λK=>by cases D<;>rfl
def R5(b:Bool)(D:Nat)(l a:Is)(H:Hp)(q:Bool):Prop:=∀K:Bool->Is->Af,IE (HQ b H D) l K=K q a
def AK:R5 b D [] [] H false:=λ_=>rfl
def An{a c:AV}{l d:Is}(h:Fx b D a c H q)(k:R5 b D l d H q'):R5 b D (a::l) (c::d) H (q||q'):=λK=>by
 have e:IE (HQ b H D) (a::l) K=HQ b H D a λq c=>IE (HQ b H D) l λq' d=>K (@Bool.rec (λ_=>Bool) q' true q) (c::d):=rfl;rw[e,h,k];cases q<;>rfl
theorem KS(f:α->Value):∀(l:List α),R5 b D (l.map λx=>.v (f x)) (l.map λx=>.v (f x)) H false
 |[]=>AK
 |a::l=>An (q:=false) (q':=false) C7 (KS f l)
def L2{cs cs':Is}(h:R5 b D cs cs' H q):Fx b (D+1) (.agg cs) (.agg cs') H q:=λK=>h _
def dR{cs cs':Is}(h:R5 b D cs cs' H q):Fx b (D+1) (.tup cs) (.tup cs') H q:=λK=>h _
def AX{r:Nat}{x:Row}{K:Row->Af}(h:Aj H r=some x):I6 H r K=K x:=by
 induction H with
 |nil=>simp[Aj]at h
 |cons p H ih=>
  obtain⟨k,y⟩:=p;simp only[Aj]at h;have e:I6 ((k,y)::H) r K=@Bool.rec (λ_=>Af) (I6 H r K) (K y) (Nat.beq r k):=rfl;rw[e];by_cases a:r=k
  ·rw[Dl a]at h;rw[a,jH,<-(gI h).1]
  ·rw[C5 a]at h;have:Nat.beq r k=false:=by
    cases hb:Nat.beq r k
    ·rfl
    ·exact absurd (Yo hb) a
   rw[this];exact ih h
def Xd{sz s n:Nat}{e:TypeId}{cs cs':Is}(i:Aj H s=some (.cells q e cs))(hn:cs.length=n*sz)(h:R5 b D cs cs' H q'):Fx b (D+1) (.sl sz s 0 n) (.list n cs') H true:=λK=>by
 have d:HQ b H (D+1) (.sl sz s 0 n) K=I6 H s λx=>J6 x λ_ cs=>Ek (Nat.mul n sz) (Dg 0 cs) λc=>IE (HQ b H D) c λ_ a=>K true (.list n a):=rfl;rw[d,AX i];have g:(J6 (.cells q e cs) λ_ cs=>Ek (Nat.mul n sz) (Dg 0 cs) λc=>IE (HQ b H D) c λ_ a=>K true (.list n a))=Ek (n*sz) cs λc=>IE (HQ b H D) c λ_ a=>K true (.list n a):=rfl;rw[g,JU _ _ _ (by omega),Y? (by omega),h]
def CS(R:Rt)(f:Nat)(args:Is)(v:AV):Prop:=∀K:KV,(∀c a,(∀b,∃q,Fx b depth c v a q)->K c a=some (v,[]))->R.call f args [] K=some (v,[])
def AR{f:Nat}{args args':Is}{K:K2}(hc:CS R f args' v)(e:R5 true depth args args' H q):Ao R f args H K=K v:=by
 unfold Ao;rw[e];have:=hc (λa c=>HQ (!q) c depth a λ_ g=>some (g,[])) (λa i h=>by
  obtain⟨q',d⟩:=h (!q);exact d _)
 rw[this];rfl
def CS.ps{f:Nat}(hc:CS R f args v)(a:∀H,R5 true depth args args H false):PS R f args v:=λH K=>AR hc (a H)
end
section
variable{v zi zj:AV}{H:Hp}{k q:IntKind}{a a' b b':Nat}
abbrev W(x:BitVec 32):AV:=.v (.int .u32 (x.toNat:Int))
abbrev By(b:UInt8):AV:=.v (.int .u8 (b.toNat:Int))
def Mr(l:Ha):Is:=l.map λb=>By b
def DZ(l:List (BitVec 32)):Is:=l.map λx=>W x
def ZQ(h:k.signed=false)(z:Int):k.wrap z=z%(2^k.bits:Nat):=by
 simp only[IntKind.wrap,h,Bool.false_and];simp
def Lu(x:BitVec 32):BitVec.ofInt 32 (x.toNat:Int)=x:=by
 apply BitVec.eq_of_toNat_eq;simp
def eQ{n:Nat}(h:n<4294967296):IntKind.u32.wrap (n:Int)=(n:Int):=by
 rw[ZQ rfl];show(n:Int)%(4294967296:Nat)=n;omega
section
variable{K:K2}{i j:TI}{x y:BitVec 32}
def T!(op:BinOp)(f:IT)(d:IV op=false)(c:A48 op=f):Ap i op (W x) (W y) K=f .u32 x.toNat y.toNat K:=by
 have:Ap i op (W x) (W y) K=@Bool.rec (λ_=>Af) (ck (decide (IntKind.u32=.u32)) (A48 op .u32 x.toNat y.toNat K)) (A48 op .u32 x.toNat y.toNat K) (IV op):=rfl;rw[this,d,c];rfl
def PU:Ap i .add (W x) (W y) K=K (W (x+y)):=by
 rw[T! .add B4x rfl rfl];unfold B4x;rw[IQ,ZQ rfl];have:((x.toNat:Int)+(y.toNat:Int))%(2^IntKind.u32.bits:Nat)=((x+y).toNat:Int):=by
  rw[BitVec.toNat_add];show((x.toNat:Int)+(y.toNat:Int))%(4294967296:Nat)=_;simp only[Int.natCast_emod,Int.natCast_add]
 show K (.v (.int .u32 (((x.toNat:Int)+(y.toNat:Int))%(2^IntKind.u32.bits:Nat))))=_;rw[this]
def Vo:Ap i .xor (W x) (W y) K=K (W (x^^^y)):=by
 rw[T! .xor B4v rfl rfl];unfold B4v;rw[Vl];have e:(BitVec.ofInt IntKind.u32.bits (x.toNat:Int)^^^BitVec.ofInt IntKind.u32.bits (y.toNat:Int)).toNat=(x^^^y).toNat:=by
  show(BitVec.ofInt 32 (x.toNat:Int)^^^BitVec.ofInt 32 (y.toNat:Int)).toNat=_;rw[Lu,Lu]
 rw[e,eQ (x^^^y).isLt]
def zM:Ap i .and (W x) (W y) K=K (W (x&&&y)):=by
 rw[T! .and B4w rfl rfl];unfold B4w;rw[Vl];have e:(BitVec.ofInt IntKind.u32.bits (x.toNat:Int)&&&BitVec.ofInt IntKind.u32.bits (y.toNat:Int)).toNat=(x&&&y).toNat:=by
  show(BitVec.ofInt 32 (x.toNat:Int)&&&BitVec.ofInt 32 (y.toNat:Int)).toNat=_;rw[Lu,Lu]
 rw[e,eQ (x&&&y).isLt]
def iQ:Ap i .or (W x) (W y) K=K (W (x|||y)):=by
 rw[T! .or iOr rfl rfl];unfold iOr;rw[Vl];have e:(BitVec.ofInt IntKind.u32.bits (x.toNat:Int)|||BitVec.ofInt IntKind.u32.bits (y.toNat:Int)).toNat=(x|||y).toNat:=by
  show(BitVec.ofInt 32 (x.toNat:Int)|||BitVec.ofInt 32 (y.toNat:Int)).toNat=_;rw[Lu,Lu]
 rw[e,eQ (x|||y).isLt]
def B18:Mv .xor (W x) K=K (W (~~~x)):=by
 have c:Mv .xor (W x) K=fI (IntKind.u32.wrap ((BitVec.ofInt IntKind.u32.bits (if IntKind.u32.signed=true then-1 else IntKind.u32.max)^^^BitVec.ofInt IntKind.u32.bits (x.toNat:Int)).toNat)) λz=>K (.v (.int .u32 z)):=rfl;rw[c,Vl];have e:(BitVec.ofInt IntKind.u32.bits (if IntKind.u32.signed=true then-1 else IntKind.u32.max)^^^BitVec.ofInt IntKind.u32.bits (x.toNat:Int)).toNat=(~~~x).toNat:=by
  show(BitVec.ofInt 32 4294967295^^^BitVec.ofInt 32 (x.toNat:Int)).toNat=_;rw[Lu];have:BitVec.ofInt 32 4294967295=BitVec.allOnes 32:=by decide
  rw[this,BitVec.allOnes_xor]
 rw[e,eQ (~~~x).isLt]
def JJ{z:Int}{k:Nat}(hz:z=k)(c:k<=32):Ap i .shr (W x) (.v (.int q z)) K=K (W (x>>>k)):=by
 subst hz;have:Ap i .shr (W x) (.v (.int q (k:Int))) K=ck (pG 0 (k:Int)) (fI ((x.toNat:Int).fdiv (2^(min (k:Int).toNat 32))) λz=>K (.v (.int .u32 z))):=rfl;rw[this,Vl];have h1:pG 0 (k:Int)=true:=by rw[L1];simp
 have h2:(x.toNat:Int).fdiv (2^(min (k:Int).toNat 32))=((x>>>k).toNat:Int):=by
  rw[jI,l22 c,BitVec.toNat_ushiftRight,Nat.shiftRight_eq_div_pow];have:((2:Int)^k)=((2^k:Nat):Int):=by simp
  rw[this,Int.fdiv_eq_ediv_of_nonneg _ (Int.natCast_nonneg _)];exact(Int.natCast_ediv _ _).symm
 rw[h1,h2];rfl
def XA4{z:Int}{k:Nat}(hz:z=k)(c:k<=32):Ap i .shl (W x) (.v (.int q z)) K=K (W (x<<<k)):=by
 subst hz;have:Ap i .shl (W x) (.v (.int q (k:Int))) K=ck (pG 0 (k:Int)) (Oo .u32 ((x.toNat:Int)*2^(min (k:Int).toNat 32)) λz=>K (.v (.int .u32 z))):=rfl;rw[this,IQ,ZQ rfl];have h1:pG 0 (k:Int)=true:=by rw[L1];simp
 have h2:((x.toNat:Int)*2^(min (k:Int).toNat 32))%(2^IntKind.u32.bits:Nat)=((x<<<k).toNat:Int):=by
  rw[jI,l22 c,BitVec.toNat_shiftLeft,Nat.shiftLeft_eq];have:((2:Int)^k)=((2^k:Nat):Int):=by simp
  rw[this,<-Int.natCast_mul];exact(Int.natCast_emod _ _).symm
 rw[h1,h2];rfl
def B1s:Jc ⟨a,b,.int k,zi⟩ ⟨a',b',.int .u8,zj⟩ (W x) K=K (By (UInt8.ofNat x.toNat)):=by
 have:Jc ⟨a,b,.int k,zi⟩ ⟨a',b',.int .u8,zj⟩ (W x) K=Oo .u8 (x.toNat:Int) λz=>K (.v (.int .u8 z)):=rfl;rw[this,IQ,ZQ rfl];have:(x.toNat:Int)%(2^IntKind.u8.bits:Nat)=((UInt8.ofNat x.toNat).toNat:Int):=by
  rw[UInt8.toNat_ofNat'];exact(Int.natCast_emod _ _).symm
 rw[this]
def B1t{c:UInt8}:Jc ⟨a,b,.int k,zi⟩ ⟨a',b',.int .u32,zj⟩ (By c) K=K (W (BitVec.ofNat 32 c.toNat)):=by
 have:Jc ⟨a,b,.int k,zi⟩ ⟨a',b',.int .u32,zj⟩ (By c) K=Oo .u32 (c.toNat:Int) λz=>K (.v (.int .u32 z)):=rfl;rw[this,IQ,ZQ rfl];have:(c.toNat:Int)%(2^IntKind.u32.bits:Nat)=((BitVec.ofNat 32 c.toNat).toNat:Int):=by
  rw[BitVec.toNat_ofNat];exact(Int.natCast_emod _ _).symm
 rw[this]
def B1B:Ar (some (v,H)) K=K v:=id rfl
def A4l{c:KV}:D5 (some (v,H)) c=c v H:=id rfl
end
end
section
variable{v:AV}{H H':Hp}{e n s sz:Nat}{K:Nat->Is->Af}{P:Nat->Prop}{x y:Row}{ie:TI}
def Wf(H:Hp):Prop:=∀k∈H.map (·.1),k<As H
def B0v(H:Hp)(r:Nat)(y:Row):(upd H r y).map (·.1)=H.map (·.1):=by
 induction H with
 |nil=>rfl
 |cons p H ih=>
  obtain⟨k,x⟩:=p;by_cases a:r=k
  ·subst a;simp[upd]
  ·simp[upd,a,ih]
def Fl:Wf []:=λk h=>by simp at h
def AJ(h:Wf H):Wf ((As H,x)::H):=λk a=>by
 show k<As H+1;simp only[Xa,Tz]at a;rcases a with rfl|a
 ·omega
 ·have:=h k a;omega
def Bq{r:Nat}(h:Wf H):Wf (upd H r y):=λk a=>by rw[BB];rw[B0v]at a;exact h k a
def B0h(h:Aj H s=some x):s∈H.map (·.1):=by
 induction H with
 |nil=>simp[Aj]at h
 |cons p H ih=>
  obtain⟨k,y⟩:=p;simp only[Aj]at h;split at h
  ·rename_i a;simp[a]
  ·simp[ih h]
def Wf.lt(h:Wf H)(a:Aj H s=some x):s<As H:=h s (B0h a)
def Az(a:x≠.gone):Aj ((As H,x)::H) (As H)=some x:=by
 simp only[Aj,Dl];cases x<;>first|rfl|exact absurd rfl a
def A7(b:s<As H)(a:Aj H s=some y):Aj ((As H,x)::H) s=some y:=by
 simp only[Aj];rw[C5 (by omega)];exact a
structure Lat(H H':Hp)(P:Nat->Prop):Prop where
 wf:Wf H->Wf H'
 nx:As H<=As H'
 keep:Wf H->∀s x,Aj H s=some x->¬P s->Aj H' s=some x
def Lat.refl(H:Hp)(P:Nat->Prop):Lat H H P:=⟨id,Me _,λ_ _ _ h _=>h⟩
def Lat.trans{H H' a:Hp}{P Q R:Nat->Prop}(h:Lat H H' P)(k:Lat H' a Q)(f:∀s,s<As H->P s->R s)(hq:∀s,s<As H->Q s->R s):Lat H a R:=
 ⟨λw=>k.wf (h.wf w),ZK h.nx k.nx,λw s x b hn=>k.keep (h.wf w) s x (h.keep w s x b λc=>hn (f s (w.lt b) c)) λd=>hn (hq s (w.lt b) d)⟩
def Lat.cons(H:Hp)(x:Row)(P:Nat->Prop):Lat H ((As H,x)::H) P:=⟨AJ,l1u _,λw s y a _=>A7 (w.lt a) a⟩
theorem Lat.upd(H:Hp)(r:Nat)(y:Row)(a:P r):Lat H (upd H r y) P:=⟨Bq,by rw[BB];exact Me _,λ_ s x b hn=>by rw[Ag (λe=>hn (by rw[e];exact a))];exact b⟩
def B0(H:Hp)(e sz:Nat)(v:AV)(n:Nat)(cs:Is):Prop:=
 (v=.v (.slice none 0 0)/\n=0/\cs=[])\/∃r q,v=.sl sz r 0 n/\Aj H r=some (.cells q e cs)/\cs.length=n*sz
def A8(v:AV)(s:Nat):Prop:=∃sz o n,v=.sl sz s o n
def B0.lat{cs:Is}(h:B0 H e sz v n cs)(w:Wf H)(k:Lat H H' P)(b:∀s,A8 v s->¬P s):B0 H' e sz v n cs:=by
 rcases h with h|⟨r,q,h1,h2,a⟩
 ·exact .inl h
 ·exact .inr ⟨r,q,h1,k.keep w r _ h2 (b r ⟨sz,0,n,h1⟩),a⟩
theorem B0.lt{cs:Is}(h:B0 H e sz v n cs)(w:Wf H)(d:A8 v s):s<As H:=by
 obtain⟨a,b,c,rfl⟩:=d;rcases h with⟨h,_⟩|⟨r,q,h1,h2,f⟩
 ·cases h
 ·injection h1 with _ h1;subst h1;exact w.lt h2
def Vm{cs:Is}:SS H (.list n cs) K=K n cs:=rfl
def B9U{l:Ha}:SS H (S l) K=K l.length (Mr l):=by
 have:SS H (S l) K=G6 l 0 λm=>dU l λc=>K m c:=rfl;rw[this,Cl,Zd,Jt];rfl
def B1c:SS H (.v (.slice none 0 0)) K=K 0 []:=rfl
def Rq{cs:Is}(h:B0 H e sz v n cs):SS H v K=K n cs:=by
 rcases h with⟨rfl,rfl,rfl⟩|⟨r,q,rfl,h2,a⟩
 ·rfl
 ·have:SS H (.sl sz r 0 n) K=I6 H r λx=>J6 x λ_ cs=>Ek (Nat.mul n sz) (Dg 0 cs) λc=>K n c:=rfl;rw[this,AX h2];show Ek (n*sz) cs (λc=>K n c)=_;rw[JU _ _ _ (by omega),Y? (by omega)]
def apt{e sz n m:Nat}{ie i2:TI}{v src:AV}{cs ys:Is}(h:B0 H e sz v n cs)(Q:∀K:Nat->Is->Af,SS H src K=K m ys)(k:ys.length=m*sz)(h1:ys.all AV.one=true)(hsz:sz≠0)(hz:(Bw ie.zero).length=sz)(R:(XG i2.d&&RH sz src)=true)(hb:(n+m)*ie.bytes<=70368744177664)(j:n+m<=70368744177664):
 ∃A H',(∀K:KV,E5 e sz ie i2 v src H K=K A H')/\B0 H' e sz A (n+m) (cs++ys)/\(∀s,A8 A s->s=As H)/\Lat H H' (A8 v):=by
 have f:∀K:KV,Qw e sz ie i2 v src H K=(match(generalizing:=false) v with
  |.v (.slice none 0 0)=>ck (Nat.ble (Nat.mul m ie.bytes) 70368744177664&&Nat.ble m 70368744177664) (@Bool.rec (λ_=>Af) (Ik H λr=>K (.sl sz r 0 m) ((r,.cells false e ys)::H)) (K (.v (.slice none 0 0)) H) (Nat.beq m 0))
  |.sl t r1 o n=>I6 H r1 λx=>J6 x λE cs=>G6 cs 0 λcl=>
   ck (Nat.beq E e&&(Nat.beq t sz&&(Nat.beq (Nat.add o (Nat.mul n sz)) cl&&(Nat.ble (Nat.mul (Nat.add n m) ie.bytes) 70368744177664&&Nat.ble (Nat.add n m) 70368744177664))))
    (Yy (Dg o cs) ys λi=>Ll H r1 .gone λH'=>Ik H λr=>fN (Nat.add n m) λnm=>K (.sl sz r 0 nm) ((r,.cells false e i)::H'))
  |_=>none):=λK=>by
  unfold Qw;rw[Q,Cl,CK,Cl];have c:(Nat.beq (0+ys.length) (Nat.mul m sz)&&(N0 ys&&(!Nat.beq sz 0&&(Nat.beq (0+(Bw ie.zero).length) sz&&(XG i2.d&&RH sz src)))))=true:=by
   have p:Nat.beq sz 0=false:=by
    cases hb:Nat.beq sz 0
    ·rfl
    ·exact absurd (Yo hb) hsz
   rw[FK,h1,R,hz,k,p];simp
  rw[c];rfl
 rcases h with⟨rfl,rfl,rfl⟩|⟨r,q,rfl,h2,D⟩
 ·have c:(Nat.ble (Nat.mul m ie.bytes) 70368744177664&&Nat.ble m 70368744177664)=true:=by
   simp only[Jt]at hb j;rw[K0,jJ,jJ];exact⟨hb,j⟩
  cases m with
  |zero=>
   refine⟨.v (.slice none 0 0),H,λK=>?_,.inl ⟨rfl,rfl,by rw[l3d];exact gL (by rw[k,Nat.zero_mul])⟩,λs ⟨a,b,c,g⟩=>by(cases g),⟨λw=>w,Me _,λ_ u y V _=>V⟩⟩;show Qw e sz ie i2 (.v (.slice none 0 0)) src H K=_;rw[f K];simp only[c];rfl
  |succ m=>
   refine⟨.sl sz (As H) 0 (m+1),(As H,.cells false e ys)::H,λK=>?_,.inr ⟨As H,false,by rw[Jt],by rw[l3d];exact Az (by simp),by rw[l3d,Jt];exact k⟩,λs ⟨a,b,c,g⟩=>by injection g with _ g;exact g.symm,Lat.cons _ _ _⟩;show Qw e sz ie i2 (.v (.slice none 0 0)) src H K=_;rw[f K];have M:Nat.beq (m+1) 0=false:=rfl;simp only[c,M,BW];rfl
 ·refine⟨.sl sz (As H) 0 (n+m),(As H,.cells false e (cs++ys))::upd H r .gone,λK=>?_,.inr ⟨As H,false,rfl,?_,by rw[EC,D,k,Z']⟩,λs ⟨a,b,c,g⟩=>by injection g with _ g;exact g.symm,?_⟩
  ·have N:E5 e sz ie i2 (.sl sz r 0 n) src H K=I6 H r λx=>J6 x λE cs=>G6 cs 0 λcl=>@Bool.rec (λ_=>Af) (OW (Nat.add 0 (Nat.mul n sz)) cs λi=>Ll H r (.cells false E i) λL=>Qw e sz ie i2 (.sl sz r 0 n) src L K) (Qw e sz ie i2 (.sl sz r 0 n) src H K) (Nat.beq (Nat.add 0 (Nat.mul n sz)) cl):=rfl;rw[N,AX h2];have C:∀F:TypeId->Is->Af,J6 (.cells q e cs) F=F e cs:=λ_=>rfl;rw[C,Cl];have B:Nat.beq (Nat.add 0 (Nat.mul n sz)) (0+cs.length)=true:=by
    show Nat.beq (0+n*sz) (0+cs.length)=true;rw[D];exact jH _
   rw[B];show Qw e sz ie i2 (.sl sz r 0 n) src H K=_;rw[f K];simp only;rw[AX h2,C,Cl];have c:(Nat.beq e e&&(Nat.beq sz sz&&(Nat.beq (Nat.add 0 (Nat.mul n sz)) (0+cs.length)&&(Nat.ble (Nat.mul (Nat.add n m) ie.bytes) 70368744177664&&Nat.ble (Nat.add n m) 70368744177664))))=true:=by
    rw[B,jH,jH];simp only[Z!,K0,jJ];exact⟨hb,j⟩
   rw[c];show Yy (Dg 0 cs) ys _=_;rw[MK,Dh,BW,Dy,Cy];rfl
  ·have:=Az (H:=upd H r .gone) (x:=.cells false e (cs++ys)) (by simp);rw[BB]at this;exact this
  ·have O:Lat H (upd H r .gone) (A8 (.sl sz r 0 n)):=Lat.upd H r .gone ⟨sz,0,n,rfl⟩;have J:=Lat.cons (upd H r .gone) (.cells false e (cs++ys)) (A8 (.sl sz r 0 n));rw[BB]at J;exact O.trans J (λ_ _ h=>h) (λ_ _ h=>h)
def yU(a:AV):∀n(K:Is->Af),Yt n [a] K=K (List.replicate n a):=by
 intro n K;rw[Ys]
 congr 1
 induction n with
 |zero=>rfl
 |succ n ih=>simp[XJ,ih,l1c]
def uY{a z:AV}(hz:∀K:Is->Af,GX ie.zero K=K [z])(c:∀K:Is->Af,GX a K=K [a])(h1:AV.one a=true)(K:KV):GM e 1 ie 1 [(0,1,a)] H K=K (.sl 1 (As H) 0 1) ((As H,.cells false e [a])::H):=by
 unfold GM;rw[hz];show Yt 1 [z] (λcs=>dT [(0,1,a)] cs λb=>Ik H λs=>K (.sl 1 s 0 1) ((s,.cells false e b)::H))=_;rw[yU];show GX a (λvs=>G6 vs 0 λn=>ck (Nat.beq n 1) (ck (N0 vs) (Er 0 vs [z] λb=>Ik H λs=>K (.sl 1 s 0 1) ((s,.cells false e b)::H))))=_;rw[c];have:N0 [a]=true:=by rw[FK];simp[h1]
 show ck (N0 [a]) (Ik H λs=>K (.sl 1 s 0 1) ((s,.cells false e [a])::H))=_;rw[this,BW];rfl
def NI{cs:Is}(h:cs.length=n):B0 ((As H,.cells false e cs)::H) e 1 (.sl 1 (As H) 0 n) n cs:=.inr ⟨As H,false,rfl,Az (by simp),by omega⟩
def A5U(l:Ha):(Mr l).all AV.one=true:=by simp[Mr,AV.one,Value.oneCell']
def Qf(l:Ha):(Mr l).length=l.length:=by simp[Mr]
def U_(a b:Ha):Mr a++Mr b=Mr (a++b):=by simp[Mr]
end
end Go.Abs
end
