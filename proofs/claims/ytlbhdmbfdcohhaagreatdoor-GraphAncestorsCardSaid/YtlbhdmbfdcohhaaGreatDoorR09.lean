import Derived.Test.YtlbhdmbfdcohhaaGreatDoorR08
set_option linter.all false
set_option maxHeartbeats 100000000
noncomputable section
namespace Go.Abs
open Go.RowKit
def C1d (r:Nat) (K:AV→Hp→Prop):Exit→Tm→Hp→Prop
 | .normal,_,H=>∃N t ps aZ bd,Ax H r=some (.loop N t ps aZ bd none)∧K (.v (.bool true)) (upd H r (.loop N t ps aZ bd (some none)))
 | .ret,_,H=>∃N t ps aZ bd,Ax H r=some (.loop N t ps aZ bd none)∧K (.v (.bool false)) (upd H r (.loop N t ps aZ bd (some (some .ret))))
 | .exit id,_,H=>∃N t ps aZ bd,Ax H r=some (.loop N t ps aZ bd none)∧K (.v (.bool false)) (upd H r (.loop N t ps aZ bd (some (some (.exit id)))))
 | .goto l,_,H=>∃N t ps aZ bd,Ax H r=some (.loop N t ps aZ bd none)∧K (.v (.bool false)) (upd H r (.loop N t ps aZ bd (some (some (.goto l)))))
 |_,_,_=>False
section
variable {P:Program} {G:Gl} {ro:Option Nat} {N:Nat} {t:Tm} {H:Hp}
theorem A9g {o:Oper} {c:Call} {fv:Operand} {r:Nat} {K:AV→Hp→Prop} (hop:o.op= .call c) (hcal:c.callee= .value fv) (hf:JX G t fv= .yl r) {N':Nat} {t':Tm} {ps:Array Tmp} {aZ bd:Code} {args:List AV} (hargs:c.args.toList.map (JX G t)=args)
 (hl:Ax H r=some (.loop N' t' ps aZ bd (some none))) (hps:ps.size=args.length) (hpN:∀p∈ps.toList,p<N')
 (h:∀b,Qn P G (some b) (A6 H) N' aZ (B3v (λt1 H1=>∃N1 t1' ps1 as1 bd1,Ax H1 r=some (.loop N1 t1' ps1 as1 bd1 (some none))∧Qn P G (some b) (A6 H) N' bd (C1d r K) t1 (upd H1 r (.loop N1 t1' ps1 as1 bd1 none))) (λ_ _ _=>False)) (A3a t' ps.toList args) H):RW P G ro N o t H K:=by
 intro w0 s0 C a w Q s
 have hv:=AT s fv
 rw[hf] at hv
 generalize hy:a.eval fv=y at hv
 cases hv with
 |yl hp=>
 rename_i b base
 obtain⟨b',l,h1,h2,h3,h4,h5,h6,h7,h8,h9⟩:=s.rel.rows r _ hl
 have e:=h1.symm.trans hp
 injection e with e;injection e with e;injection e with e1 e2;subst e1 e2
 have hrn:r<A6 H:=A3q s.rel (by rw[hp];simp)
 have hall:=A2b s c.args.toList
 rw[hargs] at hall
 have hsize:(c.args.map a.eval).size=l.params.size:=by
  have:=hall.1
  simp at this
  simp[h6,hps,this]
 refine⟨λf _=>trivial,?_⟩
 rw[Oper.semAt_eq _ _ _ (by rw[hop];intro c hc;cases hc)]
 have hrun:(execOp a.eval o).run P w= .ok (.round b' l.fn ((l.params.zip (c.args.map a.eval)).foldl (λtmps (t,a)=>tmps.setIfInBounds t a) l.tmps) l.assign l.body) w:=by
  simp only[execOp,hop,resolve,hcal,hy,Deferred.ofValue,C4,Yh,E3,invoke]
  have:=run_yield (P:=P) (w:=w) (args:= #[]++c.args.map a.eval) h2 (by simpa using hsize)
  simpa using this
 rw[hrun]
 refine⟨λhd=>by simp[A2g] at hd,?_⟩
 have ht:=B0L (C:=C) (w:=w) l.params.toList args (c.args.toList.map a.eval) t' l.tmps (λp hp=>by rw[h5];exact hpN p (h6▸hp)) hall h9
 have hz':(l.params.zip (c.args.map a.eval)).foldl (λtmps (x:Tmp×Value)=>match x with|(t,a)=>tmps.setIfInBounds t a) l.tmps=(l.params.toList.zip (c.args.toList.map a.eval)).foldl (λt (p:Tmp×Value)=>t.setIfInBounds p.1 p.2) l.tmps:=by
  have hz:(l.params.zip (c.args.map a.eval)).foldl (λtmps (p:Tmp×Value)=>tmps.setIfInBounds p.1 p.2) l.tmps=(l.params.toList.zip (c.args.toList.map a.eval)).foldl (λt (p:Tmp×Value)=>t.setIfInBounds p.1 p.2) l.tmps:=by
   rw[←Array.foldl_toList];simp
  exact hz
 refine roundIn_of_wpIn trivial ?_
 rw[hz',h7,h8]
 have st0:St G w0 0 C N' (A3a t' ps.toList args) H {tmps:=(l.params.toList.zip (c.args.toList.map a.eval)).foldl (λt (p:Tmp×Value)=>t.setIfInBounds p.1 p.2) l.tmps,defers:=[]} w:=
  ⟨s.rel,by rw[ht.2];exact h5,by rw[←h6];exact ht.1,.nil,l1c _⟩
 refine wpIn_mono (h b' w0 0 C _ w st0) ?_
 rintro e a1 w1 ⟨C1,t1,H1,s1,x1,q1⟩
 cases e with
 |normal=>
  obtain⟨N1,t1',ps1,as1,bd1,hl1,hbody⟩:=q1
  have hp1:C1.π r=some (some (b',0)):=(x1.π r hrn (by rw[hp];simp)).trans hp
  obtain⟨l1,g1,g2,g3,g4,g5,g6,g7,g8,hset⟩:=s1.rel.set_loop (pend':=none) (O:=w0.own) hl1 hp1
  obtain⟨hr2,e2⟩:=hset {l1 with state:= .busy} rfl (by rw[g3];rfl) rfl rfl rfl rfl
  refine⟨_,run_beginRound g1 g2,?_⟩
  have st2:St G w0 0 C1 N' t1 (upd H1 r (.loop N1 t1' ps1 as1 bd1 none)) a1 (w1.putObj b' (.loop {l1 with state:= .busy})):=⟨hr2,s1.size,s1.tmps.mono e2,s1.defers.mono e2.B e2.keepB,l1c _⟩
  refine wpIn_mono (hbody w0 0 C1 a1 _ st2) ?_
  rintro e a3 w3 ⟨C3,t3,H3,s3,x3,q3⟩
  have hp3:C3.π r=some (some (b',0)):=(x3.π r hrn (by rw[hp1];simp)).trans hp1
  have x13:Frm (A6 H) w0.own C w C3 w3:=(x1.trans e2.frm).trans x3
  have fin:∀jump:Option Code,(∃N t ps aZ bd,Ax H3 r=some (.loop N t ps aZ bd none)∧K (.v (.bool jump.isNone)) (upd H3 r (.loop N t ps aZ bd (some jump))))→
   ∃v w4,(Instr.endRound b' jump).run P w3= .ok v w4∧∃v_1 y C' H',a.put o.dst v=a.put o.dst y∧K v_1 H'∧VRel C' w4 v_1 y∧Rel G w0 C' H' w4∧Ext w0.own C w C' w4:=by
   rintro jump ⟨N3,t3',ps3,as3,bd3,hl3,hK⟩
   obtain⟨l3,k1,k2,k3,k4,k5,k6,k7,k8,hset3⟩:=s3.rel.set_loop (pend':=some jump) (O:=w0.own) hl3 hp3
   obtain⟨hr4,e4⟩:=hset3 {l3 with state:=if jump.isNone then .ready else .done,pending:=jump} (by cases jump<;>rfl) rfl rfl rfl rfl rfl
   exact⟨_,_,run_endRound jump k1,_,_,C3,_,rfl,hK,.v _,hr4,(x13.trans e4.frm).ext_of s.rel⟩
  cases e with
  |normal=>exact fin none q3
  |ret=>exact fin (some .ret) q3
  |exit id=>exact fin (some (.exit id)) q3
  |goto l=>exact fin (some (.goto l)) q3
  |panic ch=>exact q3.elim
  |outgrown=>exact q3.elim
 |_=>exact q1.elim
theorem A9d {m:Nat} {Q:Exit→Tm→Hp→Prop} {g:Operand} {ps:Array Tmp} {aZ bd:Code} {f:FuncId} {first cap:List AV} (hg:JX G t g= .fn (.func f) first cap) {fn:Func} (hfn:P.funcs[f]?=some fn) (hbody:fn.body.isNone=false) (hname:(fn.name== "runtime.NumGoroutine")=false)
 (h:Rj P G f (first++[.yl (A6 H)]++cap) ((A6 H,.loop N t ps aZ bd (some none))::H) (λ_ H2=>∃N' t' ps' as' bd' pend,Ax H2 (A6 H)=some (.loop N' t' ps' as' bd' (some pend))∧C1g Q t (cut H2 (A6 H)) pend)):Qn P G none m N (.rangeFunc g ps aZ bd) Q t H:=by
 intro w0 s0 C a w s
 refine wpIn_rangeFunc ?_
 intro fnid _
 have hv:=AT s g
 rw[hg] at hv
 obtain⟨ys,zs,he,hys,hzs⟩:=GZ.1 hv
 have hbD:=Le w (.deferred (some []))
 have hszD:(w.alloc (.deferred (some []))).heap.size=w.heap.size+1:=World.size_alloc _ _
 have rD:Rel G w0 C H (w.alloc (.deferred (some []))):=s.rel.of_below hbD
 have hDnew:(w.alloc (.deferred (some []))).heap[w.heap.size]?=some (.deferred (some [])):=World.alloc_heap_new w _
 obtain⟨rD',eD'⟩:=rD.addB (b:=w.heap.size) (by rw[hszD];omega) (.inl s.rel.below.size) (λr x o hx hp=>l1g _ ((s.rel.rows r x hx).block (EE hx) hp))
 have eD:Ext w0.own C w (C.addB w.heap.size) (w.alloc (.deferred (some []))):=(s.rel.ext_below hbD).trans eD'
 obtain⟨lp,hlp⟩:∃lp:Loop,lp={state:= .ready,pending:=none,fn:=fnid,tmps:=a.tmps,params:=ps,assign:=aZ,body:=bd,defers:=w.heap.size}:=⟨_,rfl⟩
 have hbL:=Le (w.alloc (.deferred (some []))) (.loop lp)
 have eL:Ext w0.own (C.addB w.heap.size) (w.alloc (.deferred (some []))) ((C.addB w.heap.size).put (A6 H) (some ((w.alloc (.deferred (some []))).heap.size,0))) ((w.alloc (.deferred (some []))).alloc (.loop lp)):=rD'.new_ext hbL
 have hLnew:((w.alloc (.deferred (some []))).alloc (.loop lp)).heap[(w.alloc (.deferred (some []))).heap.size]?=some (.loop lp):=World.alloc_heap_new _ _
 have e1:=eD.trans eL
 have r1:=rD'.new_row (x:= .loop N t ps aZ bd (some none)) hbL ⟨_,lp,Ctx.put_n _ _ _,hLnew,by rw[hlp];rfl,by rw[hlp];rfl,by rw[hlp];exact s.size,by rw[hlp],by rw[hlp],by rw[hlp],(show lp.tmps=a.tmps by rw[hlp])▸s.tmps.mono e1⟩
 generalize hC1:(C.addB w.heap.size).put (A6 H) (some ((w.alloc (.deferred (some []))).heap.size,0))=C1 at r1 e1
 generalize hW1:(w.alloc (.deferred (some []))).alloc (.loop lp)=W1 at r1 e1 hLnew
 have hpi:C1.π (A6 H)=some (some (w.heap.size+1,0)):=by rw[←hC1,Ctx.put_n,hszD]
 have hB1:C1.B w.heap.size:=by rw[←hC1];exact .inr rfl
 have hD1:W1.heap[w.heap.size]?=some (.deferred (some [])):=by
  rw[←hW1];exact(hbL.block _ (by rw[hszD];omega)).trans hDnew
 have hall:Ca C1 W1 (first++[.yl (A6 H)]++cap) (ys++[.func (.yield (w.heap.size+1)) #[] #[]]++zs):=((hys.mono e1).append (.cons (.yl hpi) .nil)).append (hzs.mono e1)
 have hcall:=h w0 C1 W1 _ r1 hall
 refine⟨w.heap.size+1,[{target:= .collected w.heap.size,args:= #[]}],W1,{target:= .fn (.func f) zs.toArray,args:=ys.toArray++ #[Value.func (.yield (w.heap.size+1)) #[] #[]]},W1,f,(ys++[Value.func (.yield (w.heap.size+1)) #[] #[]]++zs).toArray,W1,?_,?_,λ_ _=>trivial,?_,λhd=>by simp[A2g] at hd,?_⟩
 ·rw[←hW1,hlp];exact run_enterLoop_outer _ _ _ _ _
 ·simp only[resolve,rangeCall,he,Deferred.ofValue,Yh]
  simp[Act.eval]
 ·simp only[invoke,callFunc,C4,run_program,E3,hfn,hname,hbody,l0z,if_false,Yh]
  congr 2
  apply l0c
  simp
 ·refine CallsIn.mono (callsIn_wide.2 hcall) ?_
  rintro e w2 ⟨v,y,C2,H2,rfl,r2,hv2,x2,N',t',ps',as',bd',pend,hl2,hq⟩
  have ex2:Ext w0.own C1 W1 C2 w2:=x2.ext_of r1
  have hp2:C2.π (A6 H)=some (some (w.heap.size+1,0)):=ex2.at hpi
  obtain⟨b',l2,k1,k2,k3,k4,_⟩:=r2.rows (A6 H) _ hl2
  have e':=k1.symm.trans hp2
  injection e' with e';injection e' with e';injection e' with e3 e4;subst e3
  have hlt:=(l1q.1 k2).1
  obtain⟨r3,ex3⟩:=r2.set_obj (O:=w0.own) (y:= .gone) hl2 hp2 (SameObj.putObj hlt (.loop {l2 with state:= .exhausted})) (λarr T fz hc=>by rw[k2] at hc;cases hc) (λ_=>trivial)
  have ex:Ext w0.own C w C2 (w2.putObj (w.heap.size+1) (.loop {l2 with state:= .exhausted})):=(e1.trans ex2).trans ex3
  have ex13:=ex2.trans ex3
  have hbs:DOk w0 s0 C2 (w2.putObj (w.heap.size+1) (.loop {l2 with state:= .exhausted})) (A4A w.heap.size::a.defers):=by
   obtain⟨bs,d1,d2,d3⟩:=s.defers
   refine⟨w.heap.size::bs,List.nodup_cons.2 ⟨λhm=>l1g _ (s.rel.finB _ (d3 _ hm).2.2.1),d1⟩,by rw[d2];rfl,λb hb=> ?_⟩
   rcases WG.1 hb with rfl|hb
   ·exact⟨s.le,.inl s.rel.below.size,ex13.B _ hB1,(ex13.keepB _ hB1).trans hD1⟩
   ·obtain⟨g1,g2,g3,g4⟩:=d3 b hb
    exact⟨g1,g2,ex.B _ g3,(ex.keepB _ g3).trans g4⟩
  have st:St G w0 s0 C2 N t (cut H2 (A6 H)) {a with defers:=[A4A w.heap.size]++a.defers} (w2.putObj (w.heap.size+1) (.loop {l2 with state:= .exhausted})):=
   ⟨r3,s.size,s.tmps.mono ex,hbs,l1m s.le ex.grow⟩
  refine⟨pend,w2.putObj (w.heap.size+1) (.loop {l2 with state:= .exhausted}),?_,?_⟩
  ·have:=run_endLoop (P:=P) k2 (by rw[k3];cases pend<;>simp[B6h])
   have hj:l2.pending=pend:=by rw[k4];cases pend<;>rfl
   rw[this,hj]
  ·cases pend with
   |none=>exact⟨C2,t,_,st,ex.frm,hq⟩
   |some c=>
    cases c with
    |ret=>exact wpIn_ret ⟨C2,t,_,st,ex.frm,hq⟩
    |exit id=>exact wpIn_exit ⟨C2,t,_,st,ex.frm,hq⟩
    |goto l=>exact wpIn_goto ⟨C2,t,_,st,ex.frm,hq⟩
    |_=>exact hq.elim
end
def Vl (x:Row) (K:Nat→Tm→Array Tmp→Code→Code→Option (Option Code)→Al):Al:=match x with| .loop N t ps aZ bd pend=>K N t ps aZ bd pend|_=>none
def Ga (H:Hp) (r:Nat) (ready:Bool) (to:Option (Option Code)) (K:Hp→Al):Al:=
 Kj H r λx=>Vl x λN t ps aZ bd pend=>match ready,pend with
  |true,some none=>Og H r (.loop N t ps aZ bd to) K
  |false,none=>Og H r (.loop N t ps aZ bd to) K
  |_,_=>none
def A7P (t:Tm) (ps:List Tmp):List AV→(Tm→Al)→Al:=
 @List.rec Tmp (λ_=>Tm→List AV→(Tm→Al)→Al) (λt aZ K=>@List.rec AV (λ_=>Al) (K t) (λ_ _ _=>none) aZ)
  (λp _ ih t aZ K=>@List.rec AV (λ_=>Al) none (λa aZ _=>ih ((p,a)::t) aZ K) aZ) ps t
def A3r (N:Nat) (ps:List Tmp):Bool:=@List.rec Tmp (λ_=>Bool) true (λp _ ih=>@Bool.rec (λ_=>Bool) false ih (Nat.blt p N)) ps
def Sc (R:Rt) (r:Nat) (args:List AV) (H:Hp) (K:KV):Al:=
 Kj H r λx=>Vl x λN t ps aZ bd pend=>match pend with
  |some none=>ck (A3r N ps.toList) (A7P t ps.toList args λt1=>R.run ⟨true,t1.map (·.1),false,N,[]⟩ aZ t1 H λe t2 H2=>match e with
   | .normal=>Ga H2 r true none λH3=>R.run ⟨true,t1.map (·.1),false,N,[]⟩ bd t2 H3 λe _ H4=>match e with
    | .normal=>Ga H4 r false (some none) λH5=>K (.v (.bool true)) H5
    | .ret=>Ga H4 r false (some (some .ret)) λH5=>K (.v (.bool false)) H5
    | .exit id=>Ga H4 r false (some (some (.exit id))) λH5=>K (.v (.bool false)) H5
    | .goto l=>Ga H4 r false (some (some (.goto l))) λH5=>K (.v (.bool false)) H5
    |_=>none
   |_=>none)
  |_=>none
def B2g (E:XE) (R:Rt) (f:AV) (aZ:List AV) (H:Hp) (K:KV):Al:=
 match f with
 | .fn (.func g) first cap=>ck (E.imp g) (Ur aZ cap λas'=>Ur first as' λall=>R.call g all H K)
 | .yl r=>Sc R r aZ H K
 |_=>none
def C3Z (i:TI) (K:TypeId→Al):Al:=(λ(_:Unit)=>match i.d with| .pointer e=>K e|_=>none) Gx
def T9 (E:XE) (R:Rt) (t:Tm) (H:Hp) (c:Call) (K:KV):Al:=
 match c.callee with
 | .value fv=>Iq E t fv λf=>A0f E t c.args.toList λaZ=>B2g E R f aZ H K
 | .builtin .append=>match c.args.toList,c.argTypes.toList with
  |[s,x],[t1,t2]=>Iq E t s λs=>Iq E t x λx=>E.ty.getK t1 λi1=>E.ty.getK t2 λi2=>A4c i1 λe esz=>E.ty.getK e λie=>DN e esz ie i2 s x H K
  |_,_=>none
 | .builtin .copy=>match c.args.toList,c.argTypes.toList with
  |[s,x],ty::_=>Iq E t s λs=>Iq E t x λx=>E.ty.getK ty λi=>A4c i λ_ esz=>B1E esz s x H K
  |_,_=>none
 | .builtin .clear=>match c.args.toList,c.argTypes.toList with
  |[s],[ty]=>Iq E t s λs=>E.ty.getK ty λi=>A4c i λe esz=>E.ty.getK e λie=>B7V esz ie s H λH'=>K (.tup []) H'
  |_,_=>none
 | .builtin .delete=>match c.args.toList,c.argTypes.toList with
  |[m,k],ty::_=>Iq E t m λm=>Iq E t k λk=>E.ty.getK ty λi=>A4B i λkt _=>B1d E kt k λkv=>B4y m kv H λH'=>K (.tup []) H'
  |_,_=>none
 | .builtin .unsafeString=>match c.args.toList,c.argTypes.toList with
  |[p,n],[pt,_]=>Iq E t p λp=>Iq E t n λn=>E.ty.getK pt λi=>C3Z i λe=>E.ty.getK e λie=>ckS (Nat.beq ie.size 1) (B1r e p n H K)
  |_,_=>none
 |_=>none
def VX (E:XE) (R:Rt) (t:Tm) (H:Hp) (o:Op) (K:KV):Al:=
 match o with
 | .store ty x y=>Iq E t x λp=>Iq E t y λv=>E.ty.getK ty λi=>Cq i p v H λH'=>K (.v undef) H'
 | .alloc ty=>E.ty.getK ty λi=>AK ty i H K
 | .box ty x=>Iq E t x λv=>Dh ty v H K
 | .buildSlice ty n parts=>E.ty.getK ty λi=>A4c i λe esz=>E.ty.getK e λie=>Xx E t i parts.toList λl=>Fh e esz ie n l H K
 | .call c=>T9 E R t H c K
 | .makeSlice ty l c=>Iq E t l λl=>Iq E t c λc=>E.ty.getK ty λi=>A4c i λe esz=>E.ty.getK e λie=>eMk e esz ie l c H K
 | .makeMap ty none=>E.ty.getK ty λi=>A4B i λ_ et=>E.ty.getK et λie=>NR ie H K
 | .mapUpdate ty m k v=>Iq E t m λm=>Iq E t k λk=>Iq E t v λv=>E.ty.getK ty λi=>A4B i λkt _=>B1d E kt k λkv=>VL m kv v H λH'=>K (.v undef) H'
 | .insert ty m k v=>Iq E t m λm=>Iq E t k λk=>Iq E t v λv=>E.ty.getK ty λi=>A4B i λkt _=>B1d E kt k λkv=>VL m kv v H λH'=>K (.v undef) H'
 | .mapEntry ty m k=>Iq E t m λm=>Iq E t k λk=>E.ty.getK ty λi=>A4B i λkt et=>B1d E kt k λkv=>E.ty.getK et λie=>B08 ie m kv H K
 | .entryStore _ m st v=>Iq E t m λm=>Iq E t st λst=>Iq E t v λv=>B06 m st v H λH'=>K (.v undef) H'
 | .range ty x=>Iq E t x λm=>E.ty.getK ty λi=>A4B i λ_ _=>A1W m H K
 | .next it false=>Iq E t it λv=>A1X v H K
 |_=>none
section
variable {D:XE→Cf→Nat→List Oper→Bool} {E:XE} {P:Program} {R:Rt} {t:Tm} {H:Hp} {r:AV×Hp} {ro:Option Nat} {N:Nat}
theorem VF {x:Row} {K:Nat→Tm→Array Tmp→Code→Code→Option (Option Code)→Al} (h:Vl x K=some r):∃N t ps aZ bd pend,x= .loop N t ps aZ bd pend∧K N t ps aZ bd pend=some r:=by
 unfold Vl at h
 split at h
 ·exact⟨_,_,_,_,_,_,rfl,h⟩
 ·cases h
theorem Lq {s:Nat} {ready:Bool} {to:Option (Option Code)} {K:Hp→Al} (h:Ga H s ready to K=some r):
 ∃N t ps aZ bd,Ax H s=some (.loop N t ps aZ bd (if ready then some none else none))∧K (upd H s (.loop N t ps aZ bd to))=some r:=by
 unfold Ga at h
 obtain⟨x,h1,h2⟩:=G9 rfl h
 obtain⟨N,t,ps,aZ,bd,pend,rfl,h3⟩:=VF h2
 clear h h2
 have h:=h3
 clear h3
 split at h
 ·rw[D8] at h;exact⟨N,t,ps,aZ,bd,h1,h⟩
 ·rw[D8] at h;exact⟨N,t,ps,aZ,bd,h1,h⟩
 ·cases h
theorem A5M:∀(ps:List Tmp) (t:Tm) (aZ:List AV) (K:Tm→Al),A7P t ps aZ K=some r→ps.length=aZ.length∧K (A3a t ps aZ)=some r:=by
 intro ps
 induction ps with
 |nil=>
  intro t aZ K h
  cases aZ with
  |nil=>exact⟨rfl,h⟩
  |cons a aZ=>cases h
 |cons p ps ih=>
  intro t aZ K h
  cases aZ with
  |nil=>cases h
  |cons a aZ=>
   obtain⟨h1,h2⟩:=ih ((p,a)::t) aZ K h
   exact⟨by simpa using h1,h2⟩
theorem B19 {ps:List Tmp} (h:A3r N ps=true):∀p∈ps,p<N:=by
 induction ps with
 |nil=>intro p hp;simp at hp
 |cons q ps ih=>
  have e:A3r N (q::ps)=@Bool.rec (λ_=>Bool) false (A3r N ps) (Nat.blt q N):=rfl
  rw[e] at h
  cases hq:Nat.blt q N
  ·rw[hq] at h;cases h
  ·rw[hq] at h
   intro p hp
   rcases WG.1 hp with rfl|hp
   ·rwa[Uk] at hq
   ·exact ih h p hp
theorem VU (hR:RSound D E P R) {o:Oper} {c:Call} {fv:Operand} {s:Nat} {K:KV} (ho:o.op= .call c) (hcal:c.callee= .value fv) (hf:JX E.G t fv= .yl s) (h:Sc R s (c.args.toList.map (JX E.G t)) H K=some r):RW P E.G ro N o t H (λv H'=>K v H'=some r):=by
 unfold Sc at h
 obtain⟨x,hl,h2⟩:=G9 rfl h
 obtain⟨N',t',ps,aZ,bd,pend,rfl,h3⟩:=VF h2
 clear h h2
 have h:=h3
 clear h3
 split at h
 ·obtain⟨h1,h⟩:=Br h
  obtain⟨h2,h⟩:=A5M _ _ _ _ h
  refine A9g ho hcal hf rfl hl (by simpa using h2) (B19 h1) λb=> ?_
  refine Qn.mono (hR.run (some b) _ aZ _ H _ r (A6 H) (λ_=>rfl) (λh=>by cases h) h) λe t2 H2 hq=> ?_
  cases e with
  |normal=>
   obtain⟨N1,t1,ps1,as1,bd1,hl1,hq⟩:=Lq hq
   refine⟨N1,t1,ps1,as1,bd1,hl1,Qn.mono (hR.run (some b) _ bd _ _ _ r (A6 H) (λ_=>rfl) (λh=>by cases h) hq) λe t3 H3 hq=> ?_⟩
   cases e with
   |normal=>exact Lq hq
   |ret=>exact Lq hq
   |exit id=>exact Lq hq
   |goto l=>exact Lq hq
   |panic ch=>cases hq
   |outgrown=>cases hq
  |_=>cases hq
 ·cases h
theorem wr (hE:XE.Ok D E P) {o:Oper} {v:AV} {H':Hp} {K:KV} (hd:∀c,o.op≠.defer c) (hx:B5s (E.env P) o.op t H (A6 H) (λv' H''=>v'=v∧H''=H')) (hK:K v H'=some r):RW P E.G ro N o t H (λv H'=>K v H'=some r):=
 RW.mono (Ri hd (A7A (E:=E.env P) hE.env hx)) (by rintro _ _ ⟨rfl,rfl⟩;exact hK)
theorem B57 {o:Oper} {K:AV→Hp→Prop} {H1:Hp} (hrel:∀{G:Gl} {w0:Base} {C:Ctx} {w:World},Rel G w0 C H w→Rel G w0 C H1 w) (h:RW P E.G ro N o t H1 K):RW P E.G ro N o t H K:=
 λw0 s0 C a w Q s=>h w0 s0 C a w Q ⟨hrel s.rel,s.size,s.tmps,s.defers,s.le⟩
theorem PR {o:Oper} {K:KV} (hd:∀c,o.op≠.defer c) (h:∀(w0:Base) (s0:Nat) (C:Ctx) (N:Nat) (a:Act) (w:World),St E.G w0 s0 C N t H a w→∃v H' y C' w',K v H'=some r∧((execOp a.eval o).run P w= .ok (.value y) w'∨((execOp a.eval o).run P w= .ok .skip w'∧y=undef))∧Jk E.G w0 C w v H' y C' w'):RW P E.G ro N o t H (λv H'=>K v H'=some r):=
 Ri hd λw0 s0 C N a w s=>let⟨v,H',y,C',w',h1,h2,h3⟩:=h w0 s0 C N a w s;⟨v,H',y,C',w',h1,h2,h3.1,h3.2.1,h3.2.2⟩
theorem JH (hE:XE.Ok D E P) (hR:RSound D E P R) {o:Oper} {c:Call} (ho:o.op= .call c) {K:KV} (h:T9 E R t H c K=some r):RW P E.G ro N o t H (λv H'=>K v H'=some r):=by
 have nd:∀c,o.op≠.defer c:= λc hc=>by rw[ho] at hc;cases hc
 unfold T9 at h
 split at h
 ·rename_i fv hcal
  have h:=OP hE _ _ (AS hE h)
  unfold B2g at h
  split at h
  ·rename_i g first cap hf
   obtain⟨_,h⟩:=Br h
   rw[K4,K4,←l0k] at h
   obtain⟨⟨fn,h1,h2,h3⟩,hc⟩:=hR.call _ _ _ _ _ h
   exact Xl ho hcal hf h1 h2 h3 hc
  ·rename_i s hf
   exact VU hR ho hcal hf h
  ·cases h
 ·rename_i hcal
  split at h
  ·rename_i s x t1 t2 hx hty
   obtain⟨i1,hi1,h⟩:=AW (AS hE (AS hE h))
   obtain⟨i2,hi2,h⟩:=AW h
   obtain⟨e,esz,hd,h⟩:=OJ h
   obtain⟨ie,hie,h⟩:=AW h
   unfold DN at h
   obtain⟨H1,h,hnx,hrel⟩:=A7N h
   obtain⟨v,H',hK,hxa⟩:=B1I (T:=E.T) hi1 hi2 hd hie h
   refine B57 hrel ?_
   exact wr hE nd (by rw[ho];simp only[B5s,hcal,hx,hty];exact hxa) hK
  ·cases h
 ·rename_i hcal
  split at h
  ·rename_i s x ty tys hx hty
   obtain⟨i,hi,h⟩:=AW (AS hE (AS hE h))
   obtain⟨e,esz,hd,h⟩:=OJ h
   refine PR nd λw0 s0 C N a w st=> ?_
   obtain⟨v,H',u,w',h1,h2,h3⟩:=A8X (P:=P) (T:=E.T) (ty:=o.type) (ts:=c.argTypes) hE.ty (by rw[←l21,hty];rfl) hi hd (hE.pos ty i e esz hi (.inl hd)) st.rel (AT st s) (AT st x) h
   refine⟨v,H',u,C,w',h1,.inl ?_,h3⟩
   have hargs:c.args.map a.eval= #[a.eval s,a.eval x]:=by apply l0c;simp[hx]
   rw[Hw ho _ hcal,hargs]
   show(do pure (Next.value (←Builtin.copy_ c.argTypes o.type #[a.eval s,a.eval x]))).run P w=_
   rw[C4,h2];rfl
  ·cases h
 ·rename_i hcal
  split at h
  ·rename_i s ty hx hty
   obtain⟨i,hi,h⟩:=AW (AS hE h)
   obtain⟨e,esz,hd,h⟩:=OJ h
   obtain⟨ie,hie,h⟩:=AW h
   refine PR nd λw0 s0 C N a w st=> ?_
   obtain⟨H',w',h1,h2,h3,h4⟩:=A8Z (P:=P) (T:=E.T) (ty:=o.type) (ts:=c.argTypes) hE.ty (by rw[←l21,hty];rfl) hi hd hie st.rel (AT st s) h
   refine⟨_,H',.tuple #[],C,w',h1,.inl ?_,Dw.2 ⟨[],rfl,.nil⟩,h3,h4⟩
   have hargs:c.args.map a.eval= #[a.eval s]:=by apply l0c;simp[hx]
   rw[Hw ho _ hcal,hargs]
   show(do pure (Next.value (←Builtin.clear_ c.argTypes o.type #[a.eval s]))).run P w=_
   rw[C4,h2];rfl
  ·cases h
 ·rename_i hcal
  split at h
  ·rename_i m k ty tys hx hty
   obtain⟨i,hi,h⟩:=AW (AS hE (AS hE h))
   obtain⟨kt,et,hd,h⟩:=MN h
   obtain⟨kv,hk,h,hkv⟩:=RF hE h
   refine PR nd λw0 s0 C N a w st=> ?_
   obtain⟨H',w',h1,h2,h3,h4⟩:=A6S (P:=P) (ty:=o.type) (ts:=c.argTypes) (by rw[←l21,hty];rfl) (MM hE hi hd) hk st.rel (AT st m) h
   refine⟨_,H',.tuple #[],C,w',h1,.inl ?_,Dw.2 ⟨[],rfl,.nil⟩,h3,h4⟩
   have hargs:c.args.map a.eval= #[a.eval m,kv]:=by apply l0c;simp[hx,hkv (AT st k)]
   rw[Hw ho _ hcal,hargs]
   show(do pure (Next.value (←Builtin.delete_ c.argTypes o.type #[a.eval m,kv]))).run P w=_
   rw[C4,h2];rfl
  ·cases h
 ·rename_i hcal
  split at h
  ·rename_i p n pt it hx hty
   obtain⟨i,hi,h⟩:=AW (AS hE (AS hE h))
   unfold C3Z at h
   split at h
   ·rename_i e hd
    obtain⟨ie,hie,h⟩:=AW h
    obtain⟨h1c,h⟩:=JD h
    refine PR nd λw0 s0 C N a w st=> ?_
    obtain⟨v,H',u,w',h1,h2,h3⟩:=A8I (P:=P) (T:=E.T) (it:=it) (ty:=o.type) hE.ty hi hd hie (Vm h1c) st.rel (AT st p) (AT st n) h
    refine⟨v,H',u,C,w',h1,.inl ?_,h3⟩
    have hargs:c.args.map a.eval= #[a.eval p,a.eval n]:=by apply l0c;simp[hx]
    have hats:c.argTypes= #[pt,it]:=by apply l0c;simp[hty]
    rw[Hw ho _ hcal,hargs,hats]
    show(do pure (Next.value (←Builtin.unsafeString_ #[pt,it] o.type #[a.eval p,a.eval n]))).run P w=_
    rw[C4,h2];rfl
   ·cases h
  ·cases h
 ·cases h
theorem FN (hE:XE.Ok D E P) (hR:RSound D E P R) {o:Oper} {K:KV} (h:VX E R t H o.op K=some r):RW P E.G ro N o t H (λv H'=>K v H'=some r):=by
 unfold VX at h
 split at h
 all_goals try (cases h;done)
 case h_1 ty x y ho=>
  obtain⟨i,hi,h⟩:=AW (AS hE (AS hE h))
  obtain⟨H',hK,hx⟩:=B4u (T:=E.T) (ty:=ty) hi h
  refine RW.mono (Ri (λc hc=>by rw[ho] at hc;cases hc) (A37 (E:=E.env P) (K:= λv H''=>v= .v undef∧H''=H') hE.env (by rw[ho];simpa [xop,XE.env] using hx))) ?_
  rintro _ _ ⟨rfl,rfl⟩;exact hK
 case h_2 ty ho=>
  obtain⟨i,hi,h⟩:=AW h
  obtain⟨v,H',hK,hx⟩:=A6X (T:=E.T) hi h
  exact wr hE (λc hc=>by rw[ho] at hc;cases hc) (by rw[ho];exact hx) hK
 case h_3 ty x ho=>
  obtain⟨v,H',hK,hx⟩:=B1F (ty:=ty) (AS hE h)
  exact wr hE (λc hc=>by rw[ho] at hc;cases hc) (by rw[ho];exact hx) hK
 case h_4 ty n parts ho=>
  obtain⟨i,hi,h⟩:=AW h
  obtain⟨e,esz,hd,h⟩:=OJ h
  obtain⟨ie,hie,h⟩:=AW h
  obtain⟨l,h1,h2⟩:=T8 hE _ _ h
  obtain⟨v,H',hK,hx⟩:=B4I (T:=E.T) (ps:=parts.toList.map λp=>(p.1,JX E.G t p.2)) hi hd hie (by rw[←h2];simp[O2,hd]) h1
  exact wr hE (λc hc=>by rw[ho] at hc;cases hc) (by rw[ho];exact hx) hK
 case h_5 c ho=>exact JH hE hR ho h
 case h_6 ty l c ho=>
  obtain⟨i,hi,h⟩:=AW (AS hE (AS hE h))
  obtain⟨e,esz,hd,h⟩:=OJ h
  obtain⟨ie,hie,h⟩:=AW h
  refine Ri (λc hc=>by rw[ho] at hc;cases hc) λw0 s0 C N a w s=> ?_
  obtain⟨v,H',y,C',w',hK,hrun,hv,hr,hx⟩:=B1x (P:=P) (T:=E.T) hE.ty hi hd hie (AT s l) (AT s c) s.rel h
  refine⟨v,H',y,C',w',hK,.inl ?_,hv,hr,hx⟩
  simp only[execOp,ho]
  rw[C4,hrun]
  rfl
 case h_7 ty ho=>
  obtain⟨i,hi,h⟩:=AW h
  obtain⟨kt,et,hd,h⟩:=MN h
  obtain⟨ie,hie,h⟩:=AW h
  refine PR (λc hc=>by rw[ho] at hc;cases hc) λw0 s0 C N a w st=> ?_
  obtain⟨v,H',y,C',w',h1,h2,h3⟩:=A6O (P:=P) (ty:=ty) st.rel h
  refine⟨v,H',y,C',w',h1,.inl ?_,h3⟩
  simp only[execOp,ho]
  have:(Instr.makeMap ty (Option.map a.eval none)).run P w= .ok y w':=h2
  rw[C4,this];rfl
 case h_8 ty m k v ho=>
  obtain⟨i,hi,h⟩:=AW (AS hE (AS hE (AS hE h)))
  obtain⟨kt,et,hd,h⟩:=MN h
  obtain⟨kv,hk,h,hkv⟩:=RF hE h
  refine PR (λc hc=>by rw[ho] at hc;cases hc) λw0 s0 C N a w st=> ?_
  obtain⟨H',w',h1,h2,h3,h4⟩:=A1Y (P:=P) (MM hE hi hd) hk st.rel (AT st m) (AT st v) h
  refine⟨_,H',undef,C,w',h1,.inr ⟨?_,rfl⟩,.v _,h3,h4⟩
  simp only[execOp,ho]
  rw[C4,hkv (AT st k),h2];rfl
 case h_9 ty m k v ho=>
  obtain⟨i,hi,h⟩:=AW (AS hE (AS hE (AS hE h)))
  obtain⟨kt,et,hd,h⟩:=MN h
  obtain⟨kv,hk,h,hkv⟩:=RF hE h
  refine PR (λc hc=>by rw[ho] at hc;cases hc) λw0 s0 C N a w st=> ?_
  obtain⟨H',w',h1,h2,h3,h4⟩:=A1Y (P:=P) (MM hE hi hd) hk st.rel (AT st m) (AT st v) h
  refine⟨_,H',undef,C,w',h1,.inr ⟨?_,rfl⟩,.v _,h3,h4⟩
  simp only[execOp,ho]
  rw[C4,hkv (AT st k),h2];rfl
 case h_10 ty m k ho=>
  obtain⟨i,hi,h⟩:=AW (AS hE (AS hE h))
  obtain⟨kt,et,hd,h⟩:=MN h
  obtain⟨kv,hk,h,hkv⟩:=RF hE h
  obtain⟨ie,hie,h⟩:=AW h
  refine PR (λc hc=>by rw[ho] at hc;cases hc) λw0 s0 C N a w st=> ?_
  obtain⟨v,H',y,w',h1,h2,h3⟩:=A6R (P:=P) (MM hE hi hd) (hE.ty et ie hie) hk st.rel (AT st m) h
  refine⟨v,H',y,C,w',h1,.inl ?_,h3⟩
  simp only[execOp,ho]
  rw[C4,hkv (AT st k),h2];rfl
 case h_11 ty m s v ho=>
  have h:=AS hE (AS hE (AS hE h))
  refine PR (λc hc=>by rw[ho] at hc;cases hc) λw0 s0 C N a w st=> ?_
  obtain⟨H',w',h1,h2,h3,h4⟩:=A6N (P:=P) (mt:=ty) st.rel (AT st m) (AT st s) (AT st v) h
  refine⟨_,H',undef,C,w',h1,.inr ⟨?_,rfl⟩,.v _,h3,h4⟩
  simp only[execOp,ho]
  rw[C4,h2];rfl
 case h_12 ty x ho=>
  obtain⟨i,hi,h⟩:=AW (AS hE h)
  obtain⟨kt,et,hd,h⟩:=MN h
  refine PR (λc hc=>by rw[ho] at hc;cases hc) λw0 s0 C N a w st=> ?_
  obtain⟨v,H',y,C',w',h1,h2,h3⟩:=A8O (P:=P) (MM hE hi hd) st.rel (AT st x) h
  refine⟨v,H',y,C',w',h1,.inl ?_,h3⟩
  simp only[execOp,ho]
  rw[C4,h2];rfl
 case h_13 it ho=>
  have h:=AS hE h
  refine PR (λc hc=>by rw[ho] at hc;cases hc) λw0 s0 C N a w st=> ?_
  obtain⟨v,H',y,w',h1,h2,h3⟩:=A8Q (P:=P) (ty:=o.type) st.rel (AT st it) h
  refine⟨v,H',y,C,w',h1,.inl ?_,h3⟩
  simp only[execOp,ho]
  rw[C4,h2];rfl
end
def B7M (b:Bool) (all:List AV) (H:Hp) (K:KV) (x:Al):Al:=
 (λ(_:Unit)=>match b with
  |true=>(match all with|[v]=>K v H|_=>none)
  |false=>x) Gx
def Eo (E:XE) (R:Rt) (f:AV) (aZ:List AV) (H:Hp) (K:KV):Al:=
 match f with
 | .fn (.func g) first cap=>WR aZ cap λas'=>WR first as' λall=>B7M (E.ne g) all H K (@Bool.rec (λ_=>Al) (Ah R g all H λv=>K v H) (R.call g all H K) (E.imp g))
 | .yl r=>Sc R r aZ H K
 |_=>none
def A7u (E:XE) (R:Rt) (t:Tm) (H:Hp) (c:Call) (K:KV):Al:=
 match c.callee with
 | .value fv=>Iq E t fv λf=>A0f E t c.args.toList λaZ=>Eo E R f aZ H K
 | .builtin .append=>T9 E R t H c K
 | .builtin .copy=>T9 E R t H c K
 | .builtin .clear=>T9 E R t H c K
 | .builtin .delete=>T9 E R t H c K
 | .builtin .unsafeString=>T9 E R t H c K
 | .builtin _=>A3X E R t H c λv=>K v H
 |_=>none
def B8G:TD→Bool
 | .string=>true
 |_=>false
def zcv (E:XE) (R:Rt) (t:Tm) (H:Hp) (s d:TypeId) (x:Operand) (K:KV):Al:=
 E.ty.getK s λi=>E.ty.getK d λj=>(λ(_:Unit)=>match j.d with
  | .slice e _=>ckS (B8G i.d) (E.ty.getK e λie=>ckS (A8A ie.d) (Iq E t x λa=>B1v e a H K))
  |_=>OO E R t H (.convert s d x) λv=>K v H) Gx
def zop (E:XE) (R:Rt) (fz:Bool) (t:Tm) (H:Hp) (o:Op) (K:KV):Al:=
 match o with
 | .call c=>A7u E R t H c K
 | .store a b c=>VX E R t H (.store a b c) K
 | .alloc a=>VX E R t H (.alloc a) K
 | .box a b=>VX E R t H (.box a b) K
 | .makeSlice a b c=>VX E R t H (.makeSlice a b c) K
 | .makeMap a b=>VX E R t H (.makeMap a b) K
 | .mapUpdate a b c d=>VX E R t H (.mapUpdate a b c d) K
 | .insert a b c d=>VX E R t H (.insert a b c d) K
 | .mapEntry a b c=>VX E R t H (.mapEntry a b c) K
 | .entryStore a b c d=>VX E R t H (.entryStore a b c d) K
 | .range a b=>VX E R t H (.range a b) K
 | .next a b=>VX E R t H (.next a b) K
 | .convert a b c=>zcv E R t H a b c K
 | .buildSlice a b c=>@Bool.rec (λ_=>Al) (VX E R t H (.buildSlice a b c) K) (OO E R t H (.buildSlice a b c) λv=>K v H) fz
 |o=>OO E R t H o λv=>K v H
def gdV (want:Bool) (v:AV) (K:Bool→Al):Al:=
 match v with
 | .v (.bool b)=>@Bool.rec (λ_=>Al) (@Bool.rec (λ_=>Al) (K true) (K false) b) (@Bool.rec (λ_=>Al) (K false) (K true) b) want
 | .dk=>none
 |_=>K false
def gdK (all:List Oper) (t:Tm) (g:Option (Nat×Bool)) (K:Bool→Al):Al:=
 match g with
 |none=>K true
 |some (j,want)=>match all[j]? with
  |some p=>match p.dst with
   |some d=>gtm t d λv=>gdV want v K
   |none=>K false
  |none=>K false
def A6Y (N:Nat) (d:Option Tmp) (K:Al):Al:=(λ(_:Unit)=>match d with|some d=>ckS (Nat.blt d N) K|none=>K) Gx
def NY (t:Tm) (d:Option Tmp) (v:AV) (K:Tm→Al):Al:=(λ(_:Unit)=>match d with|some d=>K ((d,v)::t)|none=>K t) Gx
def B1i (g:Option (Nat×Bool)) (x y:Al):Al:=(λ(_:Unit)=>match g with|none=>x|some _=>y) Gx
def DW (a:Al) (K:KV):Al:=match a with|some (v,H)=>K v H|none=>none
def A7o (E:XE) (R:Rt) (fz:Bool) (N:Nat) (all:List Oper) (l:List Oper):Tm→Hp→(Tm→Hp→Al)→Al:=
 @List.rec Oper (λ_=>Tm→Hp→(Tm→Hp→Al)→Al) (λt H K=>K t H)
  (λo _ ih t H K=>A6Y N o.dst (B1i o.guard (zop E R fz t H o.op λv H'=>NY t o.dst v λt'=>ih t' H' K)
   (DW (gdK all t o.guard λg=>@Bool.rec (λ_=>Al) (some (.v undef,H)) (zop E R fz t H o.op λv H'=>some (v,H')) g) λv H'=>NY t o.dst v λt'=>ih t' H' K))) l
section
variable {D:XE→Cf→Nat→List Oper→Bool} {E:XE} {P:Program} {R:Rt} {t:Tm} {H:Hp} {r:AV×Hp} {ro:Option Nat} {N m:Nat} {fz:Bool}
theorem A3Y (hE:XE.Ok D E P) (hR:RSound D E P R) {o:Oper} {c:Call} (ho:o.op= .call c) {K:KV} (h:A7u E R t H c K=some r):RW P E.G ro N o t H (λv H'=>K v H'=some r):=by
 unfold A7u at h
 split at h
 ·rename_i fv hcal
  have h:=OP hE _ _ (AS hE h)
  unfold Eo at h
  split at h
  ·rename_i g first cap hf
   rw[NJ,NJ,←l0k] at h
   cases hne:E.ne g
   rotate_left
   ·rw[hne] at h
    unfold B7M at h
    simp only at h
    split at h
    ·rename_i v hall
     exact B89 (hE.ne g hne) ho hcal hf hall h
    ·cases h
   rw[hne] at h
   have h:@Bool.rec (λ_=>Al) (Ah R g (first++c.args.toList.map (JX E.G t)++cap) H λv=>K v H) (R.call g (first++c.args.toList.map (JX E.G t)++cap) H K) (E.imp g)=some r:=h
   cases hi:E.imp g
   ·rw[hi] at h
    obtain⟨⟨fn,h1,h2,h3⟩,hc⟩:=YT hR h
    exact RW.mono (Xl ho hcal hf h1 h2 h3 hc) (by rintro _ _ ⟨rfl,h⟩;exact h)
   ·rw[hi] at h
    obtain⟨⟨fn,h1,h2,h3⟩,hc⟩:=hR.call _ _ _ _ _ h
    exact Xl ho hcal hf h1 h2 h3 hc
  ·rename_i s hf
   exact VU hR ho hcal hf h
  ·cases h
 ·exact JH hE hR ho h
 ·exact JH hE hR ho h
 ·exact JH hE hR ho h
 ·exact JH hE hR ho h
 ·exact JH hE hR ho h
 ·exact RW.mono (VZ hE hR ho h) (by rintro _ _ ⟨rfl,h⟩;exact h)
 ·cases h
theorem B0r (hE:XE.Ok D E P) (hR:RSound D E P R) {o:Oper} {s d:TypeId} {x:Operand} (ho:o.op= .convert s d x) {K:KV} (h:zcv E R t H s d x K=some r):RW P E.G ro N o t H (λv H'=>K v H'=some r):=by
 obtain⟨i,hi,h⟩:=AW h
 obtain⟨j,hj,h⟩:=AW h
 simp only at h
 split at h
 ·rename_i e z hd
  obtain⟨hst,h⟩:=JD h
  obtain⟨ie,hie,h⟩:=AW h
  obtain⟨hu8,h⟩:=JD h
  have h:=AS hE h
  refine Ri (λc hc=>by rw[ho] at hc;cases hc) λw0 s0 C N a w st=> ?_
  obtain⟨str,hy,v,H',y',C',w',hK,hrun,hv,hr,hx⟩:=A8N (P:=P) st.rel (AT st x) h
  refine⟨v,H',y',C',w',hK,.inl ?_,hv,hr,hx⟩
  have hcv:(convert s d (a.eval x)).run P w= .ok y' w':=by
   obtain⟨u1,hu1,e1⟩:=(hE.ty s i hi).under
   obtain⟨hu2,_⟩:=(hE.ty d j hj).elem_slice hd
   obtain⟨u3,hu3,e3⟩:=(hE.ty e ie hie).under
   have hu3':u3= .int .u8:=by
    cases hq:ie.d with
    |int k=>
     rw[hq] at hu8 e3
     cases k<;>simp[A8A] at hu8
     cases u3<;>simp[td] at e3
     rw[e3]
    |_=>rw[hq] at hu8;simp[A8A] at hu8
   have hu1':u1= .string:=by
    cases hq:i.d with
    |string=>
     rw[hq] at e1
     cases u1<;>simp[td] at e1
     rfl
    |_=>rw[hq] at hst;simp[B8G] at hst
   subst hu3' hu1'
   rw[hy]
   unfold convert
   rw[C4,run_underlying hu1 w]
   simp only[E3]
   rw[C4,run_underlying hu2 w]
   simp only[E3]
   rw[C4,run_underlying hu3 w]
   simp only[E3]
   exact hrun
  simp only[execOp,ho]
  rw[C4,hcv]
  rfl
 ·exact RW.mono (Qo (K:= λv=>K v H) hE hR (by rw[ho];exact h)) (by rintro _ _ ⟨rfl,h⟩;exact h)
theorem Xz (hE:XE.Ok D E P) (hR:RSound D E P R) {o:Oper} {K:KV} (h:zop E R fz t H o.op K=some r):RW P E.G ro N o t H (λv H'=>K v H'=some r):=by
 unfold zop at h
 split at h
 ·rename_i c ho;exact A3Y hE hR ho h
 ·rename_i ho;exact FN hE hR (by rw[ho];exact h)
 ·rename_i ho;exact FN hE hR (by rw[ho];exact h)
 ·rename_i ho;exact FN hE hR (by rw[ho];exact h)
 ·rename_i ho;exact FN hE hR (by rw[ho];exact h)
 ·rename_i ho;exact FN hE hR (by rw[ho];exact h)
 ·rename_i ho;exact FN hE hR (by rw[ho];exact h)
 ·rename_i ho;exact FN hE hR (by rw[ho];exact h)
 ·rename_i ho;exact FN hE hR (by rw[ho];exact h)
 ·rename_i ho;exact FN hE hR (by rw[ho];exact h)
 ·rename_i ho;exact FN hE hR (by rw[ho];exact h)
 ·rename_i ho;exact FN hE hR (by rw[ho];exact h)
 ·rename_i ho;exact B0r hE hR ho h
 ·rename_i ho
  cases fz
  ·exact FN hE hR (by rw[ho];exact h)
  ·exact RW.mono (Qo (K:= λv=>K v H) hE hR (by rw[ho];exact h)) (by rintro _ _ ⟨rfl,h⟩;exact h)
 ·exact RW.mono (Qo hE hR h) (by rintro _ _ ⟨rfl,h⟩;exact h)
theorem WN {all:List Oper} {o:Oper} {K:Bool→Al} (h:gdK all t o.guard K=some r):(K true=some r∧(Fo all t o= .run∨Fo all t o= .dep true))∨(K false=some r∧(Fo all t o= .skip∨Fo all t o= .dep false)):=by
 unfold gdK at h
 unfold Fo
 split at h
 ·rename_i hg;rw[hg];exact .inl ⟨h,.inl rfl⟩
 ·rename_i j want hg
  rw[hg]
  simp only
  split at h
  ·rename_i p hp
   rw[hp]
   simp only
   split at h
   ·rename_i d hd
    rw[hd]
    rw[SP] at h
    simp only
    unfold gdV at h
    split at h
    ·rename_i b hb
     rw[hb]
     simp only[Rh]
     cases want<;>cases b
     ·exact .inl ⟨h,.inr rfl⟩
     ·exact .inr ⟨h,.inr rfl⟩
     ·exact .inr ⟨h,.inr rfl⟩
     ·exact .inl ⟨h,.inr rfl⟩
    ·cases h
    ·rename_i h1 h2
     refine .inr ⟨h,.inl ?_⟩
     have:Rh (FO t d)= .skip:=by
      unfold Rh
      split
      ·rename_i b hb;exact absurd hb (h1 b)
      ·rename_i hb;exact absurd hb h2
      ·rfl
     rw[this]
   ·rename_i hd;rw[hd];exact .inr ⟨h,.inl rfl⟩
  ·rename_i hp;rw[hp];exact .inr ⟨h,.inl rfl⟩
theorem Y1 {d:Option Tmp} {K:Al} (h:A6Y N d K=some r):dok N d∧K=some r:=by
 unfold A6Y at h
 split at h
 ·obtain⟨h1,h2⟩:=Br h
  rw[Uk] at h1
  exact⟨h1,h2⟩
 ·exact⟨trivial,h⟩
theorem RP {a:Al} {K:KV} (h:DW a K=some r):∃v H',a=some (v,H')∧K v H'=some r:=by
 unfold DW at h
 split at h
 ·exact⟨_,_,rfl,h⟩
 ·cases h
theorem Qp {d:Option Tmp} {v:AV} {K:Tm→Al}:NY t d v K=K (OU t d v):=by cases d<;>rfl
theorem A7n (hE:XE.Ok D E P) (hR:RSound D E P R) {all:List Oper}:∀(l:List Oper) (t:Tm) (H:Hp) (K:Tm→Hp→Al),A7o E R fz N all l t H K=some r→
 A5i P E.G ro m N all.toArray l (λe t' H'=>e= .normal∧K t' H'=some r) t H:=by
 intro l
 induction l with
 |nil=>intro t H K h;exact B56 ⟨rfl,h⟩
 |cons o l ih=>
  intro t H K h
  have h:A6Y N o.dst (B1i o.guard (zop E R fz t H o.op λv H'=>NY t o.dst v λt'=>A7o E R fz N all l t' H' K)
   (DW (gdK all t o.guard λg=>@Bool.rec (λ_=>Al) (some (.v undef,H)) (zop E R fz t H o.op λv H'=>some (v,H')) g) λv H'=>NY t o.dst v λt'=>A7o E R fz N all l t' H' K))=some r:=h
  obtain⟨hd,h⟩:=Y1 h
  intro w0 s0 C a w s
  have hg:=A2c s.tmps all o
  cases hgd:o.guard with
  |none=>
   have hrun:Fo all t o= .run:=by unfold Fo;rw[hgd]
   rw[hgd] at h
   have h:(zop E R fz t H o.op λv H'=>NY t o.dst v λt'=>A7o E R fz N all l t' H' K)=some r:=h
   refine A76 hd s (hg.1 hrun) (RW.mono (Xz hE hR h) λv H' hk=> ?_)
   rw[Qp] at hk
   exact ih _ _ _ hk
  |some gg=>
   rw[hgd] at h
   have h:(DW (gdK all t (some gg) λg=>@Bool.rec (λ_=>Al) (some (.v undef,H)) (zop E R fz t H o.op λv H'=>some (v,H')) g) λv H'=>NY t o.dst v λt'=>A7o E R fz N all l t' H' K)=some r:=h
   rw[←hgd] at h
   obtain⟨v,H1,h3,h4⟩:=RP h
   rw[Qp] at h4
   rcases WN h3 with⟨h1,h2⟩|⟨h1,h2⟩
   ·have hw:Region.wanted o (yielded all.toArray a.tmps)=true:=by
     rcases h2 with h2|h2
     ·exact hg.1 h2
     ·exact hg.2.2 _ h2
    refine A76 hd s hw (RW.mono (Xz hE hR h1) λv' H' hk=> ?_)
    injection hk with hk;injection hk with hk1 hk2
    subst hk1 hk2
    exact ih _ _ _ h4
   ·have hw:Region.wanted o (yielded all.toArray a.tmps)=false:=by
     rcases h2 with h2|h2
     ·exact hg.2.1 h2
     ·exact hg.2.2 _ h2
    have h1:some (AV.v undef,H)=some (v,H1):=h1
    injection h1 with h1;injection h1 with h7 h8
    subst h7 h8
    exact B1S hd s hw (ih _ _ _ h4)
end
abbrev B0j:=Cf→Nat→List Oper→Tm→Hp→(Tm→Hp→Al)→Al
def A3c (e:Exit) (t:Tm) (H:Hp) (k:Tm→Hp→Al) (K:KQ):Al:=(λ(_:Unit)=>match e with| .normal=>k t H|e=>K e t H) Gx
def A98 (id:Nat) (e:Exit) (t:Tm) (H:Hp) (K:KQ):Al:=(λ(_:Unit)=>match e with| .exit i=>@Bool.rec (λ_=>Al) (K (.exit i) t H) (K .normal t H) (Nat.beq i id)|e=>K e t H) Gx
def Av (v:AV) (x y:Al):Al:=match v with| .v (.bool true)=>x| .v (.bool false)=>y|_=>none
def Vh (lv:List Nat) (t:Tm):(Tm→Al)→Al:=@List.rec Nat (λ_=>(Tm→Al)→Al) (λK=>K []) (λu _ ih K=>gtm t u λv=>ih λl=>K ((u,v)::l)) lv
def Cur (lv:List Nat):Type:=@List.rec Nat (λ_=>Type) (Hp→Al) (λ_ _ ih=>AV→ih) lv
def B4S (lv:List Nat):(Tm→Hp→Al)→Cur lv:=
 @List.rec Nat (λlv=>(Tm→Hp→Al)→Cur lv) (λF H=>F [] H) (λu _ ih F v=>ih λt H=>F ((u,v)::t) H) lv
def B4R (lv:List Nat):Cur lv→Tm→Hp→Al:=
 @List.rec Nat (λlv=>Cur lv→Tm→Hp→Al) (λc _ H=>c H) (λu _ ih c t H=>gtm t u λv=>ih (c v) t H) lv
def WJ (lv:List Nat) (t:Tm):Tm:=lv.map λu=>(u,FO t u)
theorem A3P (lv:List Nat):∀(F:Tm→Hp→Al) (t:Tm) (H:Hp),B4R lv (B4S lv F) t H=F (WJ lv t) H:=by
 induction lv with
 |nil=>intro F t H;rfl
 |cons u lv ih=>
  intro F t H
  have e:B4R (u::lv) (B4S (u::lv) F) t H=gtm t u λv=>B4R lv (B4S lv λt H=>F ((u,v)::t) H) t H:=rfl
  rw[e,SP,ih];rfl
def B8U (lv:List Nat) (body:Tm→Hp→KQ→Al) (K:KQ) (n:Nat):Cur lv:=
 @Nat.rec (λ_=>Cur lv) (B4S lv λ_ _=>none) (λ_ ih=>B4S lv λt H=>body t H λe t1 H1=>A3c e t1 H1 (λt H=>B4R lv ih t H) K) n
def A34 (lv:List Nat) (body:Tm→Hp→KQ→Al) (K:KQ) (n:Nat) (t:Tm) (H:Hp):Al:=B4R lv (B8U lv body K n) t H
theorem A7p (lv:List Nat) (body:Tm→Hp→KQ→Al) (K:KQ) (t:Tm) (H:Hp):A34 lv body K 0 t H=none:=A3P lv _ t H
theorem A7q (lv:List Nat) (body:Tm→Hp→KQ→Al) (K:KQ) (n:Nat) (t:Tm) (H:Hp):A34 lv body K (n+1) t H=body (WJ lv t) H λe t1 H1=>A3c e t1 H1 (A34 lv body K n) K:=A3P lv _ t H
theorem A7R (lv:List Nat) (t:Tm) (u:Nat):FO (WJ lv t) u=FO t u∨FO (WJ lv t) u= .dk:=by
 induction lv with
 |nil=>exact .inr rfl
 |cons v lv ih=>
  have e:FO (WJ (v::lv) t) u=if u=v then FO t v else FO (WJ lv t) u:=rfl
  rw[e]
  split
  ·rename_i h;subst h;exact .inl rfl
  ·exact ih
def B8r (p:Option (Option Code)) (t:Tm) (H:Hp) (K:KQ):Al:=
 match p with
 |some none=>K .normal t H
 |some (some .ret)=>K .ret t H
 |some (some (.exit id))=>K (.exit id) t H
 |some (some (.goto l))=>K (.goto l) t H
 |_=>none
def A7m (E:XE) (R:Rt) (cf:Cf) (g:Operand) (ps:Array Tmp) (aZ bd:Code) (t:Tm) (H:Hp) (K:KQ):Al:=
 @Bool.rec (λ_=>Al) (Vh cf.lv t λt=>Iq E t g λf=>match f with
  | .fn (.func g) first cap=>HE H λs=>Ur first (.yl s::cap) λall=>R.call g all ((s,.loop cf.n t ps aZ bd (some none))::H) λ_ H2=>Kj H2 s λx=>Vl x λ_ _ _ _ _ pend=>Og H2 s .gone λH3=>B8r pend t H3 K
  |_=>none) none cf.b
def A6z (e:Exit) (t:Tm) (H:Hp) (k:Nat→Tm→Hp→Al) (K:KQ):Al:=(λ(_:Unit)=>match e with| .goto l=>k l t H|e=>K e t H) Gx
def A9l (run:A5d) (cf:Cf) (c:Code) (K:KQ) (n:Nat):Nat→Tm→Hp→Al:=
 @Nat.rec (λ_=>Nat→Tm→Hp→Al) (λ_ _ _=>none) (λ_ ih l t H=>match findLabel c l with
  |some rest=>run cf rest t H λe t H=>A6z e t H ih K
  |none=>none) n
def VY (E:XE) (R:Rt) (Z:B0j) (cf:Cf) (c:Code):Tm→Hp→KQ→Al:=
 @Code.rec (λ_=>Tm→Hp→KQ→Al)
  (λt H K=>K .normal t H)
  (λid ops draw t H K=>@Bool.rec (λ_=>Al) (A7o E R cf.fz cf.n ops.toList ops.toList t H λt H=>K .normal t H) (Z cf id ops.toList t H λt H=>K .normal t H) draw)
  (λ_ _ iha ihb t H K=>iha t H λe t H=>A3c e t H (λt H=>ihb t H K) K)
  (λx _ _ iha ihb t H K=>Iq E t x λv=>Av v (iha t H K) (ihb t H K))
  (λid _ ih t H K=>ih t H λe t H=>A98 id e t H K)
  (λ_ ih t H K=>A34 cf.lv ih K E.lf t H)
  (λg ps aZ bd _ _ t H K=>A7m E R cf g ps aZ bd t H K)
  (λid t H K=>K (.exit id) t H)
  (λc ih t H K=>@Bool.rec (λ_=>Al) (ih t H λe t H=>A6z e t H (A9l R.run cf c K E.lf) K) none cf.b)
  (λ_ t H K=>K .normal t H)
  (λl t H K=>K (.goto l) t H)
  (λt H K=>K .ret t H)
  (λ_ _ _ _=>none) c
section
variable {D:XE→Cf→Nat→List Oper→Bool} {E:XE} {P:Program} {R:Rt} {Z:B0j} {r:AV×Hp} {ro:Option Nat} {m:Nat}
def A9k (D:XE→Cf→Nat→List Oper→Bool) (E:XE) (P:Program) (Z:B0j):Prop:=
 ∀(ro:Option Nat) (cf:Cf) (id:Nat) (ops:List Oper) (t:Tm) (H:Hp) (K:Tm→Hp→Al) (r:AV×Hp) (m:Nat),(cf.b=false→D E cf id ops=true)→Z cf id ops t H K=some r→
  Qn P E.G ro m cf.n (.region id ops.toArray true) (λe t' H'=>e= .normal∧K t' H'=some r) t H
theorem A0z {e:Exit} {t:Tm} {H:Hp} {k:Tm→Hp→Al} {K:KQ} (h:A3c e t H k K=some r):(e= .normal∧k t H=some r)∨(e≠.normal∧K e t H=some r):=by
 unfold A3c at h
 split at h
 ·exact .inl ⟨rfl,h⟩
 ·rename_i hne;exact .inr ⟨hne,h⟩
theorem Qn.congr {G:Gl} {N:Nat} {c:Code} {Q:Exit→Tm→Hp→Prop} {t t':Tm} {H:Hp} (hc:∀u,FO t' u=FO t u∨FO t' u= .dk) (h:Qn P G ro m N c Q t' H):Qn P G ro m N c Q t H:=
 λw0 s0 C a w s=>h w0 s0 C a w (s.congr hc)
theorem YU.congr {G:Gl} {N:Nat} {c:Code} {Q:Exit→Tm→Hp→Prop} {t t':Tm} {H:Hp} (hc:∀u,FO t' u=FO t u∨FO t' u= .dk) (h:YU P G ro m N c Q t' H):YU P G ro m N c Q t H:=
 λw0 s0 C a w s=>h w0 s0 C a w (s.congr hc)
theorem A7r {t:Tm}:∀(lv:List Nat) (K:Tm→Al),Vh lv t K=some r→∃t',K t'=some r∧∀u,FO t' u=FO t u∨FO t' u= .dk:=by
 intro lv
 induction lv with
 |nil=>intro K h;exact⟨[],h,λu=> .inr rfl⟩
 |cons v lv ih=>
  intro K h
  have h:(gtm t v λx=>Vh lv t λl=>K ((v,x)::l))=some r:=h
  rw[SP] at h
  obtain⟨t',h1,h2⟩:=ih _ h
  refine⟨_,h1,λu=> ?_⟩
  simp only[FO]
  split
  ·rename_i hu;rw[hu];exact .inl rfl
  ·exact h2 u
theorem A5q {G:Gl} {N:Nat} {lv:List Nat} {c:Code} {body:Tm→Hp→KQ→Al} (hb:∀t H (K:KQ),body t H K=some r→Qn P G ro m N c (λe t' H'=>K e t' H'=some r) t H) {K:KQ}:∀(n:Nat) (t:Tm) (H:Hp),A34 lv body K n t H=some r→
 YU P G ro m N c (λe t' H'=>K e t' H'=some r) t H:=by
 intro n
 induction n with
 |zero=>intro t H h;rw[A7p] at h;cases h
 |succ n ih=>
  intro t H h
  rw[A7q] at h
  refine YU.congr (A7R lv t) (A9i (Qn.mono (hb _ _ _ h) λe t1 H1 hq=> ?_))
  rcases A0z hq with⟨rfl,h⟩|⟨hne,h⟩
  ·exact ih _ _ h
  ·cases e with
   |normal=>exact absurd rfl hne
   |_=>exact h
theorem A3V (hE:XE.Ok D E P) (hR:RSound D E P R) {cf:Cf} (hro:ro≠none→cf.b=true) {g:Operand} {ps:Array Tmp} {aZ bd:Code} {t:Tm} {H:Hp} {K:KQ} (h:A7m E R cf g ps aZ bd t H K=some r):Qn P E.G ro m cf.n (.rangeFunc g ps aZ bd) (λe t' H'=>K e t' H'=some r) t H:=by
 unfold A7m at h
 cases hb:cf.b
 ·rw[hb] at h
  have hn:ro=none:=by
   cases ro with
   |none=>rfl
   |some b=>have:=hro (by simp);rw[hb] at this;cases this
  subst hn
  obtain⟨t',h,hc⟩:=A7r _ _ h
  refine Qn.congr hc ?_
  have h:=AS hE h
  split at h
  ·rename_i f first cap hf
   rw[BX,K4] at h
   obtain⟨⟨fn,h1,h2,h3⟩,hcall⟩:=hR.call _ _ _ _ _ h
   have e:first++AV.yl (A6 H)::cap=first++[.yl (A6 H)]++cap:=by simp
   rw[e] at hcall
   refine A9d hf h1 h2 h3 ?_
   intro w0 C w ys hr ha
   refine(hcall w0 C w ys hr ha).mono ?_
   rintro e w' ⟨v,y,C',H',he,hr',hv,hx,hk⟩
   refine⟨v,y,C',H',he,hr',hv,hx,?_⟩
   obtain⟨x,hl,hk2⟩:=G9 rfl hk
   obtain⟨N',t2,ps',as',bd',pend,rfl,hk3⟩:=VF hk2
   rw[D8] at hk3
   unfold B8r at hk3
   split at hk3
   ·exact⟨_,_,_,_,_,_,hl,hk3⟩
   ·exact⟨_,_,_,_,_,_,hl,hk3⟩
   ·exact⟨_,_,_,_,_,_,hl,hk3⟩
   ·exact⟨_,_,_,_,_,_,hl,hk3⟩
   ·cases hk3
  ·cases h
 ·rw[hb] at h;cases h
theorem B1J {D:Nat→List Oper→Bool}:∀(c:Code) (l:Nat) (rest:Code),PU D c=true→findLabel c l=some rest→PU D rest=true:=by
 intro c
 induction c with
 |seq a b iha ihb=>
  intro l rest hd h
  simp only[PU,Jp] at hd
  unfold findLabel at h
  split at h
  ·rename_i r0 hr0
   injection h with h
   subst h
   simp only[PU,Jp]
   exact⟨iha _ _ hd.1 hr0,hd.2⟩
  ·exact ihb _ _ hd.2 h
 |label l'=>
  intro l rest hd h
  unfold findLabel at h
  split at h
  ·injection h with h;subst h;rfl
  ·cases h
 |_=>intro l rest hd h;simp[findLabel] at h
theorem A6y {e:Exit} {t:Tm} {H:Hp} {k:Nat→Tm→Hp→Al} {K:KQ} (hne:∀l,e≠.goto l) (h:A6z e t H k K=some r):K e t H=some r:=by
 cases e with
 |goto l=>exact absurd rfl (hne l)
 |_=>exact h
theorem A5s (hR:RSound D E P R) {cf:Cf} {c:Code} (hd:PU (D E cf) c=true) {K:KQ}:∀(n l:Nat) (t:Tm) (H:Hp),A9l R.run cf c K n l t H=some r→
 ∃rest,findLabel c l=some rest∧A5h P E.G m cf.n c rest (λe t' H'=>K e t' H'=some r) t H:=by
 intro n
 induction n with
 |zero=>intro l t H h;cases h
 |succ n ih=>
  intro l t H h
  have h:(match findLabel c l with
   |some rest=>R.run cf rest t H λe t H=>A6z e t H (A9l R.run cf c K n) K
   |none=>none)=some r:=h
  split at h
  ·rename_i rest hf
   refine⟨rest,hf,A3Q (λl t H hq=>ih l t H hq) (λe t H hne hq=>A6y hne hq) (hR.run none cf rest t H _ r m (λh=>absurd rfl h) (λ_=>B1J _ _ _ hd hf) h)⟩
  ·cases h
theorem A5u (hE:XE.Ok D E P) (hR:RSound D E P R) (hZ:A9k D E P Z) {cf:Cf} (hro:ro≠none→cf.b=true):∀(c:Code) (t:Tm) (H:Hp) (K:KQ),(cf.b=false→PU (D E cf) c=true)→VY E R Z cf c t H K=some r→
 Qn P E.G ro m cf.n c (λe t' H'=>K e t' H'=some r) t H:=by
 intro c
 induction c with
 |skip=>intro t H K _ h;exact B4Y h
 |region id ops draw=>
  intro t H K hd h
  have h:@Bool.rec (λ_=>Al) (A7o E R cf.fz cf.n ops.toList ops.toList t H λt H=>K .normal t H) (Z cf id ops.toList t H λt H=>K .normal t H) draw=some r:=h
  have e:ops=ops.toList.toArray:=by simp
  cases draw
  ·rw[e]
   exact Qn.mono (A9c (A7n hE hR _ _ _ _ h)) (by rintro _ _ _ ⟨rfl,h⟩;exact h)
  ·rw[e]
   exact Qn.mono (hZ ro cf id ops.toList t H _ r m hd h) (by rintro _ _ _ ⟨rfl,h⟩;exact h)
 |seq x y ihx ihy=>
  intro t H K hd h
  have h:(VY E R Z cf x t H λe t H=>A3c e t H (λt H=>VY E R Z cf y t H K) K)=some r:=h
  have hd':cf.b=false→PU (D E cf) x=true∧PU (D E cf) y=true:= λhb=>by simpa [PU] using hd hb
  refine B86 (Qn.mono (ihx t H _ (λhb=>(hd' hb).1) h) λe t1 H1 hq=> ?_)
  rcases A0z hq with⟨rfl,h⟩|⟨hne,h⟩
  ·exact ihy _ _ _ (λhb=>(hd' hb).2) h
  ·cases e with
   |normal=>exact absurd rfl hne
   |_=>exact h
 |cond x a b iha ihb=>
  intro t H K hd h
  have h:(Iq E t x λv=>Av v (VY E R Z cf a t H K) (VY E R Z cf b t H K))=some r:=h
  have hd':cf.b=false→PU (D E cf) a=true∧PU (D E cf) b=true:= λhb=>by simpa [PU] using hd hb
  have h:=AS hE h
  unfold Av at h
  split at h
  ·rename_i hv
   exact A75 hv (λ_=>iha _ _ _ (λhb=>(hd' hb).1) h) (λhb=>by cases hb)
  ·rename_i hv
   exact A75 hv (λhb=>by cases hb) (λ_=>ihb _ _ _ (λhb=>(hd' hb).2) h)
  ·cases h
 |block id x ih=>
  intro t H K hd h
  have h:(VY E R Z cf x t H λe t H=>A98 id e t H K)=some r:=h
  refine B1R (Qn.mono (ih t H _ hd h) λe t1 H1 hq=> ?_)
  unfold A98 at hq
  cases e with
  |exit i=>
   simp only at hq
   simp only[A89]
   cases hi:Nat.beq i id
   ·rw[hi] at hq
    rw[if_neg (λe=>by rw[e,l29] at hi;cases hi)]
    exact hq
   ·rw[hi] at hq
    rw[if_pos (Vm hi)]
    exact hq
  |_=>exact hq
 |loop x ih=>
  intro t H K hd h
  have h:A34 cf.lv (λt H K=>VY E R Z cf x t H K) K E.lf t H=some r:=h
  exact A73 (A5q (λt H K h=>ih t H K hd h) _ _ _ h)
 |rangeFunc g ps aZ bd _ _=>
  intro t H K _ h
  exact A3V hE hR hro h
 |exit id=>intro t H K _ h;exact B50 h
 |scope x ih=>
  intro t H K hd h
  have h:@Bool.rec (λ_=>Al) (VY E R Z cf x t H λe t H=>A6z e t H (A9l R.run cf x K E.lf) K) none cf.b=some r:=h
  cases hb:cf.b
  ·rw[hb] at h
   have hn:ro=none:=by
    cases ro with
    |none=>rfl
    |some b=>have:=hro (by simp);rw[hb] at this;cases this
   subst hn
   have hdx:PU (D E cf) x=true:=hd hb
   exact B1P (A3Q (λl t H hq=>A5s hR hdx _ _ _ _ hq) (λe t H hne hq=>A6y hne hq) (ih t H _ hd h))
  ·rw[hb] at h;cases h
 |label l=>intro t H K _ h;exact B1Q h
 |goto l=>intro t H K _ h;exact B4Z h
 |ret=>intro t H K _ h;exact B87 h
 |refuse s=>intro t H K _ h;cases h
end
end Go.Abs
end
