import Derived.Test.YtlbhdmbfdcohhaaGreatDoorP08
set_option linter.all false
set_option maxHeartbeats 100000000
noncomputable section
namespace Go.Abs
open Go.RowKit
def C0c (r:Nat) (K:AV→Hp→Prop):Exit→Tm→Hp→Prop
 | .normal,_,H=>∃N t ps aZ bd,Aw H r=some (.loop N t ps aZ bd none)∧K (.v (.bool true)) (upd H r (.loop N t ps aZ bd (some none)))
 | .ret,_,H=>∃N t ps aZ bd,Aw H r=some (.loop N t ps aZ bd none)∧K (.v (.bool false)) (upd H r (.loop N t ps aZ bd (some (some .ret))))
 | .exit id,_,H=>∃N t ps aZ bd,Aw H r=some (.loop N t ps aZ bd none)∧K (.v (.bool false)) (upd H r (.loop N t ps aZ bd (some (some (.exit id)))))
 | .goto l,_,H=>∃N t ps aZ bd,Aw H r=some (.loop N t ps aZ bd none)∧K (.v (.bool false)) (upd H r (.loop N t ps aZ bd (some (some (.goto l)))))
 |_,_,_=>False
section
variable {P:Program} {G:Gl} {ro:Option Nat} {N:Nat} {t:Tm} {H:Hp}
theorem A8l {o:Oper} {c:Call} {fv:Operand} {r:Nat} {K:AV→Hp→Prop} (hop:o.op= .call c) (hcal:c.callee= .value fv) (hf:J0 G t fv= .yl r) {N':Nat} {t':Tm} {ps:Array Tmp} {aZ bd:Code} {args:List AV} (hargs:c.args.toList.map (J0 G t)=args)
 (hl:Aw H r=some (.loop N' t' ps aZ bd (some none))) (hps:ps.size=args.length) (hpN:∀p∈ps.toList,p<N')
 (h:∀b,Pj P G (some b) (A7 H) N' aZ (B2G (λt1 H1=>∃N1 t1' ps1 as1 bd1,Aw H1 r=some (.loop N1 t1' ps1 as1 bd1 (some none))∧Pj P G (some b) (A7 H) N' bd (C0c r K) t1 (upd H1 r (.loop N1 t1' ps1 as1 bd1 none))) (λ_ _ _=>False)) (A2l t' ps.toList args) H):Rg P G ro N o t H K:=by
 intro w0 s0 C a w Q s
 have hv:=AQ s fv
 rw[hf] at hv
 generalize hy:a.eval fv=y at hv
 cases hv with
 |yl hp=>
 rename_i b base
 obtain⟨b',l,h1,h2,h3,h4,h5,h6,h7,h8,h9⟩:=s.rel.rows r _ hl
 have e:=h1.symm.trans hp
 injection e with e;injection e with e;injection e with e1 e2;subst e1 e2
 have hrn:r<A7 H:=A2C s.rel (by rw[hp];simp)
 have hall:=A1h s c.args.toList
 rw[hargs] at hall
 have hsize:(c.args.map a.eval).size=l.params.size:=by
  have:=hall.1
  simp at this
  simp[h6,hps,this]
 refine⟨λf _=>trivial,?_⟩
 rw[Oper.semAt_eq _ _ _ (by rw[hop];intro c hc;cases hc)]
 have hrun:(execOp a.eval o).run P w= .ok (.round b' l.fn ((l.params.zip (c.args.map a.eval)).foldl (λtmps (t,a)=>tmps.setIfInBounds t a) l.tmps) l.assign l.body) w:=by
  simp only[execOp,hop,resolve,hcal,hy,Deferred.ofValue,Cp,Xv,Ek,invoke]
  have:=run_yield (P:=P) (w:=w) (args:= #[]++c.args.map a.eval) h2 (by simpa using hsize)
  simpa using this
 rw[hrun]
 refine⟨λhd=>by simp[A1m] at hd,?_⟩
 have ht:=A9Y (C:=C) (w:=w) l.params.toList args (c.args.toList.map a.eval) t' l.tmps (λp hp=>by rw[h5];exact hpN p (h6▸hp)) hall h9
 have hz':(l.params.zip (c.args.map a.eval)).foldl (λtmps (x:Tmp×Value)=>match x with|(t,a)=>tmps.setIfInBounds t a) l.tmps=(l.params.toList.zip (c.args.toList.map a.eval)).foldl (λt (p:Tmp×Value)=>t.setIfInBounds p.1 p.2) l.tmps:=by
  have hz:(l.params.zip (c.args.map a.eval)).foldl (λtmps (p:Tmp×Value)=>tmps.setIfInBounds p.1 p.2) l.tmps=(l.params.toList.zip (c.args.toList.map a.eval)).foldl (λt (p:Tmp×Value)=>t.setIfInBounds p.1 p.2) l.tmps:=by
   rw[←Array.foldl_toList];simp
  exact hz
 refine roundIn_of_wpIn trivial ?_
 rw[hz',h7,h8]
 have st0:St G w0 0 C N' (A2l t' ps.toList args) H {tmps:=(l.params.toList.zip (c.args.toList.map a.eval)).foldl (λt (p:Tmp×Value)=>t.setIfInBounds p.1 p.2) l.tmps,defers:=[]} w:=
  ⟨s.rel,by rw[ht.2];exact h5,by rw[←h6];exact ht.1,.nil,l1c _⟩
 refine wpIn_mono (h b' w0 0 C _ w st0) ?_
 rintro e a1 w1 ⟨C1,t1,H1,s1,x1,q1⟩
 cases e with
 |normal=>
  obtain⟨N1,t1',ps1,as1,bd1,hl1,hbody⟩:=q1
  have hp1:C1.π r=some (some (b',0)):=(x1.π r hrn (by rw[hp];simp)).trans hp
  obtain⟨l1,g1,g2,g3,g4,g5,g6,g7,g8,hset⟩:=s1.rel.set_loop (pend':=none) (O:=w0.own) hl1 hp1
  obtain⟨hr2,e2⟩:=hset {l1 with state:= .busy} rfl (by rw[g3];rfl) rfl rfl rfl rfl
  refine⟨_,run_beginRound g1 g2,?_⟩
  have st2:St G w0 0 C1 N' t1 (upd H1 r (.loop N1 t1' ps1 as1 bd1 none)) a1 (w1.putObj b' (.loop {l1 with state:= .busy})):=⟨hr2,s1.size,s1.tmps.mono e2,s1.defers.mono e2.B e2.keepB,l1c _⟩
  refine wpIn_mono (hbody w0 0 C1 a1 _ st2) ?_
  rintro e a3 w3 ⟨C3,t3,H3,s3,x3,q3⟩
  have hp3:C3.π r=some (some (b',0)):=(x3.π r hrn (by rw[hp1];simp)).trans hp1
  have x13:Frm (A7 H) w0.own C w C3 w3:=(x1.trans e2.frm).trans x3
  have fin:∀jump:Option Code,(∃N t ps aZ bd,Aw H3 r=some (.loop N t ps aZ bd none)∧K (.v (.bool jump.isNone)) (upd H3 r (.loop N t ps aZ bd (some jump))))→
   ∃v w4,(Instr.endRound b' jump).run P w3= .ok v w4∧∃v_1 y C' H',a.put o.dst v=a.put o.dst y∧K v_1 H'∧VRel C' w4 v_1 y∧Rel G w0 C' H' w4∧Ext w0.own C w C' w4:=by
   rintro jump ⟨N3,t3',ps3,as3,bd3,hl3,hK⟩
   obtain⟨l3,k1,k2,k3,k4,k5,k6,k7,k8,hset3⟩:=s3.rel.set_loop (pend':=some jump) (O:=w0.own) hl3 hp3
   obtain⟨hr4,e4⟩:=hset3 {l3 with state:=if jump.isNone then .ready else .done,pending:=jump} (by cases jump<;>rfl) rfl rfl rfl rfl rfl
   exact⟨_,_,run_endRound jump k1,_,_,C3,_,rfl,hK,.v _,hr4,(x13.trans e4.frm).ext_of s.rel⟩
  cases e with
  |normal=>exact fin none q3
  |ret=>exact fin (some .ret) q3
  |exit id=>exact fin (some (.exit id)) q3
  |goto l=>exact fin (some (.goto l)) q3
  |panic ch=>exact q3.elim
  |outgrown=>exact q3.elim
 |_=>exact q1.elim
theorem A8i {m:Nat} {Q:Exit→Tm→Hp→Prop} {g:Operand} {ps:Array Tmp} {aZ bd:Code} {f:FuncId} {first cap:List AV} (hg:J0 G t g= .fn (.func f) first cap) {fn:Func} (hfn:P.funcs[f]?=some fn) (hbody:fn.body.isNone=false) (hname:(fn.name== "runtime.NumGoroutine")=false)
 (h:Qt P G f (first++[.yl (A7 H)]++cap) ((A7 H,.loop N t ps aZ bd (some none))::H) (λ_ H2=>∃N' t' ps' as' bd' pend,Aw H2 (A7 H)=some (.loop N' t' ps' as' bd' (some pend))∧C0f Q t (cut H2 (A7 H)) pend)):Pj P G none m N (.rangeFunc g ps aZ bd) Q t H:=by
 intro w0 s0 C a w s
 refine wpIn_rangeFunc ?_
 intro fnid _
 have hv:=AQ s g
 rw[hg] at hv
 obtain⟨ys,zs,he,hys,hzs⟩:=Gz.1 hv
 have hbD:=K1 w (.deferred (some []))
 have hszD:(w.alloc (.deferred (some []))).heap.size=w.heap.size+1:=World.size_alloc _ _
 have rD:Rel G w0 C H (w.alloc (.deferred (some []))):=s.rel.of_below hbD
 have hDnew:(w.alloc (.deferred (some []))).heap[w.heap.size]?=some (.deferred (some [])):=World.alloc_heap_new w _
 obtain⟨rD',eD'⟩:=rD.addB (b:=w.heap.size) (by rw[hszD];omega) (.inl s.rel.below.size) (λr x o hx hp=>l1g _ ((s.rel.rows r x hx).block (Ew hx) hp))
 have eD:Ext w0.own C w (C.addB w.heap.size) (w.alloc (.deferred (some []))):=(s.rel.ext_below hbD).trans eD'
 obtain⟨lp,hlp⟩:∃lp:Loop,lp={state:= .ready,pending:=none,fn:=fnid,tmps:=a.tmps,params:=ps,assign:=aZ,body:=bd,defers:=w.heap.size}:=⟨_,rfl⟩
 have hbL:=K1 (w.alloc (.deferred (some []))) (.loop lp)
 have eL:Ext w0.own (C.addB w.heap.size) (w.alloc (.deferred (some []))) ((C.addB w.heap.size).put (A7 H) (some ((w.alloc (.deferred (some []))).heap.size,0))) ((w.alloc (.deferred (some []))).alloc (.loop lp)):=rD'.new_ext hbL
 have hLnew:((w.alloc (.deferred (some []))).alloc (.loop lp)).heap[(w.alloc (.deferred (some []))).heap.size]?=some (.loop lp):=World.alloc_heap_new _ _
 have e1:=eD.trans eL
 have r1:=rD'.new_row (x:= .loop N t ps aZ bd (some none)) hbL ⟨_,lp,Ctx.put_n _ _ _,hLnew,by rw[hlp];rfl,by rw[hlp];rfl,by rw[hlp];exact s.size,by rw[hlp],by rw[hlp],by rw[hlp],(show lp.tmps=a.tmps by rw[hlp])▸s.tmps.mono e1⟩
 generalize hC1:(C.addB w.heap.size).put (A7 H) (some ((w.alloc (.deferred (some []))).heap.size,0))=C1 at r1 e1
 generalize hW1:(w.alloc (.deferred (some []))).alloc (.loop lp)=W1 at r1 e1 hLnew
 have hpi:C1.π (A7 H)=some (some (w.heap.size+1,0)):=by rw[←hC1,Ctx.put_n,hszD]
 have hB1:C1.B w.heap.size:=by rw[←hC1];exact .inr rfl
 have hD1:W1.heap[w.heap.size]?=some (.deferred (some [])):=by
  rw[←hW1];exact(hbL.block _ (by rw[hszD];omega)).trans hDnew
 have hall:BV C1 W1 (first++[.yl (A7 H)]++cap) (ys++[.func (.yield (w.heap.size+1)) #[] #[]]++zs):=((hys.mono e1).append (.cons (.yl hpi) .nil)).append (hzs.mono e1)
 have hcall:=h w0 C1 W1 _ r1 hall
 refine⟨w.heap.size+1,[{target:= .collected w.heap.size,args:= #[]}],W1,{target:= .fn (.func f) zs.toArray,args:=ys.toArray++ #[Value.func (.yield (w.heap.size+1)) #[] #[]]},W1,f,(ys++[Value.func (.yield (w.heap.size+1)) #[] #[]]++zs).toArray,W1,?_,?_,λ_ _=>trivial,?_,λhd=>by simp[A1m] at hd,?_⟩
 ·rw[←hW1,hlp];exact run_enterLoop_outer _ _ _ _ _
 ·simp only[resolve,rangeCall,he,Deferred.ofValue,Xv]
  simp[Act.eval]
 ·simp only[invoke,callFunc,Cp,run_program,Ek,hfn,hname,hbody,l0z,if_false,Xv]
  congr 2
  apply Zc
  simp
 ·refine CallsIn.mono (callsIn_wide.2 hcall) ?_
  rintro e w2 ⟨v,y,C2,H2,rfl,r2,hv2,x2,N',t',ps',as',bd',pend,hl2,hq⟩
  have ex2:Ext w0.own C1 W1 C2 w2:=x2.ext_of r1
  have hp2:C2.π (A7 H)=some (some (w.heap.size+1,0)):=ex2.at hpi
  obtain⟨b',l2,k1,k2,k3,k4,_⟩:=r2.rows (A7 H) _ hl2
  have e':=k1.symm.trans hp2
  injection e' with e';injection e' with e';injection e' with e3 e4;subst e3
  have hlt:=(l1q.1 k2).1
  obtain⟨r3,ex3⟩:=r2.set_obj (O:=w0.own) (y:= .gone) hl2 hp2 (SameObj.putObj hlt (.loop {l2 with state:= .exhausted})) (λarr T fz hc=>by rw[k2] at hc;cases hc) (λ_=>trivial)
  have ex:Ext w0.own C w C2 (w2.putObj (w.heap.size+1) (.loop {l2 with state:= .exhausted})):=(e1.trans ex2).trans ex3
  have ex13:=ex2.trans ex3
  have hbs:DOk w0 s0 C2 (w2.putObj (w.heap.size+1) (.loop {l2 with state:= .exhausted})) (A3K w.heap.size::a.defers):=by
   obtain⟨bs,d1,d2,d3⟩:=s.defers
   refine⟨w.heap.size::bs,List.nodup_cons.2 ⟨λhm=>l1g _ (s.rel.finB _ (d3 _ hm).2.2.1),d1⟩,by rw[d2];rfl,λb hb=> ?_⟩
   rcases XQ.1 hb with rfl|hb
   ·exact⟨s.le,.inl s.rel.below.size,ex13.B _ hB1,(ex13.keepB _ hB1).trans hD1⟩
   ·obtain⟨g1,g2,g3,g4⟩:=d3 b hb
    exact⟨g1,g2,ex.B _ g3,(ex.keepB _ g3).trans g4⟩
  have st:St G w0 s0 C2 N t (cut H2 (A7 H)) {a with defers:=[A3K w.heap.size]++a.defers} (w2.putObj (w.heap.size+1) (.loop {l2 with state:= .exhausted})):=
   ⟨r3,s.size,s.tmps.mono ex,hbs,l1m s.le ex.grow⟩
  refine⟨pend,w2.putObj (w.heap.size+1) (.loop {l2 with state:= .exhausted}),?_,?_⟩
  ·have:=run_endLoop (P:=P) k2 (by rw[k3];cases pend<;>simp[B5l])
   have hj:l2.pending=pend:=by rw[k4];cases pend<;>rfl
   rw[this,hj]
  ·cases pend with
   |none=>exact⟨C2,t,_,st,ex.frm,hq⟩
   |some c=>
    cases c with
    |ret=>exact wpIn_ret ⟨C2,t,_,st,ex.frm,hq⟩
    |exit id=>exact wpIn_exit ⟨C2,t,_,st,ex.frm,hq⟩
    |goto l=>exact wpIn_goto ⟨C2,t,_,st,ex.frm,hq⟩
    |_=>exact hq.elim
end
def Up (x:Row) (K:Nat→Tm→Array Tmp→Code→Code→Option (Option Code)→Am):Am:=match x with| .loop N t ps aZ bd pend=>K N t ps aZ bd pend|_=>none
def Gf (H:Hp) (r:Nat) (ready:Bool) (to:Option (Option Code)) (K:Hp→Am):Am:=
 Lf H r λx=>Up x λN t ps aZ bd pend=>match ready,pend with
  |true,some none=>Qf H r (.loop N t ps aZ bd to) K
  |false,none=>Qf H r (.loop N t ps aZ bd to) K
  |_,_=>none
def A6U (t:Tm) (ps:List Tmp):List AV→(Tm→Am)→Am:=
 @List.rec Tmp (λ_=>Tm→List AV→(Tm→Am)→Am) (λt aZ K=>@List.rec AV (λ_=>Am) (K t) (λ_ _ _=>none) aZ)
  (λp _ ih t aZ K=>@List.rec AV (λ_=>Am) none (λa aZ _=>ih ((p,a)::t) aZ K) aZ) ps t
def A2D (N:Nat) (ps:List Tmp):Bool:=@List.rec Tmp (λ_=>Bool) true (λp _ ih=>@Bool.rec (λ_=>Bool) false ih (Nat.blt p N)) ps
def SM (R:Rt) (r:Nat) (args:List AV) (H:Hp) (K:KV):Am:=
 Lf H r λx=>Up x λN t ps aZ bd pend=>match pend with
  |some none=>ck (A2D N ps.toList) (A6U t ps.toList args λt1=>R.run ⟨true,t1.map (·.1),false,N,[]⟩ aZ t1 H λe t2 H2=>match e with
   | .normal=>Gf H2 r true none λH3=>R.run ⟨true,t1.map (·.1),false,N,[]⟩ bd t2 H3 λe _ H4=>match e with
    | .normal=>Gf H4 r false (some none) λH5=>K (.v (.bool true)) H5
    | .ret=>Gf H4 r false (some (some .ret)) λH5=>K (.v (.bool false)) H5
    | .exit id=>Gf H4 r false (some (some (.exit id))) λH5=>K (.v (.bool false)) H5
    | .goto l=>Gf H4 r false (some (some (.goto l))) λH5=>K (.v (.bool false)) H5
    |_=>none
   |_=>none)
  |_=>none
def B1p (E:XE) (R:Rt) (f:AV) (aZ:List AV) (H:Hp) (K:KV):Am:=
 match f with
 | .fn (.func g) first cap=>ck (E.imp g) (UZ aZ cap λas'=>UZ first as' λall=>R.call g all H K)
 | .yl r=>SM R r aZ H K
 |_=>none
def C2U (i:TI) (K:TypeId→Am):Am:=(λ(_:Unit)=>match i.d with| .pointer e=>K e|_=>none) FV
def SO (E:XE) (R:Rt) (t:Tm) (H:Hp) (c:Call) (K:KV):Am:=
 match c.callee with
 | .value fv=>HH E t fv λf=>Zq E t c.args.toList λaZ=>B1p E R f aZ H K
 | .builtin .append=>match c.args.toList,c.argTypes.toList with
  |[s,x],[t1,t2]=>HH E t s λs=>HH E t x λx=>E.ty.getK t1 λi1=>E.ty.getK t2 λi2=>A3n i1 λe esz=>E.ty.getK e λie=>Ea e esz ie i2 s x H K
  |_,_=>none
 | .builtin .copy=>match c.args.toList,c.argTypes.toList with
  |[s,x],ty::_=>HH E t s λs=>HH E t x λx=>E.ty.getK ty λi=>A3n i λ_ esz=>B0S esz s x H K
  |_,_=>none
 | .builtin .clear=>match c.args.toList,c.argTypes.toList with
  |[s],[ty]=>HH E t s λs=>E.ty.getK ty λi=>A3n i λe esz=>E.ty.getK e λie=>B6R esz ie s H λH'=>K (.tup []) H'
  |_,_=>none
 | .builtin .delete=>match c.args.toList,c.argTypes.toList with
  |[m,k],ty::_=>HH E t m λm=>HH E t k λk=>E.ty.getK ty λi=>A3L i λkt _=>B0o E kt k λkv=>B3J m kv H λH'=>K (.tup []) H'
  |_,_=>none
 | .builtin .unsafeString=>match c.args.toList,c.argTypes.toList with
  |[p,n],[pt,_]=>HH E t p λp=>HH E t n λn=>E.ty.getK pt λi=>C2U i λe=>E.ty.getK e λie=>ckS (Nat.beq ie.size 1) (B0E e p n H K)
  |_,_=>none
 |_=>none
def Vn (E:XE) (R:Rt) (t:Tm) (H:Hp) (o:Op) (K:KV):Am:=
 match o with
 | .store ty x y=>HH E t x λp=>HH E t y λv=>E.ty.getK ty λi=>Cb i p v H λH'=>K (.v undef) H'
 | .alloc ty=>E.ty.getK ty λi=>AI ty i H K
 | .box ty x=>HH E t x λv=>Dg ty v H K
 | .buildSlice ty n parts=>E.ty.getK ty λi=>A3n i λe esz=>E.ty.getK e λie=>WE E t i parts.toList λl=>Fp e esz ie n l H K
 | .call c=>SO E R t H c K
 | .makeSlice ty l c=>HH E t l λl=>HH E t c λc=>E.ty.getK ty λi=>A3n i λe esz=>E.ty.getK e λie=>eMk e esz ie l c H K
 | .makeMap ty none=>E.ty.getK ty λi=>A3L i λ_ et=>E.ty.getK et λie=>Nf ie H K
 | .mapUpdate ty m k v=>HH E t m λm=>HH E t k λk=>HH E t v λv=>E.ty.getK ty λi=>A3L i λkt _=>B0o E kt k λkv=>Wp m kv v H λH'=>K (.v undef) H'
 | .insert ty m k v=>HH E t m λm=>HH E t k λk=>HH E t v λv=>E.ty.getK ty λi=>A3L i λkt _=>B0o E kt k λkv=>Wp m kv v H λH'=>K (.v undef) H'
 | .mapEntry ty m k=>HH E t m λm=>HH E t k λk=>E.ty.getK ty λi=>A3L i λkt et=>B0o E kt k λkv=>E.ty.getK et λie=>A9i ie m kv H K
 | .entryStore _ m st v=>HH E t m λm=>HH E t st λst=>HH E t v λv=>A9g m st v H λH'=>K (.v undef) H'
 | .range ty x=>HH E t x λm=>E.ty.getK ty λi=>A3L i λ_ _=>A7T m H K
 | .next it false=>HH E t it λv=>A7W v H K
 |_=>none
section
variable {D:XE→Cf→Nat→List Oper→Bool} {E:XE} {P:Program} {R:Rt} {t:Tm} {H:Hp} {r:AV×Hp} {ro:Option Nat} {N:Nat}
theorem UR {x:Row} {K:Nat→Tm→Array Tmp→Code→Code→Option (Option Code)→Am} (h:Up x K=some r):∃N t ps aZ bd pend,x= .loop N t ps aZ bd pend∧K N t ps aZ bd pend=some r:=by
 unfold Up at h
 split at h
 ·exact⟨_,_,_,_,_,_,rfl,h⟩
 ·cases h
theorem K8 {s:Nat} {ready:Bool} {to:Option (Option Code)} {K:Hp→Am} (h:Gf H s ready to K=some r):
 ∃N t ps aZ bd,Aw H s=some (.loop N t ps aZ bd (if ready then some none else none))∧K (upd H s (.loop N t ps aZ bd to))=some r:=by
 unfold Gf at h
 obtain⟨x,h1,h2⟩:=GC rfl h
 obtain⟨N,t,ps,aZ,bd,pend,rfl,h3⟩:=UR h2
 clear h h2
 have h:=h3
 clear h3
 split at h
 ·rw[Ez] at h;exact⟨N,t,ps,aZ,bd,h1,h⟩
 ·rw[Ez] at h;exact⟨N,t,ps,aZ,bd,h1,h⟩
 ·cases h
theorem A4N:∀(ps:List Tmp) (t:Tm) (aZ:List AV) (K:Tm→Am),A6U t ps aZ K=some r→ps.length=aZ.length∧K (A2l t ps aZ)=some r:=by
 intro ps
 induction ps with
 |nil=>
  intro t aZ K h
  cases aZ with
  |nil=>exact⟨rfl,h⟩
  |cons a aZ=>cases h
 |cons p ps ih=>
  intro t aZ K h
  cases aZ with
  |nil=>cases h
  |cons a aZ=>
   obtain⟨h1,h2⟩:=ih ((p,a)::t) aZ K h
   exact⟨by simpa using h1,h2⟩
theorem B0j {ps:List Tmp} (h:A2D N ps=true):∀p∈ps,p<N:=by
 induction ps with
 |nil=>intro p hp;simp at hp
 |cons q ps ih=>
  have e:A2D N (q::ps)=@Bool.rec (λ_=>Bool) false (A2D N ps) (Nat.blt q N):=rfl
  rw[e] at h
  cases hq:Nat.blt q N
  ·rw[hq] at h;cases h
  ·rw[hq] at h
   intro p hp
   rcases XQ.1 hp with rfl|hp
   ·rwa[TS] at hq
   ·exact ih h p hp
theorem Vj (hR:RSound D E P R) {o:Oper} {c:Call} {fv:Operand} {s:Nat} {K:KV} (ho:o.op= .call c) (hcal:c.callee= .value fv) (hf:J0 E.G t fv= .yl s) (h:SM R s (c.args.toList.map (J0 E.G t)) H K=some r):Rg P E.G ro N o t H (λv H'=>K v H'=some r):=by
 unfold SM at h
 obtain⟨x,hl,h2⟩:=GC rfl h
 obtain⟨N',t',ps,aZ,bd,pend,rfl,h3⟩:=UR h2
 clear h h2
 have h:=h3
 clear h3
 split at h
 ·obtain⟨h1,h⟩:=Bm h
  obtain⟨h2,h⟩:=A4N _ _ _ _ h
  refine A8l ho hcal hf rfl hl (by simpa using h2) (B0j h1) λb=> ?_
  refine Pj.mono (hR.run (some b) _ aZ _ H _ r (A7 H) (λ_=>rfl) (λh=>by cases h) h) λe t2 H2 hq=> ?_
  cases e with
  |normal=>
   obtain⟨N1,t1,ps1,as1,bd1,hl1,hq⟩:=K8 hq
   refine⟨N1,t1,ps1,as1,bd1,hl1,Pj.mono (hR.run (some b) _ bd _ _ _ r (A7 H) (λ_=>rfl) (λh=>by cases h) hq) λe t3 H3 hq=> ?_⟩
   cases e with
   |normal=>exact K8 hq
   |ret=>exact K8 hq
   |exit id=>exact K8 hq
   |goto l=>exact K8 hq
   |panic ch=>cases hq
   |outgrown=>cases hq
  |_=>cases hq
 ·cases h
theorem wr (hE:XE.Ok D E P) {o:Oper} {v:AV} {H':Hp} {K:KV} (hd:∀c,o.op≠.defer c) (hx:B4z (E.env P) o.op t H (A7 H) (λv' H''=>v'=v∧H''=H')) (hK:K v H'=some r):Rg P E.G ro N o t H (λv H'=>K v H'=some r):=
 Rg.mono (Qs hd (A6F (E:=E.env P) hE.env hx)) (by rintro _ _ ⟨rfl,rfl⟩;exact hK)
theorem B4h {o:Oper} {K:AV→Hp→Prop} {H1:Hp} (hrel:∀{G:Gl} {w0:Base} {C:Ctx} {w:World},Rel G w0 C H w→Rel G w0 C H1 w) (h:Rg P E.G ro N o t H1 K):Rg P E.G ro N o t H K:=
 λw0 s0 C a w Q s=>h w0 s0 C a w Q ⟨hrel s.rel,s.size,s.tmps,s.defers,s.le⟩
theorem OS {o:Oper} {K:KV} (hd:∀c,o.op≠.defer c) (h:∀(w0:Base) (s0:Nat) (C:Ctx) (N:Nat) (a:Act) (w:World),St E.G w0 s0 C N t H a w→∃v H' y C' w',K v H'=some r∧((execOp a.eval o).run P w= .ok (.value y) w'∨((execOp a.eval o).run P w= .ok .skip w'∧y=undef))∧Jk E.G w0 C w v H' y C' w'):Rg P E.G ro N o t H (λv H'=>K v H'=some r):=
 Qs hd λw0 s0 C N a w s=>let⟨v,H',y,C',w',h1,h2,h3⟩:=h w0 s0 C N a w s;⟨v,H',y,C',w',h1,h2,h3.1,h3.2.1,h3.2.2⟩
theorem Jm (hE:XE.Ok D E P) (hR:RSound D E P R) {o:Oper} {c:Call} (ho:o.op= .call c) {K:KV} (h:SO E R t H c K=some r):Rg P E.G ro N o t H (λv H'=>K v H'=some r):=by
 have nd:∀c,o.op≠.defer c:= λc hc=>by rw[ho] at hc;cases hc
 unfold SO at h
 split at h
 ·rename_i fv hcal
  have h:=NZ hE _ _ (AO hE h)
  unfold B1p at h
  split at h
  ·rename_i g first cap hf
   obtain⟨_,h⟩:=Bm h
   rw[Ll,Ll,←l0k] at h
   obtain⟨⟨fn,h1,h2,h3⟩,hc⟩:=hR.call _ _ _ _ _ h
   exact Wx ho hcal hf h1 h2 h3 hc
  ·rename_i s hf
   exact Vj hR ho hcal hf h
  ·cases h
 ·rename_i hcal
  split at h
  ·rename_i s x t1 t2 hx hty
   obtain⟨i1,hi1,h⟩:=AT (AO hE (AO hE h))
   obtain⟨i2,hi2,h⟩:=AT h
   obtain⟨e,esz,hd,h⟩:=NU h
   obtain⟨ie,hie,h⟩:=AT h
   unfold Ea at h
   obtain⟨H1,h,hnx,hrel⟩:=A6S h
   obtain⟨v,H',hK,hxa⟩:=B0V (T:=E.T) hi1 hi2 hd hie h
   refine B4h hrel ?_
   exact wr hE nd (by rw[ho];simp only[B4z,hcal,hx,hty];exact hxa) hK
  ·cases h
 ·rename_i hcal
  split at h
  ·rename_i s x ty tys hx hty
   obtain⟨i,hi,h⟩:=AT (AO hE (AO hE h))
   obtain⟨e,esz,hd,h⟩:=NU h
   refine OS nd λw0 s0 C N a w st=> ?_
   obtain⟨v,H',u,w',h1,h2,h3⟩:=A83 (P:=P) (T:=E.T) (ty:=o.type) (ts:=c.argTypes) hE.ty (by rw[←l21,hty];rfl) hi hd (hE.pos ty i e esz hi (.inl hd)) st.rel (AQ st s) (AQ st x) h
   refine⟨v,H',u,C,w',h1,.inl ?_,h3⟩
   have hargs:c.args.map a.eval= #[a.eval s,a.eval x]:=by apply Zc;simp[hx]
   rw[GL ho _ hcal,hargs]
   show(do pure (Next.value (←Builtin.copy_ c.argTypes o.type #[a.eval s,a.eval x]))).run P w=_
   rw[Cp,h2];rfl
  ·cases h
 ·rename_i hcal
  split at h
  ·rename_i s ty hx hty
   obtain⟨i,hi,h⟩:=AT (AO hE h)
   obtain⟨e,esz,hd,h⟩:=NU h
   obtain⟨ie,hie,h⟩:=AT h
   refine OS nd λw0 s0 C N a w st=> ?_
   obtain⟨H',w',h1,h2,h3,h4⟩:=A85 (P:=P) (T:=E.T) (ty:=o.type) (ts:=c.argTypes) hE.ty (by rw[←l21,hty];rfl) hi hd hie st.rel (AQ st s) h
   refine⟨_,H',.tuple #[],C,w',h1,.inl ?_,Dh.2 ⟨[],rfl,.nil⟩,h3,h4⟩
   have hargs:c.args.map a.eval= #[a.eval s]:=by apply Zc;simp[hx]
   rw[GL ho _ hcal,hargs]
   show(do pure (Next.value (←Builtin.clear_ c.argTypes o.type #[a.eval s]))).run P w=_
   rw[Cp,h2];rfl
  ·cases h
 ·rename_i hcal
  split at h
  ·rename_i m k ty tys hx hty
   obtain⟨i,hi,h⟩:=AT (AO hE (AO hE h))
   obtain⟨kt,et,hd,h⟩:=Me h
   obtain⟨kv,hk,h,hkv⟩:=QO hE h
   refine OS nd λw0 s0 C N a w st=> ?_
   obtain⟨H',w',h1,h2,h3,h4⟩:=A5V (P:=P) (ty:=o.type) (ts:=c.argTypes) (by rw[←l21,hty];rfl) (Mb hE hi hd) hk st.rel (AQ st m) h
   refine⟨_,H',.tuple #[],C,w',h1,.inl ?_,Dh.2 ⟨[],rfl,.nil⟩,h3,h4⟩
   have hargs:c.args.map a.eval= #[a.eval m,kv]:=by apply Zc;simp[hx,hkv (AQ st k)]
   rw[GL ho _ hcal,hargs]
   show(do pure (Next.value (←Builtin.delete_ c.argTypes o.type #[a.eval m,kv]))).run P w=_
   rw[Cp,h2];rfl
  ·cases h
 ·rename_i hcal
  split at h
  ·rename_i p n pt it hx hty
   obtain⟨i,hi,h⟩:=AT (AO hE (AO hE h))
   unfold C2U at h
   split at h
   ·rename_i e hd
    obtain⟨ie,hie,h⟩:=AT h
    obtain⟨h1c,h⟩:=Ji h
    refine OS nd λw0 s0 C N a w st=> ?_
    obtain⟨v,H',u,w',h1,h2,h3⟩:=A7M (P:=P) (T:=E.T) (it:=it) (ty:=o.type) hE.ty hi hd hie (Uq h1c) st.rel (AQ st p) (AQ st n) h
    refine⟨v,H',u,C,w',h1,.inl ?_,h3⟩
    have hargs:c.args.map a.eval= #[a.eval p,a.eval n]:=by apply Zc;simp[hx]
    have hats:c.argTypes= #[pt,it]:=by apply Zc;simp[hty]
    rw[GL ho _ hcal,hargs,hats]
    show(do pure (Next.value (←Builtin.unsafeString_ #[pt,it] o.type #[a.eval p,a.eval n]))).run P w=_
    rw[Cp,h2];rfl
   ·cases h
  ·cases h
 ·cases h
theorem Fv (hE:XE.Ok D E P) (hR:RSound D E P R) {o:Oper} {K:KV} (h:Vn E R t H o.op K=some r):Rg P E.G ro N o t H (λv H'=>K v H'=some r):=by
 unfold Vn at h
 split at h
 all_goals try (cases h;done)
 case h_1 ty x y ho=>
  obtain⟨i,hi,h⟩:=AT (AO hE (AO hE h))
  obtain⟨H',hK,hx⟩:=B3H (T:=E.T) (ty:=ty) hi h
  refine Rg.mono (Qs (λc hc=>by rw[ho] at hc;cases hc) (A2i (E:=E.env P) (K:= λv H''=>v= .v undef∧H''=H') hE.env (by rw[ho];simpa [Zt,XE.env] using hx))) ?_
  rintro _ _ ⟨rfl,rfl⟩;exact hK
 case h_2 ty ho=>
  obtain⟨i,hi,h⟩:=AT h
  obtain⟨v,H',hK,hx⟩:=A5Z (T:=E.T) hi h
  exact wr hE (λc hc=>by rw[ho] at hc;cases hc) (by rw[ho];exact hx) hK
 case h_3 ty x ho=>
  obtain⟨v,H',hK,hx⟩:=B0T (ty:=ty) (AO hE h)
  exact wr hE (λc hc=>by rw[ho] at hc;cases hc) (by rw[ho];exact hx) hK
 case h_4 ty n parts ho=>
  obtain⟨i,hi,h⟩:=AT h
  obtain⟨e,esz,hd,h⟩:=NU h
  obtain⟨ie,hie,h⟩:=AT h
  obtain⟨l,h1,h2⟩:=SN hE _ _ h
  obtain⟨v,H',hK,hx⟩:=B3T (T:=E.T) (ps:=parts.toList.map λp=>(p.1,J0 E.G t p.2)) hi hd hie (by rw[←h2];simp[XA6,hd]) h1
  exact wr hE (λc hc=>by rw[ho] at hc;cases hc) (by rw[ho];exact hx) hK
 case h_5 c ho=>exact Jm hE hR ho h
 case h_6 ty l c ho=>
  obtain⟨i,hi,h⟩:=AT (AO hE (AO hE h))
  obtain⟨e,esz,hd,h⟩:=NU h
  obtain⟨ie,hie,h⟩:=AT h
  refine Qs (λc hc=>by rw[ho] at hc;cases hc) λw0 s0 C N a w s=> ?_
  obtain⟨v,H',y,C',w',hK,hrun,hv,hr,hx⟩:=B0M (P:=P) (T:=E.T) hE.ty hi hd hie (AQ s l) (AQ s c) s.rel h
  refine⟨v,H',y,C',w',hK,.inl ?_,hv,hr,hx⟩
  simp only[execOp,ho]
  rw[Cp,hrun]
  rfl
 case h_7 ty ho=>
  obtain⟨i,hi,h⟩:=AT h
  obtain⟨kt,et,hd,h⟩:=Me h
  obtain⟨ie,hie,h⟩:=AT h
  refine OS (λc hc=>by rw[ho] at hc;cases hc) λw0 s0 C N a w st=> ?_
  obtain⟨v,H',y,C',w',h1,h2,h3⟩:=A5R (P:=P) (ty:=ty) st.rel h
  refine⟨v,H',y,C',w',h1,.inl ?_,h3⟩
  simp only[execOp,ho]
  have:(Instr.makeMap ty (Option.map a.eval none)).run P w= .ok y w':=h2
  rw[Cp,this];rfl
 case h_8 ty m k v ho=>
  obtain⟨i,hi,h⟩:=AT (AO hE (AO hE (AO hE h)))
  obtain⟨kt,et,hd,h⟩:=Me h
  obtain⟨kv,hk,h,hkv⟩:=QO hE h
  refine OS (λc hc=>by rw[ho] at hc;cases hc) λw0 s0 C N a w st=> ?_
  obtain⟨H',w',h1,h2,h3,h4⟩:=A16 (P:=P) (Mb hE hi hd) hk st.rel (AQ st m) (AQ st v) h
  refine⟨_,H',undef,C,w',h1,.inr ⟨?_,rfl⟩,.v _,h3,h4⟩
  simp only[execOp,ho]
  rw[Cp,hkv (AQ st k),h2];rfl
 case h_9 ty m k v ho=>
  obtain⟨i,hi,h⟩:=AT (AO hE (AO hE (AO hE h)))
  obtain⟨kt,et,hd,h⟩:=Me h
  obtain⟨kv,hk,h,hkv⟩:=QO hE h
  refine OS (λc hc=>by rw[ho] at hc;cases hc) λw0 s0 C N a w st=> ?_
  obtain⟨H',w',h1,h2,h3,h4⟩:=A16 (P:=P) (Mb hE hi hd) hk st.rel (AQ st m) (AQ st v) h
  refine⟨_,H',undef,C,w',h1,.inr ⟨?_,rfl⟩,.v _,h3,h4⟩
  simp only[execOp,ho]
  rw[Cp,hkv (AQ st k),h2];rfl
 case h_10 ty m k ho=>
  obtain⟨i,hi,h⟩:=AT (AO hE (AO hE h))
  obtain⟨kt,et,hd,h⟩:=Me h
  obtain⟨kv,hk,h,hkv⟩:=QO hE h
  obtain⟨ie,hie,h⟩:=AT h
  refine OS (λc hc=>by rw[ho] at hc;cases hc) λw0 s0 C N a w st=> ?_
  obtain⟨v,H',y,w',h1,h2,h3⟩:=A5U (P:=P) (Mb hE hi hd) (hE.ty et ie hie) hk st.rel (AQ st m) h
  refine⟨v,H',y,C,w',h1,.inl ?_,h3⟩
  simp only[execOp,ho]
  rw[Cp,hkv (AQ st k),h2];rfl
 case h_11 ty m s v ho=>
  have h:=AO hE (AO hE (AO hE h))
  refine OS (λc hc=>by rw[ho] at hc;cases hc) λw0 s0 C N a w st=> ?_
  obtain⟨H',w',h1,h2,h3,h4⟩:=A5Q (P:=P) (mt:=ty) st.rel (AQ st m) (AQ st s) (AQ st v) h
  refine⟨_,H',undef,C,w',h1,.inr ⟨?_,rfl⟩,.v _,h3,h4⟩
  simp only[execOp,ho]
  rw[Cp,h2];rfl
 case h_12 ty x ho=>
  obtain⟨i,hi,h⟩:=AT (AO hE h)
  obtain⟨kt,et,hd,h⟩:=Me h
  refine OS (λc hc=>by rw[ho] at hc;cases hc) λw0 s0 C N a w st=> ?_
  obtain⟨v,H',y,C',w',h1,h2,h3⟩:=A7S (P:=P) (Mb hE hi hd) st.rel (AQ st x) h
  refine⟨v,H',y,C',w',h1,.inl ?_,h3⟩
  simp only[execOp,ho]
  rw[Cp,h2];rfl
 case h_13 it ho=>
  have h:=AO hE h
  refine OS (λc hc=>by rw[ho] at hc;cases hc) λw0 s0 C N a w st=> ?_
  obtain⟨v,H',y,w',h1,h2,h3⟩:=A7V (P:=P) (ty:=o.type) st.rel (AQ st it) h
  refine⟨v,H',y,C,w',h1,.inl ?_,h3⟩
  simp only[execOp,ho]
  rw[Cp,h2];rfl
end
def B6M (b:Bool) (all:List AV) (H:Hp) (K:KV) (x:Am):Am:=
 (λ(_:Unit)=>match b with
  |true=>(match all with|[v]=>K v H|_=>none)
  |false=>x) FV
def Em (E:XE) (R:Rt) (f:AV) (aZ:List AV) (H:Hp) (K:KV):Am:=
 match f with
 | .fn (.func g) first cap=>Wd aZ cap λas'=>Wd first as' λall=>B6M (E.ne g) all H K (@Bool.rec (λ_=>Am) (Ah R g all H λv=>K v H) (R.call g all H K) (E.imp g))
 | .yl r=>SM R r aZ H K
 |_=>none
def A6A (E:XE) (R:Rt) (t:Tm) (H:Hp) (c:Call) (K:KV):Am:=
 match c.callee with
 | .value fv=>HH E t fv λf=>Zq E t c.args.toList λaZ=>Em E R f aZ H K
 | .builtin .append=>SO E R t H c K
 | .builtin .copy=>SO E R t H c K
 | .builtin .clear=>SO E R t H c K
 | .builtin .delete=>SO E R t H c K
 | .builtin .unsafeString=>SO E R t H c K
 | .builtin _=>A39 E R t H c λv=>K v H
 |_=>none
def B7B:TD→Bool
 | .string=>true
 |_=>false
def zcv (E:XE) (R:Rt) (t:Tm) (H:Hp) (s d:TypeId) (x:Operand) (K:KV):Am:=
 E.ty.getK s λi=>E.ty.getK d λj=>(λ(_:Unit)=>match j.d with
  | .slice e _=>ckS (B7B i.d) (E.ty.getK e λie=>ckS (A7F ie.d) (HH E t x λa=>B0J e a H K))
  |_=>NY E R t H (.convert s d x) λv=>K v H) FV
def zop (E:XE) (R:Rt) (fz:Bool) (t:Tm) (H:Hp) (o:Op) (K:KV):Am:=
 match o with
 | .call c=>A6A E R t H c K
 | .store a b c=>Vn E R t H (.store a b c) K
 | .alloc a=>Vn E R t H (.alloc a) K
 | .box a b=>Vn E R t H (.box a b) K
 | .makeSlice a b c=>Vn E R t H (.makeSlice a b c) K
 | .makeMap a b=>Vn E R t H (.makeMap a b) K
 | .mapUpdate a b c d=>Vn E R t H (.mapUpdate a b c d) K
 | .insert a b c d=>Vn E R t H (.insert a b c d) K
 | .mapEntry a b c=>Vn E R t H (.mapEntry a b c) K
 | .entryStore a b c d=>Vn E R t H (.entryStore a b c d) K
 | .range a b=>Vn E R t H (.range a b) K
 | .next a b=>Vn E R t H (.next a b) K
 | .convert a b c=>zcv E R t H a b c K
 | .buildSlice a b c=>@Bool.rec (λ_=>Am) (Vn E R t H (.buildSlice a b c) K) (NY E R t H (.buildSlice a b c) λv=>K v H) fz
 |o=>NY E R t H o λv=>K v H
def gdV (want:Bool) (v:AV) (K:Bool→Am):Am:=
 match v with
 | .v (.bool b)=>@Bool.rec (λ_=>Am) (@Bool.rec (λ_=>Am) (K true) (K false) b) (@Bool.rec (λ_=>Am) (K false) (K true) b) want
 | .dk=>none
 |_=>K false
def gdK (all:List Oper) (t:Tm) (g:Option (Nat×Bool)) (K:Bool→Am):Am:=
 match g with
 |none=>K true
 |some (j,want)=>match all[j]? with
  |some p=>match p.dst with
   |some d=>gtm t d λv=>gdV want v K
   |none=>K false
  |none=>K false
def A60 (N:Nat) (d:Option Tmp) (K:Am):Am:=(λ(_:Unit)=>match d with|some d=>ckS (Nat.blt d N) K|none=>K) FV
def Nm (t:Tm) (d:Option Tmp) (v:AV) (K:Tm→Am):Am:=(λ(_:Unit)=>match d with|some d=>K ((d,v)::t)|none=>K t) FV
def B0t (g:Option (Nat×Bool)) (x y:Am):Am:=(λ(_:Unit)=>match g with|none=>x|some _=>y) FV
def DC (a:Am) (K:KV):Am:=match a with|some (v,H)=>K v H|none=>none
def A6u (E:XE) (R:Rt) (fz:Bool) (N:Nat) (all:List Oper) (l:List Oper):Tm→Hp→(Tm→Hp→Am)→Am:=
 @List.rec Oper (λ_=>Tm→Hp→(Tm→Hp→Am)→Am) (λt H K=>K t H)
  (λo _ ih t H K=>A60 N o.dst (B0t o.guard (zop E R fz t H o.op λv H'=>Nm t o.dst v λt'=>ih t' H' K)
   (DC (gdK all t o.guard λg=>@Bool.rec (λ_=>Am) (some (.v undef,H)) (zop E R fz t H o.op λv H'=>some (v,H')) g) λv H'=>Nm t o.dst v λt'=>ih t' H' K))) l
section
variable {D:XE→Cf→Nat→List Oper→Bool} {E:XE} {P:Program} {R:Rt} {t:Tm} {H:Hp} {r:AV×Hp} {ro:Option Nat} {N m:Nat} {fz:Bool}
theorem A3a (hE:XE.Ok D E P) (hR:RSound D E P R) {o:Oper} {c:Call} (ho:o.op= .call c) {K:KV} (h:A6A E R t H c K=some r):Rg P E.G ro N o t H (λv H'=>K v H'=some r):=by
 unfold A6A at h
 split at h
 ·rename_i fv hcal
  have h:=NZ hE _ _ (AO hE h)
  unfold Em at h
  split at h
  ·rename_i g first cap hf
   rw[MW,MW,←l0k] at h
   cases hne:E.ne g
   rotate_left
   ·rw[hne] at h
    unfold B6M at h
    simp only at h
    split at h
    ·rename_i v hall
     exact B74 (hE.ne g hne) ho hcal hf hall h
    ·cases h
   rw[hne] at h
   have h:@Bool.rec (λ_=>Am) (Ah R g (first++c.args.toList.map (J0 E.G t)++cap) H λv=>K v H) (R.call g (first++c.args.toList.map (J0 E.G t)++cap) H K) (E.imp g)=some r:=h
   cases hi:E.imp g
   ·rw[hi] at h
    obtain⟨⟨fn,h1,h2,h3⟩,hc⟩:=XY hR h
    exact Rg.mono (Wx ho hcal hf h1 h2 h3 hc) (by rintro _ _ ⟨rfl,h⟩;exact h)
   ·rw[hi] at h
    obtain⟨⟨fn,h1,h2,h3⟩,hc⟩:=hR.call _ _ _ _ _ h
    exact Wx ho hcal hf h1 h2 h3 hc
  ·rename_i s hf
   exact Vj hR ho hcal hf h
  ·cases h
 ·exact Jm hE hR ho h
 ·exact Jm hE hR ho h
 ·exact Jm hE hR ho h
 ·exact Jm hE hR ho h
 ·exact Jm hE hR ho h
 ·exact Rg.mono (Vp hE hR ho h) (by rintro _ _ ⟨rfl,h⟩;exact h)
 ·cases h
theorem A9E (hE:XE.Ok D E P) (hR:RSound D E P R) {o:Oper} {s d:TypeId} {x:Operand} (ho:o.op= .convert s d x) {K:KV} (h:zcv E R t H s d x K=some r):Rg P E.G ro N o t H (λv H'=>K v H'=some r):=by
 obtain⟨i,hi,h⟩:=AT h
 obtain⟨j,hj,h⟩:=AT h
 simp only at h
 split at h
 ·rename_i e z hd
  obtain⟨hst,h⟩:=Ji h
  obtain⟨ie,hie,h⟩:=AT h
  obtain⟨hu8,h⟩:=Ji h
  have h:=AO hE h
  refine Qs (λc hc=>by rw[ho] at hc;cases hc) λw0 s0 C N a w st=> ?_
  obtain⟨str,hy,v,H',y',C',w',hK,hrun,hv,hr,hx⟩:=A7R (P:=P) st.rel (AQ st x) h
  refine⟨v,H',y',C',w',hK,.inl ?_,hv,hr,hx⟩
  have hcv:(convert s d (a.eval x)).run P w= .ok y' w':=by
   obtain⟨u1,hu1,e1⟩:=(hE.ty s i hi).under
   obtain⟨hu2,_⟩:=(hE.ty d j hj).elem_slice hd
   obtain⟨u3,hu3,e3⟩:=(hE.ty e ie hie).under
   have hu3':u3= .int .u8:=by
    cases hq:ie.d with
    |int k=>
     rw[hq] at hu8 e3
     cases k<;>simp[A7F] at hu8
     cases u3<;>simp[td] at e3
     rw[e3]
    |_=>rw[hq] at hu8;simp[A7F] at hu8
   have hu1':u1= .string:=by
    cases hq:i.d with
    |string=>
     rw[hq] at e1
     cases u1<;>simp[td] at e1
     rfl
    |_=>rw[hq] at hst;simp[B7B] at hst
   subst hu3' hu1'
   rw[hy]
   unfold convert
   rw[Cp,run_underlying hu1 w]
   simp only[Ek]
   rw[Cp,run_underlying hu2 w]
   simp only[Ek]
   rw[Cp,run_underlying hu3 w]
   simp only[Ek]
   exact hrun
  simp only[execOp,ho]
  rw[Cp,hcv]
  rfl
 ·exact Rg.mono (Pk (K:= λv=>K v H) hE hR (by rw[ho];exact h)) (by rintro _ _ ⟨rfl,h⟩;exact h)
theorem WG (hE:XE.Ok D E P) (hR:RSound D E P R) {o:Oper} {K:KV} (h:zop E R fz t H o.op K=some r):Rg P E.G ro N o t H (λv H'=>K v H'=some r):=by
 unfold zop at h
 split at h
 ·rename_i c ho;exact A3a hE hR ho h
 ·rename_i ho;exact Fv hE hR (by rw[ho];exact h)
 ·rename_i ho;exact Fv hE hR (by rw[ho];exact h)
 ·rename_i ho;exact Fv hE hR (by rw[ho];exact h)
 ·rename_i ho;exact Fv hE hR (by rw[ho];exact h)
 ·rename_i ho;exact Fv hE hR (by rw[ho];exact h)
 ·rename_i ho;exact Fv hE hR (by rw[ho];exact h)
 ·rename_i ho;exact Fv hE hR (by rw[ho];exact h)
 ·rename_i ho;exact Fv hE hR (by rw[ho];exact h)
 ·rename_i ho;exact Fv hE hR (by rw[ho];exact h)
 ·rename_i ho;exact Fv hE hR (by rw[ho];exact h)
 ·rename_i ho;exact Fv hE hR (by rw[ho];exact h)
 ·rename_i ho;exact A9E hE hR ho h
 ·rename_i ho
  cases fz
  ·exact Fv hE hR (by rw[ho];exact h)
  ·exact Rg.mono (Pk (K:= λv=>K v H) hE hR (by rw[ho];exact h)) (by rintro _ _ ⟨rfl,h⟩;exact h)
 ·exact Rg.mono (Pk hE hR h) (by rintro _ _ ⟨rfl,h⟩;exact h)
theorem VY {all:List Oper} {o:Oper} {K:Bool→Am} (h:gdK all t o.guard K=some r):(K true=some r∧(EV all t o= .run∨EV all t o= .dep true))∨(K false=some r∧(EV all t o= .skip∨EV all t o= .dep false)):=by
 unfold gdK at h
 unfold EV
 split at h
 ·rename_i hg;rw[hg];exact .inl ⟨h,.inl rfl⟩
 ·rename_i j want hg
  rw[hg]
  simp only
  split at h
  ·rename_i p hp
   rw[hp]
   simp only
   split at h
   ·rename_i d hd
    rw[hd]
    rw[RX] at h
    simp only
    unfold gdV at h
    split at h
    ·rename_i b hb
     rw[hb]
     simp only[Qr]
     cases want<;>cases b
     ·exact .inl ⟨h,.inr rfl⟩
     ·exact .inr ⟨h,.inr rfl⟩
     ·exact .inr ⟨h,.inr rfl⟩
     ·exact .inl ⟨h,.inr rfl⟩
    ·cases h
    ·rename_i h1 h2
     refine .inr ⟨h,.inl ?_⟩
     have:Qr (Fy t d)= .skip:=by
      unfold Qr
      split
      ·rename_i b hb;exact absurd hb (h1 b)
      ·rename_i hb;exact absurd hb h2
      ·rfl
     rw[this]
   ·rename_i hd;rw[hd];exact .inr ⟨h,.inl rfl⟩
  ·rename_i hp;rw[hp];exact .inr ⟨h,.inl rfl⟩
theorem XB {d:Option Tmp} {K:Am} (h:A60 N d K=some r):dok N d∧K=some r:=by
 unfold A60 at h
 split at h
 ·obtain⟨h1,h2⟩:=Bm h
  rw[TS] at h1
  exact⟨h1,h2⟩
 ·exact⟨trivial,h⟩
theorem Rb {a:Am} {K:KV} (h:DC a K=some r):∃v H',a=some (v,H')∧K v H'=some r:=by
 unfold DC at h
 split at h
 ·exact⟨_,_,rfl,h⟩
 ·cases h
theorem Pm {d:Option Tmp} {v:AV} {K:Tm→Am}:Nm t d v K=K (Oe t d v):=by cases d<;>rfl
theorem A6t (hE:XE.Ok D E P) (hR:RSound D E P R) {all:List Oper}:∀(l:List Oper) (t:Tm) (H:Hp) (K:Tm→Hp→Am),A6u E R fz N all l t H K=some r→
 A4m P E.G ro m N all.toArray l (λe t' H'=>e= .normal∧K t' H'=some r) t H:=by
 intro l
 induction l with
 |nil=>intro t H K h;exact B4g ⟨rfl,h⟩
 |cons o l ih=>
  intro t H K h
  have h:A60 N o.dst (B0t o.guard (zop E R fz t H o.op λv H'=>Nm t o.dst v λt'=>A6u E R fz N all l t' H' K)
   (DC (gdK all t o.guard λg=>@Bool.rec (λ_=>Am) (some (.v undef,H)) (zop E R fz t H o.op λv H'=>some (v,H')) g) λv H'=>Nm t o.dst v λt'=>A6u E R fz N all l t' H' K))=some r:=h
  obtain⟨hd,h⟩:=XB h
  intro w0 s0 C a w s
  have hg:=A1i s.tmps all o
  cases hgd:o.guard with
  |none=>
   have hrun:EV all t o= .run:=by unfold EV;rw[hgd]
   rw[hgd] at h
   have h:(zop E R fz t H o.op λv H'=>Nm t o.dst v λt'=>A6u E R fz N all l t' H' K)=some r:=h
   refine A69 hd s (hg.1 hrun) (Rg.mono (WG hE hR h) λv H' hk=> ?_)
   rw[Pm] at hk
   exact ih _ _ _ hk
  |some gg=>
   rw[hgd] at h
   have h:(DC (gdK all t (some gg) λg=>@Bool.rec (λ_=>Am) (some (.v undef,H)) (zop E R fz t H o.op λv H'=>some (v,H')) g) λv H'=>Nm t o.dst v λt'=>A6u E R fz N all l t' H' K)=some r:=h
   rw[←hgd] at h
   obtain⟨v,H1,h3,h4⟩:=Rb h
   rw[Pm] at h4
   rcases VY h3 with⟨h1,h2⟩|⟨h1,h2⟩
   ·have hw:Region.wanted o (yielded all.toArray a.tmps)=true:=by
     rcases h2 with h2|h2
     ·exact hg.1 h2
     ·exact hg.2.2 _ h2
    refine A69 hd s hw (Rg.mono (WG hE hR h1) λv' H' hk=> ?_)
    injection hk with hk;injection hk with hk1 hk2
    subst hk1 hk2
    exact ih _ _ _ h4
   ·have hw:Region.wanted o (yielded all.toArray a.tmps)=false:=by
     rcases h2 with h2|h2
     ·exact hg.2.1 h2
     ·exact hg.2.2 _ h2
    have h1:some (AV.v undef,H)=some (v,H1):=h1
    injection h1 with h1;injection h1 with h7 h8
    subst h7 h8
    exact B16 hd s hw (ih _ _ _ h4)
end
abbrev A9w:=Cf→Nat→List Oper→Tm→Hp→(Tm→Hp→Am)→Am
def A2n (e:Exit) (t:Tm) (H:Hp) (k:Tm→Hp→Am) (K:KQ):Am:=(λ(_:Unit)=>match e with| .normal=>k t H|e=>K e t H) FV
def A8d (id:Nat) (e:Exit) (t:Tm) (H:Hp) (K:KQ):Am:=(λ(_:Unit)=>match e with| .exit i=>@Bool.rec (λ_=>Am) (K (.exit i) t H) (K .normal t H) (Nat.beq i id)|e=>K e t H) FV
def Ar (v:AV) (x y:Am):Am:=match v with| .v (.bool true)=>x| .v (.bool false)=>y|_=>none
def Uk (lv:List Nat) (t:Tm):(Tm→Am)→Am:=@List.rec Nat (λ_=>(Tm→Am)→Am) (λK=>K []) (λu _ ih K=>gtm t u λv=>ih λl=>K ((u,v)::l)) lv
def Cur (lv:List Nat):Type:=@List.rec Nat (λ_=>Type) (Hp→Am) (λ_ _ ih=>AV→ih) lv
def B43 (lv:List Nat):(Tm→Hp→Am)→Cur lv:=
 @List.rec Nat (λlv=>(Tm→Hp→Am)→Cur lv) (λF H=>F [] H) (λu _ ih F v=>ih λt H=>F ((u,v)::t) H) lv
def B42 (lv:List Nat):Cur lv→Tm→Hp→Am:=
 @List.rec Nat (λlv=>Cur lv→Tm→Hp→Am) (λc _ H=>c H) (λu _ ih c t H=>gtm t u λv=>ih (c v) t H) lv
def VT (lv:List Nat) (t:Tm):Tm:=lv.map λu=>(u,Fy t u)
theorem A31 (lv:List Nat):∀(F:Tm→Hp→Am) (t:Tm) (H:Hp),B42 lv (B43 lv F) t H=F (VT lv t) H:=by
 induction lv with
 |nil=>intro F t H;rfl
 |cons u lv ih=>
  intro F t H
  have e:B42 (u::lv) (B43 (u::lv) F) t H=gtm t u λv=>B42 lv (B43 lv λt H=>F ((u,v)::t) H) t H:=rfl
  rw[e,RX,ih];rfl
def B7U (lv:List Nat) (body:Tm→Hp→KQ→Am) (K:KQ) (n:Nat):Cur lv:=
 @Nat.rec (λ_=>Cur lv) (B43 lv λ_ _=>none) (λ_ ih=>B43 lv λt H=>body t H λe t1 H1=>A2n e t1 H1 (λt H=>B42 lv ih t H) K) n
def A2e (lv:List Nat) (body:Tm→Hp→KQ→Am) (K:KQ) (n:Nat) (t:Tm) (H:Hp):Am:=B42 lv (B7U lv body K n) t H
theorem A6v (lv:List Nat) (body:Tm→Hp→KQ→Am) (K:KQ) (t:Tm) (H:Hp):A2e lv body K 0 t H=none:=A31 lv _ t H
theorem A6w (lv:List Nat) (body:Tm→Hp→KQ→Am) (K:KQ) (n:Nat) (t:Tm) (H:Hp):A2e lv body K (n+1) t H=body (VT lv t) H λe t1 H1=>A2n e t1 H1 (A2e lv body K n) K:=A31 lv _ t H
theorem A6W (lv:List Nat) (t:Tm) (u:Nat):Fy (VT lv t) u=Fy t u∨Fy (VT lv t) u= .dk:=by
 induction lv with
 |nil=>exact .inr rfl
 |cons v lv ih=>
  have e:Fy (VT (v::lv) t) u=if u=v then Fy t v else Fy (VT lv t) u:=rfl
  rw[e]
  split
  ·rename_i h;subst h;exact .inl rfl
  ·exact ih
def B7l (p:Option (Option Code)) (t:Tm) (H:Hp) (K:KQ):Am:=
 match p with
 |some none=>K .normal t H
 |some (some .ret)=>K .ret t H
 |some (some (.exit id))=>K (.exit id) t H
 |some (some (.goto l))=>K (.goto l) t H
 |_=>none
def A6s (E:XE) (R:Rt) (cf:Cf) (g:Operand) (ps:Array Tmp) (aZ bd:Code) (t:Tm) (H:Hp) (K:KQ):Am:=
 @Bool.rec (λ_=>Am) (Uk cf.lv t λt=>HH E t g λf=>match f with
  | .fn (.func g) first cap=>Ij H λs=>UZ first (.yl s::cap) λall=>R.call g all ((s,.loop cf.n t ps aZ bd (some none))::H) λ_ H2=>Lf H2 s λx=>Up x λ_ _ _ _ _ pend=>Qf H2 s .gone λH3=>B7l pend t H3 K
  |_=>none) none cf.b
def A5E (e:Exit) (t:Tm) (H:Hp) (k:Nat→Tm→Hp→Am) (K:KQ):Am:=(λ(_:Unit)=>match e with| .goto l=>k l t H|e=>K e t H) FV
def A8q (run:A4h) (cf:Cf) (c:Code) (K:KQ) (n:Nat):Nat→Tm→Hp→Am:=
 @Nat.rec (λ_=>Nat→Tm→Hp→Am) (λ_ _ _=>none) (λ_ ih l t H=>match findLabel c l with
  |some rest=>run cf rest t H λe t H=>A5E e t H ih K
  |none=>none) n
def Vo (E:XE) (R:Rt) (Z:A9w) (cf:Cf) (c:Code):Tm→Hp→KQ→Am:=
 @Code.rec (λ_=>Tm→Hp→KQ→Am)
  (λt H K=>K .normal t H)
  (λid ops draw t H K=>@Bool.rec (λ_=>Am) (A6u E R cf.fz cf.n ops.toList ops.toList t H λt H=>K .normal t H) (Z cf id ops.toList t H λt H=>K .normal t H) draw)
  (λ_ _ iha ihb t H K=>iha t H λe t H=>A2n e t H (λt H=>ihb t H K) K)
  (λx _ _ iha ihb t H K=>HH E t x λv=>Ar v (iha t H K) (ihb t H K))
  (λid _ ih t H K=>ih t H λe t H=>A8d id e t H K)
  (λ_ ih t H K=>A2e cf.lv ih K E.lf t H)
  (λg ps aZ bd _ _ t H K=>A6s E R cf g ps aZ bd t H K)
  (λid t H K=>K (.exit id) t H)
  (λc ih t H K=>@Bool.rec (λ_=>Am) (ih t H λe t H=>A5E e t H (A8q R.run cf c K E.lf) K) none cf.b)
  (λ_ t H K=>K .normal t H)
  (λl t H K=>K (.goto l) t H)
  (λt H K=>K .ret t H)
  (λ_ _ _ _=>none) c
section
variable {D:XE→Cf→Nat→List Oper→Bool} {E:XE} {P:Program} {R:Rt} {Z:A9w} {r:AV×Hp} {ro:Option Nat} {m:Nat}
def A8o (D:XE→Cf→Nat→List Oper→Bool) (E:XE) (P:Program) (Z:A9w):Prop:=
 ∀(ro:Option Nat) (cf:Cf) (id:Nat) (ops:List Oper) (t:Tm) (H:Hp) (K:Tm→Hp→Am) (r:AV×Hp) (m:Nat),(cf.b=false→D E cf id ops=true)→Z cf id ops t H K=some r→
  Pj P E.G ro m cf.n (.region id ops.toArray true) (λe t' H'=>e= .normal∧K t' H'=some r) t H
theorem ZH {e:Exit} {t:Tm} {H:Hp} {k:Tm→Hp→Am} {K:KQ} (h:A2n e t H k K=some r):(e= .normal∧k t H=some r)∨(e≠.normal∧K e t H=some r):=by
 unfold A2n at h
 split at h
 ·exact .inl ⟨rfl,h⟩
 ·rename_i hne;exact .inr ⟨hne,h⟩
theorem Pj.congr {G:Gl} {N:Nat} {c:Code} {Q:Exit→Tm→Hp→Prop} {t t':Tm} {H:Hp} (hc:∀u,Fy t' u=Fy t u∨Fy t' u= .dk) (h:Pj P G ro m N c Q t' H):Pj P G ro m N c Q t H:=
 λw0 s0 C a w s=>h w0 s0 C a w (s.congr hc)
theorem XZ.congr {G:Gl} {N:Nat} {c:Code} {Q:Exit→Tm→Hp→Prop} {t t':Tm} {H:Hp} (hc:∀u,Fy t' u=Fy t u∨Fy t' u= .dk) (h:XZ P G ro m N c Q t' H):XZ P G ro m N c Q t H:=
 λw0 s0 C a w s=>h w0 s0 C a w (s.congr hc)
theorem A6x {t:Tm}:∀(lv:List Nat) (K:Tm→Am),Uk lv t K=some r→∃t',K t'=some r∧∀u,Fy t' u=Fy t u∨Fy t' u= .dk:=by
 intro lv
 induction lv with
 |nil=>intro K h;exact⟨[],h,λu=> .inr rfl⟩
 |cons v lv ih=>
  intro K h
  have h:(gtm t v λx=>Uk lv t λl=>K ((v,x)::l))=some r:=h
  rw[RX] at h
  obtain⟨t',h1,h2⟩:=ih _ h
  refine⟨_,h1,λu=> ?_⟩
  simp only[Fy]
  split
  ·rename_i hu;rw[hu];exact .inl rfl
  ·exact h2 u
theorem A4s {G:Gl} {N:Nat} {lv:List Nat} {c:Code} {body:Tm→Hp→KQ→Am} (hb:∀t H (K:KQ),body t H K=some r→Pj P G ro m N c (λe t' H'=>K e t' H'=some r) t H) {K:KQ}:∀(n:Nat) (t:Tm) (H:Hp),A2e lv body K n t H=some r→
 XZ P G ro m N c (λe t' H'=>K e t' H'=some r) t H:=by
 intro n
 induction n with
 |zero=>intro t H h;rw[A6v] at h;cases h
 |succ n ih=>
  intro t H h
  rw[A6w] at h
  refine XZ.congr (A6W lv t) (A8m (Pj.mono (hb _ _ _ h) λe t1 H1 hq=> ?_))
  rcases ZH hq with⟨rfl,h⟩|⟨hne,h⟩
  ·exact ih _ _ h
  ·cases e with
   |normal=>exact absurd rfl hne
   |_=>exact h
theorem A37 (hE:XE.Ok D E P) (hR:RSound D E P R) {cf:Cf} (hro:ro≠none→cf.b=true) {g:Operand} {ps:Array Tmp} {aZ bd:Code} {t:Tm} {H:Hp} {K:KQ} (h:A6s E R cf g ps aZ bd t H K=some r):Pj P E.G ro m cf.n (.rangeFunc g ps aZ bd) (λe t' H'=>K e t' H'=some r) t H:=by
 unfold A6s at h
 cases hb:cf.b
 ·rw[hb] at h
  have hn:ro=none:=by
   cases ro with
   |none=>rfl
   |some b=>have:=hro (by simp);rw[hb] at this;cases this
  subst hn
  obtain⟨t',h,hc⟩:=A6x _ _ h
  refine Pj.congr hc ?_
  have h:=AO hE h
  split at h
  ·rename_i f first cap hf
   rw[Cg,Ll] at h
   obtain⟨⟨fn,h1,h2,h3⟩,hcall⟩:=hR.call _ _ _ _ _ h
   have e:first++AV.yl (A7 H)::cap=first++[.yl (A7 H)]++cap:=by simp
   rw[e] at hcall
   refine A8i hf h1 h2 h3 ?_
   intro w0 C w ys hr ha
   refine(hcall w0 C w ys hr ha).mono ?_
   rintro e w' ⟨v,y,C',H',he,hr',hv,hx,hk⟩
   refine⟨v,y,C',H',he,hr',hv,hx,?_⟩
   obtain⟨x,hl,hk2⟩:=GC rfl hk
   obtain⟨N',t2,ps',as',bd',pend,rfl,hk3⟩:=UR hk2
   rw[Ez] at hk3
   unfold B7l at hk3
   split at hk3
   ·exact⟨_,_,_,_,_,_,hl,hk3⟩
   ·exact⟨_,_,_,_,_,_,hl,hk3⟩
   ·exact⟨_,_,_,_,_,_,hl,hk3⟩
   ·exact⟨_,_,_,_,_,_,hl,hk3⟩
   ·cases hk3
  ·cases h
 ·rw[hb] at h;cases h
theorem B0W {D:Nat→List Oper→Bool}:∀(c:Code) (l:Nat) (rest:Code),OT D c=true→findLabel c l=some rest→OT D rest=true:=by
 intro c
 induction c with
 |seq a b iha ihb=>
  intro l rest hd h
  simp only[OT,Iv] at hd
  unfold findLabel at h
  split at h
  ·rename_i r0 hr0
   injection h with h
   subst h
   simp only[OT,Iv]
   exact⟨iha _ _ hd.1 hr0,hd.2⟩
  ·exact ihb _ _ hd.2 h
 |label l'=>
  intro l rest hd h
  unfold findLabel at h
  split at h
  ·injection h with h;subst h;rfl
  ·cases h
 |_=>intro l rest hd h;simp[findLabel] at h
theorem A5D {e:Exit} {t:Tm} {H:Hp} {k:Nat→Tm→Hp→Am} {K:KQ} (hne:∀l,e≠.goto l) (h:A5E e t H k K=some r):K e t H=some r:=by
 cases e with
 |goto l=>exact absurd rfl (hne l)
 |_=>exact h
theorem A4u (hR:RSound D E P R) {cf:Cf} {c:Code} (hd:OT (D E cf) c=true) {K:KQ}:∀(n l:Nat) (t:Tm) (H:Hp),A8q R.run cf c K n l t H=some r→
 ∃rest,findLabel c l=some rest∧A4l P E.G m cf.n c rest (λe t' H'=>K e t' H'=some r) t H:=by
 intro n
 induction n with
 |zero=>intro l t H h;cases h
 |succ n ih=>
  intro l t H h
  have h:(match findLabel c l with
   |some rest=>R.run cf rest t H λe t H=>A5E e t H (A8q R.run cf c K n) K
   |none=>none)=some r:=h
  split at h
  ·rename_i rest hf
   refine⟨rest,hf,A33 (λl t H hq=>ih l t H hq) (λe t H hne hq=>A5D hne hq) (hR.run none cf rest t H _ r m (λh=>absurd rfl h) (λ_=>B0W _ _ _ hd hf) h)⟩
  ·cases h
theorem A4w (hE:XE.Ok D E P) (hR:RSound D E P R) (hZ:A8o D E P Z) {cf:Cf} (hro:ro≠none→cf.b=true):∀(c:Code) (t:Tm) (H:Hp) (K:KQ),(cf.b=false→OT (D E cf) c=true)→Vo E R Z cf c t H K=some r→
 Pj P E.G ro m cf.n c (λe t' H'=>K e t' H'=some r) t H:=by
 intro c
 induction c with
 |skip=>intro t H K _ h;exact B49 h
 |region id ops draw=>
  intro t H K hd h
  have h:@Bool.rec (λ_=>Am) (A6u E R cf.fz cf.n ops.toList ops.toList t H λt H=>K .normal t H) (Z cf id ops.toList t H λt H=>K .normal t H) draw=some r:=h
  have e:ops=ops.toList.toArray:=by simp
  cases draw
  ·rw[e]
   exact Pj.mono (A8h (A6t hE hR _ _ _ _ h)) (by rintro _ _ _ ⟨rfl,h⟩;exact h)
  ·rw[e]
   exact Pj.mono (hZ ro cf id ops.toList t H _ r m hd h) (by rintro _ _ _ ⟨rfl,h⟩;exact h)
 |seq x y ihx ihy=>
  intro t H K hd h
  have h:(Vo E R Z cf x t H λe t H=>A2n e t H (λt H=>Vo E R Z cf y t H K) K)=some r:=h
  have hd':cf.b=false→OT (D E cf) x=true∧OT (D E cf) y=true:= λhb=>by simpa [OT] using hd hb
  refine B72 (Pj.mono (ihx t H _ (λhb=>(hd' hb).1) h) λe t1 H1 hq=> ?_)
  rcases ZH hq with⟨rfl,h⟩|⟨hne,h⟩
  ·exact ihy _ _ _ (λhb=>(hd' hb).2) h
  ·cases e with
   |normal=>exact absurd rfl hne
   |_=>exact h
 |cond x a b iha ihb=>
  intro t H K hd h
  have h:(HH E t x λv=>Ar v (Vo E R Z cf a t H K) (Vo E R Z cf b t H K))=some r:=h
  have hd':cf.b=false→OT (D E cf) a=true∧OT (D E cf) b=true:= λhb=>by simpa [OT] using hd hb
  have h:=AO hE h
  unfold Ar at h
  split at h
  ·rename_i hv
   exact A67 hv (λ_=>iha _ _ _ (λhb=>(hd' hb).1) h) (λhb=>by cases hb)
  ·rename_i hv
   exact A67 hv (λhb=>by cases hb) (λ_=>ihb _ _ _ (λhb=>(hd' hb).2) h)
  ·cases h
 |block id x ih=>
  intro t H K hd h
  have h:(Vo E R Z cf x t H λe t H=>A8d id e t H K)=some r:=h
  refine B15 (Pj.mono (ih t H _ hd h) λe t1 H1 hq=> ?_)
  unfold A8d at hq
  cases e with
  |exit i=>
   simp only at hq
   simp only[A7e]
   cases hi:Nat.beq i id
   ·rw[hi] at hq
    rw[if_neg (λe=>by rw[e,l29] at hi;cases hi)]
    exact hq
   ·rw[hi] at hq
    rw[if_pos (Uq hi)]
    exact hq
  |_=>exact hq
 |loop x ih=>
  intro t H K hd h
  have h:A2e cf.lv (λt H K=>Vo E R Z cf x t H K) K E.lf t H=some r:=h
  exact A65 (A4s (λt H K h=>ih t H K hd h) _ _ _ h)
 |rangeFunc g ps aZ bd _ _=>
  intro t H K _ h
  exact A37 hE hR hro h
 |exit id=>intro t H K _ h;exact B4b h
 |scope x ih=>
  intro t H K hd h
  have h:@Bool.rec (λ_=>Am) (Vo E R Z cf x t H λe t H=>A5E e t H (A8q R.run cf x K E.lf) K) none cf.b=some r:=h
  cases hb:cf.b
  ·rw[hb] at h
   have hn:ro=none:=by
    cases ro with
    |none=>rfl
    |some b=>have:=hro (by simp);rw[hb] at this;cases this
   subst hn
   have hdx:OT (D E cf) x=true:=hd hb
   exact B13 (A33 (λl t H hq=>A4u hR hdx _ _ _ _ hq) (λe t H hne hq=>A5D hne hq) (ih t H _ hd h))
  ·rw[hb] at h;cases h
 |label l=>intro t H K _ h;exact B14 h
 |goto l=>intro t H K _ h;exact B4a h
 |ret=>intro t H K _ h;exact B73 h
 |refuse s=>intro t H K _ h;cases h
end
end Go.Abs
end
