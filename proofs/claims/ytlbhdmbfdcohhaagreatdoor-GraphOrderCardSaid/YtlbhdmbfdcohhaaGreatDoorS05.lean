import Derived.ChangeKeysEq
import Derived.Laws.StructEq
import Derived.Test.YtlbhdmbfdcohhaaGreatDoorS04
set_option linter.all false
set_option maxHeartbeats 100000000
noncomputable section
namespace Go.Abs
open Go.RowKit
def Ctx.delB (C:Ctx) (b:Nat):Ctx:={C with B:= λk=>C.B k∧k≠b}
section
variable {P:Program} {G:Gl} {w0:Base} {C:Ctx} {H:Hp} {w w':World} {b:Nat} {o o':Obj}
theorem A5r (hb:w.heap[b]?=some o) (ho:∀arr T fz,o≠.cells arr T fz) {k i:Nat} {v:Value} (h:w.cell? ⟨k,i,none⟩=some v):k≠b:=by
 intro e
 subst e
 simp only[World.cell?,hb] at h
 cases o<;>simp at h
 exact ho _ _ _ rfl
theorem SameObj.cell (hs:SameObj w w' b o') {k i:Nat} (hk:k≠b):w'.cell? ⟨k,i,none⟩=w.cell? ⟨k,i,none⟩:=l0s (hs.others k hk)
theorem VRel.shut (hb:w.heap[b]?=some (.deferred (some []))) (hs:SameObj w w' b o') {a:AV} {y:Value} (h:VRel C w a y):VRel (C.delB b) w' a y:=by
 have hno:∀arr T fz,(Obj.deferred (some []):Obj)≠.cells arr T fz:= λ_ _ _ h=>by cases h
 induction h with
 |v x=>exact .v x
 |ptr h=>exact .ptr h
 |iptr vs hF hc _ ih=>exact .iptr vs hF (λi hi=>(hs.cell (A5r hb hno (hc i hi))).trans (hc i hi)) (λi hi=>ih i hi hb hs)
 |list0=>exact .list0
 |list h vs hF hc _ ih=>exact .list h vs hF (λi hi=>(hs.cell (A5r hb hno (hc i hi))).trans (hc i hi)) (λi hi=>ih i hi hb hs)
 |sl h hcap hbk hsz=>exact .sl h hcap ((hs.others _ (λe=>by subst e;rw[hb] at hbk;cases hbk)).trans hbk) hsz
 |slz hr=>exact .slz hr
 |fn ys zs hl hl' _ _ ihy ihz=>exact .fn ys zs hl hl' (λi hi=>ihy i hi hb hs) (λi hi=>ihz i hi hb hs)
 |agg ys hl _ ih=>exact .agg ys hl (λi hi=>ih i hi hb hs)
 |tup ys hl _ ih=>exact .tup ys hl (λi hi=>ih i hi hb hs)
 |mp h=>exact .mp h
 |@imap C w es b2 clock ms hB hbk hl hk hn hc _ ih=>
  have hne:b2≠b:= λe=>by subst e;rw[hb] at hbk;cases hbk
  exact .imap ms ⟨hB,hne⟩ ((hs.others _ hne).trans hbk) hl hk hn hc (λi hi=>ih i hi hb hs)
 |yl h=>exact .yl h
 |it h=>exact .it h
 |dk y=>exact .dk y
theorem Cj.shut (hb:w.heap[b]?=some (.deferred (some []))) (hs:SameObj w w' b o') {aZ:List AV} {ys:List Value} (h:Cj C w aZ ys):Cj (C.delB b) w' aZ ys:=
 ⟨h.1,λi a ha=>let⟨y,hy,hv⟩:=h.2 i a ha;⟨y,hy,hv.shut hb hs⟩⟩
theorem Kg.shut (hb:w.heap[b]?=some (.deferred (some []))) (hs:SameObj w w' b o') {es:List (Value×AV)} {ms:List MapEntry} (h:Kg C w es ms):Kg (C.delB b) w' es ms:=
 ⟨h.1,λi p hp=>let⟨m,hm,hk,hv⟩:=h.2 i p hp;⟨m,hm,hk,hv.shut hb hs⟩⟩
theorem Wt.shut (hb:w.heap[b]?=some (.deferred (some []))) (hs:SameObj w w' b o') {ms:Array MapEntry} {seen:Array Nat}:∀{x:Option (Value×AV)},Wt C w ms seen x→Wt (C.delB b) w' ms seen x
 |none,_=>trivial
 |some _,⟨m,h1,h2,h3,h4⟩=>⟨m,h1,h2,h3,h4.shut hb hs⟩
theorem Tx.shut (hb:w.heap[b]?=some (.deferred (some []))) (hs:SameObj w w' b o') {t:Tm} {tmps:Array Value} (h:Tx C w t tmps):Tx (C.delB b) w' t tmps:= λi=>(h i).shut hb hs
theorem A6f (q:Bool):(C.delB b).sel q=(C.sel q).delB b:=by cases q<;>rfl
theorem QA.shut (hb:w.heap[b]?=some (.deferred (some []))) (hs:SameObj w w' b o') {r:Nat} {x:Row} (h:QA C w r x):QA (C.delB b) w' r x:=by
 have ne:∀{k:Nat} {q:Obj},w.heap[k]?=some q→(∀l,q≠.deferred l)→k≠b:= λhk hq e=>by
  subst e;rw[hb] at hk;injection hk with hk;exact hq _ hk.symm
 cases x with
 |cells q T cs=>
  rcases h with⟨h1,h2⟩|⟨k,base,arr,fz,h⟩
  ·exact .inl ⟨h1,h2⟩
  ·refine .inr ⟨k,base,arr,fz,h.at_,(hs.others k (ne h.block (λ_ e=>by cases e))).trans h.block,h.free,h.fits,?_,h.exact⟩
   rw[A6f];exact h.vals.shut hb hs
 |map q es bo=>
  obtain⟨k,ms,clock,h1,h3,h4,h5,h6⟩:=h
  refine⟨k,ms,clock,h1,(hs.others k (ne h3 (λ_ e=>by cases e))).trans h3,h4,?_,h6⟩
  rw[A6f];exact h5.shut hb hs
 |loop N t ps aZ bd pend=>
  obtain⟨k,l,h1,h2,h3,h4,h5,h6,h7,h8,h9⟩:=h
  exact⟨k,l,h1,(hs.others k (ne h2 (λ_ e=>by cases e))).trans h2,h3,h4,h5,h6,h7,h8,h9.shut hb hs⟩
 |iter left lst=>
  obtain⟨k,mo,since,seen,last,h1,h2,h3⟩:=h
  refine⟨k,mo,since,seen,last,h1,(hs.others k (ne h2 (λ_ e=>by cases e))).trans h2,?_⟩
  rcases h3 with h3|⟨m,ms,clock,e1,e2,e3,h4,h5,h6,h7,h8⟩
  ·exact .inl h3
  ·have hm:=ne h5 (λ_ e=>by cases e)
   exact .inr ⟨m,ms,clock,e1,e2,e3,⟨h4,hm⟩,(hs.others m hm).trans h5,h6,h7.shut (C:=C.bare) hb hs,h8.shut (C:=C.bare) hb hs⟩
 |gone=>trivial
theorem Rel.shut (h:Rel G w0 C H w) (hb:w.heap[b]?=some (.deferred (some []))) (ho:w0.own b) (hs:SameObj w w' b o'):Rel G w0 (C.delB b) H w':=by
 have hno:∀arr T fz,(Obj.deferred (some []):Obj)≠.cells arr T fz:= λ_ _ _ h=>by cases h
 refine⟨λg cs hg i v hv=> ?_,h.below.same_obj hs ho,h.lt,λr x hx=>(h.rows r x hx).shut hb hs,λr x k o hx hp=> ?_,h.sep,λk i hF=>hs.size▸h.fin k i hF,λk hB=>hs.size▸h.finB k hB.1,h.nx⟩
 ·have:=h.glob g cs hg i v hv
  exact⟨this.1,(hs.cell (A5r hb hno this.2)).trans this.2⟩
 ·have:=h.own r x k o hx hp
  exact⟨this.1,this.2.1,λhB=>this.2.2 hB.1⟩
def B0F (E:XE) (t:Tm) (H:Hp) (rs:List ResultVar):(List AV→Aj)→Aj:=
 @List.rec ResultVar (λ_=>(List AV→Aj)→Aj) (λK=>K [])
  (λr _ ih K=>match r with
   | .tmp i=>gtm t i λv=>ih λvs=>K (v::vs)
   | .cell a ty=>gtm t a λp=>E.ty.getK ty λi=>Ar i p H λv=>ih λvs=>K (v::vs)) rs
def A0g (vs:List AV) (K:AV→Aj):Aj:=
 @List.rec AV (λ_=>Aj) (K (.tup [])) (λv l _=>@List.rec AV (λ_=>Aj) (K v) (λu l' _=>K (.tup (v::u::l'))) l) vs
def B36:List AV→AV
 |[v]=>v
 |vs=> .tup vs
theorem A7J (vs:List AV) (K:AV→Aj):A0g vs K=K (B36 vs):=by
 match vs with
 |[]=>rfl
 |[v]=>rfl
 |v::u::l=>rfl
def XE.T (E:XE):Ty:= λty=>E.ty.get ty
theorem AZ {α:Type} {b:BT α} {i:Nat} {K:α→Aj} {r:AV×Hp} (h:b.getK i K=some r):∃v,b.get i=some v∧K v=some r:=by
 rw[BT.getK_eq] at h
 split at h
 ·exact⟨_,by assumption,h⟩
 ·cases h
def B3f (tmps:Array Value):ResultVar→Sem Value
 | .tmp t=>pure (tmps.getD t undef)
 | .cell x t=>do loadVar t (←asAddr (tmps.getD x undef))
theorem B0E {E:XE} {T:Ty} (hT:XT P T) (hE:∀ty i,E.ty.get ty=some i→T ty=some i) {t:Tm} {tmps:Array Value} (hr:Rel G w0 C H w) (ht:Tx C w t tmps) {r:AV×Hp}:∀(rs:List ResultVar) (K:List AV→Aj),B0F E t H rs K=some r→
 ∃vs ys,(rs.mapM (B3f tmps)).run P w= .ok ys w∧Cj C w vs ys∧K vs=some r:=by
 intro rs
 induction rs with
 |nil=>intro K h;exact⟨[],[],rfl,.nil,h⟩
 |cons x rs ih=>
  intro K h
  cases x with
  |tmp i=>
   have h:(gtm t i λv=>B0F E t H rs λvs=>K (v::vs))=some r:=h
   rw[Ti] at h
   obtain⟨vs,ys,h1,h2,h3⟩:=ih _ h
   refine⟨_,_::ys,?_,.cons (ht i) h2,h3⟩
   rw[List.mapM_cons]
   simp only[B3f,CI,Y9,EO,h1]
  |cell x ty=>
   have h:(gtm t x λp=>E.ty.getK ty λi=>Ar i p H λv=>B0F E t H rs λvs=>K (v::vs))=some r:=h
   rw[Ti] at h
   obtain⟨i,hi,h⟩:=AZ h
   obtain⟨u,h,hx⟩:=A7j (T:=T) (hE _ _ hi) h
   obtain⟨v,z,h1,h2,h3⟩:=Za hT hr (ht x) hx
   subst h3
   obtain⟨vs,ys,h4,h5,h6⟩:=ih _ h
   refine⟨v::vs,z::ys,?_,.cons h2 h5,h6⟩
   rw[List.mapM_cons]
   have h1':(do loadVar ty (←asAddr (tmps.getD x undef)):Sem Value).run P w= .ok z w:=by
    generalize tmps.getD x undef=q at*
    cases q<;>simp only[Instr.loadAt,Instr.sureAddr,CI,run_stuck,Result.andThen_halt] at h1<;>try (cases h1;done)
    rename_i ad
    cases ad with
    |none=>simp at h1
    |some ad=>simpa [asAddr] using h1
   have h1'':(B3f tmps (.cell x ty)).run P w= .ok z w:=h1'
   rw[CI,h1'']
   simp only[EO,CI,h4,Y9]
def A4v:List Value→Value
 |[y]=>y
 |ys=> .tuple ys.toArray
theorem A6l {fn:Func} {tmps:Array Value} {ys:List Value} (h:(fn.results.toList.mapM (B3f tmps)).run P w= .ok ys w):
 (results fn tmps).run P w= .ok (A4v ys) w:=by
 have e:results fn tmps=(do
  let vs←fn.results.mapM (B3f tmps)
  pure (if h:vs.size=1 then vs[0] else .tuple vs)):=by
  unfold results
  congr 1
 rw[e,CI,Array.mapM_eq_mapM_toList,Sem.run_map,h]
 simp only[EO,Y9]
 congr 1
 match ys with
 |[]=>rfl
 |[y]=>rfl
 |y::z::ys=>simp[A4v]
theorem A8l {vs:List AV} {ys:List Value} (h:Cj C w vs ys):VRel C w (B36 vs) (A4v ys):=by
 match vs,ys,h with
 |[],[],h=>exact DI.2 ⟨[],rfl,h⟩
 |[v],[y],h=>exact h.get 0 (by simp)
 |v::u::vs,y::z::ys,h=>exact DI.2 ⟨_,rfl,h⟩
 |[],_::_,h=>exact absurd h.1 (by simp)
 |[v],[],h=>exact absurd h.1 (by simp)
 |[v],_::_::_,h=>exact absurd h.1 (by simp)
 |_::_::_,[],h=>exact absurd h.1 (by simp)
 |_::_::_,[_],h=>exact absurd h.1 (by simp)
def numbered:Nat→List AV→Tm
 |_,[]=>[]
 |k,a::aZ=>(k,a)::numbered (k+1) aZ
theorem A2O:∀(aZ:List AV) (k i:Nat),Gn (numbered k aZ) i=if k≤i∧i<k+aZ.length then aZ.getD (i-k) .dk else .dk:=by
 intro aZ
 induction aZ with
 |nil=>intro k i;simp[numbered,Gn]
 |cons a aZ ih=>
  intro k i
  simp only[numbered,Gn]
  by_cases hi:i=k
  ·subst hi;simp
  ·rw[if_neg hi,ih]
   by_cases h:k≤i∧i<k+(a::aZ).length
   ·simp only[K9] at h
    rw[if_pos (by omega),if_pos (by simp only[K9];omega)]
    have:i-k=(i-(k+1))+1:=by omega
    rw[this];simp
   ·simp only[K9] at h
    rw[if_neg (by omega),if_neg (by simp only[K9];omega)]
def B8c (aZ:List AV):Nat→(Tm→Aj)→Aj:=
 (λ(_:Unit)=>@List.rec AV (λ_=>Nat→(Tm→Aj)→Aj) (λ_ K=>K []) (λa _ ih k K=>fNS (Nat.succ k) λk'=>ih k' λt=>K ((k,a)::t)) aZ) GT
theorem B8b (aZ:List AV):∀(k:Nat) (K:Tm→Aj),B8c aZ k K=K (numbered k aZ):=by
 induction aZ with
 |nil=>intro k K;rfl
 |cons a aZ ih=>
  intro k K
  have:B8c (a::aZ) k K=fNS (Nat.succ k) λk'=>B8c aZ k' λt=>K ((k,a)::t):=rfl
  rw[this,B4O,ih];rfl
theorem Tx.numbered {args:List AV} {ys:List Value} {n:Nat} (ha:Cj C w args ys):Tx C w (numbered 0 args) (ys.toArray++Array.replicate n undef):=by
 intro i
 rw[A2O]
 have hlen:=ha.1
 split
 ·rename_i hi
  have hi':i<args.length:=by omega
  have:=ha.get i hi'
  simp only[Nat.sub_zero,TW,Kq hi',l1l,Zk]
  rw[Array.getElem?_append_left (by simp;omega)]
  simp[hlen,hi']
  exact this
 ·exact .dk _
theorem Frm.delB {m:Nat} {O:Nat→Prop} {C0:Ctx} {wa:World} (h:Frm m O C0 wa C w) (hfin:∀k,C0.B k→k<wa.heap.size) (hfF:∀k i,C0.F k i→k<wa.heap.size) (hb:wa.heap.size≤b) (hob:w.heap[b]?=some (.deferred (some []))) (hs:SameObj w w' b o'):Frm m O C0 wa (C.delB b) w':=
 ⟨h.π,h.F,λk i hF=>(hs.cell (by have:=hfF k i hF;omega)).trans (h.keep k i hF),λk hB=>⟨h.B k hB,by have:=hfin k hB;omega⟩,λk hB=>(hs.others k (by have:=hfin k hB;omega)).trans (h.keepB k hB),
  λk arr T fz hk=>by
   obtain⟨a1,f1,h1,h2⟩:=h.size k arr T fz hk
   exact⟨a1,f1,(hs.others k (λe=>by subst e;rw[hob] at h1;cases h1)).trans h1,h2⟩,
  h.new,λk hB=>h.newB k hB.1,by rw[hs.size];exact h.grow⟩
theorem A50 {fn:Func} {tmps:Array Value} {R:Ending→World→Prop} {m s0:Nat} {C0:Ctx} {wa:World} {t:Tm} (hfin:∀k,C0.B k→k<wa.heap.size) (hfF:∀k i,C0.F k i→k<wa.heap.size) (hs0:wa.heap.size≤s0)
 (hres:∀C w,Rel G w0 C H w→Tx C w t tmps→Frm m w0.own C0 wa C w→∃v,(results fn tmps).run P w= .ok v w∧R (.returned v) w):
 ∀(bs:List Nat) (C:Ctx) (w:World),bs.Nodup→(∀b∈bs,s0≤b∧w0.own b∧C.B b∧w.heap[b]?=some (.deferred (some [])))→Rel G w0 C H w→Tx C w t tmps→Frm m w0.own C0 wa C w→
  LeavesInM (Fe none) 0 P fn tmps R (bs.map A4U) .returning w:=by
 intro bs
 induction bs with
 |nil=>
  intro C w _ _ hr ht hf
  exact hres C w hr ht hf
 |cons b bs ih=>
  intro C w hn hb hr ht hf
  obtain⟨h1,h2,h3,h4⟩:=hb b (by simp)
  obtain⟨hn1,hn2⟩:=List.nodup_cons.1 hn
  have hlt:=(l1q.1 h4).1
  have hs:SameObj w (w.putObj b (.deferred none)) b (.deferred none):=SameObj.putObj hlt _
  refine⟨by simp,.inl ⟨b,_,rfl,run_takeDeferred h4,ih (C.delB b) _ hn2 (λk hk=> ?_) (hr.shut h4 h2 hs) (ht.shut h4 hs) (hf.delB hfin hfF (by omega) h4 hs)⟩⟩
  obtain⟨g1,g2,g3,g4⟩:=hb k (by simp[hk])
  have hne:k≠b:= λe=>hn1 (e▸hk)
  exact⟨g1,g2,⟨g3,hne⟩,(hs.others k hne).trans g4⟩
def C3K (E:XE) (rs:List ResultVar) (K:KV):Exit→Tm→Hp→Aj:= λe t H=>
 match e with
 | .normal=>B0F E t H rs λvs=>A0g vs λv=>K v H
 | .ret=>B0F E t H rs λvs=>A0g vs λv=>K v H
 |_=>none
theorem B2j {E:XE} {T:Ty} (hT:XT P T) (hE:∀ty i,E.ty.get ty=some i→T ty=some i) {f:FuncId} {fn:Func} {c:Code} {args:List AV} {r:AV×Hp} {K:KV} (hf:P.funcs[f]?=some fn) (hb:fn.body=some c)
 (h:QI P G none (A2 H) (args.length+(fn.ntmps-args.length)) c (λe t H'=>C3K E fn.results.toList K e t H'=some r) (numbered 0 args) H):RC P G f args H (λv H'=>K v H'=some r):=by
 intro w0 C w ys hR ha
 refine callsIn_wide.1 (callsIn_of_wp_marks (n:=0) hf hb trivial ?_)
 have hlen:=ha.1
 have hS:St G w0 w.heap.size C (args.length+(fn.ntmps-args.length)) (numbered 0 args) H {tmps:=ys.toArray++Array.replicate (fn.ntmps-ys.toArray.size) undef,defers:=[]} w:=⟨hR,by simp[hlen],.numbered ha,.nil,OV _⟩
 have hw:=h w0 w.heap.size C _ w hS
 have hFe:Fe none=Fence.wide:=rfl
 rw[←hFe]
 refine wpIn_mono hw λe a' w' ⟨C',t',H',s',x',q⟩=> ?_
 have fin:(B0F E t' H' fn.results.toList λvs=>A0g vs λv=>K v H')=some r→LeavesInM (Fe none) 0 P fn a'.tmps (λe w'=>∃v y C' H',e= .returned y∧Rel G w0 C' H' w'∧VRel C' w' v y∧Frm (A2 H) w0.own C w C' w'∧K v H'=some r) a'.defers .returning w':=by
  intro q
  obtain⟨bs,d1,d2,d3⟩:=s'.defers
  rw[d2]
  refine A50 (H:=H') (t:=t') (C0:=C) (wa:=w) (m:=A2 H) (s0:=w.heap.size) hR.finB hR.fin (OV _) (λC1 w1 r1 t1 f1=> ?_) bs C' w' d1 d3 s'.rel s'.tmps x'
  obtain⟨vs,zs,h1,h2,h3⟩:=B0E hT hE r1 t1 _ _ q
  rw[A7J] at h3
  exact⟨_,A6l h1,_,_,C1,H',rfl,r1,A8l h2,f1,h3⟩
 cases e with
 |normal=>exact fin q
 |ret=>exact fin q
 |_=>cases q
end
def Ht (f:AV→(Bool→AV→Aj)→Aj) (l:List AV):(Bool→List AV→Aj)→Aj:=
 @List.rec AV (λ_=>(Bool→List AV→Aj)→Aj) (λK=>K false [])
  (λa _ ih K=>f a λq a'=>ih λq' l'=>K (@Bool.rec (λ_=>Bool) q' true q) (a'::l')) l
def T4 (f:AV→(Bool→AV→Aj)→Aj) (l:List (Value×AV)):(Bool→List (Value×AV)→Aj)→Aj:=
 @List.rec (Value×AV) (λ_=>(Bool→List (Value×AV)→Aj)→Aj) (λK=>K false [])
  (λp _ ih K=>f p.2 λq a'=>ih λq' l'=>K (@Bool.rec (λ_=>Bool) q' true q) ((p.1,a')::l')) l
def B4b (x:Row) (K:List (Value×AV)→Aj):Aj:=match x with| .map false es _=>K es|_=>none
def A6O (b:Bool) (a:AV) (K:Bool→AV→Aj):Aj:=
 match a with
 | .v x=>K false (.v x)
 | .list n cs=>ck b (K false (.list n cs))
 | .iptr cs=>ck b (K false (.iptr cs))
 | .imap es=>ck b (K false (.imap es))
 |_=>none
def A6N (b:Bool) (H:Hp) (ih:AV→(Bool→AV→Aj)→Aj) (a:AV) (K:Bool→AV→Aj):Aj:=
 match a with
 | .v x=>K false (.v x)
 | .list n cs=>ck b (K false (.list n cs))
 | .iptr cs=>ck b (K false (.iptr cs))
 | .imap es=>ck b (K false (.imap es))
 | .agg cs=>Ht ih cs λq cs'=>K q (.agg cs')
 | .tup cs=>Ht ih cs λq cs'=>K q (.tup cs')
 | .fn f fs cs=>Ht ih fs λq fs'=>Ht ih cs λq' cs'=>K (@Bool.rec (λ_=>Bool) q' true q) (.fn f fs' cs')
 | .sl sz r o n=>JL H r λx=>Ky x λ_ cs=>Gs (Nat.mul n sz) (Dv o cs) λc=>Ht ih c λ_ c'=>K true (.list n c')
 | .ptr r p k=>JL H r λx=>Ky x λ_ cs=>Ht ih (Dv (Nat.add p k) cs) λ_ c'=>K true (.iptr c')
 | .mp r=>JL H r λx=>B4b x λes=>T4 ih es λ_ es'=>K true (.imap es')
 |_=>none
def HO (b:Bool) (H:Hp) (D:Nat):AV→(Bool→AV→Aj)→Aj:=@Nat.rec (λ_=>AV→(Bool→AV→Aj)→Aj) (A6O b) (λ_ ih=>A6N b H ih) D
def Sf (b q:Bool) (C:Ctx) (H:Hp):Ctx:=
 {π:= λ_=>none
  F:= λk i=>(b=true∧C.F k i)∨(q=true∧∃r x o,Aq H r=some x∧C.π r=some (some (k,o)))
  B:= λk=>(b=true∧C.B k)∨(q=true∧∃r x o,Aq H r=some x∧C.π r=some (some (k,o)))}
theorem A3T (b q:Bool) (C:Ctx) (H:Hp):(Sf b q C H).bare=Sf b q C H:=rfl
theorem MF {b q q':Bool} {C:Ctx} {H:Hp} {w:World} (h:q=true→q'=true):Ext (λ_=>True) (Sf b q C H) w (Sf b q' C H) w:=
 ⟨λ_ _=>rfl,λ_ _ h'=>h'.imp id (λ⟨h1,h2⟩=>⟨h h1,h2⟩),λ_ _ _=>rfl,λ_ h'=>h'.imp id (λ⟨h1,h2⟩=>⟨h h1,h2⟩),λ_ _=>rfl,λ_ a _ f h=>⟨a,f,h,rfl⟩,λ_ _ _=> .inr trivial,λ_ _=> .inr trivial,OV _⟩
theorem YX {q q':Bool}:q=true→(@Bool.rec (λ_=>Bool) q' true q)=true:= λh=>by subst h;rfl
theorem Wo {q q':Bool}:q'=true→(@Bool.rec (λ_=>Bool) q' true q)=true:= λh=>by subst h;cases q<;>rfl
section
variable {G:Gl} {w0:Base} {C:Ctx} {H:Hp} {w:World} {b:Bool} {r:AV×Hp}
theorem Zh {f:AV→(Bool→AV→Aj)→Aj} (hf:∀a y K,VRel C w a y→f a K=some r→∃q a',VRel (Sf b q C H) w a' y∧K q a'=some r):
 ∀(l:List AV) (ys:List Value) (K:Bool→List AV→Aj),Cj C w l ys→Ht f l K=some r→∃q l',Cj (Sf b q C H) w l' ys∧K q l'=some r:=by
 intro l
 induction l with
 |nil=>intro ys K hl h;exact⟨false,[],by rw[hl.nil_inv];exact .nil,h⟩
 |cons a l ih=>
  intro ys K hl h
  obtain⟨y,ys',rfl,h1,h2⟩:=hl.cons_inv
  have h:(f a λq a'=>Ht f l λq' l'=>K (@Bool.rec (λ_=>Bool) q' true q) (a'::l'))=some r:=h
  obtain⟨q,a',h3,h4⟩:=hf a y _ h1 h
  obtain⟨q',l',h5,h6⟩:=ih ys' _ h2 h4
  exact⟨_,_,.cons (h3.mono (MF YX)) (h5.mono (MF Wo)),h6⟩
theorem A6M {f:AV→(Bool→AV→Aj)→Aj} (hf:∀a y K,VRel C w a y→f a K=some r→∃q a',VRel (Sf b q C H) w a' y∧K q a'=some r):
 ∀(l:List (Value×AV)) (ms:List MapEntry) (K:Bool→List (Value×AV)→Aj),Kg C w l ms→T4 f l K=some r→∃q l',Kg (Sf b q C H) w l' ms∧K q l'=some r:=by
 intro l
 induction l with
 |nil=>intro ms K hl h;exact⟨false,[],⟨hl.1,λi p hp=>by simp at hp⟩,h⟩
 |cons p l ih=>
  intro ms K hl h
  cases ms with
  |nil=>exact absurd hl.1 (by simp)
  |cons m ms=>
   obtain⟨m',hm,hk,hv⟩:=hl.2 0 p rfl
   simp at hm
   subst hm
   have h:(f p.2 λq a'=>T4 f l λq' l'=>K (@Bool.rec (λ_=>Bool) q' true q) ((p.1,a')::l'))=some r:=h
   obtain⟨q,a',h3,h4⟩:=hf _ _ _ hv h
   obtain⟨q',l',h5,h6⟩:=ih ms _ ⟨by simpa using hl.1,λi x hx=>by simpa using hl.2 (i+1) x (by simpa using hx)⟩ h4
   refine⟨_,_,⟨by simpa using h5.1,λi x hx=> ?_⟩,h6⟩
   cases i with
   |zero=>simp at hx;subst hx;exact⟨m,rfl,hk,h3.mono (MF YX)⟩
   |succ i=>
    obtain⟨m2,g1,g2,g3⟩:=h5.2 i x (by simpa using hx)
    exact⟨m2,by simpa using g1,g2,g3.mono (MF Wo)⟩
theorem Sd {a:AV} {y:Value} (hb:b=true) (hc:cl0 0 a=true) (h:VRel C w a y):VRel (Sf b false C H) w a y:=
 VRel.down (by subst hb;funext k i;simp[Sf]) (by subst hb;funext k;simp[Sf]) 0 a y hc h
theorem A1Q (hr:Rel G w0 C H w):∀(D:Nat) (a:AV) (y:Value) (K:Bool→AV→Aj),VRel C w a y→HO b H D a K=some r→∃q a',VRel (Sf b q C H) w a' y∧K q a'=some r:=by
 intro D
 induction D with
 |zero=>
  intro a y K hv h
  change A6O b a K=some r at h
  unfold A6O at h
  split at h
  ·exact⟨false,_,by rw[AI.1 hv];exact .v _,h⟩
  ·obtain⟨h1,h⟩:=Bw h;exact⟨false,_,Sd h1 rfl hv,h⟩
  ·obtain⟨h1,h⟩:=Bw h;exact⟨false,_,Sd h1 rfl hv,h⟩
  ·obtain⟨h1,h⟩:=Bw h;exact⟨false,_,Sd h1 rfl hv,h⟩
  ·cases h
 |succ D ih=>
  intro a y K hv h
  have hL:= λl ys K=>Zh (f:=HO b H D) (b:=b) (H:=H) (C:=C) (w:=w) (r:=r) ih l ys K
  have hX:= λl ys K=>A6M (f:=HO b H D) (b:=b) (H:=H) (C:=C) (w:=w) (r:=r) ih l ys K
  change A6N b H (HO b H D) a K=some r at h
  unfold A6N at h
  split at h
  ·exact⟨false,_,by rw[AI.1 hv];exact .v _,h⟩
  ·obtain⟨h1,h⟩:=Bw h;exact⟨false,_,Sd h1 rfl hv,h⟩
  ·obtain⟨h1,h⟩:=Bw h;exact⟨false,_,Sd h1 rfl hv,h⟩
  ·obtain⟨h1,h⟩:=Bw h;exact⟨false,_,Sd h1 rfl hv,h⟩
  ·obtain⟨ys,rfl,hl⟩:=ER.1 hv
   obtain⟨q,l',h1,h2⟩:=hL _ _ _ hl h
   exact⟨q,_,ER.2 ⟨ys,rfl,h1⟩,h2⟩
  ·obtain⟨ys,rfl,hl⟩:=DI.1 hv
   obtain⟨q,l',h1,h2⟩:=hL _ _ _ hl h
   exact⟨q,_,DI.2 ⟨ys,rfl,h1⟩,h2⟩
  ·obtain⟨ys,zs,rfl,hl,hl'⟩:=HH.1 hv
   obtain⟨q,l',h1,h2⟩:=hL _ _ _ hl h
   obtain⟨q',l'',h3,h4⟩:=hL _ _ _ hl' h2
   exact⟨_,_,HH.2 ⟨ys,zs,rfl,h1.mono (MF YX),h3.mono (MF Wo)⟩,h4⟩
  ·rename_i sz s o n
   obtain⟨q0,e,cs,hlk,h1⟩:=JT h
   obtain⟨hlen,h2⟩:=Oq _ _ _ _ h1
   rw[CE] at hlen h2
   cases hv with
   |slz hrn=>
    have h2:Ht (HO b H D) ((cs.drop o).take (0*sz)) (λ_ c'=>K true (.list 0 c'))=some r:=h2
    rw[Nat.zero_mul,List.take_zero] at h2
    exact⟨true,_,.list0,h2⟩
   |@sl _ _ _ _ _ _ bk base cap arr T fz hp hcap hbk hfit=>
    rcases hr.rows s _ hlk with⟨_,h6⟩|⟨b',base',arr',fz',hd⟩
    ·rw[h6] at hp;cases hp
    ·have e':=hd.at_.symm.trans hp
     injection e' with e';injection e' with e';injection e' with e1 e2;subst e1 e2
     have hvals:Cj C w ((cs.drop o).take (n*sz)) ((((arr'.toList.drop base').take cs.length).drop o).take (n*sz)):=(hd.vals.unsel.drop o).take _
     obtain⟨q,l',h3,h4⟩:=hL _ _ _ hvals h2
     have h3:=h3.mono (MF (q':=true) (λ_=>rfl))
     have hll:l'.length=n*sz:=by
      rw[←h3.1,hvals.1,l0g]
      have:n*sz≤(cs.drop o).length:=hlen
      omega
     refine⟨true,_,.list hcap (λi=>((((arr'.toList.drop base').take cs.length).drop o).take (n*sz)).getD i undef) (λi hi=> .inr ⟨rfl,s,_,_,hlk,hp⟩) (λi hi=> ?_) (λi hi=> ?_),h4⟩
     ·have hi2:i<n*sz:=by omega
      have hi3:o+i<cs.length:=by have:n*sz≤(cs.drop o).length:=hlen;simp at this;omega
      rw[Xk,hd.cell]
      rw[TW,l0m,if_pos hi2,l0d,l0m,if_pos hi3,l0d,l21]
      have hf:=hd.fits
      rw[l1k (by omega)];rfl
     ·have:=h3.get i hi
      rw[A3T,TW,Kq (by rw[h3.1];exact hi)]
      exact this
  ·rename_i s p k
   obtain⟨q0,e,cs,hlk,h2⟩:=JT h
   rw[CE] at h2
   cases hv with
   |@ptr _ _ _ _ _ bk base hp=>
    rcases hr.rows s _ hlk with⟨_,h6⟩|⟨b',base',arr',fz',hd⟩
    ·rw[h6] at hp;cases hp
    ·have e':=hd.at_.symm.trans hp
     injection e' with e';injection e' with e';injection e' with e1 e2;subst e1 e2
     have hvals:Cj C w (cs.drop (p+k)) (((arr'.toList.drop base').take cs.length).drop (p+k)):=hd.vals.unsel.drop _
     obtain⟨q,l',h3,h4⟩:=hL _ _ _ hvals h2
     have h3:=h3.mono (MF (q':=true) (λ_=>rfl))
     have hll:l'.length=cs.length-(p+k):=by rw[←h3.1,hvals.1,l0t]
     refine⟨true,_,.iptr (λi=>(((arr'.toList.drop base').take cs.length).drop (p+k)).getD i undef) (λi hi=> .inr ⟨rfl,s,_,_,hlk,hp⟩) (λi hi=> ?_) (λi hi=> ?_),h4⟩
     ·have hi3:p+k+i<cs.length:=by omega
      rw[Xk,hd.cell]
      rw[TW,l0d,l0m,if_pos hi3,l0d,l21]
      have hf:=hd.fits
      rw[l1k (by omega)];rfl
     ·have:=h3.get i hi
      rw[A3T,TW,Kq (by rw[h3.1];exact hi)]
      exact this
  ·rename_i s
   obtain⟨x,hlk,h2⟩:=Hd rfl h
   unfold B4b at h2
   split at h2
   ·rename_i es _bo
    cases hv with
    |@mp _ _ _ bk base hp=>
     obtain⟨bk',ms,clock,g1,g2,g3,g4,_⟩:=hr.rows s _ hlk
     have e':=g1.symm.trans hp
     injection e' with e';injection e' with e';injection e' with e1 e2;subst e1 e2
     obtain⟨q,l',h3,h4⟩:=hX _ _ _ g4 h2
     have h3:=h3.mono (MF (q':=true) (λ_=>rfl))
     have hlen:ms.size=l'.length:=by have:=h3.1;simpa using this
     have get:∀i (hi:i<l'.length),(ms.getD i default).key=l'[i].1∧VRel (Sf b true C H) w l'[i].2 (ms.getD i default).val:= λi hi=>by
      obtain⟨m,k1,k2,k3⟩:=h3.2 i _ (Kq hi)
      have:ms.getD i default=m:=by
       rw[l21] at k1
       simp[Zk,k1]
      rw[this];exact⟨k2,k3⟩
     refine⟨true,_,.imap ms (.inr ⟨rfl,s,_,_,hlk,hp⟩) g2 hlen (λi hi=>(get i hi).1) (λi j hij hj=> ?_) (λi hi=> ?_) (λi hi=>(get i hi).2),h4⟩
     ·have:=l20.1 g3.born i j (by simpa using Nat.lt_trans hij hj) (by simpa using hj) hij
      simpa [Zk,hj,Nat.lt_trans hij hj] using this
     ·have:=g3.lt ms[i] (by simp)
      simpa [Zk,hi] using this
   ·cases h2
  ·cases h
end
def LK.fit:LK→Value→Bool
 | .int k,.int k' _=>decide (k'=k)
 | .str,.string _=>true
 | .bool,.bool _=>true
 |_,_=>false
def fits:List LK→List Value→Bool
 |[],[]=>true
 |k::ks,v::vs=>k.fit v&&fits ks vs
 |_,_=>false
def RF (ag:Bool) (vs:List Value):Value:=match ag with|true=> .agg vs.toArray|false=>vs.headD undef
def KZ (P:Program) (rec:TypeId→Option (Bool×List LK)):Nat→List Field→Option (List LK)
 |_,[]=>some []
 |off,f::fs=>match rec f.type with
  |some (_,ks)=>if f.name != "_" &&(Nat.beq f.offset off&&(Nat.beq (P.cellsOf f.type) ks.length&& !Nat.beq ks.length 0)) then(KZ P rec (off+ks.length) fs).map (ks++ ·) else none
  |none=>none
def leaves (P:Program):Nat→TypeId→Option (Bool×List LK)
 |0,_=>none
 |d+1,t=>match P.underlying t with
  |some (.int k)=>some (false,[.int k])
  |some .string=>some (false,[.str])
  |some .bool=>some (false,[.bool])
  |some (.struct fs)=>if P.stoodInHeld t then none else(KZ P (leaves P d) 0 fs.toList).map λks=>(true,ks)
  |some (.array n e)=>match leaves P d e with
   |some (_,ks)=>if Nat.beq (P.cellsOf e) ks.length&& !Nat.beq ks.length 0 then some (true,(List.replicate n ks).flatten) else none
   |none=>none
  |_=>none
theorem DB:∀{ks:List LK} {vs:List Value},fits ks vs=true→vs.length=ks.length:=by
 intro ks
 induction ks with
 |nil=>intro vs h;cases vs<;>simp[fits] at h;rfl
 |cons k ks ih=>
  intro vs h
  cases vs with
  |nil=>simp[fits] at h
  |cons v vs=>simp only[fits,Jm] at h;simp[ih h.2]
theorem L6:∀{ks ls:List LK} {vs:List Value},fits (ks++ls) vs=true→fits ks (vs.take ks.length)=true∧fits ls (vs.drop ks.length)=true:=by
 intro ks
 induction ks with
 |nil=>intro ls vs h;exact⟨by simp[fits],by simpa using h⟩
 |cons k ks ih=>
  intro ls vs h
  cases vs with
  |nil=>simp[fits] at h
  |cons v vs=>
   simp only[List.cons_append,fits,Jm] at h
   obtain⟨h1,h2⟩:=ih h.2
   exact⟨by simp[fits,h.1,h1],by simpa using h2⟩
theorem WK {α:Type} [DecidableEq α] (n:Nat) (xs ys:List α):decide (xs=ys)=(decide (xs.take n=ys.take n)&&decide (xs.drop n=ys.drop n)):=by
 rw[l0w]
 simp only[decide_eq_true_eq,Jm]
 constructor
 ·rintro rfl;exact⟨rfl,rfl⟩
 ·rintro⟨h1,h2⟩
  rw[←List.take_append_drop n xs,←List.take_append_drop n ys,h1,h2]
instance:DecidableEq Value:=Classical.typeDecidableEq Value
section
variable {P:Program}
theorem A51 {d:Nat} {t:TypeId} {ag:Bool} {ks:List LK} (h:leaves P d t=some (ag,ks)) (w:World):(isAgg t).run P w= .ok ag w:=by
 cases d with
 |zero=>simp[leaves] at h
 |succ d=>
  unfold leaves at h
  split at h
  ·rename_i hu;injection h with h;injection h with h1 h2;subst h1;unfold isAgg;rw[CI,run_underlying hu w];rfl
  ·rename_i hu;injection h with h;injection h with h1 h2;subst h1;unfold isAgg;rw[CI,run_underlying hu w];rfl
  ·rename_i hu;injection h with h;injection h with h1 h2;subst h1;unfold isAgg;rw[CI,run_underlying hu w];rfl
  ·rename_i fs hu
   split at h
   ·cases h
   ·cases hl:KZ P (leaves P d) 0 fs.toList with
    |none=>rw[hl] at h;simp at h
    |some l=>
     rw[hl] at h
     simp only[l0x,l0y,Prod.mk.injEq] at h
     obtain⟨h1,h2⟩:=h
     subst h1
     unfold isAgg;rw[CI,run_underlying hu w];rfl
  ·rename_i n e hu
   split at h
   ·split at h
    ·injection h with h;injection h with h1 h2;subst h1;unfold isAgg;rw[CI,run_underlying hu w];rfl
    ·cases h
   ·cases h
  ·cases h
theorem L5 {d:Nat} {t:TypeId} {ag:Bool} {ks:List LK} (h:leaves P d t=some (ag,ks)) (hc:P.cellsOf t=ks.length) (hne:ks.length≠0) (xs:List Value) (off:Nat) (hx:off+ks.length≤xs.length) (w:World):
 (part t xs.toArray off).run P w= .ok (RF ag ((xs.drop off).take ks.length)) w:=by
 unfold part
 rw[CI,A51 h w]
 simp only[EO]
 cases ag with
 |true=>
  simp only[if_true]
  rw[CI,BF w (by rw[hc];exact hne)]
  simp only[EO,Y9,RF,hc]
  congr 2
  apply l0c
  simp[List.take_drop]
 |false=>
  simp only[l0z,if_false]
  have hlt:off<xs.length:=by omega
  rw[l10,Kq hlt]
  simp only[Y9,RF]
  congr 1
  rw[l11 hlt]
  cases hk:ks.length with
  |zero=>exact absurd hk hne
  |succ n=>rfl
def B5K (P:Program) (d:Nat) (t:TypeId):Prop:=
 ∀ag ks,leaves P d t=some (ag,ks)→∀(m:Nat) (xs ys:List Value),fits ks xs=true→fits ks ys=true→∀w,(Op.equalIn (m+d) t (RF ag xs) (RF ag ys)).run P w= .ok (decide (xs=ys)) w
theorem A06 {d:Nat} (IH:∀t,B5K P d t) (m:Nat):∀(fs:List Field) (off:Nat) (ks:List LK),KZ P (leaves P d) off fs=some ks→∀(xs ys:List Value),fits ks (xs.drop off)=true→fits ks (ys.drop off)=true→
 off≤xs.length→off≤ys.length→∀w,(Op.eqFields (m+d) xs.toArray ys.toArray fs).run P w= .ok (decide (xs.drop off=ys.drop off)) w:=by
 intro fs
 induction fs with
 |nil=>
  intro off ks h xs ys hx hy _ _ w
  simp only[KZ,l0y] at h
  subst h
  have h1:=DB hx
  have h2:=DB hy
  simp only[OU,List.length_eq_zero_iff] at h1 h2
  rw[h1,h2]
  simp[Op.eqFields]
 |cons f fs ih=>
  intro off ks h xs ys hx hy ox oy w
  unfold KZ at h
  split at h
  ·rename_i ag k1 hl
   split at h
   ·rename_i hc
    simp only[Jm,l13,l14,bne_iff_ne,ne_eq] at hc
    obtain⟨c1,c2,c3,c4⟩:=hc
    have c4:k1.length≠0:= λe=>by rw[e] at c4;simp at c4
    cases hr:KZ P (leaves P d) (off+k1.length) fs with
    |none=>rw[hr] at h;simp at h
    |some k2=>
     rw[hr] at h
     simp only[l0x,l0y] at h
     subst h
     obtain⟨x1,x2⟩:=L6 hx
     obtain⟨y1,y2⟩:=L6 hy
     rw[l15] at x2 y2
     have lx:=DB hx
     have ly:=DB hy
     simp only[l0t,Fl] at lx ly
     simp only[Op.eqFields]
     rw[if_pos c1,CI,c2,L5 hl c3 c4 xs off (by omega) w]
     simp only[EO]
     rw[CI,L5 hl c3 c4 ys off (by omega) w]
     simp only[EO]
     rw[CI,IH f.type ag k1 hl m _ _ x1 y1 w]
     simp only[EO]
     rw[WK k1.length (xs.drop off) (ys.drop off),l15,l15]
     cases hq:decide (List.take k1.length (List.drop off xs)=List.take k1.length (List.drop off ys))
     ·simp
     ·simp only[Bool.not_true,l0z,if_false,l16]
      exact ih _ _ hr xs ys x2 y2 (by omega) (by omega) w
   ·cases h
  ·cases h
theorem A2e {d:Nat} {e:TypeId} (IH:B5K P d e) (m:Nat) {ag:Bool} {ks:List LK} (hl:leaves P d e=some (ag,ks)) (hc:P.cellsOf e=ks.length) (hne:ks.length≠0):∀(n i:Nat) (xs ys:List Value),fits (List.replicate n ks).flatten (xs.drop (i*ks.length))=true→fits (List.replicate n ks).flatten (ys.drop (i*ks.length))=true→
 i*ks.length≤xs.length→i*ks.length≤ys.length→∀w,(Op.eqItems (m+d) e (P.cellsOf e) xs.toArray ys.toArray (List.range' i n)).run P w= .ok (decide (xs.drop (i*ks.length)=ys.drop (i*ks.length))) w:=by
 intro n
 induction n with
 |zero=>
  intro i xs ys hx hy _ _ w
  have h1:=DB hx
  have h2:=DB hy
  simp only[List.replicate_zero,List.flatten_nil,OU,List.length_eq_zero_iff] at h1 h2
  rw[h1,h2]
  simp[Op.eqItems]
 |succ n ih=>
  intro i xs ys hx hy ox oy w
  rw[l17,l18] at hx hy
  obtain⟨x1,x2⟩:=L6 hx
  obtain⟨y1,y2⟩:=L6 hy
  rw[l15] at x2 y2
  have lx:=DB hx
  have ly:=DB hy
  simp only[l0t,Fl] at lx ly
  have e1:i*ks.length+ks.length=(i+1)*ks.length:=by rw[l19];omega
  rw[List.range'_succ]
  simp only[Op.eqItems]
  rw[CI,hc,L5 hl hc hne xs (i*ks.length) (by omega) w]
  simp only[EO]
  rw[CI,L5 hl hc hne ys (i*ks.length) (by omega) w]
  simp only[EO]
  rw[CI,IH ag ks hl m _ _ x1 y1 w]
  simp only[EO]
  rw[WK ks.length (xs.drop (i*ks.length)) (ys.drop (i*ks.length)),l15,l15,e1]
  rw[e1] at x2 y2
  cases hq:decide (List.take ks.length (List.drop (i*ks.length) xs)=List.take ks.length (List.drop (i*ks.length) ys))
  ·simp
  ·simp only[Bool.not_true,l0z,if_false,l16]
   have:=ih (i+1) xs ys x2 y2 (by omega) (by omega) w
   rw[hc] at this
   exact this
theorem A2d:∀(d:Nat) (t:TypeId),B5K P d t:=by
 intro d
 induction d with
 |zero=>intro t ag ks h;simp[leaves] at h
 |succ d IH=>
  intro t ag ks h m xs ys hx hy w
  rw[←Xk]
  unfold leaves at h
  split at h
  ·rename_i k hu
   injection h with h;injection h with h1 h2;subst h1 h2
   obtain⟨x,rfl⟩:=l1a.1 (DB hx)
   obtain⟨y,rfl⟩:=l1a.1 (DB hy)
   ·
    simp only[fits,l1b] at hx hy
    cases x<;>simp[LK.fit] at hx
    cases y<;>simp[LK.fit] at hy
    subst hx hy
    simp only[RF,List.headD]
    rw[run_equalIn_int w (m+d) t _ _ _ _ hu]
    congr 1
    rw[l0w];simp
  ·rename_i hu
   injection h with h;injection h with h1 h2;subst h1 h2
   obtain⟨x,rfl⟩:=l1a.1 (DB hx)
   obtain⟨y,rfl⟩:=l1a.1 (DB hy)
   ·
    simp only[fits,l1b] at hx hy
    cases x<;>simp[LK.fit] at hx
    cases y<;>simp[LK.fit] at hy
    simp only[RF,List.headD]
    rw[run_equalIn_string w (m+d) t _ _ hu]
    congr 1
    rw[←beq_toListBytes,l0w,MapKept.bytes_beq];simp
  ·rename_i hu
   injection h with h;injection h with h1 h2;subst h1 h2
   obtain⟨x,rfl⟩:=l1a.1 (DB hx)
   obtain⟨y,rfl⟩:=l1a.1 (DB hy)
   ·
    simp only[fits,l1b] at hx hy
    cases x<;>simp[LK.fit] at hx
    cases y<;>simp[LK.fit] at hy
    simp only[RF,List.headD]
    rw[run_equalIn_bool' w (m+d) t _ _ hu]
    congr 1
    rw[l0w];simp
  ·rename_i fs hu
   split at h
   ·cases h
   ·rename_i hst
    cases hl:KZ P (leaves P d) 0 fs.toList with
    |none=>rw[hl] at h;simp at h
    |some l=>
     rw[hl] at h
     simp only[l0x,l0y,Prod.mk.injEq] at h
     obtain⟨h1,h2⟩:=h
     subst h1 h2
     have hf:P.fieldsOf t=fs:=by simp[Program.fieldsOf,hu]
     simp only[RF]
     rw[run_equalIn_struct w (m+d) t _ _ (by rw[hf];exact hu) (by simpa using hst),hf]
     exact A06 IH m fs.toList 0 l hl xs ys hx hy (l1c _) (l1c _) w
  ·rename_i n e hu
   split at h
   ·rename_i ag' k1 hl
    split at h
    ·rename_i hc
     simp only[Jm,l13,l14] at hc
     have hne:k1.length≠0:= λe0=>by have:=hc.2;rw[e0] at this;simp at this
     injection h with h;injection h with h1 h2;subst h1 h2
     simp only[RF]
     obtain⟨i,hi⟩:∃i,P.info? e=some i:=by
      cases hie:P.info? e with
      |none=>exfalso;exact hne (by rw[←hc.1];simp[Program.cellsOf,hie])
      |some i=>exact⟨i,rfl⟩
     rw[run_equalIn_array w (m+d) _ _ hu hi,List.range_eq_range']
     have:=A2e (IH e) m hl hc.1 hne n 0 xs ys (by simpa using hx) (by simpa using hy) (by simp) (by simp) w
     simpa using this
    ·cases h
   ·cases h
  ·cases h
structure EqFlat (P:Program) (t:TypeId) (ks:List LK):Prop where
 leaves:leaves P 6 t=some (true,ks)
 guard:P.eqGuardType P.depth t=false
theorem EqFlat.equal {t:TypeId} {ks:List LK} (h:EqFlat P t ks) {xs ys:List Value} (hx:fits ks xs=true) (hy:fits ks ys=true) (w:World):(Op.equal t (.agg xs.toArray) (.agg ys.toArray)).run P w= .ok (decide (xs=ys)) w:=
 A2d 6 t true ks h.leaves 9994 xs ys hx hy w
theorem A0c:∀(d:Nat) (t:TypeId) (ag:Bool) (ks:List LK),leaves P d t=some (ag,ks)→∀(m:Nat) (em:Bool) (xs:List Value),fits ks xs=true→∀w,(Instr.checkKey em (m+d) t (RF ag xs)).run P w= .ok () w:=by
 intro d
 induction d with
 |zero=>intro t ag ks h;simp[leaves] at h
 |succ d IH=>
  intro t ag ks h m em xs hx w
  rw[←Xk]
  unfold Instr.checkKey
  unfold leaves at h
  split at h
  ·rename_i k hu
   rw[CI,run_underlying hu w];rfl
  ·rename_i hu
   rw[CI,run_underlying hu w];rfl
  ·rename_i hu
   rw[CI,run_underlying hu w];rfl
  ·rename_i fs hu
   split at h
   ·cases h
   ·rename_i hst
    cases hl:KZ P (leaves P d) 0 fs.toList with
    |none=>rw[hl] at h;simp at h
    |some l=>
     rw[hl] at h
     simp only[l0x,l0y,Prod.mk.injEq] at h
     obtain⟨h1,h2⟩:=h
     subst h1 h2
     rw[CI,run_underlying hu w]
     simp only[EO,RF]
     rw[←Array.forIn_toList]
     generalize fs.toList=gs at hl
     have key:∀(gs:List Field) (off:Nat) (l:List LK),KZ P (leaves P d) off gs=some l→fits l (xs.drop off)=true→off≤xs.length→
      (forIn gs PUnit.unit (λf (_:PUnit)=>(if f.name≠ "_" then(do let y←part f.type xs.toArray f.offset;Instr.checkKey em (m+d) f.type y;pure (ForInStep.yield PUnit.unit)) else pure (ForInStep.yield PUnit.unit):Sem (ForInStep PUnit)))).run P w= .ok PUnit.unit w:=by
      intro gs
      induction gs with
      |nil=>intro off l _ _ _;simp
      |cons f gs ih=>
       intro off l h hx ox
       unfold KZ at h
       split at h
       ·rename_i ag k1 hlf
        split at h
        ·rename_i hc
         simp only[Jm,l13,l14,bne_iff_ne,ne_eq] at hc
         obtain⟨c1,c2,c3,c4⟩:=hc
         have c4:k1.length≠0:= λe=>by rw[e] at c4;simp at c4
         cases hr:KZ P (leaves P d) (off+k1.length) gs with
         |none=>rw[hr] at h;simp at h
         |some k2=>
          rw[hr] at h
          simp only[l0x,l0y] at h
          subst h
          obtain⟨x1,x2⟩:=L6 hx
          rw[l15] at x2
          have lx:=DB hx
          simp only[l0t,Fl] at lx
          rw[List.forIn_cons,if_pos c1,CI,CI,c2,L5 hlf c3 c4 xs off (by omega) w]
          simp only[EO]
          rw[CI,IH f.type ag k1 hlf m em _ x1 w]
          simp only[EO,Y9]
          exact ih _ _ hr x2 (by omega)
        ·cases h
       ·cases h
     have:=key gs 0 l hl (by simpa using hx) (l1c _)
     rw[CI]
     refine(congrArg (λq=>Result.andThen q _) this).trans ?_
     rfl
  ·rename_i n e hu
   split at h
   ·rename_i ag' k1 hl
    split at h
    ·rename_i hc
     simp only[Jm,l13,l14] at hc
     have hne:k1.length≠0:= λe0=>by have:=hc.2;rw[e0] at this;simp at this
     injection h with h;injection h with h1 h2;subst h1 h2
     have hsz:(sizeOf e).run P w= .ok (P.cellsOf e) w:=BF w (by rw[hc.1];exact hne)
     rw[CI,run_underlying hu w]
     simp only[EO,RF]
     simp only[Std.Legacy.Range.forIn_eq_forIn_range',Std.Legacy.Range.size,Nat.sub_zero,Nat.add_one_sub_one,Nat.div_one]
     have key:∀(n i:Nat),fits (List.replicate n k1).flatten (xs.drop (i*k1.length))=true→i*k1.length≤xs.length→
      (forIn (List.range' i n) PUnit.unit (λj (_:PUnit)=>(do let z←sizeOf e;let y←part e xs.toArray (j*z);Instr.checkKey em (m+d) e y;pure (ForInStep.yield PUnit.unit):Sem (ForInStep PUnit)))).run P w= .ok PUnit.unit w:=by
      intro n
      induction n with
      |zero=>intro i _ _;simp
      |succ n ih=>
       intro i hx ox
       rw[l17,l18] at hx
       obtain⟨x1,x2⟩:=L6 hx
       rw[l15] at x2
       have lx:=DB hx
       simp only[l0t,Fl] at lx
       have e1:i*k1.length+k1.length=(i+1)*k1.length:=by rw[l19];omega
       rw[e1] at x2
       rw[List.range'_succ,List.forIn_cons,CI,CI,hsz]
       simp only[EO]
       rw[CI,hc.1,L5 hl hc.1 hne xs (i*k1.length) (by omega) w]
       simp only[EO]
       rw[CI,IH e ag' k1 hl m em _ x1 w]
       simp only[EO,Y9]
       exact ih (i+1) x2 (by omega)
     have:=key n 0 (by simpa using hx) (by simp)
     rw[CI]
     refine(congrArg (λq=>Result.andThen q _) this).trans ?_
     rfl
    ·cases h
   ·cases h
  ·cases h
def XN (P:Program) (f:FuncId):Prop:=∀(x:Value) (w:World),(callFunc f #[x]).run P w= .ok (.value x) w
theorem EqFlat.check {t:TypeId} {ks:List LK} (h:EqFlat P t ks) {xs:List Value} (hx:fits ks xs=true) (em:Bool) (w:World):(Instr.checkKey em 10000 t (.agg xs.toArray)).run P w= .ok () w:=
 A0c 6 t true ks h.leaves 9994 em xs hx w
end
abbrev KQ:=Exit→Tm→Hp→Aj
abbrev A5y:=Cf→Code→Tm→Hp→KQ→Aj
structure Rt where
 call:B5L
 run:A5y
def unV:AV→Value
 | .v x=>x
 |_=>undef
def isV:AV→Bool
 | .v _=>true
 |_=>false
def XE.G (E:XE):Gl:= λg=>(E.gl.get g).map λcs=>cs.map unV
def Qy (D:Nat→List Oper→Bool):Code→Bool
 | .region id ops true=>D id ops.toList
 | .seq x y=>Qy D x&&Qy D y
 | .cond _ x y=>Qy D x&&Qy D y
 | .block _ x=>Qy D x
 | .loop x=>Qy D x
 | .scope x=>Qy D x
 |_=>true
structure XE.Ok (D:XE→Cf→Nat→List Oper→Bool) (E:XE) (P:Program):Prop where
 ty:XT P E.T
 pos:∀t i e esz,E.T t=some i→(i.d= .slice e esz∨∃n,i.d= .array n e esz)→esz≠0
 mix:P.follows .mixedOrders=true
 gl:∀g cs,E.gl.get g=some cs→cs.all isV=true
 fn:∀f x,E.ft.get f=some x→∃fn,P.funcs[f]?=some fn∧fn.body=some x.c∧fn.ntmps=x.n∧fn.results.toList=x.rs∧(fn.name== "runtime.NumGoroutine")=false∧Qy (D E ⟨false,x.lv,x.fz,x.n,x.rc⟩) x.c=true
 eq:∀t ks,E.eqt.get t=some ks→EqFlat P t ks
 lie:∀e n o u,(e,n,o,u)∈E.lie→liesAt P P.depth e (n/P.cellsOf e) o u 1=true∧(P.info? u).isSome=true
 up:E.lie.isEmpty=false→P.underlying E.up=some .unsafePointer
 ne:∀f,E.ne f=true→XN P f
def XE.env (E:XE) (P:Program):Env:={P:=P,G:=E.G,T:=E.T}
theorem XE.Ok.env {D:XE→Cf→Nat→List Oper→Bool} {E:XE} {P:Program} (h:XE.Ok D E P):(E.env P).Ok:=⟨h.ty,h.pos,h.mix⟩
def A0e (P:Program) (f:Nat):Prop:=∃fn,P.funcs[f]?=some fn∧fn.body.isNone=false∧(fn.name== "runtime.NumGoroutine")=false
def XM (D:XE→Cf→Nat→List Oper→Bool) (E:XE) (P:Program) (R:A5y):Prop:=
 ∀(ro:Option Nat) (cf:Cf) (c:Code) (t:Tm) (H:Hp) (K:KQ) (r:AV×Hp) (m:Nat),(ro≠none→cf.b=true)→(cf.b=false→Qy (D E cf) c=true)→R cf c t H K=some r→QI P E.G ro m cf.n c (λe t' H'=>K e t' H'=some r) t H
structure RSound (D:XE→Cf→Nat→List Oper→Bool) (E:XE) (P:Program) (R:Rt):Prop where
 run:XM D E P R.run
 call:∀(f:Nat) (args:List AV) (H:Hp) (K:KV) (r:AV×Hp),R.call f args H K=some r→A0e P f∧RC P E.G f args H (λv H'=>K v H'=some r)
def zgo (E:XE) (R:A5y) (x:XFn) (args:List AV) (H:Hp) (K:KV):Aj:=
 B0n args 0 λk=>ckS (Nat.ble k x.n) (B8c args 0 λt=>R ⟨false,x.lv,x.fz,x.n,x.rc⟩ x.c t H (C3K E x.rs K))
def zfn (E:XE) (R:A5y) (f:Nat) (args:List AV) (H:Hp) (K:KV):Aj:=E.ft.getK f λx=>zgo E R x args H K
def depth:Nat:=12
def Ai (a:Aj) (K:AV→Aj):Aj:=match a with|some (v,_)=>K v|none=>none
def Ah (R:Rt) (f:Nat) (args:List AV) (H:Hp) (K:AV→Aj):Aj:=
 Ht (HO true H depth) args λq args'=>Ai (R.call f args' [] λv H'=>HO (!q) H' depth v λ_ v'=>some (v',[])) K
section
variable {D:XE→Cf→Nat→List Oper→Bool} {E:XE} {P:Program} {R:Rt} {f:Nat} {args:List AV} {H:Hp} {r:AV×Hp}
theorem C5L (hE:XE.Ok D E P) {x:XFn} (hx:E.ft.get f=some x):A0e P f:=by
 obtain⟨fn,h1,h2,h3,h4,h5,h6⟩:=hE.fn f x hx
 exact⟨fn,h1,by rw[h2];rfl,h5⟩
theorem B0H (hE:XE.Ok D E P) {Ru:A5y} (hR:XM D E P Ru) {x:XFn} (hx:E.ft.get f=some x) {K:KV} (h:zgo E Ru x args H K=some r):RC P E.G f args H (λv H'=>K v H'=some r):=by
 unfold zgo at h
 rw[B4H] at h
 obtain⟨hk,h⟩:=Kf h
 rw[B8b] at h
 obtain⟨fn,h1,h2,h3,h4,h5,h6⟩:=hE.fn f x hx
 refine B2j (E:=E) (T:=E.T) hE.ty (λty i h=>h) h1 h2 ?_
 have hk:args.length≤x.n:=by rw[XQ] at hk;omega
 have hN:args.length+(fn.ntmps-args.length)=x.n:=by rw[h3];omega
 rw[hN,h4]
 exact hR none ⟨false,x.lv,x.fz,x.n,x.rc⟩ x.c _ H _ r (A2 H) (λh=>absurd rfl h) (λ_=>h6) h
theorem A3o (hE:XE.Ok D E P) {Ru:A5y} (hR:XM D E P Ru) {K:KV} (h:zfn E Ru f args H K=some r):A0e P f∧RC P E.G f args H (λv H'=>K v H'=some r):=by
 obtain⟨x,hx,h⟩:=AZ h
 exact⟨C5L hE hx,B0H hE hR hx h⟩
theorem Keep.toBelow {w w':World} (h:Keep ⟨w,λ_=>False⟩ w'):Below w.heap.size w w':=⟨h.os,h.tape,h.output,h.size,λb hb=>h.block b hb id⟩
theorem A73 {G:Gl} {w0:Base} {C:Ctx} {w:World} {b q:Bool} (h:Rel G w0 C H w):(∀k i,(Sf b q C H).F k i→k<w.heap.size)∧∀k,(Sf b q C H).B k→k<w.heap.size:=by
 refine⟨λk i hF=> ?_,λk hB=> ?_⟩
 ·rcases hF with⟨_,hF⟩|⟨_,s,x,o,hl,hp⟩
  ·exact h.fin k i hF
  ·exact(h.rows s x hl).block (Fa hl) hp
 ·rcases hB with⟨_,hB⟩|⟨_,s,x,o,hl,hp⟩
  ·exact h.finB k hB
  ·exact(h.rows s x hl).block (Fa hl) hp
theorem A8P {C:Ctx} {w:World} {G:Gl} {w0:Base} (hr:Rel G w0 C H w) (args:List AV) (ys:List Value) (K:Bool→List AV→Aj) (ha:Cj C w args ys) (h:Ht (HO true H depth) args K=some r):∃q args',Cj (Sf true q C H) w args' ys∧K q args'=some r:=
 Zh (f:=HO true H depth) (b:=true) (λa y K hv h=>A1Q hr depth a y K hv h) args ys K ha h
theorem Qj:∀(f:AV→(Bool→AV→Aj)→Aj) (hf:∀a K,f a K=some r→∃q a',K q a'=some r) (l:List AV) (K:Bool→List AV→Aj),Ht f l K=some r→∃q l',K q l'=some r:=by
 intro f hf l
 induction l with
 |nil=>intro K h;exact⟨_,_,h⟩
 |cons a l ih=>
  intro K h
  obtain⟨q,a',h⟩:=hf a _ h
  obtain⟨q',l',h⟩:=ih _ h
  exact⟨_,_,h⟩
theorem B4j:∀(f:AV→(Bool→AV→Aj)→Aj) (hf:∀a K,f a K=some r→∃q a',K q a'=some r) (l:List (Value×AV)) (K:Bool→List (Value×AV)→Aj),T4 f l K=some r→∃q l',K q l'=some r:=by
 intro f hf l
 induction l with
 |nil=>intro K h;exact⟨_,_,h⟩
 |cons a l ih=>
  intro K h
  obtain⟨q,a',h⟩:=hf a.2 _ h
  obtain⟨q',l',h⟩:=ih _ h
  exact⟨_,_,h⟩
theorem B7L {b:Bool}:∀(n:Nat) (a:AV) (K:Bool→AV→Aj),HO b H n a K=some r→∃q a',K q a'=some r:=by
 intro n
 induction n with
 |zero=>
  intro a K h
  change A6O b a K=some r at h
  unfold A6O at h
  split at h
  ·exact⟨_,_,h⟩
  ·exact⟨_,_,(Bw h).2⟩
  ·exact⟨_,_,(Bw h).2⟩
  ·exact⟨_,_,(Bw h).2⟩
  ·cases h
 |succ n ih=>
  intro a K h
  change A6N b H (HO b H n) a K=some r at h
  unfold A6N at h
  split at h
  ·exact⟨_,_,h⟩
  ·exact⟨_,_,(Bw h).2⟩
  ·exact⟨_,_,(Bw h).2⟩
  ·exact⟨_,_,(Bw h).2⟩
  ·obtain⟨q,l,h⟩:=Qj _ ih _ _ h;exact⟨_,_,h⟩
  ·obtain⟨q,l,h⟩:=Qj _ ih _ _ h;exact⟨_,_,h⟩
  ·obtain⟨q,l,h⟩:=Qj _ ih _ _ h
   obtain⟨q,l,h⟩:=Qj _ ih _ _ h
   exact⟨_,_,h⟩
  ·obtain⟨q0,e,cs,_,h⟩:=JT h
   obtain⟨_,h⟩:=Oq _ _ _ _ h
   obtain⟨q,l,h⟩:=Qj _ ih _ _ h;exact⟨_,_,h⟩
  ·obtain⟨q0,e,cs,_,h⟩:=JT h
   obtain⟨q,l,h⟩:=Qj _ ih _ _ h;exact⟨_,_,h⟩
  ·obtain⟨x,_,h⟩:=Hd rfl h
   unfold B4b at h
   split at h
   ·obtain⟨q,l,h⟩:=B4j _ ih _ _ h;exact⟨_,_,h⟩
   ·cases h
  ·cases h
theorem Sn {a:Aj} {K:AV→Aj} (h:Ai a K=some r):∃v H',a=some (v,H')∧K v=some r:=by
 unfold Ai at h
 split at h
 ·exact⟨_,_,rfl,h⟩
 ·cases h
theorem Zs (hR:RSound D E P R) {K:AV→Aj} (h:Ah R f args H K=some r):A0e P f∧RC P E.G f args H (λv H'=>H'=H∧K v=some r):=by
 unfold Ah at h
 refine⟨?_,?_⟩
 ·obtain⟨q,l',h⟩:=Qj _ (λa K h=>B7L depth a K h) _ _ h
  obtain⟨v,H',h1,_⟩:=Sn h
  exact(hR.call _ _ _ _ _ h1).1
 intro w0 C w ys hr ha
 obtain⟨q,args',ha',hrun⟩:=A8P hr args ys _ ha h
 obtain⟨v0,H0,hrun,hK0⟩:=Sn hrun
 have hc:=(hR.call _ _ _ _ _ hrun).2
 have hfin:=A73 (b:=true) (q:=q) hr
 have hR0:Rel E.G ⟨w,λ_=>False⟩ (Sf true q C H) [] w:=
  ⟨λg cs hg i v hv=>⟨.inl ⟨rfl,(hr.glob g cs hg i v hv).1⟩,(hr.glob g cs hg i v hv).2⟩,.refl _ _,λ_ _ h=>by simp[Aq] at h,λ_ _ h=>by simp[Aq] at h,λ_ _ _ _ h=>by simp[Aq] at h,λ_ _ _ _ _ _ _ h=>by simp[Aq] at h,hfin.1,hfin.2,λ_ _=>rfl⟩
 refine(hc _ _ w ys hR0 ha').mono ?_
 rintro e w' ⟨v,y,C',H',rfl,hr',hv,hx,hl⟩
 obtain⟨q2,v',hv',hK⟩:=A1Q hr' depth v y _ hv hl
 injection hK with hK
 injection hK with hK hKH
 subst hK
 have hb:Below w.heap.size w w':=hr'.below.toBelow
 have hown:∀k,Base.own ⟨w,λ_=>False⟩ k→w.heap.size≤k:= λk h=>h.elim id (λh=>h.elim)
 let C2:Ctx:={π:=C.π,F:= λk i=>C.F k i∨(w.heap.size≤k∧(Sf (!q) q2 C' H').F k i),B:= λk=>C.B k∨(w.heap.size≤k∧(Sf (!q) q2 C' H').B k)}
 have hfin':=A73 (b:= !q) (q:=q2) hr'
 have e:Ext w0.own C w C2 w':=⟨λ_ _=>rfl,λ_ _ h=> .inl h,λk i h=>hb.cell (p:=⟨k,i,none⟩) (hr.fin k i h),λ_ h=> .inl h,λk h=>hb.block k (hr.finB k h),
  λk arr T fz h=>⟨arr,fz,(hb.block k (l1q.1 h).1).trans h,rfl⟩,λk i h=>h.imp id (λh=> .inl (l1m hr.below.size h.1)),λk h=>h.imp id (λh=> .inl (l1m hr.below.size h.1)),hb.size⟩
 have hrel:Rel E.G w0 C2 H w':=by
  refine⟨hr.glob.mono e,hr.below.below hb,hr.lt,λs x hl=>(hr.rows s x hl).mono e (λk base hp=>hb.block k ((hr.rows s x hl).block (Fa hl) hp)),λs x k o hl hp=> ?_,hr.sep,λk i hF=> ?_,λk hB=> ?_,hr.nx⟩
  ·have h1:=hr.own s x k o hl hp
   have h2:=(hr.rows s x hl).block (Fa hl) hp
   refine⟨h1.1,λi hF=> ?_,λhB=> ?_⟩
   ·rcases hF with hF|hF
    ·exact h1.2.1 i hF
    ·have:=hF.1;omega
   ·rcases hB with hB|hB
    ·exact h1.2.2 hB
    ·have:=hB.1;omega
  ·rcases hF with hF|hF
   ·exact l2m (hr.fin k i hF) hb.size
   ·exact hfin'.1 k i hF.2
  ·rcases hB with hB|hB
   ·exact l2m (hr.finB k hB) hb.size
   ·exact hfin'.2 k hB.2
 have e2:Ext (λ_=>True) (Sf (!q) q2 C' H') w' C2 w':=by
  refine⟨λs h=>absurd rfl h,λk i hF=> ?_,λ_ _ _=>rfl,λk hB=> ?_,λ_ _=>rfl,λ_ a _ f h=>⟨a,f,h,rfl⟩,λ_ _ _=> .inr trivial,λ_ _=> .inr trivial,OV _⟩
  ·rcases hF with⟨hq,hF⟩|⟨hq,s,x,o,hl,hp⟩
   ·rcases hx.new k i hF with h1|h1
    ·rcases h1 with⟨_,h1⟩|⟨h1,_⟩
     ·exact .inl h1
     ·rw[h1] at hq;cases hq
    ·exact .inr ⟨hown k h1,.inl ⟨hq,hF⟩⟩
   ·exact .inr ⟨hown k (hr'.own s x k o hl hp).1,.inr ⟨hq,s,x,o,hl,hp⟩⟩
  ·rcases hB with⟨hq,hB⟩|⟨hq,s,x,o,hl,hp⟩
   ·rcases hx.newB k hB with h1|h1
    ·rcases h1 with⟨_,h1⟩|⟨h1,_⟩
     ·exact .inl h1
     ·rw[h1] at hq;cases hq
    ·exact .inr ⟨hown k h1,.inl ⟨hq,hB⟩⟩
   ·exact .inr ⟨hown k (hr'.own s x k o hl hp).1,.inr ⟨hq,s,x,o,hl,hp⟩⟩
 exact⟨v',y,C2,H,rfl,hrel,hv'.mono e2,e.frm,rfl,hK0⟩
end
end Go.Abs
end
