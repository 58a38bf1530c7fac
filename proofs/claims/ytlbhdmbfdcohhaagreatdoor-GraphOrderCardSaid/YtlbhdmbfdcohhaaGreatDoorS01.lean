import Derived.TacticsIn
import Derived.Test.YtlbhdmbfdcohhaaGreatDoorS00
set_option linter.all false
set_option maxHeartbeats 100000000
noncomputable section
namespace Go.Abs
open Go.RowKit
abbrev Gl:=Nat→Option (List Value)
def Fe (ro:Option Nat):Fence:={Fence.wide with round:=ro}
theorem A2y (ro:Option Nat):(Fe ro).depth=none:=rfl
def A4U (b:Nat):Deferred:={target:= .collected b,args:= #[]}
def DOk (w0:Base) (s0:Nat) (C:Ctx) (w:World) (ds:List Deferred):Prop:=
 ∃bs:List Nat,bs.Nodup∧ds=bs.map A4U∧∀b∈bs,s0≤b∧w0.own b∧C.B b∧w.heap[b]?=some (.deferred (some []))
theorem DOk.nil {w0:Base} {s0:Nat} {C:Ctx} {w:World}:DOk w0 s0 C w []:=⟨[],by simp,rfl,by simp⟩
theorem DOk.mono {w0:Base} {s0:Nat} {C C':Ctx} {w w':World} {ds:List Deferred} (h:DOk w0 s0 C w ds) (hB:∀b,C.B b→C'.B b) (hk:∀b,C.B b→w'.heap[b]?=w.heap[b]?):DOk w0 s0 C' w' ds:=
 let⟨bs,h1,h2,h3⟩:=h
 ⟨bs,h1,h2,λb hb=>⟨(h3 b hb).1,(h3 b hb).2.1,hB b (h3 b hb).2.2.1,(hk b (h3 b hb).2.2.1).trans (h3 b hb).2.2.2⟩⟩
structure St (G:Gl) (w0:Base) (s0:Nat) (C:Ctx) (N:Nat) (t:Tm) (H:Hp) (a:Act) (w:World):Prop where
 rel:Rel G w0 C H w
 size:a.tmps.size=N
 tmps:Tx C w t a.tmps
 defers:DOk w0 s0 C w a.defers
 le:s0≤w.heap.size
def KW (G:Gl) (w0:Base) (s0 m:Nat) (C:Ctx) (N:Nat) (w:World) (Q:Exit→Tm→Hp→Prop):Exit→Act→World→Prop:=
 λe a' w'=>∃C' t' H',St G w0 s0 C' N t' H' a' w'∧Frm m w0.own C w C' w'∧Q e t' H'
def QI (P:Program) (G:Gl) (ro:Option Nat) (m N:Nat) (c:Code) (Q:Exit→Tm→Hp→Prop) (t:Tm) (H:Hp):Prop:=
 ∀w0 s0 C a w,St G w0 s0 C N t H a w→c.wpIn (Fe ro) 0 P (KW G w0 s0 m C N w Q) a w
def A5E (P:Program) (G:Gl) (ro:Option Nat) (m N:Nat) (ops:Array Oper) (l:List Oper) (Q:Exit→Tm→Hp→Prop) (t:Tm) (H:Hp):Prop:=
 ∀w0 s0 C a w,St G w0 s0 C N t H a w→wpListIn (Fe ro) 0 P ops (KW G w0 s0 m C N w Q) l a w
def RC (P:Program) (G:Gl) (f:FuncId) (args:List AV) (H:Hp) (Q:AV→Hp→Prop):Prop:=
 ∀w0 C w ys,Rel G w0 C H w→Cj C w args ys→Calls P f ys.toArray w λe w'=>
  ∃v y C' H',e= .returned y∧Rel G w0 C' H' w'∧VRel C' w' v y∧Frm (A2 H) w0.own C w C' w'∧Q v H'
theorem Frm.ext_of {G:Gl} {w0:Base} {C C':Ctx} {H:Hp} {w w':World} {O:Nat→Prop} (h:Frm (A2 H) O C w C' w') (hr:Rel G w0 C H w):Ext O C w C' w':=h.ext λ_ h=>A3H hr h
section
variable {P:Program} {G:Gl} {ro:Option Nat} {m N:Nat} {Q Q':Exit→Tm→Hp→Prop} {t:Tm} {H:Hp}
theorem KW.later {w0:Base} {s0:Nat} {C C':Ctx} {w w':World} {e:Exit} {a:Act} {w'':World} (hx:Frm m w0.own C w C' w') (h:KW G w0 s0 m C' N w' Q e a w''):KW G w0 s0 m C N w Q e a w'':=
 let⟨C1,t1,H1,s,x,q⟩:=h
 ⟨C1,t1,H1,s,hx.trans x,q⟩
theorem KW.mono {w0:Base} {s0:Nat} {C:Ctx} {w:World} {e:Exit} {a:Act} {w'':World} (hq:∀e t H,Q e t H→Q' e t H) (h:KW G w0 s0 m C N w Q e a w''):KW G w0 s0 m C N w Q' e a w'':=
 let⟨C1,t1,H1,s,x,q⟩:=h
 ⟨C1,t1,H1,s,x,hq _ _ _ q⟩
theorem QI.mono {c:Code} (h:QI P G ro m N c Q t H) (hq:∀e t H,Q e t H→Q' e t H):QI P G ro m N c Q' t H:=
 λw0 s0 C a w s=>wpIn_mono (h w0 s0 C a w s) λ_ _ _=>KW.mono hq
theorem B5u (h:Q .normal t H):QI P G ro m N .skip Q t H:= λw0 s0 C a w s=>wpIn_skip ⟨C,t,H,s,.refl _ _,h⟩
theorem B5w {id:Nat} (h:Q (.exit id) t H):QI P G ro m N (.exit id) Q t H:= λw0 s0 C a w s=>wpIn_exit ⟨C,t,H,s,.refl _ _,h⟩
theorem B5v {l:Nat} (h:Q (.goto l) t H):QI P G ro m N (.goto l) Q t H:= λw0 s0 C a w s=>wpIn_goto ⟨C,t,H,s,.refl _ _,h⟩
theorem B29 {l:Nat} (h:Q .normal t H):QI P G ro m N (.label l) Q t H:= λw0 s0 C a w s=>wpIn_label ⟨C,t,H,s,.refl _ _,h⟩
theorem B8C (h:Q .ret t H):QI P G ro m N .ret Q t H:= λw0 s0 C a w s=>wpIn_ret ⟨C,t,H,s,.refl _ _,h⟩
def B3Q (K:Tm→Hp→Prop) (Q:Exit→Tm→Hp→Prop):Exit→Tm→Hp→Prop
 | .normal,t,H=>K t H
 |e,t,H=>Q e t H
def A8w (id:Nat) (Q:Exit→Tm→Hp→Prop):Exit→Tm→Hp→Prop
 | .exit i,t,H=>if i=id then Q .normal t H else Q (.exit i) t H
 |e,t,H=>Q e t H
theorem B8B {x y:Code} (h:QI P G ro m N x (B3Q (QI P G ro m N y Q) Q) t H):QI P G ro m N (.seq x y) Q t H:= λw0 s0 C a w s=>
 wpIn_seq (wpIn_mono (h w0 s0 C a w s) λe a' w' ⟨C1,t1,H1,s1,x1,q⟩=>by
  cases e with
  |normal=>exact wpIn_mono (q w0 s0 C1 a' w' s1) λ_ _ _=>KW.later x1
  |_=>exact⟨C1,t1,H1,s1,x1,q⟩)
theorem B2a {id:Nat} {c:Code} (h:QI P G ro m N c (A8w id Q) t H):QI P G ro m N (.block id c) Q t H:= λw0 s0 C a w s=>
 wpIn_block (wpIn_mono (h w0 s0 C a w s) λe a' w' ⟨C1,t1,H1,s1,x1,q⟩=>by
  cases e with
  |exit i=>
   simp only[A8w] at q
   simp only[Exit.inBlock]
   split at q
   ·rename_i hi;rw[if_pos hi];exact⟨C1,t1,H1,s1,x1,q⟩
   ·rename_i hi;rw[if_neg hi];exact⟨C1,t1,H1,s1,x1,q⟩
  |_=>exact⟨C1,t1,H1,s1,x1,q⟩)
def Zt (P:Program) (G:Gl) (ro:Option Nat) (m N:Nat) (c:Code) (Q:Exit→Tm→Hp→Prop) (t:Tm) (H:Hp):Prop:=
 ∀w0 s0 C a w,St G w0 s0 C N t H a w→∀(b:Frame) (k:List Item) (cs:List Frame),b.roundOf=(Fe ro).round→(Fe ro).fn b.fn→(Fe ro).room (cs.length+1+0)→
  ∃e a' w',KW G w0 s0 m C N w Q e a' w'∧ArrivesIn (Machine.fenced P (Fe ro)) P (lone (b.atR a (.code c:: .inLoop c::k)) cs w) b k cs e a' w'
theorem A7t {c:Code} (h:Zt P G ro m N c Q t H):QI P G ro m N (.loop c) Q t H:=by
 intro w0 s0 C a w s b k cs hro hb hr
 obtain⟨e,a',w',hq,harr⟩:=h w0 s0 C a w s b k cs hro hb hr
 exact⟨e,a',w',hq,.of_steps (.one (fenced_calm hb hr rfl) stepR_loop) harr⟩
theorem A9y {c:Code} (h:QI P G ro m N c (B3Q (Zt P G ro m N c Q) Q) t H):Zt P G ro m N c Q t H:=by
 intro w0 s0 C a w s b k cs hro hb hr
 obtain⟨e,a1,w2,hq,harr⟩:=h w0 s0 C a w s b (.inLoop c::k) cs hro hb hr
 obtain⟨C2,t1,H1,s1,x1,q⟩:=hq
 cases e with
 |normal=>
  obtain⟨e2,a2,w3,hq2,harr2⟩:=q w0 s0 C2 a1 w2 s1 b k cs hro hb hr
  exact⟨e2,a2,w3,KW.later x1 hq2,.of_steps (StepsIn.trans harr (.one (fenced_calm hb hr rfl) stepR_inLoop)) harr2⟩
 |exit id=>exact⟨_,a1,w2,⟨C2,t1,H1,s1,x1,q⟩,.pass (x:= .inLoop c) rfl (λ_ _=> .inl (by simp)) harr⟩
 |goto l=>exact⟨_,a1,w2,⟨C2,t1,H1,s1,x1,q⟩,.pass (x:= .inLoop c) rfl (λ_ _=> .inl (by simp)) harr⟩
 |ret=>exact⟨_,a1,w2,⟨C2,t1,H1,s1,x1,q⟩,.pass (x:= .inLoop c) rfl (λ_ _=> .inl (by simp)) harr⟩
 |panic ch=>exact⟨_,a1,w2,⟨C2,t1,H1,s1,x1,q⟩,.pass (x:= .inLoop c) rfl (λ_ _=> .inl (by simp)) harr⟩
 |outgrown=>exact⟨_,a1,w2,⟨C2,t1,H1,s1,x1,q⟩,.pass (x:= .inLoop c) rfl (λ_ _=> .inl (by simp)) harr⟩
end
def ofV:Value→AV
 | .agg cs=> .agg (cs.toList.map .v)
 |x=> .v x
theorem Tg {C:Ctx} {w:World} (l:List Value):Cj C w (l.map .v) l:=
 ⟨by simp,λi a ha=>by
  rw[l0a] at ha
  cases h:l[i]? with
  |none=>rw[h] at ha;simp at ha
  |some y=>rw[h] at ha;simp at ha;subst ha;exact⟨y,rfl,.v y⟩⟩
theorem WY {C:Ctx} {w:World} (x:Value):VRel C w (ofV x) x:=by
 cases x with
 |agg cs=>exact ER.2 ⟨cs.toList,by simp,Tg _⟩
 |_=>exact .v _
def Kw (G:Gl) (t:Tm):Operand→AV
 | .tmp i=>Gn t i
 | .const v=>ofV v
 | .global g=>match G g with
  |some cs=> .iptr (cs.map .v)
  |none=> .v (.pointer (some ⟨g,0,none⟩))
 | .func f=> .fn (.func f) [] []
def PG (t:Tm) (d:Option Tmp) (v:AV):Tm:=
 match d with
 |some d=>(d,v)::t
 |none=>t
def dok (N:Nat) (d:Option Tmp):Prop:=
 match d with
 |some d=>d<N
 |none=>True
inductive Gd where
 |run|skip|dep (b:Bool)|bad
def RA:AV→Gd
 | .v (.bool b)=> .dep b
 | .dk=> .bad
 |_=> .skip
def FA (ops:List Oper) (t:Tm) (o:Oper):Gd:=
 match o.guard with
 |none=> .run
 |some (j,want)=>match ops[j]? with
  |some p=>match p.dst with
   |some d=>match RA (Gn t d) with
    | .dep b=> .dep (b==want)
    |g=>g
   |none=> .skip
  |none=> .skip
section
variable {P:Program} {G:Gl} {ro:Option Nat} {m N:Nat} {Q:Exit→Tm→Hp→Prop} {t:Tm} {H:Hp} {w0:Base} {s0:Nat} {w:World} {C:Ctx} {a:Act}
theorem AW (s:St G w0 s0 C N t H a w) (x:Operand):VRel C w (Kw G t x) (a.eval x):=by
 have hr:=s.rel
 have ht:=s.tmps
 cases x with
 |tmp i=>exact ht i
 |const v=>exact WY v
 |global g=>
  simp only[Kw,Act.eval]
  cases h:G g with
  |none=>exact .v _
  |some cs=>
   refine .iptr (λi=>cs.getD i undef) (λi hi=> ?_) (λi hi=> ?_) (λi hi=> ?_)
   ·simp at hi
    simpa using(hr.glob g cs h i _ (Kq hi)).1
   ·simp at hi
    rw[TW,Kq hi]
    simpa using(hr.glob g cs h i _ (Kq hi)).2
   ·simp at hi
    simp[TW,Kq hi]
    exact .v _
 |func f=>exact HH.2 ⟨[],[],rfl,.nil,.nil⟩
theorem B5y {O:Nat→Prop} {C':Ctx} {w':World} {v:AV} {y:Value} (hs:a.tmps.size=N) (ht:Tx C w t a.tmps) (e:Ext O C w C' w') (hv:VRel C' w' v y) {d:Option Tmp} (hd:dok N d):Tx C' w' (PG t d v) (a.put d y).tmps:=by
 cases d with
 |none=>exact ht.mono e
 |some d=>
  intro i
  simp only[PG,Act.put,Gn]
  by_cases hi:i=d
  ·subst hi
   have hlt:i<a.tmps.size:=by rw[hs];exact hd
   rw[if_pos rfl]
   simp[Zk,hlt]
   exact hv
  ·rw[if_neg hi]
   have:=(ht.mono e) i
   simp only[Zk] at this⊢
   rw[Array.getElem?_setIfInBounds_ne (by omega)]
   exact this
theorem A8x (a:Act) (d:Option Tmp) (y:Value):(a.put d y).defers=a.defers:=by cases d<;>rfl
theorem B3R (a:Act) (d:Option Tmp) (y:Value):(a.put d y).tmps.size=a.tmps.size:=by cases d<;>simp[Act.put]
def VS:Value→Option Bool
 | .bool b=>some b
 |_=>none
theorem A9s {x:AV} {y:Value} (h:VRel C w x y):(∀b,RA x= .dep b→VS y=some b)∧(RA x= .skip→VS y=none)∧RA x≠.run:=by
 cases h with
 |v=>cases y<;>simp[RA,VS]
 |_=>simp[RA,VS]
theorem A7U (ops:List Oper) (j:Nat):yielded ops.toArray a.tmps j=match ops[j]? with
 |some p=>match p.dst with
  |some d=>(a.tmps[d]?).bind VS
  |none=>none
 |none=>none:=by
 simp only[yielded,l10]
 cases ops[j]? with
 |none=>rfl
 |some p=>
  simp only[Option.bind_some]
  cases p.dst with
  |none=>rfl
  |some d=>
   simp only[Option.bind_some]
   cases a.tmps[d]? with
   |none=>rfl
   |some y=>cases y<;>rfl
theorem A2t (ht:Tx C w t a.tmps) (ops:List Oper) (o:Oper):(FA ops t o= .run→Region.wanted o (yielded ops.toArray a.tmps)=true)∧(FA ops t o= .skip→Region.wanted o (yielded ops.toArray a.tmps)=false)∧(∀b,FA ops t o= .dep b→Region.wanted o (yielded ops.toArray a.tmps)=b):=by
 unfold Region.wanted FA
 cases o.guard with
 |none=>simp
 |some p=>
  obtain⟨j,want⟩:=p
  simp only[A7U]
  cases ops[j]? with
  |none=>simp
  |some p=>
   simp only
   cases p.dst with
   |none=>simp
   |some d=>
    simp only
    have hv:=ht d
    have hy:=A9s hv
    have hb:(a.tmps[d]?).bind VS=VS (a.tmps.getD d undef):=by
     rw[Zk]
     cases a.tmps[d]?<;>rfl
    rw[hb]
    cases hg:RA (Gn t d) with
    |run=>exact absurd hg hy.2.2
    |skip=>rw[hy.2.1 hg];simp
    |bad=>simp
    |dep b=>rw[hy.1 b hg];simp
def B5J (P:Program) (G:Gl) (o:Oper) (t:Tm) (H:Hp) (K:AV→Hp→Prop):Prop:=
 ∀w0 s0 C N a w,St G w0 s0 C N t H a w→∃v H' y C' w',K v H'∧((execOp a.eval o).run P w= .ok (.value y) w'∨((execOp a.eval o).run P w= .ok .skip w'∧y=undef))∧VRel C' w' v y∧Rel G w0 C' H' w'∧Ext w0.own C w C' w'
def Ss (P:Program) (G:Gl) (ro:Option Nat) (N:Nat) (o:Oper) (t:Tm) (H:Hp) (K:AV→Hp→Prop):Prop:=
 ∀w0 s0 C a w (Q:Exit→Act→World→Prop),St G w0 s0 C N t H a w→o.wpIn (Fe ro) 0 P a w (λa' w'=>∃v y C' H',a'=a.put o.dst y∧K v H'∧VRel C' w' v y∧Rel G w0 C' H' w'∧Ext w0.own C w C' w') Q
theorem B5C {ops:Array Oper} (h:Q .normal t H):A5E P G ro m N ops [] Q t H:= λw0 s0 C a w s=>⟨C,t,H,s,.refl _ _,h⟩
theorem PY {F:Fence} {n:Nat} {o:Oper} {a:Act} {w:World} {K K':Act→World→Prop} {q:Exit→Act→World→Prop} (h:∀a w,K a w→K' a w) (hh:o.wpIn F n P a w K q):o.wpIn F n P a w K' q:=by
 unfold Oper.wpIn at*
 refine⟨hh.1,?_⟩
 have hh:=hh.2
 generalize (o.semAt F.round a.eval).run P w=r at*
 cases r with
 |ok x w'=>
  cases x<;>simp only[Oper.uponIn] at hh⊢ <;>
   first
    |exact h _ _ hh
    |exact⟨hh.1,CallsIn.mono hh.2 (λe w'' he=>by cases e<;>first|exact h _ _ he|exact he)⟩
    |exact⟨hh.1,RowsIn.mono hh.2 (λ_ _ he=>h _ _ he)⟩
    |exact⟨hh.1,RoundIn.mono hh.2 (λe w'' he=>by cases e<;>first|exact h _ _ he|exact he)⟩
 |halt x w'=>cases x<;>simp only[Oper.uponIn] at hh⊢ <;>exact hh
theorem A2G {F:Fence} {n:Nat} {ops:Array Oper} {q q':Exit→Act→World→Prop} (hq:∀e a w,q e a w→q' e a w):∀(l:List Oper) (a:Act) (w:World),wpListIn F n P ops q l a w→wpListIn F n P ops q' l a w:=by
 intro l
 induction l with
 |nil=>intro a w h;exact hq _ _ _ h
 |cons o l ih=>
  intro a w h
  simp only[wpListIn] at h⊢
  split
  ·rename_i hw
   rw[if_pos hw] at h
   unfold Oper.wpIn at h⊢
   refine⟨h.1,?_⟩
   have h:=h.2
   generalize (o.semAt F.round a.eval).run P w=r at*
   cases r with
   |ok x w'=>
    cases x<;>simp only[Oper.uponIn] at h⊢ <;>
     first
      |exact ih _ _ h
      |exact⟨h.1,CallsIn.mono h.2 (λe w'' he=>by cases e<;>first|exact ih _ _ he|exact hq _ _ _ he|exact(let⟨a,w,k⟩:=he;⟨a,w,hq _ _ _ k⟩))⟩
      |exact⟨h.1,RowsIn.mono h.2 (λ_ _ he=>ih _ _ he)⟩
      |exact⟨h.1,RoundIn.mono h.2 (λe w'' he=>by cases e<;>first|exact ih _ _ he|exact hq _ _ _ he|exact(let⟨a,w,k⟩:=he;⟨a,w,hq _ _ _ k⟩))⟩
   |halt x w'=>cases x<;>simp only[Oper.uponIn] at h⊢ <;>first|exact hq _ _ _ h|exact h
  ·rename_i hw
   rw[if_neg hw] at h
   exact⟨h.1,ih _ _ h.2⟩
theorem A5E.run {ops:Array Oper} {l:List Oper} {C':Ctx} {w':World} {a':Act} (h:A5E P G ro m N ops l Q t H) (s:St G w0 s0 C' N t H a' w') (e:Frm m w0.own C w C' w'):
 wpListIn (Fe ro) 0 P ops (KW G w0 s0 m C N w Q) l a' w':=
 A2G (λ_ _ _=>KW.later e) l a' w' (h w0 s0 C' a' w' s)
theorem A8i {O:Nat→Prop} {C':Ctx} {w':World} {H':Hp} {v:AV} {y:Value} (s:St G w0 s0 C N t H a w) (hr:Rel G w0 C' H' w') (e:Ext O C w C' w') (hv:VRel C' w' v y) {d:Option Tmp} (hd:dok N d):St G w0 s0 C' N (PG t d v) H' (a.put d y) w':=
 ⟨hr,(B3R _ _ _).trans s.size,B5y s.size s.tmps e hv hd,by rw[A8x];exact s.defers.mono e.B e.keepB,l1m s.le e.grow⟩
theorem B2b {ops rest:List Oper} {o:Oper} (hd:dok N o.dst) (s:St G w0 s0 C N t H a w) (hw:Region.wanted o (yielded ops.toArray a.tmps)=false) (h:A5E P G ro m N ops.toArray rest Q (PG t o.dst (.v undef)) H):
 wpListIn (Fe ro) 0 P ops.toArray (KW G w0 s0 m C N w Q) (o::rest) a w:=by
 simp only[wpListIn,hw,l0z,if_false]
 exact⟨λf _=>trivial,A5E.run h (A8i s s.rel (.refl (λ_=>False) _ _) (.v undef) hd) (.refl _ _)⟩
theorem A7x {ops rest:List Oper} {o:Oper} (hdk:dok N o.dst) (s:St G w0 s0 C N t H a w) (hw:Region.wanted o (yielded ops.toArray a.tmps)=true) (h:Ss P G ro N o t H (λv H'=>A5E P G ro m N ops.toArray rest Q (PG t o.dst v) H')):
 wpListIn (Fe ro) 0 P ops.toArray (KW G w0 s0 m C N w Q) (o::rest) a w:=by
 simp only[wpListIn,hw,if_true]
 exact PY (λa' w' ⟨v,y,C',H',ha,hK,hv,hr,e⟩=>by rw[ha];exact A5E.run hK (A8i s hr e hv hdk) e.frm) (h w0 s0 C a w _ s)
theorem Ss.mono {o:Oper} {K K':AV→Hp→Prop} (h:Ss P G ro N o t H K) (hk:∀v H,K v H→K' v H):Ss P G ro N o t H K':=
 λw0 s0 C a w Q s=>PY (λ_ _ ⟨v,y,C',H',ha,hK,rest⟩=>⟨v,y,C',H',ha,hk v H' hK,rest⟩) (h w0 s0 C a w Q s)
theorem RB {o:Oper} {K:AV→Hp→Prop} (hd:∀c,o.op≠.defer c) (h:B5J P G o t H K):Ss P G ro N o t H K:=by
 intro w0 s0 C a w Q s
 obtain⟨v,H',y,C',w',hK,hrun,hv,hr,e⟩:=h w0 s0 C N a w s
 refine⟨λf _=>trivial,?_⟩
 rw[Oper.semAt_eq _ _ _ hd]
 rcases hrun with hrun|⟨hrun,rfl⟩
 ·rw[hrun];exact⟨v,y,C',H',rfl,hK,hv,hr,e⟩
 ·rw[hrun];exact⟨v,undef,C',H',rfl,hK,hv,hr,e⟩
theorem A9t {id:Nat} {l:List Oper} (h:A5E P G ro m N l.toArray l Q t H):QI P G ro m N (.region id l.toArray false) Q t H:= λw0 s0 C a w s=>wpIn_region_lit (h w0 s0 C a w s)
theorem A7v {c:Operand} {x y:Code} {b:Bool} (hc:Kw G t c= .v (.bool b)) (h1:b=true→QI P G ro m N x Q t H) (h2:b=false→QI P G ro m N y Q t H):QI P G ro m N (.cond c x y) Q t H:= λw0 s0 C a w s=>by
 have:=AW s c
 rw[hc] at this
 have he:a.eval c= .bool b:=AI.1 this
 exact wpIn_cond_split he (λhb=>h1 hb w0 s0 C a w s) (λhb=>h2 hb w0 s0 C a w s)
theorem A2s (s:St G w0 s0 C N t H a w) (l:List Operand):Cj C w (l.map (Kw G t)) (l.map a.eval):=by
 refine⟨by simp,λi b hb=> ?_⟩
 rw[l0a] at hb⊢
 cases hx:l[i]? with
 |none=>rw[hx] at hb;simp at hb
 |some x=>rw[hx] at hb;simp at hb;subst hb;exact⟨_,rfl,AW s x⟩
theorem XG {o:Oper} {c:Call} {f:FuncId} {fv:Operand} {first cap:List AV} {K:AV→Hp→Prop} (hop:o.op= .call c) (hcal:c.callee= .value fv) (hf:Kw G t fv= .fn (.func f) first cap) {fn:Func} (hfn:P.funcs[f]?=some fn) (hbody:fn.body.isNone=false)
 (hname:(fn.name== "runtime.NumGoroutine")=false)
 (h:RC P G f (first++c.args.toList.map (Kw G t)++cap) H K):Ss P G ro N o t H K:=by
 intro w0 s0 C a w Q s
 have hv:=AW s fv
 rw[hf] at hv
 obtain⟨ys,zs,he,hys,hzs⟩:=HH.1 hv
 have hall:=(hys.append (A2s s c.args.toList)).append hzs
 have hc:=h w0 C w _ s.rel hall
 refine⟨λf _=>trivial,?_⟩
 rw[Oper.semAt_eq _ _ _ (by rw[hop];intro c hc;cases hc)]
 have hrun:(execOp a.eval o).run P w= .ok (.enter f (ys++c.args.toList.map a.eval++zs).toArray) w:=by
  simp only[execOp,hop,resolve,hcal,he,Deferred.ofValue,CI,Y9,EO,invoke,callFunc,run_program,hfn,hname,hbody,l0z,if_false]
  congr 2
  apply l0c
  simp
 rw[hrun]
 refine⟨λhd=>by simp[A2y] at hd,?_⟩
 have:CallsIn (Fe ro) 0 P f (ys++c.args.toList.map a.eval++zs).toArray w (λe w'=>∃v y C' H',e= .returned y∧Rel G w0 C' H' w'∧VRel C' w' v y∧Frm (A2 H) w0.own C w C' w'∧K v H'):=by
  cases ro with
  |none=>exact callsIn_wide.2 hc
  |some l=>exact CallsIn.mono (callsIn_wide (n:=0).2 hc) (λ_ _ h=>h)
 refine CallsIn.mono this ?_
 rintro e w' ⟨v,y,C',H',rfl,hr,hv,hx,hK⟩
 exact⟨v,y,C',H',rfl,hK,hv,hr,hx.ext_of s.rel⟩
end
inductive TD where
 |int (k:IntKind)|bool|string|pointer (e:TypeId)
 |slice (e:TypeId) (esz:Nat)
 |array (n:Nat) (e:TypeId) (esz:Nat)
 |struct (fs:List (Nat×Nat×TypeId))
 |map (k e:TypeId)|func|iface|other
def td (P:Program):TypeDesc→TD
 | .int k=> .int k
 | .bool=> .bool
 | .string=> .string
 | .pointer e=> .pointer e
 | .slice e=> .slice e (P.cellsOf e)
 | .array n e=> .array n e (P.cellsOf e)
 | .struct fs=> .struct (fs.toList.map λf=>(f.offset,P.cellsOf f.type,f.type))
 | .map k e=> .map k e
 | .func .. => .func
 | .interface .. => .iface
 |_=> .other
def TD.isAgg:TD→Bool
 | .struct _=>true
 | .array .. =>true
 |_=>false
structure TI where
 size:Nat
 bytes:Nat
 d:TD
 zero:AV
structure TOk1 (P:Program) (t:TypeId) (i:TI):Prop where
 sb:(P.info? t).map (λx=>(x.size,x.bytes))=some (i.size,i.bytes)
 z:((P.info? t).bind (·.zero)).map ofV=some i.zero
 u:(P.underlying t).map (td P)=some i.d
abbrev Ty:=TypeId→Option TI
def XT (P:Program) (T:Ty):Prop:=∀t i,T t=some i→TOk1 P t i
section
variable {P:Program} {t:TypeId} {i:TI} (w:World)
theorem TOk1.info (h:TOk1 P t i):∃x z,P.info? t=some x∧x.size=i.size∧x.bytes=i.bytes∧x.zero=some z∧ofV z=i.zero:=by
 have h1:=h.sb
 have h2:=h.z
 cases hx:P.info? t with
 |none=>rw[hx] at h1;simp at h1
 |some x=>
  rw[hx] at h1 h2
  simp at h1 h2
  obtain⟨z,hz,e⟩:=h2
  exact⟨x,z,rfl,h1.1,h1.2,hz,e⟩
theorem TOk1.under (h:TOk1 P t i):∃u,P.underlying t=some u∧td P u=i.d:=by
 have h1:=h.u
 cases hx:P.underlying t with
 |none=>rw[hx] at h1;simp at h1
 |some u=>rw[hx] at h1;simp at h1;exact⟨u,rfl,h1⟩
theorem TOk1.run_size (h:TOk1 P t i):(sizeOf t).run P w= .ok i.size w:=by
 obtain⟨x,z,hx,hs,_⟩:=h.info
 simp[sizeOf,typeInfo,hx,hs]
theorem TOk1.cellsOf (h:TOk1 P t i):P.cellsOf t=i.size:=by
 obtain⟨x,z,hx,hs,_⟩:=h.info
 simp[Program.cellsOf,hx,hs]
theorem TOk1.run_isAgg (h:TOk1 P t i):(isAgg t).run P w= .ok i.d.isAgg w:=by
 obtain⟨u,hu,e⟩:=h.under
 unfold isAgg
 rw[CI,run_underlying hu w,←e]
 cases u<;>rfl
theorem TOk1.run_zero (h:TOk1 P t i):∃z,(zeroValue t).run P w= .ok z w∧ofV z=i.zero:=by
 obtain⟨x,z,hx,_,_,hz,e⟩:=h.info
 exact⟨z,by simp[zeroValue,typeInfo,hx,hz],e⟩
end
def Lg (C:Ctx) (w:World) (b o:Nat) (cs:List AV):Prop:=∃vs:List Value,Cj C w cs vs∧∀j v,vs[j]?=some v→w.cell? ⟨b,o+j,none⟩=some v
theorem Lg.drop {C:Ctx} {w:World} {b o:Nat} {cs:List AV} (h:Lg C w b o cs) (k:Nat):Lg C w b (o+k) (cs.drop k):=by
 obtain⟨vs,h1,h2⟩:=h
 refine⟨vs.drop k,h1.drop k,λj v hv=> ?_⟩
 rw[l0d] at hv
 rw[Xk]
 exact h2 _ v hv
theorem Lg.take {C:Ctx} {w:World} {b o:Nat} {cs:List AV} (h:Lg C w b o cs) (k:Nat):Lg C w b o (cs.take k):=by
 obtain⟨vs,h1,h2⟩:=h
 refine⟨vs.take k,h1.take k,λj v hv=> ?_⟩
 rw[l0m] at hv
 split at hv
 ·exact h2 _ v hv
 ·simp at hv
theorem Laid.at {C:Ctx} {w:World} {r:Nat} {q:Bool} {T:TypeId} {cs:List AV} {b base:Nat} {arr:Array Value} {fz:Nat×Nat} (h:Laid C w r q T cs b base arr fz):Lg C w b base cs:=by
 refine⟨_,h.vals.unsel,λj v hv=> ?_⟩
 rw[h.cell]
 rw[l0m] at hv
 split at hv
 ·rw[l0d] at hv;simpa using hv
 ·simp at hv
theorem Laid.atq {C:Ctx} {w:World} {r:Nat} {q:Bool} {T:TypeId} {cs:List AV} {b base:Nat} {arr:Array Value} {fz:Nat×Nat} (h:Laid C w r q T cs b base arr fz):Lg (C.sel q) w b base cs:=by
 refine⟨_,h.vals,λj v hv=> ?_⟩
 rw[h.cell]
 rw[l0m] at hv
 split at hv
 ·rw[l0d] at hv;simpa using hv
 ·simp at hv
theorem A2m {C:Ctx} {w:World} {b o:Nat} {cs:List AV} (vs:Nat→Value) (hc:∀i,i<cs.length→w.cell? ⟨b,o+i,none⟩=some (vs i)) (hv:∀i (hi:i<cs.length),VRel C w cs[i] (vs i)):Lg C w b o cs:=by
 refine⟨(List.range cs.length).map vs,⟨by simp,λi a ha=> ?_⟩,λj v hj=> ?_⟩
 ·obtain⟨hi,rfl⟩:=l0j.1 ha
  exact⟨vs i,by simp[hi],hv i hi⟩
 ·rw[l0a] at hj
  by_cases h:j<cs.length
  ·simp[h] at hj;subst hj;exact hc j h
  ·simp[l1e (by simpa using h:(List.range cs.length).length≤j)] at hj
theorem I7 (b o k:Nat):(⟨b,o,none⟩:Addr).add k=⟨b,o+k,none⟩:=by unfold Addr.add;split<;>simp_all
theorem Yg {P:Program} {C:Ctx} {w:World} {b o:Nat} {cs:List AV} (h:Lg C w b o cs) (n:Nat) (hn:n≤cs.length):∃vs,(loadCells ⟨b,o,none⟩ n).run P w= .ok vs.toArray w∧Cj C w (cs.take n) vs:=by
 obtain⟨vs,h1,h2⟩:=h.take n
 have hl:vs.length=n:=by rw[h1.1];simp[hn]
 refine⟨vs,?_,h1⟩
 have:=run_loadCells_list (P:=P) w ⟨b,o,none⟩ vs (λj v hv=>by rw[I7];exact h2 j v hv)
 rwa[hl] at this
def UI (T:Ty) (ty:TypeId) (cs:List AV) (K:AV→Prop):Prop:=
 match T ty with
 |some i=>if i.d.isAgg then i.size≤cs.length∧K (.agg (cs.take i.size)) else match cs with
  |c::_=>K c
  |[]=>False
 |none=>False
theorem Ui {P:Program} {T:Ty} (hT:XT P T) {C:Ctx} {w:World} {b o:Nat} {cs:List AV} {ty:TypeId} {K:AV→Prop} (h:Lg C w b o cs) (hK:UI T ty cs K):
 ∃v y,(loadVar ty ⟨b,o,none⟩).run P w= .ok y w∧VRel C w v y∧K v:=by
 unfold UI at hK
 cases hi:T ty with
 |none=>rw[hi] at hK;exact hK.elim
 |some i=>
  rw[hi] at hK
  have ok:=hT ty i hi
  simp only at hK
  by_cases ha:i.d.isAgg=true
  ·rw[if_pos ha] at hK
   obtain⟨vs,hr,hv⟩:=Yg (P:=P) h i.size hK.1
   refine⟨_,.agg vs.toArray,?_,ER.2 ⟨vs,rfl,hv⟩,hK.2⟩
   simp[loadVar,ok.run_isAgg,ha,ok.run_size,hr]
  ·rw[if_neg ha] at hK
   have ha':i.d.isAgg=false:=by simpa using ha
   cases cs with
   |nil=>exact hK.elim
   |cons c cs=>
    obtain⟨vs,h1,h2⟩:=h
    obtain⟨y,ys,rfl,hv,_⟩:=h1.cons_inv
    refine⟨c,y,?_,hv,hK⟩
    have:=h2 0 y rfl
    simp only[Nat.add_zero] at this
    simp[loadVar,ok.run_isAgg,ha',this]
def A5U (T:Ty) (ty:TypeId) (a:AV) (H:Hp) (K:AV→Prop):Prop:=
 match a with
 | .iptr cs=>UI T ty cs K
 | .ptr r p k=>match Aq H r with
  |some (.cells _ _ cs)=>UI T ty (cs.drop (p+k)) K
  |_=>False
 |_=>False
theorem Za {P:Program} {T:Ty} (hT:XT P T) {G:Gl} {w0:Base} {C:Ctx} {w:World} {H:Hp} {ty:TypeId} {a:AV} {y:Value} {K:AV→Prop} (hr:Rel G w0 C H w) (ha:VRel C w a y) (h:A5U T ty a H K):
 ∃v z,(Instr.loadAt ty y).run P w= .ok z w∧VRel C w v z∧K v:=by
 cases a with
 |iptr cs=>
  cases ha with
  |iptr vs hF hc hv=>
   obtain⟨v,z,h1,h2,h3⟩:=Ui (P:=P) hT (A2m vs hc (λi hi=>(hv i hi).up rfl rfl)) h
   exact⟨v,z,by simp[Instr.loadAt,Instr.sureAddr,h1],h2,h3⟩
 |ptr r p k=>
  simp only[A5U] at h
  cases hl:Aq H r with
  |none=>rw[hl] at h;exact h.elim
  |some x=>
   rw[hl] at h
   cases x with
   |map q es=>exact h.elim
   |loop=>exact h.elim
   |iter=>exact h.elim
   |gone=>exact h.elim
   |cells q Ty cs=>
    cases ha with
    |ptr hp=>
     rcases hr.rows r _ hl with⟨h1,h2⟩|⟨b,base,arr,fz,hd⟩
     ·rw[h2] at hp;cases hp
     ·have e:=hd.at_.symm.trans hp
      injection e with e;injection e with e;injection e with e1 e2;subst e1 e2
      obtain⟨v,z,h1,h2,h3⟩:=Ui (P:=P) hT (hd.at.drop (p+k)) h
      exact⟨v,z,by simp[Instr.loadAt,Instr.sureAddr,h1],h2,h3⟩
 |_=>exact h.elim
def A0H (T:Ty) (ty:TypeId) (a v:AV) (H:Hp) (K:Hp→Prop):Prop:=
 match a with
 | .ptr r p k=>match Aq H r,T ty with
  |some (.cells q E cs),some i=>(B8 v).length=i.size∧(B8 v).all AV.one=true∧(p+k)+(B8 v).length≤cs.length∧K (upd H r (.cells q E (splice cs (p+k) (B8 v))))
  |_,_=>False
 |_=>False
theorem A4h {P:Program} {T:Ty} (hT:XT P T) {G:Gl} {w0:Base} {C:Ctx} {w:World} {H:Hp} {ty:TypeId} {a v:AV} {y z:Value} {K:Hp→Prop} (hr:Rel G w0 C H w) (ha:VRel C w a y) (hv:VRel C w v z) (h:A0H T ty a v H K):
 ∃H' w',(Instr.storeAt ty y z).run P w= .ok () w'∧Rel G w0 C H' w'∧Ext w0.own C w C w'∧K H':=by
 cases a with
 |ptr r p k=>
  simp only[A0H] at h
  cases hl:Aq H r with
  |none=>rw[hl] at h;exact h.elim
  |some x=>
   rw[hl] at h
   cases x with
   |map q es=>exact h.elim
   |loop=>exact h.elim
   |iter=>exact h.elim
   |gone=>exact h.elim
   |cells q E cs=>
    cases hi:T ty with
    |none=>rw[hi] at h;exact h.elim
    |some i=>
     rw[hi] at h
     obtain⟨h1,h2,h3,h4⟩:=h
     have ok:=hT ty i hi
     obtain⟨hlv,hone⟩:=hv.cells h2
     cases ha with
     |ptr hp=>
      rcases hr.rows r _ hl with⟨h5,h6⟩|⟨b,base,arr,fz,hd⟩
      ·rw[h6] at hp;cases hp
      ·have e:=hd.at_.symm.trans hp
       injection e with e;injection e with e;injection e with e1 e2;subst e1 e2
       have hfit:=hd.fits
       have hlq:Cj (C.sel q) w (B8 v) z.cells.toList:=hlv
       have hlen:z.cells.toList.length=(B8 v).length:=hlv.1
       obtain⟨w',hrun,hs⟩:=Lm (P:=P) z.cells.toList w arr (base+(p+k)) 0 hd.block hd.free (by omega) hone
       have:=hr.store (O:=w0.own) hl hd h3 hlq (by simpa using hs)
       refine⟨_,w',?_,this.1,this.2,h4⟩
       have hsz:¬z.cells.size≠i.size:=by simp at hlen;omega
       simp[Instr.storeAt,Instr.sureAddr,storeVar,ok.run_size,hsz,hrun]
 |_=>exact h.elim
def ZM (op:BinOp) (k:IntKind) (a b:Int):Option Value:=
 match op with
 | .add=>some (.int k (k.wrap (a+b)))
 | .sub=>some (.int k (k.wrap (a-b)))
 | .mul=>some (.int k (k.wrap (a*b)))
 | .quo=>if b=0 then none else some (.int k (k.wrap (a.tdiv b)))
 | .rem=>if b=0 then none else some (.int k (a.tmod b))
 | .and=>some (.int k (k.wrap ((BitVec.ofInt k.bits a&&&BitVec.ofInt k.bits b).toNat)))
 | .or=>some (.int k (k.wrap ((BitVec.ofInt k.bits a|||BitVec.ofInt k.bits b).toNat)))
 | .xor=>some (.int k (k.wrap ((BitVec.ofInt k.bits a^^^BitVec.ofInt k.bits b).toNat)))
 | .andNot=>some (.int k (k.wrap ((BitVec.ofInt k.bits a&&& ~~~BitVec.ofInt k.bits b).toNat)))
 | .eql=>some (.bool (a==b))
 | .neq=>some (.bool (a !=b))
 | .lss=>some (.bool (decide (a<b)))
 | .leq=>some (.bool (decide (a≤b)))
 | .gtr=>some (.bool (decide (a>b)))
 | .geq=>some (.bool (decide (a≥b)))
 |_=>none
def Yu (op:BinOp) (k:IntKind) (a b:Int):Option Value:=
 if b<0 then none else match op with
 | .shl=>some (.int k (k.wrap (a*2^(min b.toNat k.bits))))
 | .shr=>some (.int k (a.fdiv (2^(min b.toNat k.bits))))
 |_=>none
def B1i (op:BinOp) (a b:ByteArray):Option Value:=
 match op with
 | .add=>if((a.size+b.size:Nat):Int)>IntKind.i64.max then none else some (.string (a++b))
 | .eql=>some (.bool (a.toList==b.toList))
 | .neq=>some (.bool !(a.toList==b.toList))
 | .lss=>some (.bool (Op.bytesLess a.toList b.toList))
 | .leq=>some (.bool (Op.bytesLess a.toList b.toList||a.toList==b.toList))
 | .gtr=>some (.bool !(Op.bytesLess a.toList b.toList||a.toList==b.toList))
 | .geq=>some (.bool !Op.bytesLess a.toList b.toList)
 |_=>none
def Hn:BinOp→Bool
 | .shl=>true
 | .shr=>true
 |_=>false
def Kn {α:Type} (o:Option α) (K:α→Prop):Prop:=
 match o with
 |some v=>K v
 |none=>False
def A6E:TD→AV→AV→Option Bool
 | .pointer _,.v (.pointer none),.v (.pointer none)=>some true
 | .pointer _,.ptr ..,.v (.pointer none)=>some false
 | .pointer _,.iptr ..,.v (.pointer none)=>some false
 | .pointer _,.v (.pointer none),.ptr .. =>some false
 | .pointer _,.v (.pointer none),.iptr .. =>some false
 | .func,.v .nilFunc,.v .nilFunc=>some true
 | .func,.fn ..,.v .nilFunc=>some false
 | .func,.v .nilFunc,.fn .. =>some false
 | .slice ..,.v (.slice none 0 0),.v (.slice none 0 0)=>some true
 | .slice ..,.list (_+1) _,.v (.slice none 0 0)=>some false
 | .slice ..,.sl _ _ _ (_+1),.v (.slice none 0 0)=>some false
 |_,_,_=>none
def A0P (T:Ty) (op:BinOp) (ty:TypeId) (a b:AV) (K:AV→Prop):Prop:=
 match a,b with
 | .v (.int k m),.v (.int k' n)=>if Hn op then Kn (Yu op k m n) (λv=>K (.v v)) else k=k'∧Kn (ZM op k m n) (λv=>K (.v v))
 | .v (.string s),.v (.string u)=>Kn (B1i op s u) (λv=>K (.v v))
 | .v (.bool p),.v (.bool q)=>(∃i,T ty=some i∧i.d= .bool)∧(match op with| .eql=>K (.v (.bool (p==q)))| .neq=>K (.v (.bool (!(p==q))))|_=>False)
 |a,b=>match T ty with
  |some i=>match A6E i.d a b with
   |some q=>(match op with| .eql=>K (.v (.bool q))| .neq=>K (.v (.bool (!q)))|_=>False)
   |none=>False
  |none=>False
theorem B3X {P:Program} {op:BinOp} {k:IntKind} {a b:Int} {v:Value} (hs:Hn op=false) (h:ZM op k a b=some v) (ty:TypeId) (w:World):(binOp op ty (.int k a) (.int k b)).run P w= .ok v w:=by
 cases op<;>simp[ZM,Hn] at h hs<;>try (subst h;simp[binOp,Op.intArith,Op.intBits,Op.intCmp];done)
 ·obtain⟨h1,rfl⟩:=h;simp[binOp,Op.intDiv,h1]
 ·obtain⟨h1,rfl⟩:=h;simp[binOp,Op.intDiv,h1]
theorem A8z {P:Program} {op:BinOp} {k k':IntKind} {a b:Int} {v:Value} (h:Yu op k a b=some v) (ty:TypeId) (w:World):(binOp op ty (.int k a) (.int k' b)).run P w= .ok v w:=by
 unfold Yu at h
 split at h
 ·cases h
 ·rename_i hb
  cases op<;>simp at h<;>(subst h;simp[binOp,Op.shift,hb])
theorem B3S {P:Program} {op:BinOp} {a b:ByteArray} {v:Value} (h:B1i op a b=some v) (ty:TypeId) (w:World):(binOp op ty (.string a) (.string b)).run P w= .ok v w:=by
 cases op<;>simp only[B1i] at h<;>try (simp at h;done)
 ·split at h
  ·cases h
  ·rename_i hb;injection h with h;subst h
   simp only[binOp,Op.stringOp,if_neg hb];rfl
 all_goals (injection h with h;subst h;rfl)
theorem B4x {α:Type} {c:Prop} [Decidable c] {x y z:α} (h1:x=z) (h2:y=z):(if c then x else y)=z:=by split<;>assumption
theorem Zn {P:Program} {op:BinOp} {ty:TypeId} {x y:Operand} {a b:Value} (w:World) (h:(∀xs ys,a= .agg xs→b= .agg ys→False)∧¬(a= .nilIface∧b= .nilIface)):(eqGuard op ty x y a b).run P w= .ok () w:=by
 unfold eqGuard
 rw[Sem.run_ite]
 refine B4x (by simp) ?_
 split
 ·exact absurd ⟨rfl,rfl⟩ h.2
 ·exact(h.1 _ _ rfl rfl).elim
 ·rfl
theorem A0O {P:Program} {T:Ty} (hT:XT P T) {C:Ctx} {w:World} {op:BinOp} {ty:TypeId} {a b:AV} {y z:Value} {K:AV→Prop} (x1 x2:Operand) (ha:VRel C w a y) (hb:VRel C w b z) (h:A0P T op ty a b K):
 ∃v u,(do eqGuard op ty x1 x2 y z;binOp op ty y z).run P w= .ok u w∧VRel C w v u∧K v:=by
 have guardOK:∀{u:Value},((∀xs ys,y= .agg xs→z= .agg ys→False)∧¬(y= .nilIface∧z= .nilIface))→(binOp op ty y z).run P w= .ok u w→(do eqGuard op ty x1 x2 y z;binOp op ty y z).run P w= .ok u w:=by
  intro u hg hr
  rw[CI,Zn w hg]
  simpa using hr
 unfold A0P at h
 split at h
 ·rename_i k m k' n
  obtain rfl:=AI.1 ha
  obtain rfl:=AI.1 hb
  split at h
  ·rename_i hs
   unfold Kn at h
   split at h
   ·rename_i v hv;exact⟨_,_,guardOK ⟨by simp,by simp⟩ (A8z hv ty w),.v _,h⟩
   ·exact h.elim
  ·rename_i hs
   obtain⟨rfl,h⟩:=h
   unfold Kn at h
   split at h
   ·rename_i v hv;exact⟨_,_,guardOK ⟨by simp,by simp⟩ (B3X (by simpa using hs) hv ty w),.v _,h⟩
   ·exact h.elim
 ·obtain rfl:=AI.1 ha
  obtain rfl:=AI.1 hb
  unfold Kn at h
  split at h
  ·rename_i v hv;exact⟨_,_,guardOK ⟨by simp,by simp⟩ (B3S hv ty w),.v _,h⟩
  ·exact h.elim
 ·rename_i p q
  obtain rfl:=AI.1 ha
  obtain rfl:=AI.1 hb
  obtain⟨⟨i,hi,hd⟩,h⟩:=h
  obtain⟨u,hu,e⟩:=(hT ty i hi).under
  have hu':u= .bool:=by rw[hd] at e;cases u<;>simp[td] at e;rfl
  subst hu'
  have he:(Op.equal ty (.bool p) (.bool q)).run P w= .ok (p==q) w:=by
   show(Op.equalIn (9999+1) ty _ _).run P w=_
   unfold Op.equalIn;rw[CI,run_underlying hu w];rfl
  cases op<;>simp only at h<;>try exact h.elim
  ·exact⟨_,_,guardOK ⟨by simp,by simp⟩ (by simp[binOp,he]),.v _,h⟩
  ·exact⟨_,_,guardOK ⟨by simp,by simp⟩ (by simp[binOp,he]),.v _,h⟩
 ·split at h
  ·rename_i i hi
   split at h
   ·rename_i q hq
    obtain⟨u,hu,e⟩:=(hT ty i hi).under
    have key:(Op.equal ty y z).run P w= .ok q w∧((∀xs ys,y= .agg xs→z= .agg ys→False)∧¬(y= .nilIface∧z= .nilIface))∧(binOp .eql ty y z=(do pure (.bool (←Op.equal ty y z))))∧(binOp .neq ty y z=(do pure (.bool (!(←Op.equal ty y z))))):=by
     unfold A6E at hq
     split at hq<;>first
      |(have hd:= ‹i.d=_›
        injection hq with hq;subst hq
        rw[hd] at e
        cases u<;>simp[td] at e
        cases ha<;>cases hb<;>(refine⟨by(show(Op.equalIn (9999+1) ty _ _).run P w=_);unfold Op.equalIn;rw[CI,run_underlying hu w];rfl,⟨by simp,by simp⟩,rfl,rfl⟩))
      |(cases hq;done)
    obtain⟨he,hg,hb1,hb2⟩:=key
    cases op<;>simp only at h<;>try exact h.elim
    ·exact⟨_,_,guardOK hg (by rw[hb1];simp[he]),.v _,h⟩
    ·exact⟨_,_,guardOK hg (by rw[hb2];simp[he]),.v _,h⟩
   ·exact h.elim
  ·exact h.elim
def xun (op:UnOp) (a:AV) (K:AV→Prop):Prop:=
 match op,a with
 | .neg,.v (.int k n)=>K (.v (.int k (k.wrap (0-n))))
 | .xor,.v (.int k n)=>K (.v (.int k (k.wrap ((BitVec.ofInt k.bits (if k.signed then-1 else k.max)^^^BitVec.ofInt k.bits n).toNat))))
 | .not,.v (.bool b)=>K (.v (.bool !b))
 |_,_=>False
theorem B0O {P:Program} {C:Ctx} {w:World} {op:UnOp} {a:AV} {y:Value} {K:AV→Prop} (ha:VRel C w a y) (h:xun op a K):∃v u,(Op.unary op y).run P w= .ok u w∧VRel C w v u∧K v:=by
 unfold xun at h
 split at h
 ·obtain rfl:=AI.1 ha;exact⟨_,_,rfl,.v _,h⟩
 ·obtain rfl:=AI.1 ha;exact⟨_,_,rfl,.v _,h⟩
 ·obtain rfl:=AI.1 ha;exact⟨_,_,rfl,.v _,h⟩
 ·exact h.elim
def B2y (a:AV) (K:AV→Prop):Prop:=
 match a with
 | .ptr .. =>K a
 | .iptr .. =>K a
 | .fn (.func _) _ _=>K a
 | .fn (.yield _) _ _=>K a
 |_=>False
def A3s (T:Ty) (src dst:TypeId) (a:AV) (K:AV→Prop):Prop:=
 match T src,T dst with
 |some i,some j=>match j.d,a with
  | .int k,.v (.int _ n)=>K (.v (.int k (k.wrap n)))
  | .string,.v (.string s)=>(match i.d with| .string=>True|_=>False)∧K (.v (.string s))
  |_,_=>False
 |_,_=>False
theorem A5V {P:Program} {T:Ty} (hT:XT P T) {C:Ctx} {w:World} {src dst:TypeId} {a:AV} {y:Value} {K:AV→Prop} (ha:VRel C w a y) (h:A3s T src dst a K):∃v u,(convert src dst y).run P w= .ok u w∧VRel C w v u∧K v:=by
 unfold A3s at h
 split at h
 ·rename_i i j hi hj
  obtain⟨u1,hu1,e1⟩:=(hT src i hi).under
  obtain⟨u2,hu2,e2⟩:=(hT dst j hj).under
  split at h
  ·rename_i k _ n hd
   obtain rfl:=AI.1 ha
   rw[hd] at e2
   have hu2':u2= .int k:=by cases u2<;>simp[td] at e2;rw[e2]
   subst hu2'
   refine⟨_,_,?_,.v _,h⟩
   unfold convert
   rw[CI,run_underlying hu1 w]
   simp only[EO,CI,run_underlying hu2 w]
   rfl
  ·rename_i s hd
   obtain rfl:=AI.1 ha
   obtain⟨hi',h⟩:=h
   rw[hd] at e2
   have hu2':u2= .string:=by cases u2<;>simp[td] at e2;rfl
   subst hu2'
   refine⟨_,_,?_,.v _,h⟩
   unfold convert
   rw[CI,run_underlying hu1 w]
   simp only[EO,CI,run_underlying hu2 w]
   rfl
  ·exact h.elim
 ·exact h.elim
def XY (T:Ty) (ty:TypeId) (a:AV) (f:Nat) (K:AV→Prop):Prop:=
 match T ty with
 |some i=>match i.d with
  | .struct fs=>match fs[f]? with
   |some (off,sz,_)=>sz≠0∧(match a with
    | .ptr r p k=>∃p' k',p'+k'=p+(k+off)∧K (.ptr r p' k')
    | .iptr cs=>K (.iptr (cs.drop off))
    |_=>False)
   |none=>False
  |_=>False
 |none=>False
theorem YC {C:Ctx} {w:World} {cs:List AV} {b o:Nat} (h:VRel C w (.iptr cs) (.pointer (some ⟨b,o,none⟩))) (k:Nat):VRel C w (.iptr (cs.drop k)) (.pointer (some ⟨b,o+k,none⟩)):=by
 cases h with
 |iptr vs hF hc hv=>
  refine .iptr (λi=>vs (k+i)) (λi hi=> ?_) (λi hi=> ?_) (λi hi=> ?_)
  ·rw[Xk];exact hF _ (by simp at hi;omega)
  ·rw[Xk];exact hc _ (by simp at hi;omega)
  ·rw[List.getElem_drop];exact hv _ (by simp at hi;omega)
theorem A3N {C:Ctx} {w:World} {cs:List AV} {b o:Nat} (h:VRel C w (.iptr cs) (.pointer (some ⟨b,o,none⟩))) (k:Nat):VRel C w (.iptr (cs.take k)) (.pointer (some ⟨b,o,none⟩)):=by
 cases h with
 |iptr vs hF hc hv=>
  refine .iptr vs (λi hi=> ?_) (λi hi=> ?_) (λi hi=> ?_)
  ·exact hF _ (by simp at hi;omega)
  ·exact hc _ (by simp at hi;omega)
  ·rw[List.getElem_take];exact hv _ (by simp at hi;omega)
theorem A1T {C:Ctx} {w:World} {cs:List AV} {y:Value} (h:VRel C w (.iptr cs) y):∃b o,y= .pointer (some ⟨b,o,none⟩):=by
 cases h with
 |iptr vs hF hc hv=>exact⟨_,_,rfl⟩
theorem BF {P:Program} {t:TypeId} (w:World) (h:P.cellsOf t≠0):(sizeOf t).run P w= .ok (P.cellsOf t) w:=by
 unfold Program.cellsOf at h⊢
 cases hx:P.info? t with
 |none=>rw[hx] at h;simp at h
 |some x=>simp[sizeOf,typeInfo,hx]
theorem A4m {P:Program} {T:Ty} (hT:XT P T) {C:Ctx} {w:World} {ty:TypeId} {f:Nat} {a:AV} {y:Value} {K:AV→Prop} (ha:VRel C w a y) (h:XY T ty a f K):∃v u,(Instr.fieldAt ty y f).run P w= .ok u w∧VRel C w v u∧K v:=by
 unfold XY at h
 split at h
 ·rename_i i hi
  obtain⟨u1,hu1,e1⟩:=(hT ty i hi).under
  split at h
  ·rename_i fs hd
   split at h
   ·rename_i off sz ft hf
    obtain⟨hsz,h⟩:=h
    rw[hd] at e1
    cases u1<;>simp[td] at e1
    rename_i fields
    subst e1
    rw[l0a] at hf
    cases hfd:fields.toList[f]? with
    |none=>rw[hfd] at hf;simp at hf
    |some fd=>
     rw[hfd] at hf
     simp at hf
     obtain⟨e1,e2,e3⟩:=hf
     have hfd':fields[f]?=some fd:=by simpa using hfd
     have hs:(sizeOf fd.type).run P w= .ok sz w:=by rw[←e2];exact BF w (by rw[e2];exact hsz)
     have run:∀b o,(Instr.fieldAt ty (.pointer (some ⟨b,o,none⟩)) f).run P w= .ok (.pointer (some ⟨b,o+off,none⟩)) w:=by
      intro b o
      simp[Instr.fieldAt,run_underlying hu1,hfd',Instr.sureAddr,fieldPlace,hs,hsz,I7,e1]
     split at h
     ·cases ha with
      |ptr hp=>
       obtain⟨p',k',he,h⟩:=h
       exact⟨_,_,run _ _,by rw[Xk,Xk,←he];exact .ptr hp,h⟩
     ·obtain⟨b,o,rfl⟩:=A1T ha
      exact⟨_,_,run _ _,YC ha _,h⟩
     ·exact h.elim
   ·exact h.elim
  ·exact h.elim
 ·exact h.elim
def A0M (T:Ty) (ty:TypeId) (a:AV) (f:Nat) (K:AV→Prop):Prop:=
 match T ty with
 |some i=>match i.d,a with
  | .struct fs,.agg cs=>match fs[f]? with
   |some (off,_,ft)=>UI T ft (cs.drop off) K
   |none=>False
  |_,_=>False
 |none=>False
theorem A6i {P:Program} {T:Ty} (hT:XT P T) {C:Ctx} {w:World} {ft:TypeId} {off:Nat} {cs:List AV} {ys:List Value} {K:AV→Prop} (hl:Cj C w cs ys) (h:UI T ft (cs.drop off) K):
 ∃v u,(part ft ys.toArray off).run P w= .ok u w∧VRel C w v u∧K v:=by
 unfold UI at h
 cases hi:T ft with
 |none=>rw[hi] at h;exact h.elim
 |some i=>
  rw[hi] at h
  have ok:=hT ft i hi
  simp only at h
  by_cases ha:i.d.isAgg=true
  ·rw[if_pos ha] at h
   refine⟨_,.agg ((ys.drop off).take i.size).toArray,?_,ER.2 ⟨_,rfl,(hl.drop off).take _⟩,h.2⟩
   simp only[part,CI,ok.run_isAgg,ha,ok.run_size,EO,if_true,Y9]
   congr 2
   apply l0c
   simp[List.take_drop]
  ·rw[if_neg ha] at h
   have ha':i.d.isAgg=false:=by simpa using ha
   cases hc:cs.drop off with
   |nil=>rw[hc] at h;exact h.elim
   |cons c cs'=>
    rw[hc] at h
    have h0:=hl.drop off
    rw[hc] at h0
    obtain⟨y,ys',e,hv,_⟩:=h0.cons_inv
    have hy:ys.toArray[off]?=some y:=by
     have:(ys.drop off)[0]?=some y:=by rw[e];rfl
     rw[l0d] at this
     simpa using this
    exact⟨c,y,by simp[part,ok.run_isAgg,ha',hy],hv,h⟩
theorem A4l {P:Program} {T:Ty} (hT:XT P T) {C:Ctx} {w:World} {ty:TypeId} {f:Nat} {a:AV} {y:Value} {K:AV→Prop} (ha:VRel C w a y) (h:A0M T ty a f K):∃v u,(Instr.field ty y f).run P w= .ok u w∧VRel C w v u∧K v:=by
 unfold A0M at h
 split at h
 ·rename_i i hi
  obtain⟨u1,hu1,e1⟩:=(hT ty i hi).under
  split at h
  ·rename_i fs cs hd
   split at h
   ·rename_i off sz ft hf
    rw[hd] at e1
    cases u1<;>simp[td] at e1
    rename_i fields
    subst e1
    rw[l0a] at hf
    cases hfd:fields.toList[f]? with
    |none=>rw[hfd] at hf;simp at hf
    |some fd=>
     rw[hfd] at hf
     simp at hf
     obtain⟨e1,e2,e3⟩:=hf
     have hfd':fields[f]?=some fd:=by simpa using hfd
     obtain⟨ys,rfl,hl⟩:=ER.1 ha
     obtain⟨v,u,h1,h2,h3⟩:=A6i (P:=P) hT hl h
     refine⟨v,u,?_,h2,h3⟩
     simp[Instr.field,run_underlying hu1,hfd',asAgg,e1,e3,h1]
   ·exact h.elim
  ·exact h.elim
 ·exact h.elim
def A0L (T:Ty) (ty:TypeId) (a i:AV) (K:AV→Prop):Prop:=
 match T ty,i with
 |some ti,.v (.int _ n)=>match ti.d,a with
  | .slice _ esz,.list m cs=>(0≤n∧n<m)∧K (.iptr ((cs.drop (n.toNat*esz)).take esz))
  | .slice _ esz,.sl _ r o m=>(0≤n∧n<m)∧K (.ptr r (o+n.toNat*esz) 0)
  | .array m _ esz,.ptr r p k=>(0≤n∧n<m)∧∃p' k',p'+k'=p+(k+n.toNat*esz)∧K (.ptr r p' k')
  | .array m _ esz,.iptr cs=>(0≤n∧n<m)∧K (.iptr ((cs.drop (n.toNat*esz)).take esz))
  |_,_=>False
 |_,_=>False
theorem TOk1.elem_slice {P:Program} {t:TypeId} {i:TI} (h:TOk1 P t i) {e:TypeId} {esz:Nat} (hd:i.d= .slice e esz):P.underlying t=some (.slice e)∧P.cellsOf e=esz:=by
 obtain⟨u,hu,e1⟩:=h.under
 rw[hd] at e1
 cases u<;>simp[td] at e1
 rw[hu,e1.1];exact⟨rfl,e1.1▸e1.2⟩
theorem TOk1.elem_array {P:Program} {t:TypeId} {i:TI} (h:TOk1 P t i) {n:Nat} {e:TypeId} {esz:Nat} (hd:i.d= .array n e esz):P.underlying t=some (.array n e)∧P.cellsOf e=esz:=by
 obtain⟨u,hu,e1⟩:=h.under
 rw[hd] at e1
 cases u<;>simp[td] at e1
 rw[hu,e1.1,e1.2.1];exact⟨rfl,e1.2.1▸e1.2.2⟩
theorem A4k {P:Program} {T:Ty} (hT:XT P T) (hP:∀t i e esz,T t=some i→(i.d= .slice e esz∨∃n,i.d= .array n e esz)→esz≠0) {C:Ctx} {w:World} {ty:TypeId} {a i:AV} {y z:Value} {K:AV→Prop} (ha:VRel C w a y) (hi:VRel C w i z) (h:A0L T ty a i K):
 ∃v u,(Instr.indexAt ty y z).run P w= .ok u w∧VRel C w v u∧K v:=by
 unfold A0L at h
 split at h
 ·rename_i ti k n hti
  obtain rfl:=AI.1 hi
  have ok:=hT ty ti hti
  split at h
  ·rename_i e esz m cs hd
   obtain⟨hu,hc⟩:=ok.elem_slice hd
   have hsz:(sizeOf e).run P w= .ok esz w:=by rw[←hc];exact BF w (by rw[hc];exact hP ty ti e esz hti (.inl hd))
   obtain⟨hb,h⟩:=h
   cases ha with
   |list0=>omega
   |list hcap vs hF hcl hv=>
    refine⟨_,_,?_,A3N (YC (.iptr vs hF hcl hv) _) _,h⟩
    simp[Instr.indexAt,asIntOf,run_underlying hu,hb,hsz,I7]
  ·rename_i e esz sz r o m hd
   obtain⟨hu,hc⟩:=ok.elem_slice hd
   have hsz:(sizeOf e).run P w= .ok esz w:=by rw[←hc];exact BF w (by rw[hc];exact hP ty ti e esz hti (.inl hd))
   obtain⟨hb,h⟩:=h
   cases ha with
   |slz=>omega
   |sl hp hcap hbk hfit=>
    refine⟨_,_,?_,.ptr hp,h⟩
    simp[Instr.indexAt,asIntOf,run_underlying hu,hb,hsz,I7,Xk]
  ·rename_i m e esz r p kk hd
   obtain⟨hu,hc⟩:=ok.elem_array hd
   have hsz:(sizeOf e).run P w= .ok esz w:=by rw[←hc];exact BF w (by rw[hc];exact hP ty ti e esz hti (.inr ⟨m,hd⟩))
   obtain⟨hb,h⟩:=h
   cases ha with
   |ptr hp=>
    obtain⟨p',k',he,h⟩:=h
    refine⟨_,_,?_,.ptr hp,h⟩
    simp[Instr.indexAt,asIntOf,run_underlying hu,hb,hsz,I7,he,Xk,Instr.sureAddr]
  ·rename_i m e esz cs hd
   obtain⟨hu,hc⟩:=ok.elem_array hd
   have hsz:(sizeOf e).run P w= .ok esz w:=by rw[←hc];exact BF w (by rw[hc];exact hP ty ti e esz hti (.inr ⟨m,hd⟩))
   obtain⟨hb,h⟩:=h
   obtain⟨b,o,rfl⟩:=A1T ha
   refine⟨_,_,?_,A3N (YC ha _) _,h⟩
   simp[Instr.indexAt,asIntOf,run_underlying hu,hb,hsz,I7,Instr.sureAddr]
  ·exact h.elim
 ·exact h.elim
def A0K (T:Ty) (ty:TypeId) (a i:AV) (K:AV→Prop):Prop:=
 match T ty,i with
 |some ti,.v (.int _ n)=>match ti.d,a with
  | .string,.v (.string s)=>(0≤n∧n<s.size)∧K (.v (.int .u8 (s.data.toList.getD n.toNat 0).toNat))
  | .array m e esz,.agg cs=>(0≤n∧n<m)∧UI T e (cs.drop (n.toNat*esz)) K
  |_,_=>False
 |_,_=>False
theorem A4j {P:Program} {T:Ty} (hT:XT P T) (hP:∀t i e esz,T t=some i→(i.d= .slice e esz∨∃n,i.d= .array n e esz)→esz≠0) {C:Ctx} {w:World} {ty:TypeId} {a i:AV} {y z:Value} {K:AV→Prop} (ha:VRel C w a y) (hi:VRel C w i z) (h:A0K T ty a i K):
 ∃v u,(Instr.index ty y z).run P w= .ok u w∧VRel C w v u∧K v:=by
 unfold A0K at h
 split at h
 ·rename_i ti k n hti
  obtain rfl:=AI.1 hi
  have ok:=hT ty ti hti
  split at h
  ·rename_i s hd
   obtain⟨u,hu,e1⟩:=ok.under
   rw[hd] at e1
   have hu':u= .string:=by cases u<;>simp[td] at e1;rfl
   subst hu'
   obtain rfl:=AI.1 ha
   obtain⟨hb,h⟩:=h
   refine⟨_,_,?_,.v _,h⟩
   have hlt:n.toNat<s.size:=by omega
   have hx:s[n.toNat]?=some s[n.toNat]:=by simp[hlt]
   have hy:s.data.toList.getD n.toNat 0=s[n.toNat]:=by
    rw[TW,Kq (by simpa using hlt)]
    rfl
   rw[hy]
   simp[Instr.index,asIntOf,run_underlying hu,hb.1,hx]
  ·rename_i m e esz cs hd
   obtain⟨hu,hc⟩:=ok.elem_array hd
   have hsz:(sizeOf e).run P w= .ok esz w:=by rw[←hc];exact BF w (by rw[hc];exact hP ty ti e esz hti (.inr ⟨m,hd⟩))
   obtain⟨hb,h⟩:=h
   obtain⟨ys,rfl,hl⟩:=ER.1 ha
   obtain⟨v,u,h1,h2,h3⟩:=A6i (P:=P) hT hl h
   refine⟨v,u,?_,h2,h3⟩
   simp[Instr.index,asIntOf,run_underlying hu,hb,hsz,h1]
  ·exact h.elim
 ·exact h.elim
end Go.Abs
end
