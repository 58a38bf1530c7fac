import Derived.TacticsIn
import Derived.Test.YtlbhdmbfdcohhaaGreatDoorR00
set_option linter.all false
set_option maxHeartbeats 100000000
noncomputable section
namespace Go.Abs
open Go.RowKit
def AV.one:AV→Bool
 | .v x=>x.oneCell'
 | .agg _=>false
 | .tup _=>false
 | .dk=>false
 |_=>true
def B6:AV→List AV
 | .agg cs=>cs
 |a=>[a]
theorem VRel.one {C:Ctx} {w:World} {a:AV} {y:Value} (h:VRel C w a y) (h1:a.one=true):y.oneCell'=true:=by
 cases h<;>first|exact h1|rfl|(simp[AV.one] at h1)
theorem B1L {y:Value} (h:y.oneCell'=true):y.cells= #[y]:=by cases y<;>first|rfl|(simp[Value.oneCell'] at h)
theorem VRel.cells {C:Ctx} {w:World} {a:AV} {y:Value} (h:VRel C w a y) (h1:(B6 a).all AV.one=true):Ca C w (B6 a) y.cells.toList∧∀v∈y.cells.toList,v.oneCell'=true:=by
 have key:∀(b:AV) (y:Value),VRel C w b y→B6 b=[b]→(B6 b).all AV.one=true→Ca C w (B6 b) y.cells.toList∧∀v∈y.cells.toList,v.oneCell'=true:=by
  intro b y hb e h1
  rw[e] at h1⊢
  have ho:y.oneCell'=true:=hb.one (by simpa using h1)
  rw[B1L ho]
  exact⟨.cons hb .nil,by simpa using ho⟩
 cases a with
 |agg cs=>
  obtain⟨ys,rfl,hl⟩:=E6.1 h
  refine⟨by simpa [B6,Value.cells] using hl,λv hv=> ?_⟩
  simp only[Value.cells] at hv
  obtain⟨i,hi⟩:=List.getElem?_of_mem hv
  have hlt:i<cs.length:=by
   have:=(l0j.1 hi).1
   rw[←hl.1];simpa using this
  have:=hl.get i hlt
  have h2:ys[i]'(by rw[hl.1];exact hlt)=v:=by simpa [l0j,hl.1,hlt] using hi
  rw[h2] at this
  exact this.one (Hl.1 (by simpa [B6] using h1) _ (QS hlt))
 |v x=>exact key _ _ h rfl h1
 |ptr r p k=>exact key _ _ h rfl h1
 |iptr cs=>exact key _ _ h rfl h1
 |list n cs=>exact key _ _ h rfl h1
 |sl sz r o n=>exact key _ _ h rfl h1
 |fn f a b=>exact key _ _ h rfl h1
 |tup vs=>exact key _ _ h rfl h1
 |mp r=>exact key _ _ h rfl h1
 |imap es=>exact key _ _ h rfl h1
 |yl r=>exact key _ _ h rfl h1
 |it r=>exact key _ _ h rfl h1
 |dk=>exact key _ _ h rfl h1
def splice {α:Type} (l:List α) (o:Nat) (vs:List α):List α:=l.take o++vs++l.drop (o+vs.length)
theorem E2 {α:Type} {l:List α} {o:Nat} {vs:List α} (h:o+vs.length≤l.length):(splice l o vs).length=l.length:=by simp[splice];omega
theorem My {α:Type} {l:List α} {o:Nat} {vs:List α} (h:o+vs.length≤l.length) (i:Nat):(splice l o vs)[i]?=if i<o then l[i]? else if i<o+vs.length then vs[i-o]? else l[i]?:=by
 unfold splice
 by_cases h1:i<o
 ·rw[if_pos h1,l0k,l0l (by simp;omega),l0m,if_pos h1]
 ·rw[if_neg h1]
  by_cases h2:i<o+vs.length
  ·rw[if_pos h2,l0k,l0n (by simp;omega),l0l (by simp;omega)]
   congr 1
   simp;omega
  ·rw[if_neg h2,l0n (by simp;omega),l0d]
   congr 1
   simp;omega
theorem A0C {α:Type} (l:List α) (o:Nat):splice l o []=l:=by simp[splice]
theorem YC {α:Type} {l:List α} {o:Nat} {v:α} {vs:List α} (h:o+(v::vs).length≤l.length):splice (l.set o v) (o+1) vs=splice l o (v::vs):=by
 apply l0o
 intro i
 rw[My (by simp at h⊢;omega),My h]
 simp only[Lj] at h⊢
 by_cases h1:i<o
 ·rw[if_pos h1,if_pos (by omega),List.getElem?_set_ne (by omega)]
 ·by_cases h2:i=o
  ·subst h2
   rw[if_pos (by omega),if_neg (by omega),if_pos (by omega),List.getElem?_set_self (by omega)]
   simp
  ·rw[if_neg h1,if_neg (by omega)]
   by_cases h3:i<o+(vs.length+1)
   ·rw[if_pos h3,if_pos (by omega)]
    have:i-o=(i-(o+1))+1:=by omega
    rw[this,l0q]
   ·rw[if_neg h3,if_neg (by omega),List.getElem?_set_ne (by omega)]
structure SameBut (w w':World) (b:Nat) (T:TypeId) (arr':Array Value) (fz:Nat×Nat):Prop where
 os:w'.os=w.os
 tape:w'.tape=w.tape
 output:w'.output=w.output
 size:w'.heap.size=w.heap.size
 here:w'.heap[b]?=some (.cells arr' T fz)
 others:∀k,k≠b→w'.heap[k]?=w.heap[k]?
theorem KE {P:Program} {T:TypeId} {fz:Nat×Nat} {b:Nat} (vs:List Value):∀(w:World) (arr:Array Value) (o i:Nat),w.heap[b]?=some (.cells arr T fz)→(∀i,i<arr.size→¬(fz.1≤i∧i<fz.2))→
 o+i+vs.length≤arr.size→(∀v∈vs,v.oneCell'=true)→∃w',(storeCells ⟨b,o,none⟩ vs i).run P w= .ok () w'∧SameBut w w' b T (splice arr.toList (o+i) vs).toArray fz:=by
 induction vs with
 |nil=>intro w arr o i hb _ _ _;exact⟨w,rfl,rfl,rfl,rfl,rfl,by simp[A0C,hb],λ_ _=>rfl⟩
 |cons v vs ih=>
  intro w arr o i hb Qt hfit hone
  have hlt:o+i<arr.size:=by simp at hfit;omega
  have hadd:(⟨b,o,none⟩:Addr).add i=⟨b,o+i,none⟩:=by unfold Addr.add;split<;>simp_all
  have hcell:w.cell? ⟨b,o+i,none⟩=some arr[o+i]:=by simp[World.cell?,hb,hlt]
  have hfz:w.frozen? ⟨b,o+i,none⟩=false:=by
   have:=Qt _ hlt
   simp only[World.frozen?,hb]
   simp;intro h1;omega
  have hb':(w.setCell ⟨b,o+i,none⟩ v).heap[b]?=some (.cells (arr.setIfInBounds (o+i) v) T fz):=by simp[World.setCell,l0r,hb]
  have hoth:∀k,k≠b→(w.setCell ⟨b,o+i,none⟩ v).heap[k]?=w.heap[k]?:= λk hk=>Below.heap_setCell w _ v k hk
  obtain⟨w',hr,hs⟩:=ih (w.setCell ⟨b,o+i,none⟩ v) (arr.setIfInBounds (o+i) v) o (i+1) hb' (by simpa using Qt) (by simp at hfit⊢;omega) (λx hx=>hone x (by simp[hx]))
  refine⟨w',?_,hs.os.trans rfl,hs.tape.trans rfl,hs.output.trans rfl,hs.size.trans (by simp[World.setCell]),?_,λk hk=>(hs.others k hk).trans (hoth k hk)⟩
  ·simp only[storeCells,C4,hadd,run_store P w _ v _ (hone v (by simp)),hcell,hfz]
   simpa using hr
  ·rw[hs.here]
   have e:=YC (l:=arr.toList) (o:=o+i) (v:=v) (vs:=vs) (by simpa using hfit)
   rw[←e]
   simp[Xt]
theorem Keep.same {B:Base} {w w':World} {b:Nat} {T:TypeId} {arr':Array Value} {fz:Nat×Nat} (h:Keep B w) (hs:SameBut w w' b T arr' fz) (ho:B.own b):Keep B w':=
 ⟨hs.os.trans h.os,hs.tape.trans h.tape,hs.output.trans h.output,by rw[hs.size];exact h.size,λk hk hU=>(hs.others k (λe=>by
  subst e
  rcases ho with ho|ho
  ·omega
  ·exact hU ho)).trans (h.block k hk hU)⟩
section
variable {G:Nat→Option (List Value)} {w0:Base} {C:Ctx} {H:Hp} {w w':World} {O:Nat→Prop} {r:Nat} {q:Bool} {T:TypeId} {cs aZ:List AV} {b base o:Nat} {arr:Array Value} {fz:Nat×Nat} {ys:List Value}
theorem SameBut.ext {arr':Array Value} (hs:SameBut w w' b T arr' fz) (hb:w.heap[b]?=some (.cells arr T fz)) (hsz:arr'.size=arr.size) (hF:∀i,¬C.F b i) (hB:¬C.B b):Ext O C w C w':=by
 refine⟨λ_ _=>rfl,λ_ _ h=>h,λk i h=> ?_,λ_ h=>h,λk h=>hs.others k (λe=>hB (e▸h)),λk a t f h=> ?_,λ_ _ h=> .inl h,λ_ h=> .inl h,Nat.le_of_eq hs.size.symm⟩
 ·have:k≠b:= λe=>hF i (e▸h)
  exact l0s (hs.others k this)
 ·by_cases e:k=b
  ·subst e
   rw[hb] at h
   injection h with h;injection h with h1 h2 h3
   subst h1 h2 h3
   exact⟨arr',fz,hs.here,hsz⟩
  ·exact⟨a,f,(hs.others k e).trans h,rfl⟩
theorem Rel.store (h:Rel G w0 C H w) (hl:Ax H r=some (.cells q T cs)) (hd:Laid C w r q T cs b base arr fz) (hfit:o+aZ.length≤cs.length) (hv:Ca (C.sel q) w aZ ys)
 (hs:SameBut w w' b T (splice arr.toList (base+o) ys).toArray fz):Rel G w0 C (upd H r (.cells q T (splice cs o aZ))) w'∧Ext O C w C w':=by
 have hown:=h.own r _ b base hl hd.at_
 have hyl:ys.length=aZ.length:=hv.1
 have hfit':=hd.fits
 have hsz:(splice arr.toList (base+o) ys).toArray.size=arr.size:=by
  simp only[List.size_toArray]
  rw[E2 (by simp;omega)];simp
 have e:Ext O C w C w':=hs.ext hd.block hsz hown.2.1 hown.2.2
 refine⟨⟨h.glob.mono e,?_,?_,?_,?_,?_,λk i hF=>hs.size▸h.fin k i hF,λk hB=>hs.size▸h.finB k hB,λk hk=>h.nx k (by rw[Ck] at hk;exact hk)⟩,e⟩
 ·exact h.below.same hs hown.1
 ·intro s x hx
  by_cases hsr:s=r
  ·subst hsr;exact h.lt s _ hl
  ·rw[Au hsr] at hx;exact h.lt s x hx
 ·intro s x hx
  by_cases hsr:s=r
  ·subst hsr
   rw[Ec hl] at hx
   injection hx with hx;subst hx
   refine Or.inr ⟨b,base,_,fz,hd.at_,hs.here,by rw[hsz];exact hd.free,by rw[hsz,E2 hfit];exact hd.fits,?_,by rw[hsz,E2 hfit];exact hd.exact⟩
   have hall:=(hd.vals.mono (e.sel q))
   have hv':=hv.mono (e.sel q)
   refine⟨by rw[E2 hfit,l0g,l0t,E2 (by simp;omega)];simp;omega,λi a ha=> ?_⟩
   have hil:i<cs.length:=by
    have:=(l0j.1 ha).1
    rwa[E2 hfit] at this
   rw[My hfit] at ha
   rw[E2 hfit,l0m,if_pos hil,l0d,My (by simp;omega)]
   have hold:∀a,cs[i]?=some a→∃y,arr.toList[base+i]?=some y∧VRel (C.sel q) w' a y:= λa ha=>by
    obtain⟨y,hy,hva⟩:=hall.2 i a ha
    rw[l0m,if_pos hil,l0d] at hy
    exact⟨y,hy,hva⟩
   by_cases h1:i<o
   ·rw[if_pos h1] at ha
    rw[if_pos (by omega)]
    exact hold a ha
   ·rw[if_neg h1] at ha
    rw[if_neg (by omega)]
    by_cases h2:i<o+aZ.length
    ·rw[if_pos h2] at ha
     rw[if_pos (by omega)]
     have:base+i-(base+o)=i-o:=by omega
     rw[this]
     exact hv'.2 _ a ha
    ·rw[if_neg h2] at ha
     rw[if_neg (by omega)]
     exact hold a ha
  ·rw[Au hsr] at hx
   refine(h.rows s x hx).mono e (λk base' hp=>hs.others k (λek=> ?_))
   subst ek
   exact hsr (h.sep s r x _ _ _ _ hx hl hp hd.at_)
 ·intro s x k o' hx hp
  by_cases hsr:s=r
  ·subst hsr;exact h.own s _ k o' hl hp
  ·rw[Au hsr] at hx;exact h.own s x k o' hx hp
 ·intro s s' x x' k o1 o2 hx hx' hp hp'
  have key:∀p z,Ax (upd H r (.cells q T (splice cs o aZ))) p=some z→∃z',Ax H p=some z':= λp z hz=>by
   by_cases hq:p=r
   ·subst hq;exact⟨_,hl⟩
   ·rw[Au hq] at hz;exact⟨z,hz⟩
  obtain⟨z,hz⟩:=key s x hx
  obtain⟨z',hz'⟩:=key s' x' hx'
  exact h.sep s s' z z' k o1 o2 hz hz' hp hp'
def Ctx.fix (C:Ctx) (b:Nat):Ctx:={C with F:= λk i=>C.F k i∨k=b}
theorem Ctx.fix_ext (hB:O b):Ext O C w (C.fix b) w:=
 ⟨λ_ _=>rfl,λ_ _ h=> .inl h,λ_ _ _=>rfl,λ_ h=>h,λ_ _=>rfl,λ_ a _ f h=>⟨a,f,h,rfl⟩,λk i h=>by rcases h with h|h;exact .inl h;exact .inr (h▸hB),λ_ h=> .inl h,O8 _⟩
theorem Rel.freeze (h:Rel G w0 C H w) (hl:Ax H r=some (.cells q T cs)) (hd:Laid C w r q T cs b base arr fz):Rel G w0 (C.fix b) (cut H r) w∧Ext w0.own C w (C.fix b) w:=by
 have hown:=h.own r _ b base hl hd.at_
 have e:Ext w0.own C w (C.fix b) w:=Ctx.fix_ext hown.1
 have hsub:∀s x,Ax (cut H r) s=some x→s≠r∧Ax H s=some x:= λs x hx=>by
  by_cases hs:s=r
  ·subst hs;rw[Ku] at hx;cases hx
  ·rw[NB hs] at hx;exact⟨hs,hx⟩
 refine⟨⟨h.glob.mono e,h.below,λs x hx=>h.lt s x (hsub s x hx).2,λs x hx=>(h.rows s x (hsub s x hx).2).mono e (λ_ _ _=>rfl),?_,?_,?_,h.finB,?_⟩,e⟩
 ·intro s x k o' hx hp
  have hk:=h.own s x k o' (hsub s x hx).2 hp
  refine⟨hk.1,λi hF=> ?_,hk.2.2⟩
  rcases hF with hF|hF
  ·exact hk.2.1 i hF
  ·subst hF
   exact(hsub s x hx).1 (h.sep s r x _ _ _ _ (hsub s x hx).2 hl hp hd.at_)
 ·intro s s' x x' k o1 o2 hx hx' hp hp'
  exact h.sep s s' x x' k o1 o2 (hsub s x hx).2 (hsub s' x' hx').2 hp hp'
 ·intro k i hF
  rcases hF with hF|hF
  ·exact h.fin k i hF
  ·subst hF;exact hd.lt
 ·intro k hk
  rw[cut,Ck] at hk
  exact h.nx k hk
end
abbrev Gl:=Nat→Option (List Value)
def Fe (ro:Option Nat):Fence:={Fence.wide with round:=ro}
theorem A2g (ro:Option Nat):(Fe ro).depth=none:=rfl
def A4A (b:Nat):Deferred:={target:= .collected b,args:= #[]}
def DOk (w0:Base) (s0:Nat) (C:Ctx) (w:World) (ds:List Deferred):Prop:=
 ∃bs:List Nat,bs.Nodup∧ds=bs.map A4A∧∀b∈bs,s0≤b∧w0.own b∧C.B b∧w.heap[b]?=some (.deferred (some []))
theorem DOk.nil {w0:Base} {s0:Nat} {C:Ctx} {w:World}:DOk w0 s0 C w []:=⟨[],by simp,rfl,by simp⟩
theorem DOk.mono {w0:Base} {s0:Nat} {C C':Ctx} {w w':World} {ds:List Deferred} (h:DOk w0 s0 C w ds) (hB:∀b,C.B b→C'.B b) (hk:∀b,C.B b→w'.heap[b]?=w.heap[b]?):DOk w0 s0 C' w' ds:=
 let⟨bs,h1,h2,h3⟩:=h
 ⟨bs,h1,h2,λb hb=>⟨(h3 b hb).1,(h3 b hb).2.1,hB b (h3 b hb).2.2.1,(hk b (h3 b hb).2.2.1).trans (h3 b hb).2.2.2⟩⟩
structure St (G:Gl) (w0:Base) (s0:Nat) (C:Ctx) (N:Nat) (t:Tm) (H:Hp) (a:Act) (w:World):Prop where
 rel:Rel G w0 C H w
 size:a.tmps.size=N
 tmps:Tf C w t a.tmps
 defers:DOk w0 s0 C w a.defers
 le:s0≤w.heap.size
def Ky (G:Gl) (w0:Base) (s0 m:Nat) (C:Ctx) (N:Nat) (w:World) (Q:Exit→Tm→Hp→Prop):Exit→Act→World→Prop:=
 λe a' w'=>∃C' t' H',St G w0 s0 C' N t' H' a' w'∧Frm m w0.own C w C' w'∧Q e t' H'
def Qn (P:Program) (G:Gl) (ro:Option Nat) (m N:Nat) (c:Code) (Q:Exit→Tm→Hp→Prop) (t:Tm) (H:Hp):Prop:=
 ∀w0 s0 C a w,St G w0 s0 C N t H a w→c.wpIn (Fe ro) 0 P (Ky G w0 s0 m C N w Q) a w
def A5i (P:Program) (G:Gl) (ro:Option Nat) (m N:Nat) (ops:Array Oper) (l:List Oper) (Q:Exit→Tm→Hp→Prop) (t:Tm) (H:Hp):Prop:=
 ∀w0 s0 C a w,St G w0 s0 C N t H a w→wpListIn (Fe ro) 0 P ops (Ky G w0 s0 m C N w Q) l a w
def Rj (P:Program) (G:Gl) (f:FuncId) (args:List AV) (H:Hp) (Q:AV→Hp→Prop):Prop:=
 ∀w0 C w ys,Rel G w0 C H w→Ca C w args ys→Calls P f ys.toArray w λe w'=>
  ∃v y C' H',e= .returned y∧Rel G w0 C' H' w'∧VRel C' w' v y∧Frm (A6 H) w0.own C w C' w'∧Q v H'
theorem Frm.ext_of {G:Gl} {w0:Base} {C C':Ctx} {H:Hp} {w w':World} {O:Nat→Prop} (h:Frm (A6 H) O C w C' w') (hr:Rel G w0 C H w):Ext O C w C' w':=h.ext λ_ h=>A3q hr h
section
variable {P:Program} {G:Gl} {ro:Option Nat} {m N:Nat} {Q Q':Exit→Tm→Hp→Prop} {t:Tm} {H:Hp}
theorem Ky.later {w0:Base} {s0:Nat} {C C':Ctx} {w w':World} {e:Exit} {a:Act} {w'':World} (hx:Frm m w0.own C w C' w') (h:Ky G w0 s0 m C' N w' Q e a w''):Ky G w0 s0 m C N w Q e a w'':=
 let⟨C1,t1,H1,s,x,q⟩:=h
 ⟨C1,t1,H1,s,hx.trans x,q⟩
theorem Ky.mono {w0:Base} {s0:Nat} {C:Ctx} {w:World} {e:Exit} {a:Act} {w'':World} (hq:∀e t H,Q e t H→Q' e t H) (h:Ky G w0 s0 m C N w Q e a w''):Ky G w0 s0 m C N w Q' e a w'':=
 let⟨C1,t1,H1,s,x,q⟩:=h
 ⟨C1,t1,H1,s,x,hq _ _ _ q⟩
theorem Qn.mono {c:Code} (h:Qn P G ro m N c Q t H) (hq:∀e t H,Q e t H→Q' e t H):Qn P G ro m N c Q' t H:=
 λw0 s0 C a w s=>wpIn_mono (h w0 s0 C a w s) λ_ _ _=>Ky.mono hq
theorem B4Y (h:Q .normal t H):Qn P G ro m N .skip Q t H:= λw0 s0 C a w s=>wpIn_skip ⟨C,t,H,s,.refl _ _,h⟩
theorem B50 {id:Nat} (h:Q (.exit id) t H):Qn P G ro m N (.exit id) Q t H:= λw0 s0 C a w s=>wpIn_exit ⟨C,t,H,s,.refl _ _,h⟩
theorem B4Z {l:Nat} (h:Q (.goto l) t H):Qn P G ro m N (.goto l) Q t H:= λw0 s0 C a w s=>wpIn_goto ⟨C,t,H,s,.refl _ _,h⟩
theorem B1Q {l:Nat} (h:Q .normal t H):Qn P G ro m N (.label l) Q t H:= λw0 s0 C a w s=>wpIn_label ⟨C,t,H,s,.refl _ _,h⟩
theorem B87 (h:Q .ret t H):Qn P G ro m N .ret Q t H:= λw0 s0 C a w s=>wpIn_ret ⟨C,t,H,s,.refl _ _,h⟩
def B3v (K:Tm→Hp→Prop) (Q:Exit→Tm→Hp→Prop):Exit→Tm→Hp→Prop
 | .normal,t,H=>K t H
 |e,t,H=>Q e t H
def A89 (id:Nat) (Q:Exit→Tm→Hp→Prop):Exit→Tm→Hp→Prop
 | .exit i,t,H=>if i=id then Q .normal t H else Q (.exit i) t H
 |e,t,H=>Q e t H
theorem B86 {x y:Code} (h:Qn P G ro m N x (B3v (Qn P G ro m N y Q) Q) t H):Qn P G ro m N (.seq x y) Q t H:= λw0 s0 C a w s=>
 wpIn_seq (wpIn_mono (h w0 s0 C a w s) λe a' w' ⟨C1,t1,H1,s1,x1,q⟩=>by
  cases e with
  |normal=>exact wpIn_mono (q w0 s0 C1 a' w' s1) λ_ _ _=>Ky.later x1
  |_=>exact⟨C1,t1,H1,s1,x1,q⟩)
theorem B1R {id:Nat} {c:Code} (h:Qn P G ro m N c (A89 id Q) t H):Qn P G ro m N (.block id c) Q t H:= λw0 s0 C a w s=>
 wpIn_block (wpIn_mono (h w0 s0 C a w s) λe a' w' ⟨C1,t1,H1,s1,x1,q⟩=>by
  cases e with
  |exit i=>
   simp only[A89] at q
   simp only[Exit.inBlock]
   split at q
   ·rename_i hi;rw[if_pos hi];exact⟨C1,t1,H1,s1,x1,q⟩
   ·rename_i hi;rw[if_neg hi];exact⟨C1,t1,H1,s1,x1,q⟩
  |_=>exact⟨C1,t1,H1,s1,x1,q⟩)
def YU (P:Program) (G:Gl) (ro:Option Nat) (m N:Nat) (c:Code) (Q:Exit→Tm→Hp→Prop) (t:Tm) (H:Hp):Prop:=
 ∀w0 s0 C a w,St G w0 s0 C N t H a w→∀(b:Frame) (k:List Item) (cs:List Frame),b.roundOf=(Fe ro).round→(Fe ro).fn b.fn→(Fe ro).room (cs.length+1+0)→
  ∃e a' w',Ky G w0 s0 m C N w Q e a' w'∧ArrivesIn (Machine.fenced P (Fe ro)) P (lone (b.atR a (.code c:: .inLoop c::k)) cs w) b k cs e a' w'
theorem A73 {c:Code} (h:YU P G ro m N c Q t H):Qn P G ro m N (.loop c) Q t H:=by
 intro w0 s0 C a w s b k cs hro hb hr
 obtain⟨e,a',w',hq,harr⟩:=h w0 s0 C a w s b k cs hro hb hr
 exact⟨e,a',w',hq,.of_steps (.one (fenced_calm hb hr rfl) stepR_loop) harr⟩
theorem A9i {c:Code} (h:Qn P G ro m N c (B3v (YU P G ro m N c Q) Q) t H):YU P G ro m N c Q t H:=by
 intro w0 s0 C a w s b k cs hro hb hr
 obtain⟨e,a1,w2,hq,harr⟩:=h w0 s0 C a w s b (.inLoop c::k) cs hro hb hr
 obtain⟨C2,t1,H1,s1,x1,q⟩:=hq
 cases e with
 |normal=>
  obtain⟨e2,a2,w3,hq2,harr2⟩:=q w0 s0 C2 a1 w2 s1 b k cs hro hb hr
  exact⟨e2,a2,w3,Ky.later x1 hq2,.of_steps (StepsIn.trans harr (.one (fenced_calm hb hr rfl) stepR_inLoop)) harr2⟩
 |exit id=>exact⟨_,a1,w2,⟨C2,t1,H1,s1,x1,q⟩,.pass (x:= .inLoop c) rfl (λ_ _=> .inl (by simp)) harr⟩
 |goto l=>exact⟨_,a1,w2,⟨C2,t1,H1,s1,x1,q⟩,.pass (x:= .inLoop c) rfl (λ_ _=> .inl (by simp)) harr⟩
 |ret=>exact⟨_,a1,w2,⟨C2,t1,H1,s1,x1,q⟩,.pass (x:= .inLoop c) rfl (λ_ _=> .inl (by simp)) harr⟩
 |panic ch=>exact⟨_,a1,w2,⟨C2,t1,H1,s1,x1,q⟩,.pass (x:= .inLoop c) rfl (λ_ _=> .inl (by simp)) harr⟩
 |outgrown=>exact⟨_,a1,w2,⟨C2,t1,H1,s1,x1,q⟩,.pass (x:= .inLoop c) rfl (λ_ _=> .inl (by simp)) harr⟩
end
def ofV:Value→AV
 | .agg cs=> .agg (cs.toList.map .v)
 |x=> .v x
theorem SN {C:Ctx} {w:World} (l:List Value):Ca C w (l.map .v) l:=
 ⟨by simp,λi a ha=>by
  rw[l0a] at ha
  cases h:l[i]? with
  |none=>rw[h] at ha;simp at ha
  |some y=>rw[h] at ha;simp at ha;subst ha;exact⟨y,rfl,.v y⟩⟩
theorem Ww {C:Ctx} {w:World} (x:Value):VRel C w (ofV x) x:=by
 cases x with
 |agg cs=>exact E6.2 ⟨cs.toList,by simp,SN _⟩
 |_=>exact .v _
def JX (G:Gl) (t:Tm):Operand→AV
 | .tmp i=>FO t i
 | .const v=>ofV v
 | .global g=>match G g with
  |some cs=> .iptr (cs.map .v)
  |none=> .v (.pointer (some ⟨g,0,none⟩))
 | .func f=> .fn (.func f) [] []
def OU (t:Tm) (d:Option Tmp) (v:AV):Tm:=
 match d with
 |some d=>(d,v)::t
 |none=>t
def dok (N:Nat) (d:Option Tmp):Prop:=
 match d with
 |some d=>d<N
 |none=>True
inductive Gd where
 |run|skip|dep (b:Bool)|bad
def Rh:AV→Gd
 | .v (.bool b)=> .dep b
 | .dk=> .bad
 |_=> .skip
def Fo (ops:List Oper) (t:Tm) (o:Oper):Gd:=
 match o.guard with
 |none=> .run
 |some (j,want)=>match ops[j]? with
  |some p=>match p.dst with
   |some d=>match Rh (FO t d) with
    | .dep b=> .dep (b==want)
    |g=>g
   |none=> .skip
  |none=> .skip
section
variable {P:Program} {G:Gl} {ro:Option Nat} {m N:Nat} {Q:Exit→Tm→Hp→Prop} {t:Tm} {H:Hp} {w0:Base} {s0:Nat} {w:World} {C:Ctx} {a:Act}
theorem AT (s:St G w0 s0 C N t H a w) (x:Operand):VRel C w (JX G t x) (a.eval x):=by
 have hr:=s.rel
 have ht:=s.tmps
 cases x with
 |tmp i=>exact ht i
 |const v=>exact Ww v
 |global g=>
  simp only[JX,Act.eval]
  cases h:G g with
  |none=>exact .v _
  |some cs=>
   refine .iptr (λi=>cs.getD i undef) (λi hi=> ?_) (λi hi=> ?_) (λi hi=> ?_)
   ·simp at hi
    simpa using(hr.glob g cs h i _ (JV hi)).1
   ·simp at hi
    rw[Ul,JV hi]
    simpa using(hr.glob g cs h i _ (JV hi)).2
   ·simp at hi
    simp[Ul,JV hi]
    exact .v _
 |func f=>exact GZ.2 ⟨[],[],rfl,.nil,.nil⟩
theorem B52 {O:Nat→Prop} {C':Ctx} {w':World} {v:AV} {y:Value} (hs:a.tmps.size=N) (ht:Tf C w t a.tmps) (e:Ext O C w C' w') (hv:VRel C' w' v y) {d:Option Tmp} (hd:dok N d):Tf C' w' (OU t d v) (a.put d y).tmps:=by
 cases d with
 |none=>exact ht.mono e
 |some d=>
  intro i
  simp only[OU,Act.put,FO]
  by_cases hi:i=d
  ·subst hi
   have hlt:i<a.tmps.size:=by rw[hs];exact hd
   rw[if_pos rfl]
   simp[YK,hlt]
   exact hv
  ·rw[if_neg hi]
   have:=(ht.mono e) i
   simp only[YK] at this⊢
   rw[Array.getElem?_setIfInBounds_ne (by omega)]
   exact this
theorem A8a (a:Act) (d:Option Tmp) (y:Value):(a.put d y).defers=a.defers:=by cases d<;>rfl
theorem B3w (a:Act) (d:Option Tmp) (y:Value):(a.put d y).tmps.size=a.tmps.size:=by cases d<;>simp[Act.put]
def V1:Value→Option Bool
 | .bool b=>some b
 |_=>none
theorem A9b {x:AV} {y:Value} (h:VRel C w x y):(∀b,Rh x= .dep b→V1 y=some b)∧(Rh x= .skip→V1 y=none)∧Rh x≠.run:=by
 cases h with
 |v=>cases y<;>simp[Rh,V1]
 |_=>simp[Rh,V1]
theorem A7z (ops:List Oper) (j:Nat):yielded ops.toArray a.tmps j=match ops[j]? with
 |some p=>match p.dst with
  |some d=>(a.tmps[d]?).bind V1
  |none=>none
 |none=>none:=by
 simp only[yielded,l10]
 cases ops[j]? with
 |none=>rfl
 |some p=>
  simp only[Option.bind_some]
  cases p.dst with
  |none=>rfl
  |some d=>
   simp only[Option.bind_some]
   cases a.tmps[d]? with
   |none=>rfl
   |some y=>cases y<;>rfl
theorem A2c (ht:Tf C w t a.tmps) (ops:List Oper) (o:Oper):(Fo ops t o= .run→Region.wanted o (yielded ops.toArray a.tmps)=true)∧(Fo ops t o= .skip→Region.wanted o (yielded ops.toArray a.tmps)=false)∧(∀b,Fo ops t o= .dep b→Region.wanted o (yielded ops.toArray a.tmps)=b):=by
 unfold Region.wanted Fo
 cases o.guard with
 |none=>simp
 |some p=>
  obtain⟨j,want⟩:=p
  simp only[A7z]
  cases ops[j]? with
  |none=>simp
  |some p=>
   simp only
   cases p.dst with
   |none=>simp
   |some d=>
    simp only
    have hv:=ht d
    have hy:=A9b hv
    have hb:(a.tmps[d]?).bind V1=V1 (a.tmps.getD d undef):=by
     rw[YK]
     cases a.tmps[d]?<;>rfl
    rw[hb]
    cases hg:Rh (FO t d) with
    |run=>exact absurd hg hy.2.2
    |skip=>rw[hy.2.1 hg];simp
    |bad=>simp
    |dep b=>rw[hy.1 b hg];simp
def B5e (P:Program) (G:Gl) (o:Oper) (t:Tm) (H:Hp) (K:AV→Hp→Prop):Prop:=
 ∀w0 s0 C N a w,St G w0 s0 C N t H a w→∃v H' y C' w',K v H'∧((execOp a.eval o).run P w= .ok (.value y) w'∨((execOp a.eval o).run P w= .ok .skip w'∧y=undef))∧VRel C' w' v y∧Rel G w0 C' H' w'∧Ext w0.own C w C' w'
def RW (P:Program) (G:Gl) (ro:Option Nat) (N:Nat) (o:Oper) (t:Tm) (H:Hp) (K:AV→Hp→Prop):Prop:=
 ∀w0 s0 C a w (Q:Exit→Act→World→Prop),St G w0 s0 C N t H a w→o.wpIn (Fe ro) 0 P a w (λa' w'=>∃v y C' H',a'=a.put o.dst y∧K v H'∧VRel C' w' v y∧Rel G w0 C' H' w'∧Ext w0.own C w C' w') Q
theorem B56 {ops:Array Oper} (h:Q .normal t H):A5i P G ro m N ops [] Q t H:= λw0 s0 C a w s=>⟨C,t,H,s,.refl _ _,h⟩
theorem Po {F:Fence} {n:Nat} {o:Oper} {a:Act} {w:World} {K K':Act→World→Prop} {q:Exit→Act→World→Prop} (h:∀a w,K a w→K' a w) (hh:o.wpIn F n P a w K q):o.wpIn F n P a w K' q:=by
 unfold Oper.wpIn at*
 refine⟨hh.1,?_⟩
 have hh:=hh.2
 generalize (o.semAt F.round a.eval).run P w=r at*
 cases r with
 |ok x w'=>
  cases x<;>simp only[Oper.uponIn] at hh⊢ <;>
   first
    |exact h _ _ hh
    |exact⟨hh.1,CallsIn.mono hh.2 (λe w'' he=>by cases e<;>first|exact h _ _ he|exact he)⟩
    |exact⟨hh.1,RowsIn.mono hh.2 (λ_ _ he=>h _ _ he)⟩
    |exact⟨hh.1,RoundIn.mono hh.2 (λe w'' he=>by cases e<;>first|exact h _ _ he|exact he)⟩
 |halt x w'=>cases x<;>simp only[Oper.uponIn] at hh⊢ <;>exact hh
theorem A2n {F:Fence} {n:Nat} {ops:Array Oper} {q q':Exit→Act→World→Prop} (hq:∀e a w,q e a w→q' e a w):∀(l:List Oper) (a:Act) (w:World),wpListIn F n P ops q l a w→wpListIn F n P ops q' l a w:=by
 intro l
 induction l with
 |nil=>intro a w h;exact hq _ _ _ h
 |cons o l ih=>
  intro a w h
  simp only[wpListIn] at h⊢
  split
  ·rename_i hw
   rw[if_pos hw] at h
   unfold Oper.wpIn at h⊢
   refine⟨h.1,?_⟩
   have h:=h.2
   generalize (o.semAt F.round a.eval).run P w=r at*
   cases r with
   |ok x w'=>
    cases x<;>simp only[Oper.uponIn] at h⊢ <;>
     first
      |exact ih _ _ h
      |exact⟨h.1,CallsIn.mono h.2 (λe w'' he=>by cases e<;>first|exact ih _ _ he|exact hq _ _ _ he|exact(let⟨a,w,k⟩:=he;⟨a,w,hq _ _ _ k⟩))⟩
      |exact⟨h.1,RowsIn.mono h.2 (λ_ _ he=>ih _ _ he)⟩
      |exact⟨h.1,RoundIn.mono h.2 (λe w'' he=>by cases e<;>first|exact ih _ _ he|exact hq _ _ _ he|exact(let⟨a,w,k⟩:=he;⟨a,w,hq _ _ _ k⟩))⟩
   |halt x w'=>cases x<;>simp only[Oper.uponIn] at h⊢ <;>first|exact hq _ _ _ h|exact h
  ·rename_i hw
   rw[if_neg hw] at h
   exact⟨h.1,ih _ _ h.2⟩
theorem A5i.run {ops:Array Oper} {l:List Oper} {C':Ctx} {w':World} {a':Act} (h:A5i P G ro m N ops l Q t H) (s:St G w0 s0 C' N t H a' w') (e:Frm m w0.own C w C' w'):
 wpListIn (Fe ro) 0 P ops (Ky G w0 s0 m C N w Q) l a' w':=
 A2n (λ_ _ _=>Ky.later e) l a' w' (h w0 s0 C' a' w' s)
theorem A7V {O:Nat→Prop} {C':Ctx} {w':World} {H':Hp} {v:AV} {y:Value} (s:St G w0 s0 C N t H a w) (hr:Rel G w0 C' H' w') (e:Ext O C w C' w') (hv:VRel C' w' v y) {d:Option Tmp} (hd:dok N d):St G w0 s0 C' N (OU t d v) H' (a.put d y) w':=
 ⟨hr,(B3w _ _ _).trans s.size,B52 s.size s.tmps e hv hd,by rw[A8a];exact s.defers.mono e.B e.keepB,l1m s.le e.grow⟩
theorem B1S {ops rest:List Oper} {o:Oper} (hd:dok N o.dst) (s:St G w0 s0 C N t H a w) (hw:Region.wanted o (yielded ops.toArray a.tmps)=false) (h:A5i P G ro m N ops.toArray rest Q (OU t o.dst (.v undef)) H):
 wpListIn (Fe ro) 0 P ops.toArray (Ky G w0 s0 m C N w Q) (o::rest) a w:=by
 simp only[wpListIn,hw,l0z,if_false]
 exact⟨λf _=>trivial,A5i.run h (A7V s s.rel (.refl (λ_=>False) _ _) (.v undef) hd) (.refl _ _)⟩
theorem A76 {ops rest:List Oper} {o:Oper} (hdk:dok N o.dst) (s:St G w0 s0 C N t H a w) (hw:Region.wanted o (yielded ops.toArray a.tmps)=true) (h:RW P G ro N o t H (λv H'=>A5i P G ro m N ops.toArray rest Q (OU t o.dst v) H')):
 wpListIn (Fe ro) 0 P ops.toArray (Ky G w0 s0 m C N w Q) (o::rest) a w:=by
 simp only[wpListIn,hw,if_true]
 exact Po (λa' w' ⟨v,y,C',H',ha,hK,hv,hr,e⟩=>by rw[ha];exact A5i.run hK (A7V s hr e hv hdk) e.frm) (h w0 s0 C a w _ s)
theorem RW.mono {o:Oper} {K K':AV→Hp→Prop} (h:RW P G ro N o t H K) (hk:∀v H,K v H→K' v H):RW P G ro N o t H K':=
 λw0 s0 C a w Q s=>Po (λ_ _ ⟨v,y,C',H',ha,hK,rest⟩=>⟨v,y,C',H',ha,hk v H' hK,rest⟩) (h w0 s0 C a w Q s)
theorem Ri {o:Oper} {K:AV→Hp→Prop} (hd:∀c,o.op≠.defer c) (h:B5e P G o t H K):RW P G ro N o t H K:=by
 intro w0 s0 C a w Q s
 obtain⟨v,H',y,C',w',hK,hrun,hv,hr,e⟩:=h w0 s0 C N a w s
 refine⟨λf _=>trivial,?_⟩
 rw[Oper.semAt_eq _ _ _ hd]
 rcases hrun with hrun|⟨hrun,rfl⟩
 ·rw[hrun];exact⟨v,y,C',H',rfl,hK,hv,hr,e⟩
 ·rw[hrun];exact⟨v,undef,C',H',rfl,hK,hv,hr,e⟩
theorem A9c {id:Nat} {l:List Oper} (h:A5i P G ro m N l.toArray l Q t H):Qn P G ro m N (.region id l.toArray false) Q t H:= λw0 s0 C a w s=>wpIn_region_lit (h w0 s0 C a w s)
theorem A75 {c:Operand} {x y:Code} {b:Bool} (hc:JX G t c= .v (.bool b)) (h1:b=true→Qn P G ro m N x Q t H) (h2:b=false→Qn P G ro m N y Q t H):Qn P G ro m N (.cond c x y) Q t H:= λw0 s0 C a w s=>by
 have:=AT s c
 rw[hc] at this
 have he:a.eval c= .bool b:=AL.1 this
 exact wpIn_cond_split he (λhb=>h1 hb w0 s0 C a w s) (λhb=>h2 hb w0 s0 C a w s)
theorem A2b (s:St G w0 s0 C N t H a w) (l:List Operand):Ca C w (l.map (JX G t)) (l.map a.eval):=by
 refine⟨by simp,λi b hb=> ?_⟩
 rw[l0a] at hb⊢
 cases hx:l[i]? with
 |none=>rw[hx] at hb;simp at hb
 |some x=>rw[hx] at hb;simp at hb;subst hb;exact⟨_,rfl,AT s x⟩
theorem Xl {o:Oper} {c:Call} {f:FuncId} {fv:Operand} {first cap:List AV} {K:AV→Hp→Prop} (hop:o.op= .call c) (hcal:c.callee= .value fv) (hf:JX G t fv= .fn (.func f) first cap) {fn:Func} (hfn:P.funcs[f]?=some fn) (hbody:fn.body.isNone=false)
 (hname:(fn.name== "runtime.NumGoroutine")=false)
 (h:Rj P G f (first++c.args.toList.map (JX G t)++cap) H K):RW P G ro N o t H K:=by
 intro w0 s0 C a w Q s
 have hv:=AT s fv
 rw[hf] at hv
 obtain⟨ys,zs,he,hys,hzs⟩:=GZ.1 hv
 have hall:=(hys.append (A2b s c.args.toList)).append hzs
 have hc:=h w0 C w _ s.rel hall
 refine⟨λf _=>trivial,?_⟩
 rw[Oper.semAt_eq _ _ _ (by rw[hop];intro c hc;cases hc)]
 have hrun:(execOp a.eval o).run P w= .ok (.enter f (ys++c.args.toList.map a.eval++zs).toArray) w:=by
  simp only[execOp,hop,resolve,hcal,he,Deferred.ofValue,C4,Yh,E3,invoke,callFunc,run_program,hfn,hname,hbody,l0z,if_false]
  congr 2
  apply l0c
  simp
 rw[hrun]
 refine⟨λhd=>by simp[A2g] at hd,?_⟩
 have:CallsIn (Fe ro) 0 P f (ys++c.args.toList.map a.eval++zs).toArray w (λe w'=>∃v y C' H',e= .returned y∧Rel G w0 C' H' w'∧VRel C' w' v y∧Frm (A6 H) w0.own C w C' w'∧K v H'):=by
  cases ro with
  |none=>exact callsIn_wide.2 hc
  |some l=>exact CallsIn.mono (callsIn_wide (n:=0).2 hc) (λ_ _ h=>h)
 refine CallsIn.mono this ?_
 rintro e w' ⟨v,y,C',H',rfl,hr,hv,hx,hK⟩
 exact⟨v,y,C',H',rfl,hK,hv,hr,hx.ext_of s.rel⟩
end
inductive TD where
 |int (k:IntKind)|bool|string|pointer (e:TypeId)
 |slice (e:TypeId) (esz:Nat)
 |array (n:Nat) (e:TypeId) (esz:Nat)
 |struct (fs:List (Nat×Nat×TypeId))
 |map (k e:TypeId)|func|iface|other
def td (P:Program):TypeDesc→TD
 | .int k=> .int k
 | .bool=> .bool
 | .string=> .string
 | .pointer e=> .pointer e
 | .slice e=> .slice e (P.cellsOf e)
 | .array n e=> .array n e (P.cellsOf e)
 | .struct fs=> .struct (fs.toList.map λf=>(f.offset,P.cellsOf f.type,f.type))
 | .map k e=> .map k e
 | .func .. => .func
 | .interface .. => .iface
 |_=> .other
def TD.isAgg:TD→Bool
 | .struct _=>true
 | .array .. =>true
 |_=>false
structure TI where
 size:Nat
 bytes:Nat
 d:TD
 zero:AV
structure TOk1 (P:Program) (t:TypeId) (i:TI):Prop where
 sb:(P.info? t).map (λx=>(x.size,x.bytes))=some (i.size,i.bytes)
 z:((P.info? t).bind (·.zero)).map ofV=some i.zero
 u:(P.underlying t).map (td P)=some i.d
abbrev Ty:=TypeId→Option TI
def Xv (P:Program) (T:Ty):Prop:=∀t i,T t=some i→TOk1 P t i
section
variable {P:Program} {t:TypeId} {i:TI} (w:World)
theorem TOk1.info (h:TOk1 P t i):∃x z,P.info? t=some x∧x.size=i.size∧x.bytes=i.bytes∧x.zero=some z∧ofV z=i.zero:=by
 have h1:=h.sb
 have h2:=h.z
 cases hx:P.info? t with
 |none=>rw[hx] at h1;simp at h1
 |some x=>
  rw[hx] at h1 h2
  simp at h1 h2
  obtain⟨z,hz,e⟩:=h2
  exact⟨x,z,rfl,h1.1,h1.2,hz,e⟩
theorem TOk1.under (h:TOk1 P t i):∃u,P.underlying t=some u∧td P u=i.d:=by
 have h1:=h.u
 cases hx:P.underlying t with
 |none=>rw[hx] at h1;simp at h1
 |some u=>rw[hx] at h1;simp at h1;exact⟨u,rfl,h1⟩
theorem TOk1.run_size (h:TOk1 P t i):(sizeOf t).run P w= .ok i.size w:=by
 obtain⟨x,z,hx,hs,_⟩:=h.info
 simp[sizeOf,typeInfo,hx,hs]
theorem TOk1.cellsOf (h:TOk1 P t i):P.cellsOf t=i.size:=by
 obtain⟨x,z,hx,hs,_⟩:=h.info
 simp[Program.cellsOf,hx,hs]
theorem TOk1.run_isAgg (h:TOk1 P t i):(isAgg t).run P w= .ok i.d.isAgg w:=by
 obtain⟨u,hu,e⟩:=h.under
 unfold isAgg
 rw[C4,run_underlying hu w,←e]
 cases u<;>rfl
theorem TOk1.run_zero (h:TOk1 P t i):∃z,(zeroValue t).run P w= .ok z w∧ofV z=i.zero:=by
 obtain⟨x,z,hx,_,_,hz,e⟩:=h.info
 exact⟨z,by simp[zeroValue,typeInfo,hx,hz],e⟩
end
def K9 (C:Ctx) (w:World) (b o:Nat) (cs:List AV):Prop:=∃vs:List Value,Ca C w cs vs∧∀j v,vs[j]?=some v→w.cell? ⟨b,o+j,none⟩=some v
theorem K9.drop {C:Ctx} {w:World} {b o:Nat} {cs:List AV} (h:K9 C w b o cs) (k:Nat):K9 C w b (o+k) (cs.drop k):=by
 obtain⟨vs,h1,h2⟩:=h
 refine⟨vs.drop k,h1.drop k,λj v hv=> ?_⟩
 rw[l0d] at hv
 rw[Xt]
 exact h2 _ v hv
theorem K9.take {C:Ctx} {w:World} {b o:Nat} {cs:List AV} (h:K9 C w b o cs) (k:Nat):K9 C w b o (cs.take k):=by
 obtain⟨vs,h1,h2⟩:=h
 refine⟨vs.take k,h1.take k,λj v hv=> ?_⟩
 rw[l0m] at hv
 split at hv
 ·exact h2 _ v hv
 ·simp at hv
theorem Laid.at {C:Ctx} {w:World} {r:Nat} {q:Bool} {T:TypeId} {cs:List AV} {b base:Nat} {arr:Array Value} {fz:Nat×Nat} (h:Laid C w r q T cs b base arr fz):K9 C w b base cs:=by
 refine⟨_,h.vals.unsel,λj v hv=> ?_⟩
 rw[h.cell]
 rw[l0m] at hv
 split at hv
 ·rw[l0d] at hv;simpa using hv
 ·simp at hv
theorem Laid.atq {C:Ctx} {w:World} {r:Nat} {q:Bool} {T:TypeId} {cs:List AV} {b base:Nat} {arr:Array Value} {fz:Nat×Nat} (h:Laid C w r q T cs b base arr fz):K9 (C.sel q) w b base cs:=by
 refine⟨_,h.vals,λj v hv=> ?_⟩
 rw[h.cell]
 rw[l0m] at hv
 split at hv
 ·rw[l0d] at hv;simpa using hv
 ·simp at hv
theorem A25 {C:Ctx} {w:World} {b o:Nat} {cs:List AV} (vs:Nat→Value) (hc:∀i,i<cs.length→w.cell? ⟨b,o+i,none⟩=some (vs i)) (hv:∀i (hi:i<cs.length),VRel C w cs[i] (vs i)):K9 C w b o cs:=by
 refine⟨(List.range cs.length).map vs,⟨by simp,λi a ha=> ?_⟩,λj v hj=> ?_⟩
 ·obtain⟨hi,rfl⟩:=l0j.1 ha
  exact⟨vs i,by simp[hi],hv i hi⟩
 ·rw[l0a] at hj
  by_cases h:j<cs.length
  ·simp[h] at hj;subst hj;exact hc j h
  ·simp[l1e (by simpa using h:(List.range cs.length).length≤j)] at hj
theorem Ij (b o k:Nat):(⟨b,o,none⟩:Addr).add k=⟨b,o+k,none⟩:=by unfold Addr.add;split<;>simp_all
theorem X7 {P:Program} {C:Ctx} {w:World} {b o:Nat} {cs:List AV} (h:K9 C w b o cs) (n:Nat) (hn:n≤cs.length):∃vs,(loadCells ⟨b,o,none⟩ n).run P w= .ok vs.toArray w∧Ca C w (cs.take n) vs:=by
 obtain⟨vs,h1,h2⟩:=h.take n
 have hl:vs.length=n:=by rw[h1.1];simp[hn]
 refine⟨vs,?_,h1⟩
 have:=run_loadCells_list (P:=P) w ⟨b,o,none⟩ vs (λj v hv=>by rw[Ij];exact h2 j v hv)
 rwa[hl] at this
def Uj (T:Ty) (ty:TypeId) (cs:List AV) (K:AV→Prop):Prop:=
 match T ty with
 |some i=>if i.d.isAgg then i.size≤cs.length∧K (.agg (cs.take i.size)) else match cs with
  |c::_=>K c
  |[]=>False
 |none=>False
theorem TJ {P:Program} {T:Ty} (hT:Xv P T) {C:Ctx} {w:World} {b o:Nat} {cs:List AV} {ty:TypeId} {K:AV→Prop} (h:K9 C w b o cs) (hK:Uj T ty cs K):
 ∃v y,(loadVar ty ⟨b,o,none⟩).run P w= .ok y w∧VRel C w v y∧K v:=by
 unfold Uj at hK
 cases hi:T ty with
 |none=>rw[hi] at hK;exact hK.elim
 |some i=>
  rw[hi] at hK
  have ok:=hT ty i hi
  simp only at hK
  by_cases ha:i.d.isAgg=true
  ·rw[if_pos ha] at hK
   obtain⟨vs,hr,hv⟩:=X7 (P:=P) h i.size hK.1
   refine⟨_,.agg vs.toArray,?_,E6.2 ⟨vs,rfl,hv⟩,hK.2⟩
   simp[loadVar,ok.run_isAgg,ha,ok.run_size,hr]
  ·rw[if_neg ha] at hK
   have ha':i.d.isAgg=false:=by simpa using ha
   cases cs with
   |nil=>exact hK.elim
   |cons c cs=>
    obtain⟨vs,h1,h2⟩:=h
    obtain⟨y,ys,rfl,hv,_⟩:=h1.cons_inv
    refine⟨c,y,?_,hv,hK⟩
    have:=h2 0 y rfl
    simp only[Nat.add_zero] at this
    simp[loadVar,ok.run_isAgg,ha',this]
def A5v (T:Ty) (ty:TypeId) (a:AV) (H:Hp) (K:AV→Prop):Prop:=
 match a with
 | .iptr cs=>Uj T ty cs K
 | .ptr r p k=>match Ax H r with
  |some (.cells _ _ cs)=>Uj T ty (cs.drop (p+k)) K
  |_=>False
 |_=>False
theorem Y9 {P:Program} {T:Ty} (hT:Xv P T) {G:Gl} {w0:Base} {C:Ctx} {w:World} {H:Hp} {ty:TypeId} {a:AV} {y:Value} {K:AV→Prop} (hr:Rel G w0 C H w) (ha:VRel C w a y) (h:A5v T ty a H K):
 ∃v z,(Instr.loadAt ty y).run P w= .ok z w∧VRel C w v z∧K v:=by
 cases a with
 |iptr cs=>
  cases ha with
  |iptr vs hF hc hv=>
   obtain⟨v,z,h1,h2,h3⟩:=TJ (P:=P) hT (A25 vs hc (λi hi=>(hv i hi).up rfl rfl)) h
   exact⟨v,z,by simp[Instr.loadAt,Instr.sureAddr,h1],h2,h3⟩
 |ptr r p k=>
  simp only[A5v] at h
  cases hl:Ax H r with
  |none=>rw[hl] at h;exact h.elim
  |some x=>
   rw[hl] at h
   cases x with
   |map q es=>exact h.elim
   |loop=>exact h.elim
   |iter=>exact h.elim
   |gone=>exact h.elim
   |cells q Ty cs=>
    cases ha with
    |ptr hp=>
     rcases hr.rows r _ hl with⟨h1,h2⟩|⟨b,base,arr,fz,hd⟩
     ·rw[h2] at hp;cases hp
     ·have e:=hd.at_.symm.trans hp
      injection e with e;injection e with e;injection e with e1 e2;subst e1 e2
      obtain⟨v,z,h1,h2,h3⟩:=TJ (P:=P) hT (hd.at.drop (p+k)) h
      exact⟨v,z,by simp[Instr.loadAt,Instr.sureAddr,h1],h2,h3⟩
 |_=>exact h.elim
def A0g (T:Ty) (ty:TypeId) (a v:AV) (H:Hp) (K:Hp→Prop):Prop:=
 match a with
 | .ptr r p k=>match Ax H r,T ty with
  |some (.cells q E cs),some i=>(B6 v).length=i.size∧(B6 v).all AV.one=true∧(p+k)+(B6 v).length≤cs.length∧K (upd H r (.cells q E (splice cs (p+k) (B6 v))))
  |_,_=>False
 |_=>False
theorem A40 {P:Program} {T:Ty} (hT:Xv P T) {G:Gl} {w0:Base} {C:Ctx} {w:World} {H:Hp} {ty:TypeId} {a v:AV} {y z:Value} {K:Hp→Prop} (hr:Rel G w0 C H w) (ha:VRel C w a y) (hv:VRel C w v z) (h:A0g T ty a v H K):
 ∃H' w',(Instr.storeAt ty y z).run P w= .ok () w'∧Rel G w0 C H' w'∧Ext w0.own C w C w'∧K H':=by
 cases a with
 |ptr r p k=>
  simp only[A0g] at h
  cases hl:Ax H r with
  |none=>rw[hl] at h;exact h.elim
  |some x=>
   rw[hl] at h
   cases x with
   |map q es=>exact h.elim
   |loop=>exact h.elim
   |iter=>exact h.elim
   |gone=>exact h.elim
   |cells q E cs=>
    cases hi:T ty with
    |none=>rw[hi] at h;exact h.elim
    |some i=>
     rw[hi] at h
     obtain⟨h1,h2,h3,h4⟩:=h
     have ok:=hT ty i hi
     obtain⟨hlv,hone⟩:=hv.cells h2
     cases ha with
     |ptr hp=>
      rcases hr.rows r _ hl with⟨h5,h6⟩|⟨b,base,arr,fz,hd⟩
      ·rw[h6] at hp;cases hp
      ·have e:=hd.at_.symm.trans hp
       injection e with e;injection e with e;injection e with e1 e2;subst e1 e2
       have hfit:=hd.fits
       have hlq:Ca (C.sel q) w (B6 v) z.cells.toList:=hlv
       have hlen:z.cells.toList.length=(B6 v).length:=hlv.1
       obtain⟨w',hrun,hs⟩:=KE (P:=P) z.cells.toList w arr (base+(p+k)) 0 hd.block hd.free (by omega) hone
       have:=hr.store (O:=w0.own) hl hd h3 hlq (by simpa using hs)
       refine⟨_,w',?_,this.1,this.2,h4⟩
       have hsz:¬z.cells.size≠i.size:=by simp at hlen;omega
       simp[Instr.storeAt,Instr.sureAddr,storeVar,ok.run_size,hsz,hrun]
 |_=>exact h.elim
def Zq (op:BinOp) (k:IntKind) (a b:Int):Option Value:=
 match op with
 | .add=>some (.int k (k.wrap (a+b)))
 | .sub=>some (.int k (k.wrap (a-b)))
 | .mul=>some (.int k (k.wrap (a*b)))
 | .quo=>if b=0 then none else some (.int k (k.wrap (a.tdiv b)))
 | .rem=>if b=0 then none else some (.int k (a.tmod b))
 | .and=>some (.int k (k.wrap ((BitVec.ofInt k.bits a&&&BitVec.ofInt k.bits b).toNat)))
 | .or=>some (.int k (k.wrap ((BitVec.ofInt k.bits a|||BitVec.ofInt k.bits b).toNat)))
 | .xor=>some (.int k (k.wrap ((BitVec.ofInt k.bits a^^^BitVec.ofInt k.bits b).toNat)))
 | .andNot=>some (.int k (k.wrap ((BitVec.ofInt k.bits a&&& ~~~BitVec.ofInt k.bits b).toNat)))
 | .eql=>some (.bool (a==b))
 | .neq=>some (.bool (a !=b))
 | .lss=>some (.bool (decide (a<b)))
 | .leq=>some (.bool (decide (a≤b)))
 | .gtr=>some (.bool (decide (a>b)))
 | .geq=>some (.bool (decide (a≥b)))
 |_=>none
def XQ (op:BinOp) (k:IntKind) (a b:Int):Option Value:=
 if b<0 then none else match op with
 | .shl=>some (.int k (k.wrap (a*2^(min b.toNat k.bits))))
 | .shr=>some (.int k (a.fdiv (2^(min b.toNat k.bits))))
 |_=>none
def B10 (op:BinOp) (a b:ByteArray):Option Value:=
 match op with
 | .add=>if((a.size+b.size:Nat):Int)>IntKind.i64.max then none else some (.string (a++b))
 | .eql=>some (.bool (a.toList==b.toList))
 | .neq=>some (.bool !(a.toList==b.toList))
 | .lss=>some (.bool (Op.bytesLess a.toList b.toList))
 | .leq=>some (.bool (Op.bytesLess a.toList b.toList||a.toList==b.toList))
 | .gtr=>some (.bool !(Op.bytesLess a.toList b.toList||a.toList==b.toList))
 | .geq=>some (.bool !Op.bytesLess a.toList b.toList)
 |_=>none
def GI:BinOp→Bool
 | .shl=>true
 | .shr=>true
 |_=>false
def JN {α:Type} (o:Option α) (K:α→Prop):Prop:=
 match o with
 |some v=>K v
 |none=>False
def A6f:TD→AV→AV→Option Bool
 | .pointer _,.v (.pointer none),.v (.pointer none)=>some true
 | .pointer _,.ptr ..,.v (.pointer none)=>some false
 | .pointer _,.iptr ..,.v (.pointer none)=>some false
 | .pointer _,.v (.pointer none),.ptr .. =>some false
 | .pointer _,.v (.pointer none),.iptr .. =>some false
 | .func,.v .nilFunc,.v .nilFunc=>some true
 | .func,.fn ..,.v .nilFunc=>some false
 | .func,.v .nilFunc,.fn .. =>some false
 | .slice ..,.v (.slice none 0 0),.v (.slice none 0 0)=>some true
 | .slice ..,.list (_+1) _,.v (.slice none 0 0)=>some false
 | .slice ..,.sl _ _ _ (_+1),.v (.slice none 0 0)=>some false
 |_,_,_=>none
def A0o (T:Ty) (op:BinOp) (ty:TypeId) (a b:AV) (K:AV→Prop):Prop:=
 match a,b with
 | .v (.int k m),.v (.int k' n)=>if GI op then JN (XQ op k m n) (λv=>K (.v v)) else k=k'∧JN (Zq op k m n) (λv=>K (.v v))
 | .v (.string s),.v (.string u)=>JN (B10 op s u) (λv=>K (.v v))
 | .v (.bool p),.v (.bool q)=>(∃i,T ty=some i∧i.d= .bool)∧(match op with| .eql=>K (.v (.bool (p==q)))| .neq=>K (.v (.bool (!(p==q))))|_=>False)
 |a,b=>match T ty with
  |some i=>match A6f i.d a b with
   |some q=>(match op with| .eql=>K (.v (.bool q))| .neq=>K (.v (.bool (!q)))|_=>False)
   |none=>False
  |none=>False
theorem B3C {P:Program} {op:BinOp} {k:IntKind} {a b:Int} {v:Value} (hs:GI op=false) (h:Zq op k a b=some v) (ty:TypeId) (w:World):(binOp op ty (.int k a) (.int k b)).run P w= .ok v w:=by
 cases op<;>simp[Zq,GI] at h hs<;>try (subst h;simp[binOp,Op.intArith,Op.intBits,Op.intCmp];done)
 ·obtain⟨h1,rfl⟩:=h;simp[binOp,Op.intDiv,h1]
 ·obtain⟨h1,rfl⟩:=h;simp[binOp,Op.intDiv,h1]
theorem A8c {P:Program} {op:BinOp} {k k':IntKind} {a b:Int} {v:Value} (h:XQ op k a b=some v) (ty:TypeId) (w:World):(binOp op ty (.int k a) (.int k' b)).run P w= .ok v w:=by
 unfold XQ at h
 split at h
 ·cases h
 ·rename_i hb
  cases op<;>simp at h<;>(subst h;simp[binOp,Op.shift,hb])
theorem B3x {P:Program} {op:BinOp} {a b:ByteArray} {v:Value} (h:B10 op a b=some v) (ty:TypeId) (w:World):(binOp op ty (.string a) (.string b)).run P w= .ok v w:=by
 cases op<;>simp only[B10] at h<;>try (simp at h;done)
 ·split at h
  ·cases h
  ·rename_i hb;injection h with h;subst h
   simp only[binOp,Op.stringOp,if_neg hb];rfl
 all_goals (injection h with h;subst h;rfl)
theorem B48 {α:Type} {c:Prop} [Decidable c] {x y z:α} (h1:x=z) (h2:y=z):(if c then x else y)=z:=by split<;>assumption
theorem YP {P:Program} {op:BinOp} {ty:TypeId} {x y:Operand} {a b:Value} (w:World) (h:(∀xs ys,a= .agg xs→b= .agg ys→False)∧¬(a= .nilIface∧b= .nilIface)):(eqGuard op ty x y a b).run P w= .ok () w:=by
 unfold eqGuard
 rw[Sem.run_ite]
 refine B48 (by simp) ?_
 split
 ·exact absurd ⟨rfl,rfl⟩ h.2
 ·exact(h.1 _ _ rfl rfl).elim
 ·rfl
theorem A0n {P:Program} {T:Ty} (hT:Xv P T) {C:Ctx} {w:World} {op:BinOp} {ty:TypeId} {a b:AV} {y z:Value} {K:AV→Prop} (x1 x2:Operand) (ha:VRel C w a y) (hb:VRel C w b z) (h:A0o T op ty a b K):
 ∃v u,(do eqGuard op ty x1 x2 y z;binOp op ty y z).run P w= .ok u w∧VRel C w v u∧K v:=by
 have guardOK:∀{u:Value},((∀xs ys,y= .agg xs→z= .agg ys→False)∧¬(y= .nilIface∧z= .nilIface))→(binOp op ty y z).run P w= .ok u w→(do eqGuard op ty x1 x2 y z;binOp op ty y z).run P w= .ok u w:=by
  intro u hg hr
  rw[C4,YP w hg]
  simpa using hr
 unfold A0o at h
 split at h
 ·rename_i k m k' n
  obtain rfl:=AL.1 ha
  obtain rfl:=AL.1 hb
  split at h
  ·rename_i hs
   unfold JN at h
   split at h
   ·rename_i v hv;exact⟨_,_,guardOK ⟨by simp,by simp⟩ (A8c hv ty w),.v _,h⟩
   ·exact h.elim
  ·rename_i hs
   obtain⟨rfl,h⟩:=h
   unfold JN at h
   split at h
   ·rename_i v hv;exact⟨_,_,guardOK ⟨by simp,by simp⟩ (B3C (by simpa using hs) hv ty w),.v _,h⟩
   ·exact h.elim
 ·obtain rfl:=AL.1 ha
  obtain rfl:=AL.1 hb
  unfold JN at h
  split at h
  ·rename_i v hv;exact⟨_,_,guardOK ⟨by simp,by simp⟩ (B3x hv ty w),.v _,h⟩
  ·exact h.elim
 ·rename_i p q
  obtain rfl:=AL.1 ha
  obtain rfl:=AL.1 hb
  obtain⟨⟨i,hi,hd⟩,h⟩:=h
  obtain⟨u,hu,e⟩:=(hT ty i hi).under
  have hu':u= .bool:=by rw[hd] at e;cases u<;>simp[td] at e;rfl
  subst hu'
  have he:(Op.equal ty (.bool p) (.bool q)).run P w= .ok (p==q) w:=by
   show(Op.equalIn (9999+1) ty _ _).run P w=_
   unfold Op.equalIn;rw[C4,run_underlying hu w];rfl
  cases op<;>simp only at h<;>try exact h.elim
  ·exact⟨_,_,guardOK ⟨by simp,by simp⟩ (by simp[binOp,he]),.v _,h⟩
  ·exact⟨_,_,guardOK ⟨by simp,by simp⟩ (by simp[binOp,he]),.v _,h⟩
 ·split at h
  ·rename_i i hi
   split at h
   ·rename_i q hq
    obtain⟨u,hu,e⟩:=(hT ty i hi).under
    have key:(Op.equal ty y z).run P w= .ok q w∧((∀xs ys,y= .agg xs→z= .agg ys→False)∧¬(y= .nilIface∧z= .nilIface))∧(binOp .eql ty y z=(do pure (.bool (←Op.equal ty y z))))∧(binOp .neq ty y z=(do pure (.bool (!(←Op.equal ty y z))))):=by
     unfold A6f at hq
     split at hq<;>first
      |(have hd:= ‹i.d=_›
        injection hq with hq;subst hq
        rw[hd] at e
        cases u<;>simp[td] at e
        cases ha<;>cases hb<;>(refine⟨by(show(Op.equalIn (9999+1) ty _ _).run P w=_);unfold Op.equalIn;rw[C4,run_underlying hu w];rfl,⟨by simp,by simp⟩,rfl,rfl⟩))
      |(cases hq;done)
    obtain⟨he,hg,hb1,hb2⟩:=key
    cases op<;>simp only at h<;>try exact h.elim
    ·exact⟨_,_,guardOK hg (by rw[hb1];simp[he]),.v _,h⟩
    ·exact⟨_,_,guardOK hg (by rw[hb2];simp[he]),.v _,h⟩
   ·exact h.elim
  ·exact h.elim
end Go.Abs
end
