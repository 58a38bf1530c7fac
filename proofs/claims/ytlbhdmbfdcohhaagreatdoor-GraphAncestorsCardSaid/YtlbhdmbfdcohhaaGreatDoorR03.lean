import Derived.RangeFuncIn
import Derived.RangeFuncStops
import Derived.RangeFuncLeaves
import Derived.Test.YtlbhdmbfdcohhaaGreatDoorR02
set_option linter.all false
set_option maxHeartbeats 100000000
noncomputable section
namespace Go.Abs
open Go.RowKit
def A9e (H:Hp) (x:AV):Option (Nat×List AV×Bool):=
 match x with
 | .list m cs=>some (m,cs,true)
 | .sl sz r o m=>match Ax H r with
  |some (.cells q _ cs)=>some (m,(cs.drop o).take (m*sz),q)
  |_=>none
 | .v (.slice none 0 0)=>some (0,[],true)
 | .v (.string s)=>some (s.size,s.data.toList.map λb=> .v (.int .u8 b.toNat),true)
 |_=>none
section
variable {P:Program} {G:Gl} {w0:Base} {w:World} {C:Ctx} {H:Hp}
theorem VP {x:AV} {y:Value} {m:Nat} {ys:List AV} {q:Bool} {esz:Nat} (hr:Rel G w0 C H w) (hx:VRel C w x y) (h:A9e H x=some (m,ys,q)) (hl:ys.length=m*esz) (hs:∀s,x= .v (.string s)→esz=1):
 (Builtin.lenOf y).run P w= .ok m w∧∃vs:List Value,Ca (C.sel q) w ys vs∧∀W:World,(∀k,k<w.heap.size→W.heap[k]?=w.heap[k]?)→(Builtin.firstCells esz m y).run P W= .ok vs.toArray W:=by
 have mem:∀(D:Ctx) (b o:Nat) (cs:List AV),K9 D w b o cs→cs.length=m*esz→(0<cs.length→b<w.heap.size)→∃vs:List Value,Ca D w cs vs∧∀W:World,(∀k,k<w.heap.size→W.heap[k]?=w.heap[k]?)→(loadCells ⟨b,o,none⟩ (m*esz)).run P W= .ok vs.toArray W:=by
  intro D b o cs hc hlen hb
  obtain⟨vs,h1,h2⟩:=hc
  refine⟨vs,h1,λW hW=> ?_⟩
  have hvl:vs.length=m*esz:=by rw[h1.1,hlen]
  have:=run_loadCells_list (P:=P) W ⟨b,o,none⟩ vs (λj v hv=>by
   rw[Ij]
   have hj:j<vs.length:=(l0j.1 hv).1
   rw[l0s (w:=w) (hW b (hb (by rw[←h1.1];omega)))]
   exact h2 j v hv)
  rwa[hvl] at this
 unfold A9e at h
 split at h
 ·rename_i m' cs
  injection h with h;injection h with e1 e2;injection e2 with e2 e3;subst e1 e2 e3
  cases hx with
  |list0=>
   refine⟨rfl,[],.nil,λW _=> ?_⟩
   rename_i a cap
   cases a with
   |none=>rfl
   |some ad=>simp[Builtin.firstCells,loadCells,loadCellsFrom]
  |list hcap vs hF hcl hv=>
   rename_i cap b o
   obtain⟨vs',h1,h2⟩:=mem C.bare b o cs (A25 vs hcl hv) hl (λhp=>hr.fin b _ (hF 0 hp))
   exact⟨rfl,vs',(h1.up rfl rfl),λW hW=>h2 W hW⟩
 ·rename_i sz r o m'
  split at h
  ·rename_i q' E cs hlk
   injection h with h;injection h with e1 e2;injection e2 with e2 e3;subst e1 e2 e3
   cases hx with
   |slz hrn=>
    have:((cs.drop o).take (0*sz))=[]:=by simp
    rw[this]
    rename_i a
    refine⟨rfl,[],.nil,λW _=> ?_⟩
    cases a with
    |none=>rfl
    |some ad=>simp[Builtin.firstCells,loadCells,loadCellsFrom]
   |sl hp hcap hbk hfit=>
    rcases hr.rows r _ hlk with⟨h5,h6⟩|⟨b',base',arr',fz',hd⟩
    ·rw[h6] at hp;cases hp
    ·have e:=hd.at_.symm.trans hp
     injection e with e;injection e with e;injection e with e1 e2;subst e1 e2
     obtain⟨vs',h1,h2⟩:=mem (C.sel q') b' (base'+o) _ ((hd.atq.drop o).take (m'*sz)) hl (λ_=>hd.lt)
     exact⟨rfl,vs',h1,λW hW=>h2 W hW⟩
  ·cases h
 ·injection h with h;injection h with e1 e2;injection e2 with e2 e3;subst e1 e2 e3
  obtain rfl:=AL.1 hx
  exact⟨rfl,[],.nil,λW _=>rfl⟩
 ·rename_i s
  injection h with h;injection h with e1 e2;injection e2 with e2 e3;subst e1 e2 e3
  obtain rfl:=AL.1 hx
  have:=hs s rfl
  subst this
  refine⟨rfl,s.data.toList.map λb=> .int .u8 b.toNat,?_,λW _=> ?_⟩
  ·have:=SN (C:=C.sel true) (w:=w) (s.data.toList.map λb=>Value.int .u8 b.toNat)
   simpa [l1t] using this
  ·simp only[Builtin.firstCells,Yh]
   congr 1
   have:s.extract 0 s.size=s:=by
    apply ByteArray.ext;simp
   rw[this]
   obtain⟨⟨l⟩⟩:=s
   simp only[List.map_toArray]
 ·cases h
theorem A2V {q q':Bool} {aZ:List AV} {ys:List Value} (h:Ca (C.sel q) w aZ ys):Ca (C.sel q') w aZ ys:=h
theorem A1o {q q':Bool} {aZ:List AV} {ys:List Value} (h:Ca (C.sel q') w aZ ys):Ca (C.sel q) w aZ ys:=h
theorem Rel.virtual (hr:Rel G w0 C H w) (q:Bool) (E:TypeId):Rel G w0 (C.put (A6 H) none) ((A6 H,.cells q E [])::H) w:=by
 have hfr:C.π (A6 H)=none:=hr.nx _ (O8 _)
 have e:Ext w0.own C w (C.put (A6 H) none) w:=Ctx.put_ext hfr (.refl _ _ _)
 refine⟨hr.glob,hr.below,?_,?_,?_,?_,hr.fin,hr.finB,?_⟩
 ·intro r x hx
  simp only[Ax] at hx
  split at hx
  ·rename_i h;subst h;rw[C.put_n];simp
  ·rw[e.π r (hr.lt r x hx)];exact hr.lt r x hx
 ·intro r x hx
  simp only[Ax] at hx
  split at hx
  ·rename_i h;subst h
   injection hx with hx;subst hx
   exact Or.inl ⟨rfl,C.put_n _ none⟩
  ·exact(hr.rows r x hx).mono e (λ_ _ _=>rfl)
 ·intro r x b o hx hp
  simp only[Ax] at hx
  split at hx
  ·rename_i h;subst h;rw[C.put_n] at hp;cases hp
  ·rename_i h;rw[C.put_ne _ h] at hp;exact hr.own r x b o hx hp
 ·intro r r' x x' b o o' hx hx' hp hp'
  simp only[Ax] at hx hx'
  split at hx
  ·rename_i h;subst h;rw[C.put_n] at hp;cases hp
  ·rename_i h1
   split at hx'
   ·rename_i h;subst h;rw[C.put_n] at hp';cases hp'
   ·rename_i h2
    rw[C.put_ne _ h1] at hp
    rw[C.put_ne _ h2] at hp'
    exact hr.sep r r' x x' b o o' hx hx' hp hp'
 ·intro r h
  have h:A6 H+1≤r:=h
  rw[C.put_ne _ (by omega)];exact hr.nx r (by omega)
theorem Rel.extend (hr:Rel G w0 C H w) {w':World} {r1:Nat} {q q':Bool} {E:TypeId} {cs aZ:List AV} {b base o:Nat} {arr:Array Value} {fz:Nat×Nat} {ys:List Value} (hl:Ax H r1=some (.cells q E cs)) (hd:Laid C w r1 q E cs b base arr fz) (ho:o≤cs.length)
 (hv:Ca (C.sel q') w aZ ys) (hfit:base+cs.length+aZ.length≤arr.size) (hs:SameBut w w' b E (splice arr.toList (base+cs.length) ys).toArray fz):
 Rel G w0 (C.put (A6 H) (some (b,base+o))) ((A6 H,.cells false E (cs.drop o++aZ))::cut H r1) w'∧Ext w0.own C w (C.put (A6 H) (some (b,base+o))) w':=by
 have hfr:C.π (A6 H)=none:=hr.nx _ (O8 _)
 have hown:=hr.own r1 _ b base hl hd.at_
 have hyl:ys.length=aZ.length:=hv.1
 have hsz:(splice arr.toList (base+cs.length) ys).toArray.size=arr.size:=by
  simp only[List.size_toArray]
  rw[E2 (by simp;omega)];simp
 have e0:Ext w0.own C w C w':=hs.ext hd.block hsz hown.2.1 hown.2.2
 have e:Ext w0.own C w (C.put (A6 H) (some (b,base+o))) w':=Ctx.put_ext hfr e0
 have hsub:∀s x,Ax (cut H r1) s=some x→s≠r1∧Ax H s=some x:= λs x hx=>by
  by_cases hs:s=r1
  ·subst hs;rw[Ku] at hx;cases hx
  ·rw[NB hs] at hx;exact⟨hs,hx⟩
 refine⟨⟨hr.glob.mono e,?_,?_,?_,?_,?_,λk i hF=>hs.size▸hr.fin k i hF,λk hB=>hs.size▸hr.finB k hB,λk hk=>by
  have hk:A6 H+1≤k:=hk
  rw[C.put_ne _ (by omega)];exact hr.nx k (by omega)⟩,e⟩
 ·exact hr.below.same hs hown.1
 ·intro s x hx
  simp only[Ax] at hx
  split at hx
  ·rename_i h;subst h;rw[C.put_n];simp
  ·rw[e.π s (hr.lt s x (hsub s x hx).2)];exact hr.lt s x (hsub s x hx).2
 ·intro s x hx
  simp only[Ax] at hx
  split at hx
  ·rename_i h;subst h
   injection hx with hx;subst hx
   refine Or.inr ⟨b,base+o,_,fz,C.put_n _ _,hs.here,by rw[hsz];exact hd.free,by rw[hsz];simp;omega,?_,λh=>by cases h⟩
   have hall:Ca ((C.put (A6 H) (some (b,base+o))).sel false) w' cs _:=hd.vals.mono (e.sel q)
   have hv':Ca ((C.put (A6 H) (some (b,base+o))).sel false) w' aZ ys:=hv.mono (e.sel q')
   have hsp:((splice arr.toList (base+cs.length) ys).drop (base+o)).take (cs.drop o++aZ).length=((arr.toList.drop base).take cs.length).drop o++ys:=by
    apply l0o
    intro j
    simp only[FA,l0t]
    rw[l0m]
    by_cases hj:j<cs.length-o+aZ.length
    ·rw[if_pos hj,l0d,My (by simp;omega)]
     by_cases h1:j<cs.length-o
     ·rw[if_pos (by omega),l0l (by simp;omega),l0d,l0m,if_pos (by omega),l0d]
      congr 1;omega
     ·rw[if_neg (by omega),if_pos (by omega),l0n (by simp;omega)]
      congr 1
      simp;omega
    ·rw[if_neg hj]
     symm
     rw[List.getElem?_eq_none_iff]
     simp;omega
   simp only[]
   rw[hsp]
   exact(hall.drop o).append hv'
  ·refine(hr.rows s x (hsub s x hx).2).mono e (λk base' hp=>hs.others k (λek=> ?_))
   subst ek
   exact(hsub s x hx).1 (hr.sep s r1 x _ _ _ _ (hsub s x hx).2 hl hp hd.at_)
 ·intro s x k o' hx hp
  simp only[Ax] at hx
  split at hx
  ·rename_i h;subst h
   rw[C.put_n] at hp
   injection hp with hp;injection hp with hp;injection hp with e1 e2;subst e1
   exact hown
  ·rename_i hne;rw[C.put_ne _ hne] at hp;exact hr.own s x k o' (hsub s x hx).2 hp
 ·intro s s' x x' k o1 o2 hx hx' hp hp'
  simp only[Ax] at hx hx'
  split at hx
  ·rename_i h;subst h
   rw[C.put_n] at hp
   injection hp with hp;injection hp with hp;injection hp with e1 e2;subst e1
   split at hx'
   ·rename_i h;exact h.symm
   ·rename_i hne
    rw[C.put_ne _ hne] at hp'
    exact absurd (hr.sep s' r1 x' _ _ _ _ (hsub s' x' hx').2 hl hp' hd.at_) (hsub s' x' hx').1
  ·rename_i hne
   split at hx'
   ·rename_i h;subst h
    rw[C.put_n] at hp'
    injection hp' with hp';injection hp' with hp';injection hp' with e1 e2;subst e1
    rw[C.put_ne _ hne] at hp
    exact absurd (hr.sep s r1 x _ _ _ _ (hsub s x hx).2 hl hp hd.at_) (hsub s x hx).1
   ·rename_i hne'
    rw[C.put_ne _ hne] at hp
    rw[C.put_ne _ hne'] at hp'
    exact hr.sep s s' x x' k o1 o2 (hsub s x hx).2 (hsub s' x' hx').2 hp hp'
end
def Wb (T:Ty) (t1 t2:TypeId) (s x:AV) (H:Hp) (r:Nat) (K:AV→Hp→Prop):Prop:=
 match T t1,T t2 with
 |some i1,some i2=>match i1.d with
  | .slice e esz=>match T e with
   |some ie=>(esz≠0∧(B6 ie.zero).length=esz∧(match i2.d with| .slice .. =>True| .string=>True|_=>False)∧(match x with| .v (.string _)=>esz=1|_=>True))∧JN (A9e H x) λp=>
    (p.2.1.length=p.1*esz∧p.2.1.all AV.one=true)∧(match s with
     | .v (.slice none 0 0)=>(p.1*ie.bytes≤2^46∧p.1≤2^46)∧K (.sl esz r 0 p.1) ((r,.cells false e p.2.1)::H)
     | .sl sz r1 o n=>match Ax H r1 with
      |some (.cells q E cs)=>(E=e∧sz=esz∧o+n*esz=cs.length∧(n+p.1)*ie.bytes≤2^46∧n+p.1≤2^46)∧K (.sl esz r 0 (n+p.1)) ((r,.cells false e (cs.drop o++p.2.1))::cut H r1)
      |_=>False
     |_=>False)
   |none=>False
  |_=>False
 |_,_=>False
section
variable {P:Program} {G:Gl} {w0:Base} {w:World} {C:Ctx} {H:Hp}
theorem B1h (newLen:Nat):∀(rounds c:Nat),c<newLen→Builtin.growBy newLen rounds c≤newLen+(newLen+768)/4:=by
 intro rounds
 induction rounds with
 |zero=>intro c h;simp[Builtin.growBy];omega
 |succ n ih=>
  intro c h
  simp only[Builtin.growBy]
  rw[if_neg (by omega)]
  by_cases h2:c+(c+768)/4<newLen
  ·exact ih _ h2
  ·cases n with
   |zero=>simp[Builtin.growBy];omega
   |succ n=>simp only[Builtin.growBy];rw[if_pos (by omega)];omega
theorem A8g (need old:Nat) (h:old<need):Builtin.nextslicecap need old≤2*need:=by
 unfold Builtin.nextslicecap
 split
 ·omega
 ·split
  ·omega
  ·have:=B1h need 4 old h
   omega
theorem YZ {t1 t2 e:TypeId} {inf:TypeInfo} {z:Value} {esz:Nat} {u2:TypeDesc} (hu:P.underlying t1=some (.slice e)) (hinf:P.info? e=some inf) (hsz:inf.size=esz) (hz:inf.zero=some z) (hzs:z.cells.size=esz)
 (hu2:P.underlying t2=some u2) (hnz:(∃e2,u2= .slice e2)∨u2= .string) {ts:Array TypeId} (h1:ts[0]?=some t1) (h2:ts[1]?=some t2) {ty:TypeId} {base:Option Addr} {n cap m:Nat} {y:Value} (hlen:(Builtin.lenOf y).run P w= .ok m w)
 (hcap:cap<n+m) (hb1:(n+m)*inf.bytes≤2^46) (hb2:n+m≤2^46) {old new:List Value}
 (hold:(Builtin.firstCells esz n (.slice base n cap)).run P {w with drawn:=w.drawn+1}= .ok old.toArray {w with drawn:=w.drawn+1})
 (hnew:(Builtin.firstCells esz m y).run P {w with drawn:=w.drawn+1}= .ok new.toArray {w with drawn:=w.drawn+1}) (hol:old.length=n*esz) (hnl:new.length=m*esz):
 ∃(c:Nat) (arr:Array Value) (w':World),n+m≤c∧(Builtin.append_ ts ty #[.slice base n cap,y]).run P w= .ok (.slice (some ⟨w.heap.size,0,none⟩) (n+m) c) w'∧Below w.heap.size w w'∧w'.heap[w.heap.size]?=some (.cells arr e (0,0))∧arr.toList.take (old++new).length=old++new∧arr.size=c*esz:=by
 have hnext:=A8g (n+m) cap hcap
 have hbig:¬(Builtin.nextslicecap (n+m) cap*inf.bytes>2^48):=by
  have:=l22 inf.bytes hnext
  rw[Nat.mul_assoc] at this
  omega
 let q:Question:= .appendCap (n+m) cap e
 let c:=q.cut (w.tape w.drawn q)
 have hc:n+m≤c:=by show n+m≤n+m+_;omega
 refine⟨c,old.toArray++new.toArray++Builtin.zeroCells z.cells (c-(n+m)),{ {w with drawn:=w.drawn+1} with heap:=w.heap.push (.cells (old.toArray++new.toArray++Builtin.zeroCells z.cells (c-(n+m))) e)},hc,?_,?_,by simp,?_,?_⟩
 ·have hge:¬(n+m≤cap):=by omega
  have hmax:IntKind.i64.max=9223372036854775807:=by decide
  have hsize:(sizeOf e).run P w= .ok esz w:=by simp[sizeOf,typeInfo,hinf,hsz]
  have hti:∀W:World,(typeInfo e).run P W= .ok inf W:= λW=>by simp[typeInfo,hinf]
  have hzv:∀W:World,(zeroValue e).run P W= .ok z W:= λW=>by simp[zeroValue,typeInfo,hinf,hz]
  have hcond:¬(((n+m:Nat):Int)>IntKind.i64.max∧(false=true∨inf.bytes=0)):=by rw[hmax];omega
  rcases hnz with⟨e2,rfl⟩|rfl
  all_goals
   unfold Builtin.append_
   simp only[h1,h2,l10,l1w,l0q]
   rw[C4,run_underlying hu w]
   simp only[E3]
   rw[C4,hsize]
   simp only[E3]
   rw[C4,run_underlying hu2 w]
   simp only[E3]
   rw[C4,Yh]
   simp only[E3,l0z,if_false]
   rw[C4,hlen]
   simp only[E3,if_neg hge]
   rw[C4,hti]
   simp only[E3]
   rw[if_neg (by simpa using hcond),C4,hti]
   simp only[E3,if_neg hbig]
   rw[C4,run_choose,if_neg (by simp[Question.forced])]
   simp only[E3]
   rw[C4,hti]
   simp only[E3]
   rw[C4,run_askRoom]
   simp only[E3]
   rw[C4,hold]
   simp only[E3,Bool.not_false,if_true]
   rw[C4,hnew]
   simp only[E3]
   rw[C4,hzv]
   simp only[E3]
   simp only[newRow,C4,run_newObj,E3,Yh]
   rfl
 ·refine⟨rfl,rfl,rfl,by simp,λk hk=>by simp[l27,Nat.ne_of_lt hk]⟩
 ·simp only[Array.toList_append,l0k]
  rw[←l0k]
  exact List.take_left
 ·simp[Builtin.zeroCells,hzs,hol,hnl]
  rw[←l19,←l19]
  congr 1;omega
end
section
variable {P:Program} {G:Gl} {w0:Base} {w:World} {C:Ctx} {H:Hp}
theorem Q7 {t1 t2 e:TypeId} {esz:Nat} {u2:TypeDesc} (hu:P.underlying t1=some (.slice e)) (hsize:(sizeOf e).run P w= .ok esz w)
 (hu2:P.underlying t2=some u2) (hnz:(∃e2,u2= .slice e2)∨u2= .string) {ts:Array TypeId} (h1:ts[0]?=some t1) (h2:ts[1]?=some t2) {ty:TypeId} {base:Option Addr} {n cap m:Nat} {y:Value} (hlen:(Builtin.lenOf y).run P w= .ok m w)
 (hcap:n+m≤cap) {new:List Value} (hnew:(Builtin.firstCells esz m y).run P w= .ok new.toArray w) {w':World}
 (hst:(match base with|some a=>storeCells (a.add (n*esz)) new|none=>pure ():Sem Unit).run P w= .ok () w'):
 (Builtin.append_ ts ty #[.slice base n cap,y]).run P w= .ok (.slice base (n+m) cap) w':=by
 rcases hnz with⟨e2,rfl⟩|rfl
 all_goals
  unfold Builtin.append_
  simp only[h1,h2,l10,l1w,l0q]
  rw[C4,run_underlying hu w]
  simp only[E3]
  rw[C4,hsize]
  simp only[E3]
  rw[C4,run_underlying hu2 w]
  simp only[E3]
  rw[C4,Yh]
  simp only[E3,l0z,if_false]
  rw[C4,hlen]
  simp only[E3,if_pos hcap,Bool.not_false,if_true]
  rw[C4,hnew]
  simp only[E3]
  cases base with
  |none=>
   simp only[Yh] at hst
   injection hst with _ hst
   subst hst
   rfl
  |some a=>
   simp only at hst
   simp only[C4]
   rw[hst]
   rfl
theorem A6o {aZ:List AV} {ys:List Value} (h:Ca C w aZ ys) (h1:aZ.all AV.one=true):∀v∈ys,v.oneCell'=true:=by
 intro v hv
 obtain⟨i,hi⟩:=List.getElem?_of_mem hv
 have hlt:i<aZ.length:=by rw[←h.1];exact(l0j.1 hi).1
 obtain⟨y,hy,hr⟩:=h.2 i _ (JV hlt)
 rw[hi] at hy
 injection hy with hy
 subst hy
 exact hr.one (Hl.1 h1 _ (QS hlt))
theorem A2m {T:Ty} (hT:Xv P T) {t1 t2 ty:TypeId} {s x:AV} {y z:Value} {ts:Array TypeId} (h1:ts[0]?=some t1) (h2:ts[1]?=some t2) {K:AV→Hp→Prop} (hr:Rel G w0 C H w) (hs:VRel C w s y) (hx:VRel C w x z) (h:Wb T t1 t2 s x H (A6 H) K):
 ∃v H' u C' w',K v H'∧(Builtin.append_ ts ty #[y,z]).run P w= .ok u w'∧Jk G w0 C w v H' u C' w':=by
 unfold Wb at h
 split at h
 ·rename_i i1 i2 hi1 hi2
  split at h
  ·rename_i e esz hd
   split at h
   ·rename_i ie hie
    obtain⟨⟨hne,hzl,hk2,hstr0⟩,h⟩:=h
    cases hsrc:A9e H x with
    |none=>rw[hsrc] at h;exact h.elim
    |some p=>
     obtain⟨m,ys,q2⟩:=p
     rw[hsrc] at h
     simp only[JN] at h
     obtain⟨⟨hyl,hone⟩,h⟩:=h
     obtain⟨hu,hc⟩:=(hT t1 i1 hi1).elem_slice hd
     obtain⟨u2,hu2,eu2⟩:=(hT t2 i2 hi2).under
     have hnz:(∃e2,u2= .slice e2)∨u2= .string:=by
      cases u2<;>simp[td] at eu2<;>rw[←eu2] at hk2<;>simp at hk2⊢
     have hstr:∀q,x= .v (.string q)→esz=1:=by
      intro q hq
      subst hq
      exact hstr0
     obtain⟨hlen,vs,hvs,hfirst⟩:=VP (P:=P) (esz:=esz) hr hx hsrc hyl hstr
     have oke:=hT e ie hie
     obtain⟨inf,zv,hinf,hsz0,hby,hz,ez⟩:=oke.info
     have hcz:P.cellsOf e=inf.size:=by simp[Program.cellsOf,hinf]
     have hsz:inf.size=esz:=by rw[←hcz,hc]
     have hsize:(sizeOf e).run P w= .ok esz w:=by simp[sizeOf,typeInfo,hinf,hsz]
     have hzs:zv.cells.size=esz:=by
      have:=(Mu (C:=C) (w:=w) (t:=e) (i:=ie) ez).1
      simp at this
      omega
     have hvl:vs.length=m*esz:=by rw[hvs.1,hyl]
     have hnew0:=hfirst w (λ_ _=>rfl)
     have hnew1:=hfirst {w with drawn:=w.drawn+1} (λ_ _=>rfl)
     have grow:∀(base:Option Addr) (n cap:Nat) (old:List Value) (q1:Bool) (cs:List AV) (Hc:Hp),A6 Hc=A6 H→Rel G w0 C Hc w→cap<n+m→(n+m)*ie.bytes≤2^46→n+m≤2^46→Ca (C.sel q1) w cs old→cs.length=n*esz→
      (Builtin.firstCells esz n (.slice base n cap)).run P {w with drawn:=w.drawn+1}= .ok old.toArray {w with drawn:=w.drawn+1}→
      ∃u C' w',(Builtin.append_ ts ty #[.slice base n cap,z]).run P w= .ok u w'∧Jk G w0 C w (.sl esz (A6 H) 0 (n+m)) ((A6 H,.cells false e (cs++ys))::Hc) u C' w':=by
      intro base n cap old q1 cs Hc hlc hrc hcap hb1 hb2 hlr hcl hold
      have hol:old.length=n*esz:=by rw[hlr.1,hcl]
      obtain⟨c,arr,w',hcge,hrun,hbel,hblk,htake,hasz⟩:=YZ (P:=P) (w:=w) (ty:=ty) hu hinf hsz hz hzs hu2 hnz h1 h2 hlen hcap (by rw[hby];exact hb1) hb2 hold hnew1 hol hvl
      refine⟨_,_,w',hrun,hlc▸UN hrc hbel e hblk (λi _=>by omega) esz (n+m) c hcge (by rw[hasz];exact O8 _) ?_ ?_⟩
      ·rw[hasz,FA,hcl,hyl,←l19];exact l22 _ hcge
      ·have:(cs++ys).length=(old++vs).length:=by simp[hlr.1,hvs.1]
       rw[this,htake]
       exact(A2V hlr).append (A1o hvs)
     split at h
     ·obtain⟨⟨hb1,hb2⟩,h⟩:=h
      obtain rfl:=AL.1 hs
      by_cases hm:m=0
      ·subst hm
       have hy0:ys=[]:=l1s (by simpa using hyl)
       subst hy0
       have hv0:vs=[]:=l1s (by simpa using hvl)
       subst hv0
       refine⟨_,_,_,C.put (A6 H) none,w,h,Q7 (P:=P) (ty:=ty) (base:=none) (n:=0) (cap:=0) hu hsize hu2 hnz h1 h2 hlen (O8 _) hnew0 (by rfl),.slz (by rw[C.put_n];simp),hr.virtual false e,Ctx.put_ext (hr.nx _ (O8 _)) (.refl _ _ _)⟩
      ·obtain⟨u,C',w',hrun,hst⟩:=grow none 0 0 [] false [] H rfl hr (by omega) (by simpa using hb1) (by simpa using hb2) .nil (by simp) rfl
       exact⟨_,_,u,C',w',h,hrun,by simpa using hst⟩
     ·rename_i sz r1 o n
      split at h
      ·rename_i q1 E cs hlk
       obtain⟨⟨rfl,rfl,htip,hb1,hb2⟩,h⟩:=h
       have hdl:(cs.drop o).length=n*sz:=by simp;omega
       cases hs with
       |slz hrn=>
        rename_i a
        have h0:cs.drop o=[]:=l1s (by rw[hdl];simp)
        by_cases hm:m=0
        ·subst hm
         have hy0:ys=[]:=l1s (by simpa using hyl)
         subst hy0
         have hv0:vs=[]:=l1s (by simpa using hvl)
         subst hv0
         refine⟨_,_,_,C.put (A6 H) none,w,h,Q7 (P:=P) (ty:=ty) (base:=a) (n:=0) (cap:=0) hu hsize hu2 hnz h1 h2 hlen (O8 _) hnew0 (w':=w) (by cases a<;>rfl),.slz (by rw[C.put_n];simp),?_,Ctx.put_ext (hr.nx _ (O8 _)) (.refl _ _ _)⟩
         have:=(hr.cut_row r1).virtual false E
         simpa [h0,cut,Ck] using this
        ·obtain⟨u,C',w',hrun,hst⟩:=grow a 0 0 [] q1 [] (cut H r1) (Ck _ _ _) (hr.cut_row r1) (by omega) (by simpa using hb1) (by simpa using hb2) .nil (by simp) (by
          cases a with
          |none=>rfl
          |some ad=>simp[Builtin.firstCells,loadCells,loadCellsFrom])
         exact⟨_,_,u,C',w',h,hrun,by simpa [h0] using hst⟩
       |sl hp hcap hbk hfit=>
        rename_i b base cap arr' T' fz'
        rcases hr.rows r1 _ hlk with⟨h5,h6⟩|⟨b',base',arr,fz,hl⟩
        ·rw[h6] at hp;cases hp
        ·have e':=hl.at_.symm.trans hp
         injection e' with e';injection e' with e';injection e' with e1 e2;subst e1 e2
         have e3:=hl.block.symm.trans hbk
         injection e3 with e3;injection e3 with e4 e5 e6
         subst e4 e5 e6
         have hfits:=hl.fits
         by_cases hroom:n+m≤cap
         ·have hsum:cs.length+ys.length≤o+cap*sz:=by
           rw[←htip,hyl,Xt,←l19]
           exact Nat.add_le_add_left (l22 _ hroom) _
          have hys':vs.length=ys.length:=hvs.1
          obtain⟨w',hrun,hsb⟩:=KE (P:=P) vs w arr (base'+o+n*sz) 0 hl.block hl.free (by omega) (A6o hvs hone)
          have hpos:base'+o+n*sz=base'+cs.length:=by omega
          have hx2:=hr.extend hlk hl (o:=o) (by omega) hvs (by omega) (by rw[←hpos];simpa using hsb)
          refine⟨_,_,_,_,w',h,Q7 (P:=P) (ty:=ty) (base:=some ⟨b',base'+o,none⟩) hu hsize hu2 hnz h1 h2 hlen hroom hnew0 (w':=w') (by simp only[Ij];exact hrun),?_,hx2.1,hx2.2⟩
          have:VRel (C.put (A6 H) (some (b',base'+o))) w' (.sl sz (A6 H) 0 (n+m)) (.slice (some ⟨b',base'+o+0,none⟩) (n+m) cap):=by
           refine .sl (C.put_n _ _) hroom hsb.here ?_
           simp only[List.size_toArray]
           rw[E2 (by simp;omega)]
           simpa using hfit
          simpa using this
         ·obtain⟨old,ho1,ho2⟩:=(hl.atq.drop o)
          have hol:old.length=n*sz:=by rw[ho1.1,hdl]
          obtain⟨u,C',w',hrun,hst⟩:=grow (some ⟨b',base'+o,none⟩) n cap old q1 (cs.drop o) (cut H r1) (Ck _ _ _) (hr.cut_row r1) (by omega) hb1 hb2 ho1 hdl (by
           simp only[Builtin.firstCells]
           have:=run_loadCells_list (P:=P) {w with drawn:=w.drawn+1} ⟨b',base'+o,none⟩ old (λj v hv=>by rw[Ij];exact ho2 j v hv)
           rwa[hol] at this)
          exact⟨_,_,u,C',w',h,hrun,hst⟩
      ·exact h.elim
     ·exact h.elim
   ·exact h.elim
  ·exact h.elim
 ·exact h.elim
end
structure Env where
 P:Program
 G:Gl
 T:Ty
structure Env.Ok (E:Env):Prop where
 ty:Xv E.P E.T
 pos:∀t i e esz,E.T t=some i→(i.d= .slice e esz∨∃n,i.d= .array n e esz)→esz≠0
 mix:E.P.follows .mixedOrders=true
def xmm (isMin:Bool) (a b:AV) (K:AV→Prop):Prop:=
 match a,b with
 | .v (.int k x),.v (.int k' y)=>k=k'∧K (.v (.int k (if isMin then(if y<x then y else x) else(if y>x then y else x))))
 | .v (.string s),.v (.string u)=>K (.v (.string (if(if isMin then(Op.bytesLess s.toList u.toList||s.toList==u.toList) else !Op.bytesLess s.toList u.toList) then s else u)))
 |_,_=>False
def xop (E:Env) (o:Op) (t:Tm) (H:Hp) (K:AV→Hp→Prop):Prop:=
 match o with
 | .move x=>K (JX E.G t x) H
 | .assign x=>K (JX E.G t x) H
 | .pick c a b=>match JX E.G t c with
  | .v (.bool q)=>K (if q then JX E.G t a else JX E.G t b) H
  |_=>False
 | .load ty x=>A5v E.T ty (JX E.G t x) H (λv=>K v H)
 | .store ty x y=>A0g E.T ty (JX E.G t x) (JX E.G t y) H (λH'=>K (.v undef) H')
 | .nilCheck x=>B2h (JX E.G t x) (λv=>K v H)
 | .binOp op ty x y _=>A0o E.T op ty (JX E.G t x) (JX E.G t y) (λv=>K v H)
 | .unOp op _ x=>xun op (JX E.G t x) (λv=>K v H)
 | .convert s d x=>A38 E.T s d (JX E.G t x) (λv=>K v H)
 | .makeFunc fn first cap=>K (.fn fn (first.toList.map (JX E.G t)) (cap.toList.map (JX E.G t))) H
 | .fieldAddr ty x f=>X1 E.T ty (JX E.G t x) f (λv=>K v H)
 | .field ty x f=>A0l E.T ty (JX E.G t x) f (λv=>K v H)
 | .indexAddr ty x i=>A0k E.T ty (JX E.G t x) (JX E.G t i) (λv=>K v H)
 | .index ty x i=>A0j E.T ty (JX E.G t x) (JX E.G t i) (λv=>K v H)
 | .slice ty x lo hi mx=>A0h E.T ty (JX E.G t x) (lo.map (JX E.G t)) (hi.map (JX E.G t)) (mx.map (JX E.G t)) (λv=>K v H)
 | .extract x k=>match JX E.G t x with
  | .tup vs=>JN (vs[k]?) (λv=>K v H)
  |_=>False
 | .build ty parts=>A0m E.T ty (parts.toList.map λp=>(p.1,JX E.G t p.2)) (λv=>K v H)
 | .call c=>match c.callee with
  | .builtin .len=>match c.args.toList,c.argTypes.toList with
   |[x],[ty]=>B2i E.T ty (JX E.G t x) (λv=>K v H)
   |_,_=>False
  | .builtin .min=>match c.args.toList with
   |[x,y]=>xmm true (JX E.G t x) (JX E.G t y) (λv=>K v H)
   |_=>False
  | .builtin .max=>match c.args.toList with
   |[x,y]=>xmm false (JX E.G t x) (JX E.G t y) (λv=>K v H)
   |_=>False
  |_=>False
 |_=>False
def B5s (E:Env) (o:Op) (t:Tm) (H:Hp) (r:Nat) (K:AV→Hp→Prop):Prop:=
 match o with
 | .alloc ty=>A0p E.T ty H r K
 | .box ty x=>B8W ty (JX E.G t x) H r K
 | .buildSlice ty n parts=>Wa E.T ty n (parts.toList.map λp=>(p.1,JX E.G t p.2)) H r K
 | .call c=>match c.callee with
  | .builtin .append=>match c.args.toList,c.argTypes.toList with
   |[s,x],[t1,t2]=>Wb E.T t1 t2 (JX E.G t s) (JX E.G t x) H r K
   |_,_=>False
  |_=>False
 |_=>False
section
variable {E:Env} {t:Tm} {H:Hp}
theorem TW {G:Gl} {w0:Base} {w:World} {s0:Nat} {C:Ctx} {N:Nat} {a:Act} (s:St G w0 s0 C N t H a w) (x:Option Operand):A5e C w (x.map (JX G t)) (x.map a.eval):=by
 cases x with
 |none=>trivial
 |some x=>exact AT s x
theorem XT {G:Gl} {w0:Base} {w:World} {s0:Nat} {C:Ctx} {N:Nat} {a:Act} (s:St G w0 s0 C N t H a w) (parts:Array (Nat×Operand)):
 (parts.toList.map λp=>(p.1,JX G t p.2)).length=(parts.toList.map λp=>(p.1,a.eval p.2)).length∧
 ∀(j:Nat) (p:Nat×AV),(parts.toList.map λp=>(p.1,JX G t p.2))[j]?=some p→∃z,(parts.toList.map λp=>(p.1,a.eval p.2))[j]?=some (p.1,z)∧VRel C w p.2 z:=by
 refine⟨by simp,λj p hp=> ?_⟩
 rw[l0a] at hp⊢
 cases h:parts.toList[j]? with
 |none=>rw[h] at hp;simp at hp
 |some q=>rw[h] at hp;simp at hp;subst hp;exact⟨_,rfl,AT s q.2⟩
theorem B6Z {C:Ctx} {w:World} {r p k:Nat} {y:Value} (h:VRel C w (.ptr r p k) y):∃b o',y= .pointer (some ⟨b,o',none⟩):=by
 cases h with
 |ptr hp=>exact⟨_,_,rfl⟩
theorem Hw {a:Act} {o:Oper} {c:Call} (ho:o.op= .call c) (b:Builtin) (hb:c.callee= .builtin b):execOp a.eval o=builtin b c.argTypes o.type (c.args.map λ| .const _=>true|_=>false) (c.args.map a.eval):=by
 simp only[execOp,ho,resolve,hb]
 rfl
theorem A37 (hE:E.Ok) {o:Oper} {K:AV→Hp→Prop} (h:xop E o.op t H K):B5e E.P E.G o t H K:=by
 intro w0 s0 C N a w s
 have pure1:∀{sm:Sem Value} {v:AV} {u:Value},execOp a.eval o=(do pure (.value (←sm)))→sm.run E.P w= .ok u w→VRel C w v u→K v H→
  ∃v H' y C' w',K v H'∧((execOp a.eval o).run E.P w= .ok (.value y) w'∨((execOp a.eval o).run E.P w= .ok .skip w'∧y=undef))∧VRel C' w' v y∧Rel E.G w0 C' H' w'∧Ext w0.own C w C' w':=by
  intro sm v u he hr hv hk
  exact⟨v,H,u,C,w,hk,.inl (by rw[he,C4,hr];rfl),hv,s.rel,.refl _ _ _⟩
 unfold xop at h
 split at h
 ·rename_i x ho
  exact⟨_,H,_,C,w,h,.inl (by simp[execOp,ho]),AT s x,s.rel,.refl _ _ _⟩
 ·rename_i x ho
  exact⟨_,H,_,C,w,h,.inl (by simp[execOp,ho]),AT s x,s.rel,.refl _ _ _⟩
 ·rename_i c x y ho
  split at h
  ·rename_i q hq
   have hc:=AT s c
   rw[hq] at hc
   have hc':=AL.1 hc
   refine⟨_,H,if q then a.eval x else a.eval y,C,w,h,.inl (by simp[execOp,ho,hc',asBool]),?_,s.rel,.refl _ _ _⟩
   cases q
   ·exact AT s y
   ·exact AT s x
  ·exact h.elim
 ·rename_i ty x ho
  obtain⟨v,z,h1,h2,h3⟩:=Y9 hE.ty s.rel (AT s x) h
  exact pure1 (by simp only[execOp,ho]) h1 h2 h3
 ·rename_i ty x y ho
  obtain⟨H',w',h1,h2,h3,h4⟩:=A40 hE.ty s.rel (AT s x) (AT s y) h
  exact⟨_,H',undef,C,w',h4,.inr ⟨by simp only[execOp,ho];rw[C4,h1];rfl,rfl⟩,.v _,h2,h3⟩
 ·rename_i x ho
  have hx:=AT s x
  unfold B2h at h
  split at h
  ·rename_i hq
   rw[hq] at hx
   refine⟨_,H,a.eval x,C,w,h,.inl ?_,by rw[hq];exact hx,s.rel,.refl _ _ _⟩
   obtain⟨b,o',e⟩:=B6Z hx
   simp only[execOp,ho,e];rfl
  ·rename_i hq
   rw[hq] at hx
   refine⟨_,H,a.eval x,C,w,h,.inl ?_,by rw[hq];exact hx,s.rel,.refl _ _ _⟩
   obtain⟨b,o',e⟩:=A1v hx
   simp only[execOp,ho,e];rfl
  ·rename_i hq
   rw[hq] at hx
   refine⟨_,H,a.eval x,C,w,h,.inl ?_,by rw[hq];exact hx,s.rel,.refl _ _ _⟩
   obtain⟨ys,zs,e,_⟩:=GZ.1 hx
   simp only[execOp,ho,e];rfl
  ·rename_i hq
   rw[hq] at hx
   refine⟨_,H,a.eval x,C,w,h,.inl ?_,by rw[hq];exact hx,s.rel,.refl _ _ _⟩
   obtain⟨ys,zs,e,_⟩:=GZ.1 hx
   simp only[execOp,ho,e];rfl
  ·exact h.elim
 ·rename_i op ty x y yt ho
  obtain⟨v,u,h1,h2,h3⟩:=A0n hE.ty x y (AT s x) (AT s y) h
  exact pure1 (by simp only[execOp,ho]) h1 h2 h3
 ·rename_i op ty x ho
  obtain⟨v,u,h1,h2,h3⟩:=B0v (P:=E.P) (AT s x) h
  exact pure1 (by simp only[execOp,ho]) h1 h2 h3
 ·rename_i sr d x ho
  obtain⟨v,u,h1,h2,h3⟩:=A5w hE.ty (AT s x) h
  exact pure1 (by simp only[execOp,ho]) h1 h2 h3
 ·rename_i fn first cap ho
  refine⟨_,H,.func fn (first.map a.eval) (cap.map a.eval),C,w,h,.inl (by simp[execOp,ho,Instr.makeFunc]),?_,s.rel,.refl _ _ _⟩
  have key:∀l:List Operand,Ca C w (l.map (JX E.G t)) (l.map a.eval):=by
   intro l
   induction l with
   |nil=>exact .nil
   |cons x l ih=>exact .cons (AT s x) ih
  refine GZ.2 ⟨first.toList.map a.eval,cap.toList.map a.eval,?_,key _,key _⟩
  congr 1<;>(apply l0c;simp)
 ·rename_i ty x f ho
  obtain⟨v,u,h1,h2,h3⟩:=A45 hE.ty (AT s x) h
  exact pure1 (by simp only[execOp,ho]) h1 h2 h3
 ·rename_i ty x f ho
  obtain⟨v,u,h1,h2,h3⟩:=A44 hE.ty (AT s x) h
  exact pure1 (by simp only[execOp,ho]) h1 h2 h3
 ·rename_i ty x i ho
  obtain⟨v,u,h1,h2,h3⟩:=A43 hE.ty hE.pos (AT s x) (AT s i) h
  exact pure1 (by simp only[execOp,ho]) h1 h2 h3
 ·rename_i ty x i ho
  obtain⟨v,u,h1,h2,h3⟩:=A42 hE.ty hE.pos (AT s x) (AT s i) h
  exact pure1 (by simp only[execOp,ho]) h1 h2 h3
 ·rename_i ty x lo hi mx ho
  obtain⟨v,u,h1,h2,h3⟩:=A41 hE.ty hE.pos (AT s x) (TW s lo) (TW s hi) (TW s mx) h
  exact pure1 (by simp only[execOp,ho]) h1 h2 h3
 ·rename_i x k ho
  have hx:=AT s x
  split at h
  ·rename_i vs hq
   rw[hq] at hx
   obtain⟨ys,e,hl⟩:=Dw.1 hx
   unfold JN at h
   split at h
   ·rename_i v hv
    obtain⟨y,hy,hr⟩:=hl.2 k v hv
    refine pure1 (sm:=Instr.extract (a.eval x) k) (by simp only[execOp,ho]) ?_ hr h
    rw[e]
    simp[Instr.extract,hy]
   ·exact h.elim
  ·exact h.elim
 ·rename_i ty parts ho
  obtain⟨hl,hq⟩:=XT s parts
  obtain⟨v,u,h1,h2,h3⟩:=A46 hE.ty hl hq h
  refine pure1 (sm:=Instr.build ty (parts.map λ(i,x)=>(i,a.eval x))) (by simp only[execOp,ho]) ?_ h2 h3
  have:(parts.map λ(i,x)=>(i,a.eval x))=(parts.toList.map λp=>(p.1,a.eval p.2)).toArray:=by apply l0c;simp
  rw[this];exact h1
 ·rename_i c ho
  have call:= λb hb=>Hw (a:=a) ho b hb
  split at h
  ·rename_i hb
   split at h
   ·rename_i x ty hx hty
    obtain⟨v,u,h1,h2,h3⟩:=A7B (P:=E.P) (rt:=o.type) (ts:=c.argTypes) hE.ty (by rw[←l21,hty];rfl) (AT s x) h
    have hargs:c.args.map a.eval= #[a.eval x]:=by apply l0c;simp[hx]
    refine pure1 (sm:=Builtin.len_ c.argTypes o.type #[a.eval x]) (by rw[call _ hb,hargs];rfl) h1 h2 h3
   ·exact h.elim
  ·rename_i hb
   split at h
   ·rename_i x y hx
    have hargs:c.args.map a.eval= #[a.eval x,a.eval y]:=by apply l0c;simp[hx]
    have h1:=AT s x
    have h2:=AT s y
    unfold xmm at h
    split at h
    ·rename_i k m k' n e1 e2
     rw[e1] at h1
     rw[e2] at h2
     obtain⟨rfl,h⟩:=h
     refine pure1 (sm:=Builtin.min_ c.argTypes o.type #[a.eval x,a.eval y]) (by rw[call _ hb,hargs];rfl) ?_ (.v _) h
     rw[AL.1 h1,AL.1 h2];rfl
    ·rename_i m n e1 e2
     rw[e1] at h1
     rw[e2] at h2
     refine pure1 (sm:=Builtin.min_ c.argTypes o.type #[a.eval x,a.eval y]) (by rw[call _ hb,hargs];rfl) ?_ (.v _) h
     rw[AL.1 h1,AL.1 h2];rfl
    ·exact h.elim
   ·exact h.elim
  ·rename_i hb
   split at h
   ·rename_i x y hx
    have hargs:c.args.map a.eval= #[a.eval x,a.eval y]:=by apply l0c;simp[hx]
    have h1:=AT s x
    have h2:=AT s y
    unfold xmm at h
    split at h
    ·rename_i k m k' n e1 e2
     rw[e1] at h1
     rw[e2] at h2
     obtain⟨rfl,h⟩:=h
     refine pure1 (sm:=Builtin.max_ c.argTypes o.type #[a.eval x,a.eval y]) (by rw[call _ hb,hargs];rfl) ?_ (.v _) h
     rw[AL.1 h1,AL.1 h2];rfl
    ·rename_i m n e1 e2
     rw[e1] at h1
     rw[e2] at h2
     refine pure1 (sm:=Builtin.max_ c.argTypes o.type #[a.eval x,a.eval y]) (by rw[call _ hb,hargs];rfl) ?_ (.v _) h
     rw[AL.1 h1,AL.1 h2];rfl
    ·exact h.elim
   ·exact h.elim
  ·exact h.elim
 ·exact h.elim
theorem A7A (hE:E.Ok) {o:Oper} {K:AV→Hp→Prop} (h:B5s E o.op t H (A6 H) K):B5e E.P E.G o t H K:=by
 intro w0 s0 C N a w s
 have fin:∀{sm:Sem Value} {v:AV} {H':Hp} {u:Value} {C':Ctx} {w':World},execOp a.eval o=(do pure (.value (←sm)))→sm.run E.P w= .ok u w'→Jk E.G w0 C w v H' u C' w'→K v H'→
  ∃v H' y C' w',K v H'∧((execOp a.eval o).run E.P w= .ok (.value y) w'∨((execOp a.eval o).run E.P w= .ok .skip w'∧y=undef))∧VRel C' w' v y∧Rel E.G w0 C' H' w'∧Ext w0.own C w C' w':=by
  intro sm v H' u C' w' he hr hs hk
  exact⟨v,H',u,C',w',hk,.inl (by rw[he,C4,hr];rfl),hs.1,hs.2.1,hs.2.2⟩
 unfold B5s at h
 split at h
 ·rename_i ty ho
  obtain⟨v,H',y,C',w',hk,hr,hs⟩:=A47 hE.ty s.rel h
  exact fin (by simp only[execOp,ho]) hr hs hk
 ·rename_i ty x ho
  obtain⟨v,H',y,C',w',hk,hr,hs⟩:=A7C (P:=E.P) s.rel (AT s x) h
  exact fin (by simp only[execOp,ho]) hr hs hk
 ·rename_i ty n parts ho
  obtain⟨hl,hq⟩:=XT s parts
  obtain⟨v,H',y,C',w',hk,hr,hs⟩:=A2l hE.ty hl hq s.rel h
  refine fin (sm:=Instr.buildSlice ty n (parts.map λ(i,x)=>(i,a.eval x))) (by simp only[execOp,ho]) ?_ hs hk
  have:(parts.map λ(i,x)=>(i,a.eval x))=(parts.toList.map λp=>(p.1,a.eval p.2)).toArray:=by apply l0c;simp
  rw[this];exact hr
 ·rename_i c ho
  split at h
  ·rename_i hb
   split at h
   ·rename_i x y t1 t2 hx hty
    have hargs:c.args.map a.eval= #[a.eval x,a.eval y]:=by apply l0c;simp[hx]
    obtain⟨v,H',z,C',w',hk,hr,hs⟩:=A2m (P:=E.P) (ty:=o.type) (ts:=c.argTypes) hE.ty (t1:=t1) (t2:=t2) (by rw[←l21,hty];rfl) (by rw[←l21,hty];rfl) s.rel (AT s x) (AT s y) h
    refine fin (sm:=Builtin.append_ c.argTypes o.type #[a.eval x,a.eval y]) ?_ hr hs hk
    rw[Hw ho _ hb,hargs]
    rfl
   ·exact h.elim
  ·exact h.elim
 ·exact h.elim
end
structure SameObj (w w':World) (b:Nat) (o':Obj):Prop where
 os:w'.os=w.os
 tape:w'.tape=w.tape
 output:w'.output=w.output
 size:w'.heap.size=w.heap.size
 here:w'.heap[b]?=some o'
 others:∀k,k≠b→w'.heap[k]?=w.heap[k]?
section
variable {P:Program} {G:Gl} {w0:Base} {C:Ctx} {H:Hp} {w w':World} {O:Nat→Prop} {r:Nat} {b o:Nat} {x y:Row} {o':Obj}
theorem Keep.same_obj {B:Base} (h:Keep B w) (hs:SameObj w w' b o') (ho:B.own b):Keep B w':=
 ⟨hs.os.trans h.os,hs.tape.trans h.tape,hs.output.trans h.output,by rw[hs.size];exact h.size,λk hk hU=>(hs.others k (λe=>by
  subst e
  rcases ho with ho|ho
  ·omega
  ·exact hU ho)).trans (h.block k hk hU)⟩
theorem SameObj.ext (hs:SameObj w w' b o') (hnc:∀arr T fz,w.heap[b]?≠some (.cells arr T fz)) (hF:∀i,¬C.F b i) (hB:¬C.B b):Ext O C w C w':=
 ⟨λ_ _=>rfl,λ_ _ h=>h,λk i h=>l0s (hs.others k (λe=>hF i (e▸h))),λ_ h=>h,λk h=>hs.others k (λe=>hB (e▸h)),
  λk a t f h=>⟨a,f,(hs.others k (λe=>hnc a t f (e▸h))).trans h,rfl⟩,λ_ _ h=> .inl h,λ_ h=> .inl h,Nat.le_of_eq hs.size.symm⟩
theorem Rel.set_obj (h:Rel G w0 C H w) (hl:Ax H r=some x) (hp:C.π r=some (some (b,o))) (hs:SameObj w w' b o') (hnc:∀arr T fz,w.heap[b]?≠some (.cells arr T fz))
 (hy:Ext (λ_=>False) C w C w'→PZ C w' r y):Rel G w0 C (upd H r y) w'∧Ext O C w C w':=by
 have hown:=h.own r x b o hl hp
 have e:Ext O C w C w':=hs.ext hnc hown.2.1 hown.2.2
 have key:∀s z,Ax (upd H r y) s=some z→(s=r∧z=y)∨(s≠r∧Ax H s=some z):= λs z hz=>by
  by_cases hsr:s=r
  ·subst hsr
   rw[Ec hl] at hz
   exact .inl ⟨rfl,(WE hz).1.symm⟩
  ·rw[Au hsr] at hz;exact .inr ⟨hsr,hz⟩
 have old:∀s z,Ax (upd H r y) s=some z→∃z',Ax H s=some z':= λs z hz=>by
  rcases key s z hz with⟨rfl,_⟩|⟨_,h⟩
  ·exact⟨x,hl⟩
  ·exact⟨z,h⟩
 refine⟨⟨h.glob.mono e,h.below.same_obj hs hown.1,?_,?_,?_,?_,λk i hF=>hs.size▸h.fin k i hF,λk hB=>hs.size▸h.finB k hB,λk hk=>h.nx k (by rw[Ck] at hk;exact hk)⟩,e⟩
 ·intro s z hz
  obtain⟨z',hz'⟩:=old s z hz
  exact h.lt s z' hz'
 ·intro s z hz
  rcases key s z hz with⟨rfl,rfl⟩|⟨hne,hz⟩
  ·exact hy (hs.ext hnc hown.2.1 hown.2.2)
  ·refine(h.rows s z hz).mono e (λk base hk=>hs.others k (λek=> ?_))
   subst ek
   exact hne (h.sep s r z x _ _ _ hz hl hk hp)
 ·intro s z k o1 hz hk
  obtain⟨z',hz'⟩:=old s z hz
  exact h.own s z' k o1 hz' hk
 ·intro s s' z z' k o1 o2 hz hz' hk hk'
  obtain⟨u,hu⟩:=old s z hz
  obtain⟨u',hu'⟩:=old s' z' hz'
  exact h.sep s s' u u' k o1 o2 hu hu' hk hk'
theorem SameObj.putObj {l:Nat} (hl:l<w.heap.size) (ob:Obj):SameObj w (w.putObj l ob) l ob:=
 ⟨rfl,rfl,rfl,by simp,World.putObj_heap_same hl,λk hk=>World.putObj_heap_other (λe=>hk e)⟩
end
def A3a:Tm→List Tmp→List AV→Tm
 |t,p::ps,a::aZ=>A3a ((p,a)::t) ps aZ
 |t,_,_=>t
theorem B0L {C:Ctx} {w:World}:∀(ps:List Tmp) (aZ:List AV) (ys:List Value) (t:Tm) (tmps:Array Value),(∀p∈ps,p<tmps.size)→Ca C w aZ ys→Tf C w t tmps→
 Tf C w (A3a t ps aZ) ((ps.zip ys).foldl (λt (p:Tmp×Value)=>t.setIfInBounds p.1 p.2) tmps)∧((ps.zip ys).foldl (λt (p:Tmp×Value)=>t.setIfInBounds p.1 p.2) tmps).size=tmps.size:=by
 intro ps
 induction ps with
 |nil=>intro aZ ys t tmps _ _ ht;exact⟨ht,rfl⟩
 |cons p ps ih=>
  intro aZ ys t tmps hp hl ht
  cases aZ with
  |nil=>rw[hl.nil_inv];exact⟨ht,rfl⟩
  |cons a aZ=>
   obtain⟨y,ys',rfl,hv,hl'⟩:=hl.cons_inv
   simp only[List.zip_cons_cons,List.foldl_cons,A3a]
   obtain⟨h1,h2⟩:=ih aZ ys' ((p,a)::t) (tmps.setIfInBounds p y) (λq hq=>by simpa using hp q (by simp[hq])) hl' (λi=>by
    simp only[FO]
    by_cases hi:i=p
    ·subst hi
     have hlt:i<tmps.size:=hp i (by simp)
     rw[if_pos rfl]
     simp[YK,hlt]
     exact hv
    ·rw[if_neg hi]
     have:=ht i
     simp only[YK] at this⊢
     rw[Array.getElem?_setIfInBounds_ne (by omega)]
     exact this)
   exact⟨h1,by rw[h2];simp⟩
section
variable {P:Program} {G:Gl} {ro:Option Nat} {N:Nat} {t:Tm} {H:Hp}
theorem Rel.set_loop {w0:Base} {C:Ctx} {w:World} {r b:Nat} {N':Nat} {t':Tm} {ps:Array Tmp} {aZ bd:Code} {pend pend':Option (Option Code)} {O:Nat→Prop} (h:Rel G w0 C H w) (hl:Ax H r=some (.loop N' t' ps aZ bd pend)) (hp:C.π r=some (some (b,0))):
 ∃l:Loop,w.heap[b]?=some (.loop l)∧l.state=B6h pend∧l.pending=pend.join∧l.tmps.size=N'∧l.params=ps∧l.assign=aZ∧l.body=bd∧Tf C w t' l.tmps∧
  ∀l':Loop,l'.state=B6h pend'→l'.pending=pend'.join→l'.tmps=l.tmps→l'.params=l.params→l'.assign=l.assign→l'.body=l.body→
   Rel G w0 C (upd H r (.loop N' t' ps aZ bd pend')) (w.putObj b (.loop l'))∧Ext O C w C (w.putObj b (.loop l')):=by
 obtain⟨b',l,h1,h2,h3,h4,h5,h6,h7,h8,h9⟩:=h.rows r _ hl
 have e:=h1.symm.trans hp
 injection e with e;injection e with e;injection e with e1 e2;subst e1
 refine⟨l,h2,h3,h4,h5,h6,h7,h8,h9,λl' k1 k2 k3 k4 k5 k6=> ?_⟩
 have hlt:=(l1q.1 h2).1
 exact h.set_obj hl hp (SameObj.putObj hlt _) (λarr T fz hc=>by rw[h2] at hc;cases hc) (λe=>⟨b',l',hp,World.putObj_heap_same hlt,k1,k2,by rw[k3];exact h5,k4.trans h6,k5.trans h7,k6.trans h8,by rw[k3];exact h9.mono e⟩)
def Ctx.addB (C:Ctx) (b:Nat):Ctx:={C with B:= λk=>C.B k∨k=b}
theorem Rel.addB {w0:Base} {C:Ctx} {w:World} {b:Nat} (h:Rel G w0 C H w) (hlt:b<w.heap.size) (ho:w0.own b) (hn:∀r x o,Ax H r=some x→C.π r≠some (some (b,o))):Rel G w0 (C.addB b) H w∧Ext w0.own C w (C.addB b) w:=by
 have e:Ext w0.own C w (C.addB b) w:=⟨λ_ _=>rfl,λ_ _ h=>h,λ_ _ _=>rfl,λ_ h=> .inl h,λ_ _=>rfl,λ_ a _ f h=>⟨a,f,h,rfl⟩,λ_ _ h=> .inl h,λk h=>by rcases h with h|h;exact .inl h;exact .inr (h▸ho),O8 _⟩
 refine⟨⟨h.glob,h.below,h.lt,λr x hx=>(h.rows r x hx).mono e (λ_ _ _=>rfl),λr x k o hx hp=>⟨(h.own r x k o hx hp).1,(h.own r x k o hx hp).2.1,λhB=> ?_⟩,h.sep,h.fin,λk hB=> ?_,h.nx⟩,e⟩
 ·rcases hB with hB|hB
  ·exact(h.own r x k o hx hp).2.2 hB
  ·subst hB;exact hn r x o hx hp
 ·rcases hB with hB|hB
  ·exact h.finB k hB
  ·subst hB;exact hlt
def C1g (Q:Exit→Tm→Hp→Prop) (t:Tm) (H:Hp):Option Code→Prop
 |none=>Q .normal t H
 |some .ret=>Q .ret t H
 |some (.exit id)=>Q (.exit id) t H
 |some (.goto l)=>Q (.goto l) t H
 |_=>False
theorem Le (w:World) (ob:Obj):Below w.heap.size w (w.alloc ob):=(Below.refl _ w).alloc (O8 _) _
end
end Go.Abs
end
