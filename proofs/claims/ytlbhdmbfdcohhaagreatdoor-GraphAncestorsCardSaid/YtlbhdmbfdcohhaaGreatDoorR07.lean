import Derived.Laws.IdiomRangeMap
import Derived.Test.YtlbhdmbfdcohhaaGreatDoorR06
set_option linter.all false
set_option maxHeartbeats 100000000
noncomputable section
namespace Go.Abs
open Go.RowKit
def B1v (e:TypeId) (a:AV) (H:Hp) (K:KV):Al:=
 match a with
 | .v (.string s)=>HJ s.data.toList 0 λn=>VK s.data.toList λcs=>HE H λr=>K (.sl 1 r 0 n) ((r,.cells false e cs)::H)
 |_=>none
section
variable {H:Hp} {r:AV×Hp} {P:Program} {G:Gl} {w0:Base} {C:Ctx} {w:World}
theorem B6v (w:World) (e:TypeId) (s:ByteArray):∃(cap:Nat) (arr:Array Value) (w':World),s.size≤cap∧(Conv.stringToBytes e s).run P w= .ok (.slice (some ⟨w.heap.size,0,none⟩) s.size cap) w'∧Below w.heap.size w w'∧
 w'.heap[w.heap.size]?=some (.cells arr e (cap,cap+1))∧arr.size=cap∧arr.toList.take s.size=s.data.toList.map λb=>Value.int .u8 b.toNat:=by
 let q:Question:= .appendCap s.size 0 e
 let c:=q.cut (w.tape w.drawn q)
 have hc:s.size≤c:=by show s.size≤s.size+_;omega
 have hsz:(s.data.map λb=>Value.int .u8 b.toNat).size=s.size:=by rw[Array.size_map];rfl
 have hsl:(s.data.map λb=>Value.int .u8 b.toNat).toList.length=s.size:=by rw[Array.length_toList];exact hsz
 let arr:Array Value:=(s.data.map λb=>Value.int .u8 b.toNat)++Array.replicate (c-s.size) (.int .u8 0)
 have harr:arr.size=c:=by
  show((s.data.map λb=>Value.int .u8 b.toNat)++Array.replicate (c-s.size) (Value.int .u8 0)).size=c
  rw[Array.size_append,hsz,Array.size_replicate];omega
 refine⟨c,arr,{w with drawn:=w.drawn+1,heap:=w.heap.push (.cells arr e (c,c+1))},hc,?_,?_,by simp,harr,?_⟩
 ·unfold Conv.stringToBytes
  rw[C4,run_choose,if_neg (by simp[Question.forced])]
  simp only[E3]
  simp only[newRow,C4,run_newObj,E3,Yh,markStringish]
  have hsh:World.shape? {heap:=w.heap.push (Obj.cells arr e),tape:=w.tape,drawn:=w.drawn+1,os:=w.os,output:=w.output} w.heap.size=some (e,c):=by
   simp only[World.shape?,Array.getElem?_push_size]
   rw[harr]
  have hfr:World.freeze {heap:=w.heap.push (Obj.cells arr e),tape:=w.tape,drawn:=w.drawn+1,os:=w.os,output:=w.output} {block:=w.heap.size,off:=c} 1={heap:=w.heap.push (Obj.cells arr e (c,c+1)),tape:=w.tape,drawn:=w.drawn+1,os:=w.os,output:=w.output}:=by
   unfold World.freeze
   rw[if_neg (by omega)]
   congr 1
   apply Array.ext_getElem?
   intro j
   rw[l0r]
   by_cases hj:w.heap.size=j
   ·subst hj
    rw[if_pos rfl,Array.getElem?_push_size,Array.getElem?_push_size]
    rfl
   ·rw[if_neg hj,l27,l27,if_neg (λh=>hj h.symm),if_neg (λh=>hj h.symm)]
  rw[run_shape]
  have hsh':=hsh
  show(((Result.ok (World.shape? {heap:=w.heap.push (Obj.cells arr e),tape:=w.tape,drawn:=w.drawn+1,os:=w.os,output:=w.output} w.heap.size) _).andThen _).andThen _)=_
  rw[hsh]
  simp only[E3,run_freeze]
  exact congrArg (Result.ok _) hfr
 ·exact⟨rfl,rfl,rfl,by simp,λk hk=>by simp[l27,Nat.ne_of_lt hk]⟩
 ·show((s.data.map λb=>Value.int .u8 b.toNat)++Array.replicate (c-s.size) (Value.int .u8 0)).toList.take s.size=_
  rw[Array.toList_append,List.take_append_of_le_length (Nat.le_of_eq hsl.symm)]
  rw[l1z (Nat.le_of_eq hsl),Array.toList_map]
theorem A8N {e:TypeId} {a:AV} {y:Value} {K:KV} (hr:Rel G w0 C H w) (hv:VRel C w a y) (h:B1v e a H K=some r):
 ∃s,y= .string s∧∃v H' y' C' w',K v H'=some r∧(Conv.stringToBytes e s).run P w= .ok y' w'∧Jk G w0 C w v H' y' C' w':=by
 unfold B1v at h
 split at h
 ·rename_i s
  have hy:=AL.1 hv
  refine⟨s,hy,?_⟩
  rw[Cw,UP,BX,Ln] at h
  obtain⟨cap,arr,w',h1,h2,h3,h4,h5,h6⟩:=B6v (P:=P) w e s
  have hl:(s.data.toList.map λb=>AV.v (.int .u8 b.toNat)).length=s.size:=by rw[l1u];rfl
  have key:=UN hr h3 e (cs:=s.data.toList.map λb=>AV.v (.int .u8 b.toNat)) h4 (λi hi=>by omega) 1 s.size cap h1 (by omega) (by rw[hl];omega) (by
   rw[hl,h6]
   have:=SN (C:=C.sel false) (w:=w) (s.data.toList.map λb=>Value.int .u8 b.toNat)
   simpa [l1t] using this)
  exact⟨_,_,_,_,_,h,h2,key⟩
 ·cases h
end
def WI:Value→Value→Option Bool
 | .string a,.string b=>some (eqB a.data.toList b.data.toList)
 | .int k a,.int k' b=>match decide (k=k') with|true=>some (ieq a b)|false=>none
 | .bool a,.bool b=>some (a==b)
 |_,_=>none
def UC (xs:List Value):List Value→Option Bool:=
 @List.rec Value (λ_=>List Value→Option Bool) (λys=>match ys with|[]=>some true|_=>none)
  (λx _ ih ys=>match ys with
   |[]=>none
   |y::ys=>match WI x y with
    |some b=>(match ih ys with|some c=>some (b&&c)|none=>none)
    |none=>none) xs
def keq:Value→Value→Option Bool
 | .agg xs,.agg ys=>UC xs.toList ys.toList
 |a,b=>WI a b
def WH (k:Value) (es:List (Value×AV)):Nat→Option (Option (Nat×AV)):=
 @List.rec (Value×AV) (λ_=>Nat→Option (Option (Nat×AV))) (λ_=>some none)
  (λp _ ih i=>match keq k p.1 with|some true=>some (some (i,p.2))|some false=>ih (Nat.succ i)|none=>none) es
theorem VH (k:Value) (p:Value×AV) (es:List (Value×AV)) (i:Nat):WH k (p::es) i=(match keq k p.1 with|some true=>some (some (i,p.2))|some false=>WH k es (i+1)|none=>none):=rfl
def QT (k:Value) (es:List (Value×AV)) (K:Option (Nat×AV)→Al):Al:=match WH k es 0 with|some x=>K x|none=>none
def YL (cs:List AV):(List Value→Al)→Al:=
 @List.rec AV (λ_=>(List Value→Al)→Al) (λK=>K []) (λa _ ih K=>match a with| .v x=>ih λl=>K (x::l)|_=>none) cs
def Mp (a:AV) (K:Value→Al):Al:=match a with| .v (.string s)=>K (.string s)|_=>none
def A6t (q:IntKind) (a:AV) (K:Value→Al):Al:=match a with| .v (.int q' n)=>ck (decide (q'=q)) (K (.int q' n))|_=>none
def B1e (ks:List LK) (a:AV) (K:Value→Al):Al:=match a with| .agg cs=>YL cs λvs=>ck (fits ks vs) (K (.agg vs.toArray))|_=>none
def On (P:Program) (kt:TypeId) (k:Value):Prop:=
 (P.underlying kt=some .string∧∃s,k= .string s)∨(∃q n,P.underlying kt=some (.int q)∧k= .int q n)∨(∃ks xs,EqFlat P kt ks∧fits ks xs=true∧k= .agg xs.toArray)
theorem A3u {a b:Value} {q:Bool} (h:WI a b=some q):(q=true↔a=b)∧∀lk:LK,lk.fit a=true→lk.fit b=true:=by
 cases a<;>cases b<;>simp[WI] at h
 ·subst h;exact⟨by simp,λlk hl=>by cases lk<;>simp[LK.fit] at hl⊢⟩
 ·split at h
  ·rename_i hk
   injection h with h
   have hk:_=_:=of_decide_eq_true hk
   subst hk
   refine⟨by rw[←h,Of];simp,λlk hl=> ?_⟩
   cases lk<;>simp[LK.fit] at hl⊢
   exact hl
  ·cases h
 ·rw[PQ] at h
  refine⟨?_,λlk hl=>by cases lk<;>simp[LK.fit] at hl⊢⟩
  rename_i x y
  obtain⟨⟨x⟩⟩:=x
  obtain⟨⟨y⟩⟩:=y
  rw[←h];simp
theorem B1V (x:Value) (xs:List Value) (ys:List Value):UC (x::xs) ys=(match ys with|[]=>none|y::ys=>(match WI x y with|some b=>(match UC xs ys with|some c=>some (b&&c)|none=>none)|none=>none)):=rfl
theorem RS:∀{xs ys:List Value} {q:Bool},UC xs ys=some q→(q=true↔xs=ys)∧∀ks,fits ks xs=true→fits ks ys=true:=by
 intro xs
 induction xs with
 |nil=>
  intro ys q h
  cases ys with
  |nil=>injection h with h;subst h;exact⟨by simp,λ_ h=>h⟩
  |cons y ys=>cases h
 |cons x xs ih=>
  intro ys q h
  rw[B1V] at h
  cases ys with
  |nil=>cases h
  |cons y ys=>
   simp only at h
   cases h1:WI x y with
   |none=>rw[h1] at h;cases h
   |some b=>
    rw[h1] at h
    simp only at h
    cases h2:UC xs ys with
    |none=>rw[h2] at h;cases h
    |some c=>
     rw[h2] at h
     injection h with h
     obtain⟨e1,f1⟩:=A3u h1
     obtain⟨e2,f2⟩:=ih h2
     refine⟨by rw[←h,Jp,e1,e2,List.cons.injEq],λks hk=> ?_⟩
     cases ks with
     |nil=>simp[fits] at hk
     |cons k ks=>
      simp only[fits,Jp] at hk⊢
      exact⟨f1 k hk.1,f2 ks hk.2⟩
theorem A6u {a b:Value} {q:Bool} (h:keq a b=some q):q=true↔a=b:=by
 unfold keq at h
 split at h
 ·rename_i xs ys
  rw[(RS h).1]
  constructor
  ·intro e;rw[Array.toList_inj.1 e]
  ·intro e;injection e with e;rw[e]
 ·exact(A3u h).1
section
variable {P:Program}
theorem VI {r:AV×Hp}:∀(cs:List AV) (K:List Value→Al),YL cs K=some r→∃vs:List Value,cs=vs.map AV.v∧K vs=some r:=by
 intro cs
 induction cs with
 |nil=>intro K h;exact⟨[],rfl,h⟩
 |cons a cs ih=>
  intro K h
  have h:(match(generalizing:=false) a with| .v x=>YL cs λl=>K (x::l)|_=>none)=some r:=h
  split at h
  ·obtain⟨vs,e,h2⟩:=ih _ h
   exact⟨_::vs,by rw[e];rfl,h2⟩
  ·cases h
theorem A0t {C:Ctx} {w:World} {vs:List Value} {y:Value} (h:VRel C w (.agg (vs.map AV.v)) y):y= .agg vs.toArray:=by
 obtain⟨ys,rfl,hl⟩:=E6.1 h
 congr 1
 congr 1
 apply l0o
 intro i
 cases hi:vs[i]? with
 |none=>
  have:=hl.1
  simp only[l1u] at this
  have h1:vs.length≤i:=by simpa using List.getElem?_eq_none_iff.1 hi
  exact l1e (by omega)
 |some v=>
  obtain⟨y,hy,hv⟩:=hl.2 i (.v v) (by rw[l0a,hi];rfl)
  rw[hy,AL.1 hv]
theorem A2w:∀{ks:List LK} {xs:List Value} (n:Nat),fits ks xs=true→((xs.zip xs).all λp=>Instr.sameBits n p.1 p.2)=true:=by
 intro ks
 induction ks with
 |nil=>intro xs n h;cases xs<;>simp[fits] at h;rfl
 |cons k ks ih=>
  intro xs n h
  cases xs with
  |nil=>simp[fits] at h
  |cons x xs=>
   simp only[fits,Jp] at h
   simp only[List.zip_cons_cons,l2j,Jp]
   refine⟨?_,ih n h.2⟩
   have h1:=h.1
   cases k<;>cases x<;>simp[LK.fit] at h1<;>simp[Instr.sameBits,MapKept.bytes_beq]
theorem On.stays {kt:TypeId} {k:Value} (h:On P kt k) (w:World):(Instr.keyThatStays k k).run P w= .ok k w:=by
 have:Instr.sameBits 10000 k k=true:=by
  rcases h with⟨_,s,rfl⟩|⟨q,n,_,rfl⟩|⟨ks,xs,_,h,rfl⟩
  ·simp[Instr.sameBits,MapKept.bytes_beq]
  ·simp[Instr.sameBits]
  ·have:=A2w 9999 h
   show(xs.toArray.size==xs.toArray.size&&(xs.toArray.toList.zip xs.toArray.toList).all λ(x,y)=>Instr.sameBits 9999 x y)=true
   simp only[beq_self_eq_true,l16]
   exact this
 simp[Instr.keyThatStays,this]
theorem On.check {kt:TypeId} {k:Value} (h:On P kt k) (em:Bool) (w:World):(Instr.checkKey em 10000 kt k).run P w= .ok () w:=by
 rcases h with⟨hu,s,rfl⟩|⟨q,n,hu,rfl⟩|⟨ks,xs,he,h,rfl⟩
 ·exact MapKept.run_checkKey hu (d:= .string) (by simp[MapKept.IsKey]) em 9999
 ·exact MapKept.run_checkKey hu (d:= .int q) (by simp[MapKept.IsKey]) em 9999
 ·exact he.check h em w
def A2f (k:Value) (es:List (Value×AV)) (ms:List MapEntry) (i0:Nat):Option (Nat×AV)→Option (Nat×Value)→Prop
 |none,r=>r=none∧∀p∈es,p.1≠k
 |some (i,v),r=>∃(j:Nat) (m:MapEntry),i=i0+j∧es[j]?=some (k,v)∧ms[j]?=some m∧m.key=k∧r=some (i,m.val)
theorem JF.cons_inv {C:Ctx} {w:World} {p:Value×AV} {es:List (Value×AV)} {ms:List MapEntry} (h:JF C w (p::es) ms):∃m ms',ms=m::ms'∧m.key=p.1∧VRel C w p.2 m.val∧JF C w es ms':=by
 cases ms with
 |nil=>exact absurd h.1 (by simp)
 |cons m ms=>
  obtain⟨m',h1,h2,h3⟩:=h.2 0 p rfl
  simp at h1
  subst h1
  exact⟨m,ms,rfl,h2,h3,by simpa using h.1,λi x hx=>by simpa using h.2 (i+1) x (by simpa using hx)⟩
theorem JF.nil_inv {C:Ctx} {w:World} {ms:List MapEntry} (h:JF C w [] ms):ms=[]:=l1s (by simpa using h.1)
theorem A2f.step {k:Value} {p:Value×AV} {es:List (Value×AV)} {m:MapEntry} {ms:List MapEntry} {i0:Nat} (hne:p.1≠k):∀{x:Option (Nat×AV)} {r:Option (Nat×Value)},A2f k es ms (i0+1) x r→A2f k (p::es) (m::ms) i0 x r
 |none,r,⟨h1,h2⟩=>⟨h1,λq hq=>by
  rcases WG.1 hq with rfl|hq
  ·exact hne
  ·exact h2 q hq⟩
 |some (i,v),r,⟨j,m',h1,h2,h3,h4,h5⟩=>⟨j+1,m',by omega,by simpa using h2,by simpa using h3,h4,h5⟩
theorem Vp {d:TypeDesc} {k:Value} (hd:∀v q,keq k v=some q→Instr.sameNow d k v=some q) {C:Ctx} {w:World}:∀(es:List (Value×AV)) (ms:List MapEntry) (i:Nat) (x:Option (Nat×AV)),JF C w es ms→WH k es i=some x→∃r,Instr.findNow d k ms i=some r∧A2f k es ms i x r:=by
 intro es
 induction es with
 |nil=>
  intro ms i x he h
  injection h with h
  subst h
  rw[he.nil_inv]
  exact⟨none,rfl,rfl,by simp⟩
 |cons p es ih=>
  intro ms i x he h
  obtain⟨m,ms',rfl,hk,hv,he'⟩:=he.cons_inv
  rw[VH] at h
  cases hq:keq k p.1 with
  |none=>rw[hq] at h;cases h
  |some q=>
   rw[hq] at h
   have hs:=hd _ _ hq
   have hiff:=A6u hq
   cases q with
   |true=>
    injection h with h
    subst h
    have:k=p.1:=hiff.1 rfl
    refine⟨some (i,m.val),by simp[Instr.findNow,hk,hs],0,m,rfl,by rw[this];rfl,rfl,by rw[hk,this],rfl⟩
   |false=>
    obtain⟨r,h1,h2⟩:=ih ms' (i+1) x he' h
    have hne:p.1≠k:= λe=>by have:=hiff.2 e.symm;cases this
    exact⟨r,by simp[Instr.findNow,hk,hs,h1],h2.step hne⟩
theorem Yt {kt:TypeId} {ks:List LK} (hf:EqFlat P kt ks) {xs:List Value} (hx:fits ks xs=true) {C:Ctx} {w:World}:∀(es:List (Value×AV)) (ms:List MapEntry) (i:Nat) (x:Option (Nat×AV)),JF C w es ms→WH (.agg xs.toArray) es i=some x→
 ∃r,(Instr.findAsking kt (.agg xs.toArray) ms i).run P w= .ok r w∧A2f (.agg xs.toArray) es ms i x r:=by
 intro es
 induction es with
 |nil=>
  intro ms i x he h
  injection h with h
  subst h
  rw[he.nil_inv]
  exact⟨none,rfl,rfl,by simp⟩
 |cons p es ih=>
  intro ms i x he h
  obtain⟨m,ms',rfl,hk,hv,he'⟩:=he.cons_inv
  rw[VH] at h
  cases hq:keq (.agg xs.toArray) p.1 with
  |none=>rw[hq] at h;cases h
  |some q=>
   rw[hq] at h
   have hiff:=A6u hq
   have heq:(Op.equal kt (.agg xs.toArray) m.key).run P w= .ok q w:=by
    rw[hk]
    unfold keq at hq
    split at hq
    ·rename_i xs' ys e1 e2
     injection e1 with e1
     subst e1
     have hfy:=(RS hq).2 ks (by simpa using hx)
     have:=hf.equal hx hfy w
     rw[e2]
     have e3:ys.toList.toArray=ys:=by simp
     rw[e3] at this
     rw[this]
     congr 1
     rw[Yg,(RS hq).1]
     simp
    ·rename_i h1
     cases hp:p.1 with
     |agg ys=>exact absurd hp (h1 _ _ rfl)
     |_=>rw[hp] at hq;simp[WI] at hq
   cases q with
   |true=>
    injection h with h
    subst h
    have:_=p.1:=hiff.1 rfl
    refine⟨some (i,m.val),by simp[Instr.findAsking,heq],0,m,rfl,by rw[this];rfl,rfl,by rw[hk,this],rfl⟩
   |false=>
    obtain⟨r,h1,h2⟩:=ih ms' (i+1) x he' h
    have hne:p.1≠_:= λe=>by have:=hiff.2 e.symm;cases this
    exact⟨r,by simp[Instr.findAsking,heq,h1],h2.step hne⟩
theorem On.find {kt:TypeId} {k:Value} (hk:On P kt k) {C:Ctx} {w:World} {es:List (Value×AV)} {ms:List MapEntry} {x:Option (Nat×AV)} (he:JF C w es ms) (h:WH k es 0=some x):∃r,(Instr.findKey kt k ms).run P w= .ok r w∧A2f k es ms 0 x r:=by
 rcases hk with⟨hu,s,rfl⟩|⟨q,n,hu,rfl⟩|⟨ks,xs,hf,hx,rfl⟩
 ·obtain⟨r,h1,h2⟩:=Vp (d:= .string) (λv q hq=>by
   cases v<;>simp[keq,WI] at hq
   rename_i u
   simp only[Instr.sameNow]
   rw[←hq,PQ]
   congr 1
   obtain⟨⟨s⟩⟩:=s
   obtain⟨⟨u⟩⟩:=u
   rw[Yg,MapKept.bytes_beq]
   simp) es ms 0 x he h
  exact⟨r,MapKept.run_findKey hu h1,h2⟩
 ·obtain⟨r,h1,h2⟩:=Vp (d:= .int q) (λv q' hq=>by
   cases v<;>simp[keq,WI] at hq
   rename_i k' m
   by_cases e:q=k'
   ·subst e
    simp at hq
    simp only[Instr.sameNow,if_pos]
    rw[←hq,Of]
    congr 1
   ·simp[e] at hq) es ms 0 x he h
  exact⟨r,MapKept.run_findKey hu h1,h2⟩
 ·obtain⟨r,h1,h2⟩:=Yt hf hx es ms 0 x he h
  refine⟨r,?_,h2⟩
  have hu:∃u,P.underlying kt=some u∧(∀b,Instr.sameNow u (.agg xs.toArray) b=none):=by
   have hl:=hf.leaves
   unfold leaves at hl
   split at hl
   ·simp at hl
   ·simp at hl
   ·simp at hl
   ·rename_i hu;exact⟨_,hu,λb=>by cases b<;>rfl⟩
   ·rename_i hu;exact⟨_,hu,λb=>by cases b<;>rfl⟩
   ·cases hl
  obtain⟨u,hu,hs⟩:=hu
  unfold Instr.findKey
  rw[C4,run_underlying hu w]
  simp only[E3]
  cases ms with
  |nil=>
   have:=he.1
   have e:es=[]:=l1s (by simpa using this.symm)
   obtain⟨h3,_⟩:r=none∧True:=by
    subst e
    have hx:x=none:=(l26 h).symm
    subst hx
    exact⟨h2.1,trivial⟩
   rw[h3]
   rfl
  |cons m ms=>
   have:Instr.findNow u (.agg xs.toArray) (m::ms) 0=none:=by simp[Instr.findNow,hs]
   rw[this]
   exact h1
end
def B4U:Option (List Nat×Nat)→Option (List Nat×Nat)
 |some (bs,c)=>some (bs++[c],c+1)
 |none=>none
def C5r:Option (List Nat×Nat)→Nat→Option (List Nat×Nat)
 |some (bs,c),i=>some (bs.eraseIdx i,c)
 |none,_=>none
def A4y:TD→Option (List Nat×Nat)
 | .int _=>some ([],0)
 | .slice _ _=>some ([],0)
 |_=>none
def A2U (x:Row) (K:List (Value×AV)→Option (List Nat×Nat)→Al):Al:=match x with| .map false es bo=>K es bo|_=>none
def NR (ie:TI) (H:Hp) (K:KV):Al:=HE H λs=>K (.mp s) ((s,.map false [] (A4y ie.d))::H)
def VL (m:AV) (k:Value) (v:AV) (H:Hp) (K:Hp→Al):Al:=
 match m with
 | .mp r=>Kj H r λx=>A2U x λes bo=>QT k es λf=>match f with
  |none=>Og H r (.map false (es++[(k,v)]) (B4U bo)) K
  |some (i,_)=>Og H r (.map false (es.set i (k,v)) bo) K
 |_=>none
def A8H (m:AV) (H:Hp) (K:List (Value×AV)→Al):Al:=
 match m with
 | .mp r=>Kj H r λx=>A2U x λes _=>K es
 | .imap es=>K es
 | .v (.map none)=>K []
 |_=>none
def Xu (ie:TI) (ok:Bool) (m:AV) (k:Value) (H:Hp) (K:AV→Al):Al:=
 A8H m H λes=>QT k es λf=>match f,ok with
  |none,true=>K (.tup [ie.zero,.v (.bool false)])
  |none,false=>K ie.zero
  |some (_,v),true=>K (.tup [v,.v (.bool true)])
  |some (_,v),false=>K v
def B4y (m:AV) (k:Value) (H:Hp) (K:Hp→Al):Al:=
 match m with
 | .mp r=>Kj H r λx=>A2U x λes bo=>QT k es λf=>match f with
  |none=>K H
  |some (i,_)=>Og H r (.map false (es.eraseIdx i) (C5r bo i)) K
 |_=>none
def B07 (m:AV) (H:Hp) (K:AV→Al):Al:=A8H m H λes=>HJ es 0 λn=>K (.v (.int .i64 (.ofNat n)))
def B08 (ie:TI) (m:AV) (k:Value) (H:Hp) (K:KV):Al:=
 match m with
 | .mp r=>Kj H r λx=>A2U x λes bo=>match bo with
  |some (bs,c)=>QT k es λf=>match f with
   |none=>Og H r (.map false (es++[(k,ie.zero)]) (some (bs++[c],c+1))) λH'=>K (.tup [ie.zero,.v (.int .i64 (.ofNat c))]) H'
   |some (i,v)=>(match bs[i]? with|some b=>K (.tup [v,.v (.int .i64 (.ofNat b))]) H|none=>none)
  |none=>none
 |_=>none
def B06 (m st v:AV) (H:Hp) (K:Hp→Al):Al:=
 match m with
 | .mp r=>Kj H r λx=>A2U x λes bo=>A4M st λz=>match bo with
  |some (bs,c)=>(match bs.findIdx? (λb=>ieq (.ofNat b) z) with
   |some i=>(match es[i]? with|some p=>Og H r (.map false (es.set i (p.1,v)) (some (bs,c))) K|none=>none)
   |none=>none)
  |none=>none
 |_=>none
section
variable {P:Program} {G:Gl} {w0:Base} {C:Ctx} {H:Hp} {w:World} {r:AV×Hp}
theorem OK {x:Row} {K:List (Value×AV)→Option (List Nat×Nat)→Al} (h:A2U x K=some r):∃es bo,x= .map false es bo∧K es bo=some r:=by
 unfold A2U at h
 split at h
 ·exact⟨_,_,rfl,h⟩
 ·cases h
theorem Qs {k:Value} {es:List (Value×AV)} {K:Option (Nat×AV)→Al} (h:QT k es K=some r):∃x,WH k es 0=some x∧K x=some r:=by
 unfold QT at h
 split at h
 ·exact⟨_,by assumption,h⟩
 ·cases h
theorem JF.append {es es':List (Value×AV)} {ms ms':List MapEntry} (h:JF C w es ms) (k:JF C w es' ms'):JF C w (es++es') (ms++ms'):=
 ⟨by simp[h.1,k.1],λi p hp=>by
  rw[List.getElem?_append] at hp⊢
  rw[h.1]
  split at hp
  ·rename_i hi;rw[if_pos hi];exact h.2 i p hp
  ·rename_i hi;rw[if_neg hi];exact k.2 _ p hp⟩
theorem JF.one {k:Value} {v:AV} {m:MapEntry} (hk:m.key=k) (hv:VRel C w v m.val):JF C w [(k,v)] [m]:=
 ⟨rfl,λi p hp=>by
  cases i with
  |zero=>simp at hp;subst hp;exact⟨m,rfl,hk,hv⟩
  |succ i=>simp at hp⟩
theorem JF.modify {es:List (Value×AV)} {ms:List MapEntry} (h:JF C w es ms) (i:Nat) {k:Value} {v:AV} {f:MapEntry→MapEntry} (hk:∀m,ms[i]?=some m→(f m).key=k) (hv:∀m,ms[i]?=some m→VRel C w v (f m).val):JF C w (es.set i (k,v)) (ms.modify i f):=
 ⟨by simp[h.1],λj p hp=>by
  rw[List.getElem?_set] at hp
  rw[List.getElem?_modify]
  split at hp
  ·rename_i e
   subst e
   split at hp
   ·rename_i hl
    injection hp with hp
    subst hp
    have hl':i<ms.length:=by rw[h.1];exact hl
    have hm:=JV hl'
    exact⟨f ms[i],by rw[hm];simp,hk _ hm,hv _ hm⟩
   ·cases hp
  ·rename_i e
   obtain⟨m,h1,h2,h3⟩:=h.2 j p hp
   exact⟨m,by rw[h1];simp[e],h2,h3⟩⟩
theorem JF.eraseIdx {es:List (Value×AV)} {ms:List MapEntry} (h:JF C w es ms) (i:Nat):JF C w (es.eraseIdx i) (ms.eraseIdx i):=
 ⟨by rw[List.length_eraseIdx,List.length_eraseIdx,h.1],λj p hp=>by
  rw[List.getElem?_eraseIdx] at hp⊢
  split at hp
  ·rename_i hi;rw[if_pos hi];exact h.2 j p hp
  ·rename_i hi;rw[if_neg hi];exact h.2 _ p hp⟩
theorem MOk.push {ms:Array MapEntry} {clock:Nat} (h:MOk ms clock) (k v:Value):MOk (ms.push {key:=k,val:=v,born:=clock}) (clock+1):=
 ⟨by
  rw[l2n,List.pairwise_append]
  refine⟨h.born,by simp,λa ha b hb=> ?_⟩
  simp at hb
  subst hb
  have:=h.lt a ha
  show a.born≠clock
  omega,λm hm=>by
  rw[l2n,l2e] at hm
  rcases hm with hm|hm
  ·have:=h.lt m hm;omega
  ·simp at hm;subst hm;exact Nat.lt_succ_self _⟩
theorem UB {ms:List MapEntry} {i:Nat} {f:MapEntry→MapEntry} (hf:∀m,(f m).born=m.born):(ms.modify i f).map (·.born)=ms.map (·.born):=by
 apply l0o
 intro j
 rw[l0a,l0a,List.getElem?_modify]
 cases ms[j]? with
 |none=>rfl
 |some m=>by_cases e:i=j<;>simp[e,hf]
theorem A9P {ms:Array MapEntry} {clock:Nat}:MOk ms clock↔(ms.toList.map (·.born)).Pairwise (λa b=>a≠b)∧∀b∈ms.toList.map (·.born),b<clock:=by
 constructor
 ·intro h
  exact⟨by rw[List.pairwise_map];exact h.born,λb hb=>by obtain⟨m,hm,rfl⟩:=l2a.1 hb;exact h.lt m hm⟩
 ·rintro⟨h1,h2⟩
  exact⟨by rw[List.pairwise_map] at h1;exact h1,λm hm=>h2 _ (l2a.2 ⟨m,hm,rfl⟩)⟩
theorem MOk.modify {ms:Array MapEntry} {clock:Nat} (h:MOk ms clock) (i:Nat) {f:MapEntry→MapEntry} (hf:∀m,(f m).born=m.born):MOk (ms.modify i f) clock:=by
 rw[A9P,l2o,UB hf]
 exact A9P.1 h
theorem OG (ms:Array MapEntry) (i:Nat):(ms.eraseIdxIfInBounds i).toList=ms.toList.eraseIdx i:=by
 unfold Array.eraseIdxIfInBounds
 split
 ·simp only[Array.toList_eraseIdx]
 ·rename_i h;rw[List.eraseIdx_of_length_le (by simpa using h)]
theorem WD {α β:Type} (f:α→β):∀(l:List α) (i:Nat),(l.eraseIdx i).map f=(l.map f).eraseIdx i
 |[],_=>rfl
 |_::_,0=>rfl
 |a::l,i+1=>by simp[WD f l i]
theorem MOk.erase {ms:Array MapEntry} {clock:Nat} (h:MOk ms clock) (i:Nat):MOk (ms.eraseIdxIfInBounds i) clock:=
 ⟨by rw[OG];exact h.born.sublist (List.eraseIdx_sublist _ _),λm hm=>by rw[OG] at hm;exact h.lt m ((List.eraseIdx_sublist _ _).subset hm)⟩
theorem UG {r:Nat} {es es':List (Value×AV)} {bo bo':Option (List Nat×Nat)} {b:Nat} {ms ms':Array MapEntry} {clock clock':Nat} {O:Nat→Prop} (hr:Rel G w0 C H w) (hl:Ax H r=some (.map false es bo)) (hp:C.π r=some (some (b,0))) (hb:w.heap[b]?=some (.map ms clock))
 (he:JF C w es' ms'.toList) (hm:MOk ms' clock') (ho:BOk bo' ms' clock'):(setObj b (.map ms' clock')).run P w= .ok () {w with heap:=w.heap.setIfInBounds b (.map ms' clock')}∧
  Rel G w0 C (upd H r (.map false es' bo')) {w with heap:=w.heap.setIfInBounds b (.map ms' clock')}∧Ext O C w C {w with heap:=w.heap.setIfInBounds b (.map ms' clock')}:=by
 obtain⟨h1,h2⟩:=MapKept.heap_set (w:=w) (o':= .map ms' clock') hb
 have hs:SameObj w {w with heap:=w.heap.setIfInBounds b (.map ms' clock')} b (.map ms' clock'):=⟨rfl,rfl,rfl,by simp,h1,h2⟩
 refine⟨MapKept.run_setObj_map _ hb,hr.set_obj (O:=O) hl hp hs (λarr T fz hc=>by rw[hb] at hc;cases hc) (λe=>⟨b,ms',clock',hp,h1,hm,he.mono e,ho⟩)⟩
theorem Yd {r:Nat} {es:List (Value×AV)} {bo:Option (List Nat×Nat)} {y:Value} (hr:Rel G w0 C H w) (hl:Ax H r=some (.map false es bo)) (hv:VRel C w (.mp r) y):
 ∃b ms clock,y= .map (some b)∧C.π r=some (some (b,0))∧w.heap[b]?=some (.map ms clock)∧MOk ms clock∧JF C w es ms.toList∧BOk bo ms clock:=by
 cases hv with
 |@mp _ _ _ b base hp=>
  obtain⟨b',ms,clock,g1,g2,g3,g4,g5⟩:=hr.rows r _ hl
  have e':=g1.symm.trans hp
  injection e' with e';injection e' with e';injection e' with e1 e2;subst e1 e2
  exact⟨b',ms,clock,rfl,hp,g2,g3,g4,g5⟩
theorem A6O {ie:TI} {ty:TypeId} {K:KV} (hr:Rel G w0 C H w) (h:NR ie H K=some r):∃v H' y C' w',K v H'=some r∧(Instr.makeMap ty none).run P w= .ok y w'∧Jk G w0 C w v H' y C' w':=by
 unfold NR at h
 rw[BX] at h
 have hb:=Le w (.map #[] 0)
 refine⟨_,_,.map (some w.heap.size),_,w.alloc (.map #[] 0),h,rfl,.mp (C.put_n _ _),hr.new_row hb ⟨w.heap.size,#[],0,C.put_n _ _,World.alloc_heap_new _ _,⟨by simp,by simp⟩,⟨rfl,λi p hp=>by simp at hp⟩,?_⟩,hr.new_ext hb⟩
 unfold A4y
 split
 ·exact⟨rfl,rfl⟩
 ·exact⟨rfl,rfl⟩
 ·trivial
theorem A1Y {mt kt et:TypeId} {m v:AV} {k ym yv:Value} {K:Hp→Al} (hu:P.underlying mt=some (.map kt et)) (hk:On P kt k) (hr:Rel G w0 C H w) (hm:VRel C w m ym) (hv:VRel C w v yv) (h:VL m k v H K=some r):
 ∃H' w',K H'=some r∧(Instr.mapUpdate mt ym k yv).run P w= .ok () w'∧Rel G w0 C H' w'∧Ext w0.own C w C w':=by
 unfold VL at h
 split at h
 ·rename_i s
  obtain⟨x,hl,h1⟩:=G9 rfl h
  obtain⟨es,bo,rfl,h2⟩:=OK h1
  obtain⟨f,hf,h3⟩:=Qs h2
  obtain⟨b,ms,clock,rfl,hp,hb,hok,he,ho⟩:=Yd hr hl hm
  obtain⟨q,hq,hfd⟩:=hk.find he hf
  clear h h1 h2
  cases f with
  |none=>
   simp only at h3
   rw[D8] at h3
   obtain⟨e1,_⟩:=hfd
   subst e1
   obtain⟨g1,g2,g3⟩:=UG (P:=P) (O:=w0.own) (es':=es++[(k,v)]) (bo':=B4U bo) (ms':=ms.push {key:=k,val:=yv,born:=clock}) (clock':=clock+1) hr hl hp hb (by rw[l2n];exact he.append (.one rfl hv)) (hok.push _ _) (by
    cases bo with
    |none=>trivial
    |some p=>obtain⟨e1,e2⟩:=ho;exact⟨by rw[l2n,l01,e1,e2];rfl,by rw[e2]⟩)
   refine⟨_,_,h3,?_,g2,g3⟩
   unfold Instr.mapUpdate
   rw[C4,run_underlying hu w]
   simp only[E3]
   rw[C4,l2l hb]
   simp only[E3]
   rw[C4,hk.check]
   simp only[E3]
   rw[C4,hq]
   simp only[E3]
   exact g1
  |some p=>
   obtain⟨i,v0⟩:=p
   simp only at h3
   rw[D8] at h3
   obtain⟨j,m0,e0,hes,hms,hkey,hres⟩:=hfd
   have e0:i=j:=by omega
   subst e0
   subst hres
   have hms':ms[i]?=some m0:=by simpa using hms
   obtain⟨g1,g2,g3⟩:=UG (P:=P) (O:=w0.own) (es':=es.set i (k,v)) (bo':=bo) (ms':=ms.modify i λe=>{e with key:=k,val:=yv}) (clock':=clock) hr hl hp hb (by rw[l2o];exact he.modify i (λ_ _=>rfl) (λ_ _=>hv)) (hok.modify i (λ_=>rfl)) (by
    cases bo with
    |none=>trivial
    |some p=>obtain⟨e1,e2⟩:=ho;exact⟨by rw[l2o,UB (f:= λe=>{e with key:=k,val:=yv}) (λ_=>rfl)];exact e1,e2⟩)
   refine⟨_,_,h3,?_,g2,g3⟩
   unfold Instr.mapUpdate
   rw[C4,run_underlying hu w]
   simp only[E3]
   rw[C4,l2l hb]
   simp only[E3]
   rw[C4,hk.check]
   simp only[E3]
   rw[C4,hq]
   simp only[E3,hms',l0x,l1l,hkey]
   rw[C4,hk.stays]
   simp only[E3]
   exact g1
 ·cases h
theorem A3C {m:AV} {ym:Value} {K:List (Value×AV)→Al} (hr:Rel G w0 C H w) (hm:VRel C w m ym) (h:A8H m H K=some r):
 ∃es,K es=some r∧((ym= .map none∧es=[])∨∃b ms clock,ym= .map (some b)∧w.heap[b]?=some (.map ms clock)∧JF C w es ms.toList):=by
 unfold A8H at h
 split at h
 ·obtain⟨x,hl,h1⟩:=G9 rfl h
  obtain⟨es,bo,rfl,h2⟩:=OK h1
  obtain⟨b,ms,clock,rfl,hp,hb,hok,he,ho⟩:=Yd hr hl hm
  exact⟨es,h2,.inr ⟨b,ms,clock,rfl,hb,he⟩⟩
 ·rename_i es
  refine⟨es,h,?_⟩
  cases hm with
  |@imap _ _ _ b clock ms hB hb hl hk hn hc hv=>
   refine .inr ⟨b,ms,clock,rfl,hb,by simpa using hl,λi p hp=> ?_⟩
   obtain⟨hi,rfl⟩:=l0j.1 hp
   have hi':i<ms.size:=by omega
   refine⟨ms[i],by simp[hi'],?_,?_⟩
   ·have:=hk i hi;simpa [YK,hi'] using this
   ·have:=hv i hi
    have e:(ms.getD i default)=ms[i]:=by simp[YK,hi']
    rw[e] at this
    exact this.up rfl rfl
 ·exact⟨[],h,.inl ⟨AL.1 hm,rfl⟩⟩
 ·cases h
theorem B1y {mt kt et:TypeId} {ie:TI} {ok:Bool} {m:AV} {k ym:Value} {K:AV→Al} (hu:P.underlying mt=some (.map kt et)) (hie:TOk1 P et ie) (hk:On P kt k) (hr:Rel G w0 C H w) (hm:VRel C w m ym) (h:Xu ie ok m k H K=some r):
 ∃v y,K v=some r∧(Instr.lookup mt ym k ok).run P w= .ok y w∧VRel C w v y:=by
 unfold Xu at h
 obtain⟨es,h1,hes⟩:=A3C hr hm h
 obtain⟨f,hf,h2⟩:=Qs h1
 obtain⟨z,hz,ez⟩:=hie.run_zero w
 have hzr:VRel C w ie.zero z:=by rw[←ez];exact Ww z
 clear h h1
 have key:∀(ms:List MapEntry) (q:Option (Nat×Value)),A2f k es ms 0 f q→JF C w es ms→
  ∃v y0 o,K (if ok=true then .tup [v,.v (.bool o)] else v)=some r∧VRel C w v y0∧((q=none∧y0=z∧o=false)∨∃i,q=some (i,y0)∧o=true):=by
  intro ms q hfd he
  cases f with
  |none=>
   obtain⟨e1,_⟩:=hfd
   subst e1
   exact⟨ie.zero,z,false,by cases ok<;>exact h2,hzr,.inl ⟨rfl,rfl,rfl⟩⟩
  |some p=>
   obtain⟨i,v0⟩:=p
   obtain⟨j,m0,e0,hej,hmj,hkey,hres⟩:=hfd
   have hvr:VRel C w v0 m0.val:=by
    obtain⟨m',g1,g2,g3⟩:=he.2 j _ hej
    rw[hmj] at g1;injection g1 with g1;subst g1;exact g3
   exact⟨v0,m0.val,true,by cases ok<;>exact h2,hvr,.inr ⟨i,hres,rfl⟩⟩
 have rel:∀{v:AV} {y0:Value} (o:Bool),VRel C w v y0→VRel C w (if ok=true then .tup [v,.v (.bool o)] else v) (if ok=true then .tuple #[y0,.bool o] else y0):=by
  intro v y0 o hv
  cases ok with
  |true=>exact Dw.2 ⟨[y0,.bool o],rfl,.cons hv (.cons (.v _) .nil)⟩
  |false=>exact hv
 rcases hes with⟨rfl,rfl⟩|⟨b,ms,clock,rfl,hb,he⟩
 ·have he:JF C w [] []:=⟨rfl,λi p hp=>by simp at hp⟩
  obtain⟨q,hq,hfd⟩:=hk.find he hf
  obtain⟨v,y0,o,g1,g2,g3⟩:=key [] q hfd he
  refine⟨_,_,g1,?_,rel o g2⟩
  rcases g3 with⟨rfl,rfl,rfl⟩|⟨i,rfl,rfl⟩
  ·simp[Instr.lookup,run_underlying hu,hk.check,hq,hz,Result.andThen]
  ·simp[Instr.lookup,run_underlying hu,hk.check,hq,Result.andThen]
 ·obtain⟨q,hq,hfd⟩:=hk.find he hf
  obtain⟨v,y0,o,g1,g2,g3⟩:=key _ q hfd he
  refine⟨_,_,g1,?_,rel o g2⟩
  rcases g3 with⟨rfl,rfl,rfl⟩|⟨i,rfl,rfl⟩
  ·simp[Instr.lookup,run_underlying hu,l2l hb,hk.check,hq,hz,Result.andThen]
  ·simp[Instr.lookup,run_underlying hu,l2l hb,hk.check,hq,Result.andThen]
theorem A6S {mt kt et:TypeId} {ts:Array TypeId} {ty:TypeId} {m:AV} {k ym:Value} {K:Hp→Al} (hts:ts[0]?=some mt) (hu:P.underlying mt=some (.map kt et)) (hk:On P kt k) (hr:Rel G w0 C H w) (hm:VRel C w m ym) (h:B4y m k H K=some r):
 ∃H' w',K H'=some r∧(Builtin.delete_ ts ty #[ym,k]).run P w= .ok (.tuple #[]) w'∧Rel G w0 C H' w'∧Ext w0.own C w C w':=by
 unfold B4y at h
 split at h
 ·rename_i s
  obtain⟨x,hl,h1⟩:=G9 rfl h
  obtain⟨es,bo,rfl,h2⟩:=OK h1
  obtain⟨f,hf,h3⟩:=Qs h2
  obtain⟨b,ms,clock,rfl,hp,hb,hok,he,ho⟩:=Yd hr hl hm
  obtain⟨q,hq,hfd⟩:=hk.find he hf
  clear h h1 h2
  have hrun:∀(w':World) (ms':Array MapEntry),(q=none∧ms'=ms∨∃i v,q=some (i,v)∧ms'=ms.eraseIdxIfInBounds i)→(setObj b (.map ms' clock)).run P w= .ok () w'→(Builtin.delete_ ts ty #[.map (some b),k]).run P w= .ok (.tuple #[]) w':=by
   intro w' ms' hq' hw
   rcases hq' with⟨rfl,rfl⟩|⟨i,v,rfl,rfl⟩
   ·simp[Builtin.delete_,hts,run_underlying hu,l2l hb,hk.check,hq,hw,Result.andThen]
   ·simp[Builtin.delete_,hts,run_underlying hu,l2l hb,hk.check,hq,hw,Result.andThen]
  cases f with
  |none=>
   obtain⟨e1,_⟩:=hfd
   subst e1
   obtain⟨g1,g2,g3⟩:=UG (P:=P) (O:=w0.own) (es':=es) (bo':=bo) (ms':=ms) (clock':=clock) hr hl hp hb he hok ho
   have hw:({w with heap:=w.heap.setIfInBounds b (.map ms clock)}:World)=w:=by
    have:w.heap.setIfInBounds b (.map ms clock)=w.heap:=by
     apply Array.ext_getElem?
     intro j
     by_cases hj:b=j
     ·subst hj;rw[(MapKept.heap_set hb).1,hb]
     ·exact(MapKept.heap_set hb).2 j (λe=>hj e.symm)
    rw[this]
   rw[hw] at g1
   exact⟨H,w,h3,hrun w ms (.inl ⟨rfl,rfl⟩) g1,hr,.refl _ _ _⟩
  |some p=>
   obtain⟨i,v0⟩:=p
   simp only at h3
   rw[D8] at h3
   obtain⟨j,m0,e0,hes,hms,hkey,hres⟩:=hfd
   have e0:i=j:=by omega
   subst e0
   subst hres
   obtain⟨g1,g2,g3⟩:=UG (P:=P) (O:=w0.own) (es':=es.eraseIdx i) (bo':=C5r bo i) (ms':=ms.eraseIdxIfInBounds i) (clock':=clock) hr hl hp hb (by rw[OG];exact he.eraseIdx i) (hok.erase i) (by
    cases bo with
    |none=>trivial
    |some p=>obtain⟨e1,e2⟩:=ho;exact⟨by rw[OG,←e1,WD],e2⟩)
   exact⟨_,_,h3,hrun _ _ (.inr ⟨i,_,rfl,rfl⟩) g1,g2,g3⟩
 ·cases h
theorem A6Q {mt kt et:TypeId} {ts:Array TypeId} {ty:TypeId} {m:AV} {ym:Value} {K:AV→Al} (hts:ts[0]?=some mt) (hu:P.underlying mt=some (.map kt et)) (hr:Rel G w0 C H w) (hm:VRel C w m ym) (h:B07 m H K=some r):
 ∃v y,K v=some r∧(Builtin.len_ ts ty #[ym]).run P w= .ok y w∧VRel C w v y:=by
 unfold B07 at h
 obtain⟨es,h1,hes⟩:=A3C hr hm h
 rw[Cw,Ln] at h1
 refine⟨_,.int .i64 es.length,h1,?_,.v _⟩
 rcases hes with⟨rfl,rfl⟩|⟨b,ms,clock,rfl,hb,he⟩
 ·simp[Builtin.len_,hts,run_underlying hu,goInt]
 ·have:=he.1
  simp only[Array.length_toList] at this
  simp[Builtin.len_,hts,run_underlying hu,l2l hb,goInt,this]
theorem A6R {mt kt et:TypeId} {ie:TI} {m:AV} {k ym:Value} {K:KV} (hu:P.underlying mt=some (.map kt et)) (hie:TOk1 P et ie) (hk:On P kt k) (hr:Rel G w0 C H w) (hm:VRel C w m ym) (h:B08 ie m k H K=some r):
 ∃v H' y w',K v H'=some r∧(Instr.mapEntry mt ym k).run P w= .ok y w'∧Jk G w0 C w v H' y C w':=by
 unfold B08 at h
 split at h
 ·rename_i s
  obtain⟨x,hl,h1⟩:=G9 rfl h
  obtain⟨es,bo,rfl,h2⟩:=OK h1
  clear h h1
  split at h2
  ·rename_i bs c
   obtain⟨f,hf,h3⟩:=Qs h2
   obtain⟨b,ms,clock,rfl,hp,hb,hok,he,ho⟩:=Yd hr hl hm
   obtain⟨o1,o2⟩:=ho
   subst o2
   obtain⟨q,hq,hfd⟩:=hk.find he hf
   obtain⟨z,hz,ez⟩:=hie.run_zero w
   have hzr:VRel C w ie.zero z:=by rw[←ez];exact Ww z
   clear h2
   have hpre:∀(g:Option (Nat×Value)→Sem Value) (res:Result Value),(g q).run P w=res→(do
    Instr.checkKey false 10000 kt k
    let x←Instr.findKey kt k ms.toList
    g x:Sem Value).run P w=res:=by
    intro g res hg
    rw[C4,hk.check]
    simp only[E3]
    rw[C4,hq]
    exact hg
   cases f with
   |none=>
    simp only at h3
    rw[D8] at h3
    obtain⟨e1,_⟩:=hfd
    subst e1
    obtain⟨g1,g2,g3⟩:=UG (P:=P) (O:=w0.own) (es':=es++[(k,ie.zero)]) (bo':=some (bs++[clock],clock+1)) (ms':=ms.push {key:=k,val:=z,born:=clock}) (clock':=clock+1) hr hl hp hb (by rw[l2n];exact he.append (.one rfl hzr)) (hok.push _ _) ⟨by rw[l2n,l01,o1];rfl,rfl⟩
    refine⟨_,_,.tuple #[z,goInt clock],_,h3,?_,Dw.2 ⟨[z,goInt clock],rfl,.cons (hzr.mono g3) (.cons (.v _) .nil)⟩,g2,g3⟩
    unfold Instr.mapEntry
    rw[C4,run_underlying hu w]
    simp only[E3]
    rw[C4,l2l hb]
    simp only[E3]
    rw[C4,hk.check]
    simp only[E3]
    rw[C4,hq]
    simp only[E3]
    rw[C4,hz]
    simp only[E3]
    rw[C4,g1]
    rfl
   |some p=>
    obtain⟨i,v0⟩:=p
    simp only at h3
    obtain⟨j,m0,e0,hes,hms,hkey,hres⟩:=hfd
    have e0:i=j:=by omega
    subst e0
    subst hres
    have hms':ms[i]?=some m0:=by simpa using hms
    have hbi:bs[i]?=some m0.born:=by rw[←o1,l0a,hms];rfl
    rw[hbi] at h3
    simp only at h3
    have hvr:VRel C w v0 m0.val:=by
     obtain⟨m',g1,g2,g3⟩:=he.2 i _ hes
     rw[hms] at g1;injection g1 with g1;subst g1;exact g3
    have hmod:ms.modify i (λe=>{e with key:=k})=ms:=by
     apply Array.ext_getElem?
     intro j
     rw[l0r]
     by_cases hj:i=j
     ·subst hj
      rw[hms']
      simp[←hkey]
     ·rw[if_neg hj]
    have hw:({w with heap:=w.heap.setIfInBounds b (.map ms clock)}:World)=w:=by
     have:w.heap.setIfInBounds b (.map ms clock)=w.heap:=by
      apply Array.ext_getElem?
      intro j
      by_cases hj:b=j
      ·subst hj;rw[(MapKept.heap_set hb).1,hb]
      ·exact(MapKept.heap_set hb).2 j (λe=>hj e.symm)
     rw[this]
    refine⟨_,H,.tuple #[m0.val,goInt m0.born],w,h3,?_,Dw.2 ⟨[m0.val,goInt m0.born],rfl,.cons hvr (.cons (.v _) .nil)⟩,hr,.refl _ _ _⟩
    unfold Instr.mapEntry
    rw[C4,run_underlying hu w]
    simp only[E3]
    rw[C4,l2l hb]
    simp only[E3]
    rw[C4,hk.check]
    simp only[E3]
    rw[C4,hq]
    simp only[E3,hms',l0x,l1l,hkey]
    rw[C4,hk.stays]
    simp only[E3,hmod]
    rw[C4,MapKept.run_setObj_map _ hb,hw]
    rfl
  ·cases h2
 ·cases h
theorem A6N {mt:TypeId} {m st v:AV} {ym ys yv:Value} {K:Hp→Al} (hr:Rel G w0 C H w) (hm:VRel C w m ym) (hs:VRel C w st ys) (hv:VRel C w v yv) (h:B06 m st v H K=some r):
 ∃H' w',K H'=some r∧(Instr.entryStore mt ym ys yv).run P w= .ok () w'∧Rel G w0 C H' w'∧Ext w0.own C w C w':=by
 unfold B06 at h
 split at h
 ·rename_i s
  obtain⟨x,hl,h1⟩:=G9 rfl h
  obtain⟨es,bo,rfl,h2⟩:=OK h1
  obtain⟨q,z,rfl,h3⟩:=MR h2
  clear h h1 h2
  split at h3
  ·rename_i bs c
   split at h3
   ·rename_i i hi
    split at h3
    ·rename_i p hp
     rw[D8] at h3
     obtain⟨b,ms,clock,rfl,hpi,hb,hok,he,ho⟩:=Yd hr hl hm
     obtain⟨o1,o2⟩:=ho
     subst o2
     have hys:=AL.1 hs
     subst hys
     have hfi:ms.findIdx? (λe=>(e.born:Int)==z)=some i:=by
      have e9:∀p:MapEntry→Bool,ms.findIdx? p=ms.toList.findIdx? p:= λp=>by cases ms;simp
      rw[e9]
      rw[←o1,List.findIdx?_map] at hi
      rw[←hi]
      congr 1
      funext e
      simp only[Function.comp,Of]
      rw[Yg];simp
     obtain⟨m1,hm1,hk1,hv1⟩:=he.2 i p hp
     obtain⟨g1,g2,g3⟩:=UG (P:=P) (O:=w0.own) (es':=es.set i (p.1,v)) (bo':=some (bs,clock)) (ms':=ms.modify i λe=>{e with val:=yv}) (clock':=clock) hr hl hpi hb (by
      rw[l2o]
      refine he.modify i (λm hm=> ?_) (λ_ _=>hv)
      rw[hm1] at hm;injection hm with hm;subst hm;exact hk1) (hok.modify i (λ_=>rfl)) ⟨by rw[l2o,UB (f:= λe=>{e with val:=yv}) (λ_=>rfl)];exact o1,rfl⟩
     refine⟨_,_,h3,?_,g2,g3⟩
     unfold Instr.entryStore
     simp only
     rw[C4,l2l hb]
     simp only[E3]
     rw[C4]
     have ha:(asInt (.int q z)).run P w= .ok z w:=rfl
     rw[ha]
     simp only[E3,hfi]
     exact g1
    ·cases h3
   ·cases h3
  ·cases h3
 ·cases h
end
def Wg:Value→Value→Bool
 | .string a,.string b=>eqbL a.data.toList b.data.toList
 | .int k a,.int k' b=>decide (k=k')&&decide (a=b)
 | .bool a,.bool b=>a==b
 | .slice none 0 0,.slice none 0 0=>true
 | .pointer none,.pointer none=>true
 | .map none,.map none=>true
 | .nilFunc,.nilFunc=>true
 |_,_=>false
where eqbL:List UInt8→List UInt8→Bool
 |[],[]=>true
 |a::l,b::m=>Nat.beq a.toNat b.toNat&&eqbL l m
 |_,_=>false
def A2d (f:AV→AV→Bool):List AV→List AV→Bool
 |[],[]=>true
 |a::l,b::m=>f a b&&A2d f l m
 |_,_=>false
def fnB:AV→AV→Bool
 | .fn (.func f) [] [],.fn (.func g) [] []=>Nat.beq f g
 |_,_=>false
theorem C2g {a b:AV} (h:fnB a b=true):a=b:=by
 unfold fnB at h
 split at h
 ·rw[Vm h]
 ·cases h
def B1Y (f:AV→AV→Bool):List (Value×AV)→List (Value×AV)→Bool
 |[],[]=>true
 |a::l,b::m=>Wg a.1 b.1&&(f a.2 b.2&&B1Y f l m)
 |_,_=>false
def aeq:Nat→AV→AV→Bool
 |_,.v x,.v y=>Wg x y
 |d+1,.list n cs,.list m es=>Nat.beq n m&&A2d (aeq d) cs es
 |d+1,.agg cs,.agg es=>A2d (aeq d) cs es
 |d+1,.tup cs,.tup es=>A2d (aeq d) cs es
 |d+1,.imap es,.imap gs=>B1Y (aeq d) es gs
 |_+1,.fn f fs cs,.fn g gs ds=>fnB (.fn f fs cs) (.fn g gs ds)
 |_,_,_=>false
def YD (a b:Al):Al:=
 match a with
 |some (v,[])=>(match b with
  |some (u,[])=>(match aeq 6 v u with|true=>some (v,[])|false=>none)
  |_=>none)
 |_=>none
def NZ (F:Value×AV→List (Value×AV)→Al) (l:List (Value×AV)):List (Value×AV)→Al:=
 @List.rec (Value×AV) (λ_=>List (Value×AV)→Al) (λ_=>none)
  (λe rest ih pre=>@List.rec (Value×AV) (λ_=>Al) (F e pre) (λ_ _ _=>YD (F e (pre++rest)) (ih (pre++[e]))) rest) l
def A9W (x:Row) (K:List (Value×AV)→Al):Al:=match x with| .iter l _=>K l|_=>none
def A1W (m:AV) (H:Hp) (K:KV):Al:=
 match m with
 | .imap es=>HE H λs=>K (.it s) ((s,.iter es none)::H)
 | .v (.map none)=>HE H λs=>K (.it s) ((s,.iter [] none)::H)
 | .mp s=>Kj H s λx=>A2U x λes _=>ck (es.all λp=>cl0 3 p.2) (Og H s .gone λH1=>HE H1 λt=>K (.it t) ((t,.iter es none)::H1))
 |_=>none
def A1X (it:AV) (H:Hp) (K:KV):Al:=
 match it with
 | .it s=>Kj H s λx=>A9W x λl=>@List.rec (Value×AV) (λ_=>Al) (K (.tup [.v (.bool false)]) H)
  (λ_ _ _=>NZ (λe rest=>Og H s (.iter rest (some e)) λH'=>K (.tup [.v (.bool true),ofV e.1,e.2]) H') l []) l
 |_=>none
def B3W (x:Row) (K:Value×AV→Al):Al:=match x with| .iter _ (some p)=>K p|_=>none
def A6U (it:AV) (H:Hp) (K:AV→Al):Al:=
 match it with
 | .it s=>Kj H s λx=>B3W x λp=>K (.tup [ofV p.1,p.2])
 |_=>none
theorem B7O:∀{a b:List UInt8},Wg.eqbL a b=true→a=b:=by
 intro a
 induction a with
 |nil=>intro b h;cases b<;>simp[Wg.eqbL] at h;rfl
 |cons x a ih=>
  intro b h
  cases b with
  |nil=>simp[Wg.eqbL] at h
  |cons y b=>
   simp only[Wg.eqbL,Jp] at h
   rw[ih h.2,UInt8.toNat_inj.1 (Vm h.1)]
theorem ZT {a b:Value} (h:Wg a b=true):a=b:=by
 unfold Wg at h
 split at h
 ·rename_i x y
  obtain⟨⟨x⟩⟩:=x
  obtain⟨⟨y⟩⟩:=y
  have:=B7O h
  simp at this
  rw[this]
 ·simp only[Jp,decide_eq_true_eq] at h;rw[h.1,h.2]
 ·rw[eq_of_beq h]
 ·rfl
 ·rfl
 ·rfl
 ·rfl
 ·cases h
theorem A09 {f:AV→AV→Bool} (hf:∀a b,f a b=true→a=b):∀{l m:List AV},A2d f l m=true→l=m:=by
 intro l
 induction l with
 |nil=>intro m h;cases m<;>simp[A2d] at h;rfl
 |cons a l ih=>
  intro m h
  cases m with
  |nil=>simp[A2d] at h
  |cons b m=>
   simp only[A2d,Jp] at h
   rw[hf a b h.1,ih h.2]
theorem B8e {f:AV→AV→Bool} (hf:∀a b,f a b=true→a=b):∀{l m:List (Value×AV)},B1Y f l m=true→l=m:=by
 intro l
 induction l with
 |nil=>intro m h;cases m<;>simp[B1Y] at h;rfl
 |cons a l ih=>
  intro m h
  cases m with
  |nil=>simp[B1Y] at h
  |cons b m=>
   simp only[B1Y,Jp] at h
   rw[show a=b from Prod.ext (ZT h.1) (hf _ _ h.2.1),ih h.2.2]
theorem A9j:∀(d:Nat) (a b:AV),aeq d a b=true→a=b:=by
 intro d
 induction d with
 |zero=>
  intro a b h
  cases a<;>cases b<;>simp[aeq] at h
  rw[ZT h]
 |succ d ih=>
  intro a b h
  cases a<;>cases b<;>simp only[aeq] at h<;>first|(cases h;done)|skip
  ·rw[ZT h]
  ·simp only[Jp] at h;rw[Vm h.1,A09 ih h.2]
  ·exact C2g h
  ·rw[A09 ih h]
  ·rw[A09 ih h]
  ·rw[B8e ih h]
theorem A7Z {a b:Al} {r:AV×Hp} (h:YD a b=some r):a=some r∧b=some r:=by
 unfold YD at h
 split at h
 ·split at h
  ·split at h
   ·rename_i hq
    rw[←A9j _ _ _ hq]
    exact⟨h,h⟩
   ·cases h
  ·cases h
 ·cases h
section
variable {r:AV×Hp}
theorem YG (F:Value×AV→List (Value×AV)→Al) (e e':Value×AV) (l pre:List (Value×AV)):NZ F (e::e'::l) pre=YD (F e (pre++e'::l)) (NZ F (e'::l) (pre++[e])):=rfl
theorem A14 (F:Value×AV→List (Value×AV)→Al) (e:Value×AV) (pre:List (Value×AV)):NZ F [e] pre=F e pre:=rfl
theorem A6b {F:Value×AV→List (Value×AV)→Al}:∀(l pre:List (Value×AV)),NZ F l pre=some r→∀(j:Nat) (e:Value×AV),l[j]?=some e→F e (pre++l.eraseIdx j)=some r:=by
 intro l
 induction l with
 |nil=>intro pre h;cases h
 |cons e l ih=>
  intro pre h j e1 he
  cases l with
  |nil=>
   rw[A14] at h
   cases j with
   |zero=>simp at he;subst he;simpa using h
   |succ j=>simp at he
  |cons e' l=>
   rw[YG] at h
   obtain⟨h1,h2⟩:=A7Z h
   cases j with
   |zero=>simp at he;subst he;simpa using h1
   |succ j=>
    have:=ih _ h2 j e1 (by simpa using he)
    simpa using this
variable {P:Program} {G:Gl} {w0:Base} {C:Ctx} {H:Hp} {w:World}
theorem Ext.weak {C':Ctx} {w':World} {O:Nat→Prop} (h:Ext (λ_=>False) C w C' w'):Ext O C w C' w':=
 ⟨h.π,h.F,h.keep,h.B,h.keepB,h.size,λb i hf=>(h.new b i hf).imp id False.elim,λb hf=>(h.newB b hf).imp id False.elim,h.grow⟩
theorem YR {mt kt et:TypeId} {es:List (Value×AV)} {ym:Value} {K:KV} (hu:P.underlying mt=some (.map kt et)) (hr:Rel G w0 C H w) (hm:VRel C w (.imap es) ym) (h:(HE H λs=>K (.it s) ((s,.iter es none)::H))=some r):
 ∃v H' y C' w',K v H'=some r∧(Instr.range mt ym).run P w= .ok y w'∧Jk G w0 C w v H' y C' w':=by
 rw[BX] at h
 cases hm with
 |@imap _ _ _ b clock ms hB hb hl hk hn hc hv=>
  have hal:=Le w (.mapIter (some b) clock #[] clock)
  refine⟨_,_,.pointer (some ⟨w.heap.size,0,none⟩),_,w.alloc (.mapIter (some b) clock #[] clock),h,run_range_map w mt kt et b ms clock hu hb,.it (C.put_n _ _),hr.new_row hal ⟨w.heap.size,some b,clock,#[],clock,C.put_n _ _,World.alloc_heap_new _ _,.inr ⟨b,ms,clock,rfl,rfl,rfl,hB,(hal.block b (hr.finB b hB)).trans hb,?_,?_,trivial⟩⟩,hr.new_ext hal⟩
  ·refine⟨?_,λm hm=> ?_⟩
   ·rw[l20]
    intro i j hi hj hij
    have:=hn i j hij (by simpa using hj)
    have hi':i<ms.size:=by simpa using hi
    have hj':j<ms.size:=by simpa using hj
    simpa [YK,hi',hj'] using this
   ·obtain⟨i,hi,rfl⟩:=List.mem_iff_getElem.1 hm
    have hi':i<ms.size:=by simpa using hi
    have:=hc i hi'
    simpa [YK,hi'] using this
  ·have e1:(ms.toList.filter λe=> !(#[]:Array Nat).contains e.born)=ms.toList:=by simp
   rw[e1]
   refine⟨by simpa using hl,λi p hp=> ?_⟩
   obtain⟨hi,rfl⟩:=l0j.1 hp
   have hi':i<ms.size:=by omega
   have e2:(ms.getD i default)=ms[i]:=by simp[YK,hi']
   refine⟨ms[i],by simp[hi'],?_,?_⟩
   ·have:=hk i hi;rwa[e2] at this
   ·have:=hv i hi
    rw[e2] at this
    exact(this.mono (hr.new_ext (O:= λ_=>True) hal).bare)
def Ctx.fixM (C:Ctx) (b:Nat):Ctx:={C with B:= λk=>C.B k∨k=b}
theorem Rel.freezeM {s b:Nat} {q:Bool} {es:List (Value×AV)} {bo:Option (List Nat×Nat)} (h:Rel G w0 C H w) (hl:Ax H s=some (.map q es bo)) (hp:C.π s=some (some (b,0))):Rel G w0 (C.fixM b) (cut H s) w∧Ext w0.own C w (C.fixM b) w:=by
 have hown:=h.own s _ b 0 hl hp
 have e:Ext w0.own C w (C.fixM b) w:=⟨λ_ _=>rfl,λ_ _ h=>h,λ_ _ _=>rfl,λ_ h=> .inl h,λ_ _=>rfl,λ_ a _ f h=>⟨a,f,h,rfl⟩,λ_ _ h=> .inl h,λk h=>by rcases h with h|h;exact .inl h;exact .inr (h▸hown.1),O8 _⟩
 have hsub:∀t x,Ax (cut H s) t=some x→t≠s∧Ax H t=some x:= λt x hx=>by
  by_cases ht:t=s
  ·subst ht;rw[Ku] at hx;cases hx
  ·rw[NB ht] at hx;exact⟨ht,hx⟩
 refine⟨⟨h.glob.mono e,h.below,λt x hx=>h.lt t x (hsub t x hx).2,λt x hx=>(h.rows t x (hsub t x hx).2).mono e (λ_ _ _=>rfl),?_,?_,h.fin,?_,?_⟩,e⟩
 ·intro t x k o' hx hpk
  have hk:=h.own t x k o' (hsub t x hx).2 hpk
  refine⟨hk.1,hk.2.1,λhB=> ?_⟩
  rcases hB with hB|hB
  ·exact hk.2.2 hB
  ·subst hB
   exact(hsub t x hx).1 (h.sep t s x _ _ _ _ (hsub t x hx).2 hl hpk hp)
 ·intro t t' x x' k o1 o2 hx hx' hpk hpk'
  exact h.sep t t' x x' k o1 o2 (hsub t x hx).2 (hsub t' x' hx').2 hpk hpk'
 ·intro k hB
  rcases hB with hB|hB
  ·exact h.finB k hB
  ·subst hB
   exact(h.rows s _ hl).block (λe=>by cases e) hp
 ·intro k hk
  rw[cut,Ck] at hk
  exact h.nx k hk
theorem A8O {mt kt et:TypeId} {m:AV} {ym:Value} {K:KV} (hu:P.underlying mt=some (.map kt et)) (hr:Rel G w0 C H w) (hm:VRel C w m ym) (h:A1W m H K=some r):
 ∃v H' y C' w',K v H'=some r∧(Instr.range mt ym).run P w= .ok y w'∧Jk G w0 C w v H' y C' w':=by
 unfold A1W at h
 split at h
 ·exact YR hu hr hm h
 ·rw[BX] at h
  have hym:=AL.1 hm
  subst hym
  have hal:=Le w (.mapIter none 0 #[] 0)
  exact⟨_,_,.pointer (some ⟨w.heap.size,0,none⟩),_,w.alloc (.mapIter none 0 #[] 0),h,run_range_nilMap w mt kt et hu,.it (C.put_n _ _),hr.new_row hal ⟨w.heap.size,none,0,#[],0,C.put_n _ _,World.alloc_heap_new _ _,.inl ⟨rfl,rfl,rfl⟩⟩,hr.new_ext hal⟩
 ·rename_i s
  obtain⟨x,hl,h1⟩:=G9 rfl h
  obtain⟨es,bo,rfl,h2⟩:=OK h1
  obtain⟨hc,h3⟩:=Br h2
  obtain⟨b,ms,clock,rfl,hp,hb,hok,he, -⟩:=Yd hr hl hm
  rw[D8] at h3
  obtain⟨hr',e'⟩:=hr.freezeM hl hp
  have hme:VRel (C.fixM b) w (.imap es) (.map (some b)):=by
   refine .imap ms (.inr rfl) hb (by rw[←he.1];simp) (λi hi=> ?_) (λi j hij hj=> ?_) (λi hi=> ?_) (λi hi=> ?_)
   ·obtain⟨m,h4,h5, -⟩:=he.2 i _ (JV hi)
    have h4':ms[i]?=some m:=by simpa using h4
    simp[YK,h4',h5]
   ·have hj':j<ms.size:=by have:=he.1;simp at this;omega
    have hi':i<ms.size:=by omega
    have:=(l20.1 hok.born) i j (by simpa using hi') (by simpa using hj') hij
    simpa [YK,hi',hj'] using this
   ·have hi':i<ms.size:=by have:=he.1;simp at this;omega
    have:=hok.lt ms[i] (by simp)
    simpa [YK,hi'] using this
   ·obtain⟨m,h4, -,h6⟩:=he.2 i _ (JV hi)
    have h4':ms[i]?=some m:=by simpa using h4
    have h7:(ms.getD i default)=m:=by simp[YK,h4']
    rw[h7]
    have h8:=VRel.down (C:=C) (C':=C.bare) rfl rfl 3 _ _ (Hl.1 hc _ (QS hi)) h6
    exact h8.mono e'.bare
  obtain⟨v,H',y,C',w',g1,g2,g3⟩:=YR hu hr' hme h3
  exact⟨v,H',y,C',w',g1,g2,g3.1,g3.2.1,e'.trans g3.2.2⟩
 ·cases h
theorem B1n {l:List MapEntry} (h:l.Pairwise λa b=>a.born≠b.born):∀(j:Nat) (e:MapEntry),l[j]?=some e→l.filter (λx=>decide (x.born≠e.born))=l.eraseIdx j:=by
 induction l with
 |nil=>intro j e he;simp at he
 |cons a l ih=>
  intro j e he
  rw[l2k] at h
  cases j with
  |zero=>
   simp at he
   subst he
   rw[l2h,if_neg (by simp),List.eraseIdx_cons_zero,List.filter_eq_self]
   intro x hx
   have:=h.1 x hx
   simpa using λe=>this e.symm
  |succ j=>
   have he:l[j]?=some e:=by simpa using he
   rw[l2h,if_pos (by have:=h.1 e (l1h he);simpa using this),List.eraseIdx_cons_succ,ih h.2 j e he]
theorem A5U (w:World) (n:Nat) (hn:0<n):∃(j:Nat) (w1:World),j<n∧w1.heap=w.heap∧w1.os=w.os∧w1.tape=w.tape∧w1.output=w.output∧(choose (.mapNext n)).run P w= .ok j w1:=by
 by_cases hf:n≤1
 ·exact⟨0,w,hn,rfl,rfl,rfl,rfl,by simp[choose,Sem.run,Question.forced,hf]⟩
 ·exact⟨_,w.drew,Nat.mod_lt _ hn,rfl,rfl,rfl,rfl,by
   simp only[choose,Sem.run,Question.forced,decide_eq_true_eq,hf,if_false,Question.cut]
   rfl⟩
theorem Below.of_heap {w w1:World} (h:w1.heap=w.heap) (ho:w1.os=w.os) (ht:w1.tape=w.tape) (hp:w1.output=w.output):Below w.heap.size w w1:=
 ⟨ho,ht,hp,by rw[h];exact O8 _,λ_ _=>by rw[h]⟩
theorem A8Q {ty:TypeId} {it:AV} {y:Value} {K:KV} (hr:Rel G w0 C H w) (hv:VRel C w it y) (h:A1X it H K=some r):
 ∃v H' z w',K v H'=some r∧(Instr.next y false ty).run P w= .ok z w'∧Jk G w0 C w v H' z C w':=by
 unfold A1X at h
 split at h
 ·rename_i s
  obtain⟨x,hl,h1⟩:=G9 rfl h
  clear h
  unfold A9W at h1
  split at h1
  ·rename_i l lst0
   cases hv with
   |@it _ _ _ b base hp=>
    obtain⟨b',mo,since,seen,last,g1,g2,g3⟩:=hr.rows s _ hl
    have e':=g1.symm.trans hp
    injection e' with e';injection e' with e';injection e' with e1 e2;subst e1 e2
    have hget:(getObj b').run P w= .ok (.mapIter mo since seen last) w:=by simp[getObj,Sem.run,g2]
    rcases g3 with⟨rfl,rfl,_⟩|⟨m,ms,clock,e4,e5,e6,hB,hm,hok,he,hlast⟩
    ·have h1:K (.tup [.v (.bool false)]) H=some r:=h1
     refine⟨_,_,.tuple #[.bool false],w,h1,?_,Dw.2 ⟨[.bool false],rfl,.cons (.v _) .nil⟩,hr,.refl _ _ _⟩
     simp only[Instr.next]
     rw[C4,hget]
     rfl
    ·have e5:=e5.symm
     have e6:=e6.symm
     subst e4
     subst e5
     subst e6
     have hgm:(getObj m).run P w= .ok (.map ms clock) w:=l2l hm
     have hold:∀x∈ms.toList,x.born<clock:=hok.lt
     have htest:=next_test_false seen ms clock clock hold (O8 _)
     have hf1:((ms.filter λe=> !seen.contains e.born).filter λx=>decide (x.born<clock))=ms.filter λe=> !seen.contains e.born:=by
      rw[Array.filter_eq_self]
      intro x hx
      have:=hold x (by simp at hx⊢;exact hx.1)
      simpa using this
     have hf2:((ms.filter λe=> !seen.contains e.born).filter λx=>decide (x.born≥clock))= #[]:=by
      rw[Array.filter_eq_empty_iff]
      intro x hx
      have:=hold x (by simp at hx⊢;exact hx.1)
      simp
      omega
     obtain⟨L,hL⟩:∃L,L=ms.filter λe=> !seen.contains e.born:=⟨_,rfl⟩
     rw[←hL] at hf1 hf2
     have hLl:L.toList=ms.toList.filter λe=> !seen.contains e.born:=by rw[hL,Array.toList_filter]
     rw[←hLl] at he
     have hpre:∀(res:Result Value),(do
      let x←choose (.mapNext ((if L.isEmpty then #[none] else #[])++L.map some).size)
      match((if L.isEmpty then #[none] else #[])++L.map some)[x]? with
      |some (some e)=>do
       setObj b' (.mapIter (some m) clock (seen.push e.born) clock)
       pure (.tuple #[.bool true,e.key,e.val])
      |some none=>pure (.tuple #[.bool false])
      |none=>stuck "Next: no such candidate" :Sem Value).run P w=res→(Instr.next (.pointer (some ⟨b',0,none⟩)) false ty).run P w=res:=by
      intro res hres
      unfold Instr.next
      simp only
      rw[C4,hget]
      simp only[E3]
      rw[C4,hgm]
      simp only[E3,htest,l0z,if_false,←hL,hf1,hf2,Array.append_empty]
      exact hres
     cases l with
     |nil=>
      have h1:K (.tup [.v (.bool false)]) H=some r:=h1
      have hLe:L= #[]:=by
       have:=he.nil_inv
       exact Array.toList_inj.1 (by simpa using this)
      refine⟨_,_,.tuple #[.bool false],w,h1,hpre _ ?_,Dw.2 ⟨[.bool false],rfl,.cons (.v _) .nil⟩,hr,.refl _ _ _⟩
      subst hLe
      simp[choose,Sem.run,Question.forced]
     |cons e0 l0=>
      have h1:NZ (λe rest=>Og H s (.iter rest (some e)) λH'=>K (.tup [.v (.bool true),ofV e.1,e.2]) H') (e0::l0) []=some r:=h1
      have hlen:L.size=(e0::l0).length:=by have:=he.1;simpa using this
      have hne:L.isEmpty=false:=by simp[Array.isEmpty,hlen]
      obtain⟨j,w1,hj,a1,a2,a3,a4,hch⟩:=A5U (P:=P) w L.size (by rw[hlen];simp)
      have hjl:j<(e0::l0).length:=by rw[←hlen];exact hj
      have hpick:=A6b _ _ h1 j _ (JV hjl)
      simp only[List.nil_append,D8] at hpick
      obtain⟨me,hme,hkey,hval⟩:=he.2 j _ (JV hjl)
      have hLj:L[j]?=some me:=by simpa using hme
      have hb1:w1.heap[b']?=some (.mapIter (some m) clock seen clock):=by rw[a1];exact g2
      have hlt:b'<w1.heap.size:=(l1q.1 hb1).1
      have hbel:=Below.of_heap a1 a2 a3 a4
      have hr1:=hr.of_below hbel
      have ex1:Ext w0.own C w C w1:=hr.ext_below hbel
      have hso:SameObj w1 (w1.putObj b' (.mapIter (some m) clock (seen.push me.born) clock)) b' (.mapIter (some m) clock (seen.push me.born) clock):=SameObj.putObj hlt _
      have hmb:m≠b':= λe=>by subst e;rw[hm] at g2;cases g2
      have hfl:(ms.toList.filter λx=> !(seen.push me.born).contains x.born)=L.toList.eraseIdx j:=by
       rw[←B1n (l:=L.toList) (by rw[hLl];exact hok.born.filter _) j me hme,hLl,List.filter_filter]
       apply List.filter_congr
       intro x _
       rw[Array.contains_push]
       by_cases hx:x.born=me.born<;>simp[hx]
      obtain⟨hr2,ex2⟩:=hr1.set_obj (O:=w0.own) (y:= .iter ((e0::l0).eraseIdx j) (some (e0::l0)[j])) hl hp hso (λarr T fz hc=>by rw[hb1] at hc;cases hc) (λex=>by
       refine⟨b',some m,clock,seen.push me.born,clock,hp,hso.here,.inr ⟨m,ms,clock,rfl,rfl,rfl,hB,(hso.others m hmb).trans (by rw[a1];exact hm),hok,?_,?_⟩⟩
       ·rw[hfl]
        exact(he.mono (ex1.trans ex.weak).bare).eraseIdx j
       ·refine⟨me,?_,Array.back?_push,hkey,hval.mono (ex1.trans ex.weak).bare⟩
        have:=l1h hme
        rw[hLl] at this
        exact(List.mem_filter.1 this).1)
      refine⟨_,_,.tuple #[.bool true,me.key,me.val],_,hpick,hpre _ ?_,Dw.2 ⟨[.bool true,me.key,me.val],rfl,.cons (.v _) (.cons ?_ (.cons ?_ .nil))⟩,hr2,ex1.trans ex2⟩
      ·rw[hne]
       simp only[l0z,if_false,Array.empty_append,Array.size_map]
       rw[C4,hch]
       simp only[E3,Array.getElem?_map,hLj,l0x]
       rw[C4]
       have:(setObj b' (.mapIter (some m) clock (seen.push me.born) clock)).run P w1= .ok () (w1.putObj b' (.mapIter (some m) clock (seen.push me.born) clock)):=by simp[setObj,Sem.run,hb1,World.putObj]
       rw[this]
       rfl
      ·rw[hkey];exact Ww _
      ·exact((hval.up rfl rfl).mono (ex1.trans ex2))
  ·cases h1
 ·cases h
theorem A8W {it:AV} {y:Value} {K:AV→Al} (hr:Rel G w0 C H w) (hv:VRel C w it y) (h:A6U it H K=some r):
 ∃v z,K v=some r∧(Instr.entry y).run P w= .ok z w∧VRel C w v z:=by
 unfold A6U at h
 split at h
 ·rename_i s
  obtain⟨x,hl,h1⟩:=G9 rfl h
  clear h
  unfold B3W at h1
  split at h1
  ·rename_i left p
   cases hv with
   |@it _ _ _ b base hp=>
    obtain⟨b',mo,since,seen,last,g1,g2,g3⟩:=hr.rows s _ hl
    have e':=g1.symm.trans hp
    injection e' with e';injection e' with e';injection e' with e1 e2;subst e1 e2
    have hget:(getObj b').run P w= .ok (.mapIter mo since seen last) w:=by simp[getObj,Sem.run,g2]
    rcases g3 with⟨_,_,e9⟩|⟨m,ms,clock,e4,e5,e6,hB,hm,hok,he,me,k1,k2,k3,k4⟩
    ·cases e9
    ·subst e4
     have hgm:(getObj m).run P w= .ok (.map ms clock) w:=l2l hm
     have hf:ms.find? (·.born==me.born)=some me:=by
      rw[←Array.find?_toList]
      exact find_born me ms.toList (by rw[List.nodup_iff_pairwise_ne,List.pairwise_map];exact hok.born) k1
     refine⟨_,.tuple #[me.key,me.val],h1,?_,Dw.2 ⟨[me.key,me.val],rfl,.cons (by rw[k3];exact Ww _) (.cons (k4.up rfl rfl) .nil)⟩⟩
     simp only[Instr.entry]
     rw[C4,hget]
     simp only[E3,k2]
     rw[C4,hgm]
     simp[e6,hf]
  ·cases h1
 ·cases h
end
end Go.Abs
end
