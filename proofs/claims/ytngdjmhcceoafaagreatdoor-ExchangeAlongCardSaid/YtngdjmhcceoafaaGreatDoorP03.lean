import Derived.Laws.MakeOwn
import Derived.Laws.IdiomRangeMap
import Derived.Lib.UnsafeStr
import Derived.Lib.Builder
import Derived.ScopeJumps
import Derived.Test.YtngdjmhcceoafaaGreatDoorP02
set_option linter.all false
set_option maxHeartbeats 100000000
noncomputable section
namespace Go.Abs
open Go.RowKit
def eMk (e:TypeId) (esz:Nat) (ie:TI) (len cap:AV) (H:Hp) (K:KV):Af:=
 L? len λl=>iN l λn=>L? cap λc=>iN c λm=>GW ie.zero λz=>HI z 0 λk=>
  ck (Nat.beq k esz&&(!Nat.beq esz 0&&(Nat.beq ie.size esz&&(Nat.ble n m&&(Nat.ble (Nat.mul ie.bytes m) 281474976710656&&Nat.ble m 281474976710656)))))
   (Yh n z λcs=>Ig H λs=>K (.sl esz s 0 n) ((s,.cells false e cs)::H))
section
variable {T:Ty} {H:Hp} {r:AV×Hp} {P:Program} {G:Gl} {w0:Base} {C:Ctx} {w:World}
def A77 (N:iP P T) {ty e:TypeId} {esz:Nat} {i ie:TI} {len cap:AV} {y1 y2:Value} {K:KV} (hi:T ty=some i) (hd:i.d= .slice e esz) (u:T e=some ie) (h1:VRel C w len y1) (h2:VRel C w cap y2) (hr:Rel G w0 C H w) (h:eMk e esz ie len cap H K=some r):
 ∃v J y Q O,K v J=some r/\(Instr.makeSlice ty y1 y2).run P w= .ok y O/\Kv G w0 C w v J y Q O:=by
 unfold eMk at h;obtain⟨k1,l,d1,Y⟩:=P0 h;obtain⟨n,b,Z⟩:=Wm Y;obtain⟨k2,c,d2,g3⟩:=P0 Z;obtain⟨m,X,L⟩:=Wm g3;rw[CI,Co] at L;obtain⟨hb,M⟩:=B3 L;rw[Yg,BV] at M;simp only[Kw,pO,X!,iS] at hb;obtain⟨b1,b2,R,b4,V,b6⟩:=hb;subst b X d1 d2;have D:=AL.1 h1;have F:=AL.1 h2;subst D F;obtain⟨hu,hc⟩:=(N ty i hi).elem_slice hd;obtain⟨inf,z,g,x,A,hz,s⟩:=(N e ie u).info;have k:CG C w (Bv ie.zero) z.cells.toList:=OU (t:=e) s;have p:z.cells.size=esz:=by have:=k.1;simp at this;omega
 have aa:ie.bytes*m<=281474976710656:=V;have q:(inf.bytes:Int)*(m:Int)<=281474976710656:=by
  have:((ie.bytes*m:Nat):Int)<=281474976710656:=by omega
  rw[Int.natCast_mul] at this;rw[A];exact this
 have j:=run_make (P:=P) w ty e inf z hu g hz k1 k2 n m (by omega) (by omega) q (by omega);have B:CG C w (Xz n (Bv ie.zero)) ((List.range n).flatMap λ_=>z.cells.toList):=by rw[eT];exact YL k n
 have a:(Xz n (Bv ie.zero)).length=n*esz:=by rw[Xy];congr 1;omega
 have f:(madeCells z.cells (m*esz)).toList.take (n*esz)=(List.range n).flatMap λ_=>z.cells.toList:=by
  have b:=congrArg Array.toList (dY z.cells n);rw[p] at b;simp only[Array.toList_map,Array.toList_range] at b;rw[<-b];simp only[madeCells,Array.toList_map,Array.toList_range,p];rw[<-List.map_take]
  congr 1
  rw[List.take_range,l22 (l28 _ b4)]
 have key:=YI hr (Nq w (.cells (madeCells z.cells (m*esz)) e)) e (cs:=Xz n (Bv ie.zero)) (arr:=madeCells z.cells (m*esz)) (fz:=(0,0)) (World.alloc_heap_new w _) (λi _=>by omega) esz n m b4 (by rw[size_madeCells];exact Mb _) (by rw[size_madeCells,a];exact l28 _ b4) (by rw[a,f];exact B);refine⟨_,_,_,_,_,M,?_,key⟩;rw[j];simp only[kV,x,R]
end
def A1y (e:TypeId) (a:AV) (H:Hp) (K:KV):Af:=
 match a with
 | .v (.string s)=>HI s.data.toList 0 λn=>dJ s.data.toList λcs=>Ig H λr=>K (.sl 1 r 0 n) ((r,.cells false e cs)::H)
 |_=>none
section
variable {H:Hp} {r:AV×Hp} {P:Program} {G:Gl} {w0:Base} {C:Ctx} {w:World}
def B3k (w:World) (e:TypeId) (s:ByteArray):∃(cap:Nat) (arr:Array Value) (w':World),s.size<=cap/\(Conv.stringToBytes e s).run P w= .ok (.slice (some ⟨w.heap.size,0,none⟩) s.size cap) w'/\Below w.heap.size w w'/\
 w'.heap[w.heap.size]?=some (.cells arr e (cap,cap+1))/\arr.size=cap/\arr.toList.take s.size=s.data.toList.map λb=>Value.int .u8 b.toNat:=by
 let q:Question:= .appendCap s.size 0 e
 let c:=q.cut (w.tape w.drawn q)
 have hc:s.size<=c:=by show s.size<=s.size+_;omega
 have hsz:(s.data.map λb=>Value.int .u8 b.toNat).size=s.size:=by rw[Array.size_map];rfl
 have f:(s.data.map λb=>Value.int .u8 b.toNat).toList.length=s.size:=by rw[Array.length_toList];exact hsz
 let arr:Array Value:=(s.data.map λb=>Value.int .u8 b.toNat)++Array.replicate (c-s.size) (.int .u8 0)
 have a:arr.size=c:=by
  show((s.data.map λb=>Value.int .u8 b.toNat)++Array.replicate (c-s.size) (Value.int .u8 0)).size=c;rw[Array.size_append,hsz,Array.size_replicate];omega
 refine⟨c,arr,{w with drawn:=w.drawn+1,heap:=w.heap.push (.cells arr e (c,c+1))},hc,?_,?_,by simp,a,?_⟩
 ·unfold Conv.stringToBytes;rw[Dk,run_choose,C4 (by simp[Question.forced])];simp only[FU];simp only[newRow,Dk,run_newObj,FU,kW,markStringish];have d:World.shape? {heap:=w.heap.push (Obj.cells arr e),tape:=w.tape,drawn:=w.drawn+1,os:=w.os,output:=w.output} w.heap.size=some (e,c):=by
   simp only[World.shape?,Array.getElem?_push_size];rw[a]
  have i:World.freeze {heap:=w.heap.push (Obj.cells arr e),tape:=w.tape,drawn:=w.drawn+1,os:=w.os,output:=w.output} {block:=w.heap.size,off:=c} 1={heap:=w.heap.push (Obj.cells arr e (c,c+1)),tape:=w.tape,drawn:=w.drawn+1,os:=w.os,output:=w.output}:=by
   unfold World.freeze;rw[C4 (by omega)]
   congr 1
   apply Array.ext_getElem?;intro j;rw[l0s];by_cases g:w.heap.size=j
   ·subst g;rw[Dj rfl,Array.getElem?_push_size,Array.getElem?_push_size];rfl
   ·rw[C4 g,l2d,l2d,C4 (λh=>g h.symm),C4 (λh=>g h.symm)]
  rw[run_shape];have m:=d;show(((Result.ok (World.shape? {heap:=w.heap.push (Obj.cells arr e),tape:=w.tape,drawn:=w.drawn+1,os:=w.os,output:=w.output} w.heap.size) _).andThen _).andThen _)=_;rw[d];simp only[FU,run_freeze];exact congrArg (Result.ok _) i
 ·exact⟨rfl,rfl,rfl,by simp,λk n=>by simp[l2d,Nat.ne_of_lt n]⟩
 ·show((s.data.map λb=>Value.int .u8 b.toNat)++Array.replicate (c-s.size) (Value.int .u8 0)).toList.take s.size=_;rw[Array.toList_append,l34 (Nat.le_of_eq f.symm)];rw[W! (Nat.le_of_eq f),Array.toList_map]
def A3N {e:TypeId} {a:AV} {y:Value} {K:KV} (hr:Rel G w0 C H w) (hv:VRel C w a y) (h:A1y e a H K=some r):
 ∃s,y= .string s/\∃v d g j c,K v d=some r/\(Conv.stringToBytes e s).run P w= .ok g c/\Kv G w0 C w v d g j c:=by
 unfold A1y at h;split at h
 ·rename_i s;have p:=AL.1 hv;refine⟨s,p,?_⟩;rw[Co,YQ,BV,JQ] at h;obtain⟨cap,arr,c,h1,h2,k,m,q,n⟩:=B3k (P:=P) w e s;have f:(s.data.toList.map λb=>AV.v (.int .u8 b.toNat)).length=s.size:=by rw[QI];rfl
  have key:=YI hr k e (cs:=s.data.toList.map λb=>AV.v (.int .u8 b.toNat)) m (λi t=>by omega) 1 s.size cap h1 (by omega) (by rw[f];omega) (by
   rw[f,n];have:=Wh (C:=C.sel false) (w:=w) (s.data.toList.map λb=>Value.int .u8 b.toNat);simpa [l1y] using this)
  exact⟨_,_,_,_,_,h,h2,key⟩
 ·cases h
end
section
variable {q:Bool} {C:Ctx} {es:List (Value×AV)} {ms:List MapEntry} {kt:TypeId} {a b k:Value} {p:Value×AV} {w:World}
def gD:Value->Value->Option Bool
 | .string a,.string b=>some (Y? a.data.toList b.data.toList)
 | .int k a,.int c b=>match decide (k=c) with|true=>some (ieq a b)|false=>none
 | .bool a,.bool b=>some (a==b)
 |_,_=>none
def Yx (xs:List Value):List Value->Option Bool:=
 @List.rec Value (λ_=>List Value->Option Bool) (λd=>match d with|[]=>some true|_=>none)
  (λx _ ih d=>match d with
   |[]=>none
   |y::d=>match gD x y with
    |some b=>(match ih d with|some c=>some (b&&c)|none=>none)
    |none=>none) xs
def keq:Value->Value->Option Bool
 | .agg xs,.agg c=>Yx xs.toList c.toList
 |a,b=>gD a b
def fX (k:Value) (es:List (Value×AV)):Nat->Option (Option (Nat×AV)):=
 @List.rec (Value×AV) (λ_=>Nat->Option (Option (Nat×AV))) (λ_=>some none)
  (λp _ ih i=>match keq k p.1 with|some true=>some (some (i,p.2))|some false=>ih (Nat.succ i)|none=>none) es
def dB (k:Value) (p:Value×AV) (es:List (Value×AV)) (i:Nat):fX k (p::es) i=(match keq k p.1 with|some true=>some (some (i,p.2))|some false=>fX k es (i+1)|none=>none):=rfl
def I3 (k:Value) (es:List (Value×AV)) (K:Option (Nat×AV)->Af):Af:=match fX k es 0 with|some x=>K x|none=>none
def mM (cs:List AV):(List Value->Af)->Af:=
 @List.rec AV (λ_=>(List Value->Af)->Af) (λK=>K []) (λa _ ih K=>match a with| .v x=>ih λl=>K (x::l)|_=>none) cs
def LQ (a:AV) (K:Value->Af):Af:=match a with| .v (.string s)=>K (.string s)|_=>none
def Wk (q:IntKind) (a:AV) (K:Value->Af):Af:=match a with| .v (.int c n)=>ck (decide (c=q)) (K (.int c n))|_=>none
def B4h (ks:List LK) (a:AV) (K:Value->Af):Af:=match a with| .agg cs=>mM cs λvs=>ck (fits ks vs) (K (.agg vs.toArray))|_=>none
def QE (P:Program) (kt:TypeId) (k:Value):Prop:=
 (P.underlying kt=some .string/\∃s,k= .string s)\/(∃q n,P.underlying kt=some (.int q)/\k= .int q n)\/(∃ks xs,EqFlat P kt ks/\fits ks xs=true/\k= .agg xs.toArray)
def yC (h:gD a b=some q):(q=true↔a=b)/\∀c:LK,c.fit a=true->c.fit b=true:=by
 cases a<;>cases b<;>simp[gD] at h
 ·subst h;exact⟨by simp,λc d=>by cases c<;>simp[LK.fit] at d⊢⟩
 ·split at h
  ·rename_i e;injection h with h
   have e:_=_:=l2z e;subst e;refine⟨by rw[<-h,Q8];simp,λc d=> ?_⟩;cases c<;>simp[LK.fit] at d⊢
   exact d
  ·cases h
 ·rw[QA] at h;refine⟨?_,λc d=>by cases c<;>simp[LK.fit] at d⊢⟩;rename_i x y;obtain⟨⟨x⟩⟩:=x;obtain⟨⟨y⟩⟩:=y;rw[<-h];simp
def A7t (x:Value) (xs:List Value) (ys:List Value):Yx (x::xs) ys=(match ys with|[]=>none|y::ys=>(match gD x y with|some b=>(match Yx xs ys with|some c=>some (b&&c)|none=>none)|none=>none)):=rfl
def Vh:∀{xs ys:List Value} {q:Bool},Yx xs ys=some q->(q=true↔xs=ys)/\∀ks,fits ks xs=true->fits ks ys=true:=by
 intro xs
 induction xs with
 |nil=>
  intro ys q h;cases ys with
  |nil=>injection h with h;subst h;exact⟨by simp,λ_ h=>h⟩
  |cons y ys=>cases h
 |cons x xs ih=>
  intro ys q h;rw[A7t] at h;cases ys with
  |nil=>cases h
  |cons y ys=>
   simp only at h;cases h1:gD x y with
   |none=>rw[h1] at h;cases h
   |some b=>
    rw[h1] at h;simp only at h;cases h2:Yx xs ys with
    |none=>rw[h2] at h;cases h
    |some c=>
     rw[h2] at h;injection h with h
     obtain⟨e,f1⟩:=yC h1;obtain⟨f,f2⟩:=ih h2;refine⟨by rw[<-h,Kw,e,f,List.cons.injEq],λks d=> ?_⟩;cases ks with
     |nil=>simp[fits] at d
     |cons k ks=>
      simp only[fits,Kw] at d⊢;exact⟨f1 k d.1,f2 ks d.2⟩
def A18 (h:keq a b=some q):q=true↔a=b:=by
 unfold keq at h;split at h
 ·rename_i xs c;rw[(Vh h).1];constructor
  ·intro e;rw[Array.toList_inj.1 e]
  ·intro e;injection e with e;rw[e]
 ·exact(yC h).1
section
variable {P:Program}
def dH {r:AV×Hp}:∀(cs:List AV) (K:List Value->Af),mM cs K=some r->∃vs:List Value,cs=vs.map AV.v/\K vs=some r:=by
 intro cs
 induction cs with
 |nil=>intro K h;exact⟨[],rfl,h⟩
 |cons a cs ih=>
  intro K h;have h:(match(generalizing:=false) a with| .v x=>mM cs λl=>K (x::l)|_=>none)=some r:=h;split at h
  ·obtain⟨vs,e,h2⟩:=ih _ h;exact⟨_::vs,by rw[e];rfl,h2⟩
  ·cases h
def qX {vs:List Value} {y:Value} (h:VRel C w (.agg (vs.map AV.v)) y):y= .agg vs.toArray:=by
 obtain⟨f,rfl,d⟩:=EM.1 h
 congr 1
 congr 1
 apply l0p;intro i;cases c:vs[i]? with
 |none=>
  have:=d.1;simp only[QI] at this;have h1:vs.length<=i:=by simpa using List.getElem?_eq_none_iff.1 c
  exact l1j (by omega)
 |some v=>
  obtain⟨y,e,hv⟩:=d.2 i (.v v) (by rw[wR,c];rfl);rw[e,AL.1 hv]
def vQ:∀{ks:List LK} {xs:List Value} (n:Nat),fits ks xs=true->((xs.zip xs).all λp=>Instr.sameBits n p.1 p.2)=true:=by
 intro ks
 induction ks with
 |nil=>intro xs n h;cases xs<;>simp[fits] at h;rfl
 |cons k ks ih=>
  intro xs n h;cases xs with
  |nil=>simp[fits] at h
  |cons x xs=>
   simp only[fits,Kw] at h;simp only[List.zip_cons_cons,pK,Kw];refine⟨?_,ih n h.2⟩;have h1:=h.1;cases k<;>cases x<;>simp[LK.fit] at h1<;>simp[Instr.sameBits,MapKept.bytes_beq]
def QE.stays (h:QE P kt k) (w:World):(Instr.keyThatStays k k).run P w= .ok k w:=by
 have:Instr.sameBits 10000 k k=true:=by
  rcases h with⟨_,s,rfl⟩|⟨q,n,_,rfl⟩|⟨ks,xs,_,h,rfl⟩
  ·simp[Instr.sameBits,MapKept.bytes_beq]
  ·simp[Instr.sameBits]
  ·have:=vQ 9999 h;show(xs.toArray.size==xs.toArray.size&&(xs.toArray.toList.zip xs.toArray.toList).all λ(x,y)=>Instr.sameBits 9999 x y)=true;simp only[beq_self_eq_true,X'];exact this
 simp[Instr.keyThatStays,this]
theorem QE.check (h:QE P kt k) (em:Bool) (w:World):(Instr.checkKey em 10000 kt k).run P w= .ok () w:=by
 rcases h with⟨c,s,rfl⟩|⟨q,n,c,rfl⟩|⟨ks,xs,he,h,rfl⟩
 ·exact MapKept.run_checkKey c (d:= .string) (by simp[MapKept.IsKey]) em 9999
 ·exact MapKept.run_checkKey c (d:= .int q) (by simp[MapKept.IsKey]) em 9999
 ·exact he.check h em w
def uW (k:Value) (es:List (Value×AV)) (ms:List MapEntry) (c:Nat):Option (Nat×AV)->Option (Nat×Value)->Prop
 |none,r=>r=none/\∀p∈es,p.1≠k
 |some (i,v),r=>∃(j:Nat) (m:MapEntry),i=c+j/\es[j]?=some (k,v)/\ms[j]?=some m/\m.key=k/\r=some (i,m.val)
def LB.cons_inv (h:LB C w (p::es) ms):∃m c,ms=m::c/\m.key=p.1/\VRel C w p.2 m.val/\LB C w es c:=by
 cases ms with
 |nil=>exact absurd h.1 (by simp)
 |cons m ms=>
  obtain⟨f,h1,h2,d⟩:=h.2 0 p rfl;simp at h1;subst h1;exact⟨m,ms,rfl,h2,d,by simpa using h.1,λi x e=>by simpa using h.2 (i+1) x (by simpa using e)⟩
def LB.nil_inv (h:LB C w [] ms):ms=[]:=mL (by simpa using h.1)
theorem uW.step {m:MapEntry} {d:Nat} (c:p.1≠k):∀{x:Option (Nat×AV)} {r:Option (Nat×Value)},uW k es ms (d+1) x r->uW k (p::es) (m::ms) d x r
 |none,r,⟨h1,h2⟩=>⟨h1,λq hq=>by
  rcases Uf.1 hq with rfl|hq
  ·exact c
  ·exact h2 q hq⟩
 |some (i,v),r,⟨j,h,h1,h2,e,f,g⟩=>⟨j+1,h,by omega,by simpa using h2,by simpa using e,f,g⟩
def Z9 {d:TypeDesc} (t:∀v q,keq k v=some q->Instr.sameNow d k v=some q):∀(es:List (Value×AV)) (ms:List MapEntry) (i:Nat) (x:Option (Nat×AV)),LB C w es ms->fX k es i=some x->∃r,Instr.findNow d k ms i=some r/\uW k es ms i x r:=by
 intro es
 induction es with
 |nil=>
  intro ms i x he h;injection h with h
  subst h;rw[he.nil_inv];exact⟨none,rfl,rfl,by simp⟩
 |cons p es ih=>
  intro ms i x he h;obtain⟨m,n,rfl,g,hv,f⟩:=he.cons_inv;rw[dB] at h;cases hq:keq k p.1 with
  |none=>rw[hq] at h;cases h
  |some q=>
   rw[hq] at h;have s:=t _ _ hq;have c:=A18 hq;cases q with
   |true=>
    injection h with h
    subst h;have:k=p.1:=c.1 rfl;refine⟨some (i,m.val),by simp[Instr.findNow,g,s],0,m,rfl,by rw[this];rfl,rfl,by rw[g,this],rfl⟩
   |false=>
    obtain⟨r,h1,h2⟩:=ih n (i+1) x f h;have j:p.1≠k:= λe=>by have:=c.2 e.symm;cases this
    exact⟨r,by simp[Instr.findNow,g,s,h1],h2.step j⟩
def lK {ks:List LK} (B:EqFlat P kt ks) {xs:List Value} (v:fits ks xs=true):∀(es:List (Value×AV)) (ms:List MapEntry) (i:Nat) (x:Option (Nat×AV)),LB C w es ms->fX (.agg xs.toArray) es i=some x->
 ∃r,(Instr.findAsking kt (.agg xs.toArray) ms i).run P w= .ok r w/\uW (.agg xs.toArray) es ms i x r:=by
 intro es
 induction es with
 |nil=>
  intro ms i x he h;injection h with h
  subst h;rw[he.nil_inv];exact⟨none,rfl,rfl,by simp⟩
 |cons p es ih=>
  intro ms i x he h;obtain⟨m,n,rfl,t,hv,f⟩:=he.cons_inv;rw[dB] at h;cases hq:keq (.agg xs.toArray) p.1 with
  |none=>rw[hq] at h;cases h
  |some q=>
   rw[hq] at h;have c:=A18 hq;have heq:(Op.equal kt (.agg xs.toArray) m.key).run P w= .ok q w:=by
    rw[t];unfold keq at hq;split at hq
    ·rename_i D s d y;injection d with d
     subst d;have g:=(Vh hq).2 ks (by simpa using v);have:=B.equal v g w;rw[y];have A:s.toList.toArray=s:=by simp
     rw[A] at this;rw[this]
     congr 1
     rw[tG,(Vh hq).1];simp
    ·rename_i h1;cases u:p.1 with
     |agg s=>exact absurd u (h1 _ _ rfl)
     |_=>rw[u] at hq;simp[gD] at hq
   cases q with
   |true=>
    injection h with h
    subst h;have:_=p.1:=c.1 rfl;refine⟨some (i,m.val),by simp[Instr.findAsking,heq],0,m,rfl,by rw[this];rfl,rfl,by rw[t,this],rfl⟩
   |false=>
    obtain⟨r,h1,h2⟩:=ih n (i+1) x f h;have j:p.1≠_:= λe=>by have:=c.2 e.symm;cases this
    exact⟨r,by simp[Instr.findAsking,heq,h1],h2.step j⟩
def QE.find (t:QE P kt k) {x:Option (Nat×AV)} (he:LB C w es ms) (h:fX k es 0=some x):∃r,(Instr.findKey kt k ms).run P w= .ok r w/\uW k es ms 0 x r:=by
 rcases t with⟨c,s,rfl⟩|⟨q,n,c,rfl⟩|⟨ks,xs,i,g,rfl⟩
 ·obtain⟨r,h1,h2⟩:=Z9 (d:= .string) (λv q hq=>by
   cases v<;>simp[keq,gD] at hq
   rename_i u;simp only[Instr.sameNow];rw[<-hq,QA]
   congr 1
   obtain⟨⟨s⟩⟩:=s;obtain⟨⟨u⟩⟩:=u;rw[tG,MapKept.bytes_beq];simp) es ms 0 x he h
  exact⟨r,MapKept.run_findKey c h1,h2⟩
 ·obtain⟨r,h1,h2⟩:=Z9 (d:= .int q) (λv B hq=>by
   cases v<;>simp[keq,gD] at hq
   rename_i A m;by_cases e:q=A
   ·subst e;simp at hq;simp only[Instr.sameNow,Dj];rw[<-hq,Q8]
    congr 1
   ·simp[e] at hq) es ms 0 x he h
  exact⟨r,MapKept.run_findKey c h1,h2⟩
 ·obtain⟨r,h1,h2⟩:=lK i g es ms 0 x he h;refine⟨r,?_,h2⟩;have c:∃u,P.underlying kt=some u/\(∀b,Instr.sameNow u (.agg xs.toArray) b=none):=by
   have f:=i.leaves;unfold leaves at f;split at f
   ·simp at f
   ·simp at f
   ·simp at f
   ·rename_i c;exact⟨_,c,λb=>by cases b<;>rfl⟩
   ·rename_i c;exact⟨_,c,λb=>by cases b<;>rfl⟩
   ·cases f
  obtain⟨u,c,y⟩:=c;unfold Instr.findKey;rw[Dk,run_underlying c w];simp only[FU];cases ms with
  |nil=>
   have:=he.1;have e:es=[]:=mL (by simpa using this.symm);obtain⟨j,_⟩:r=none/\True:=by
    subst e;have g:x=none:=(l2c h).symm;subst g;exact⟨h2.1,trivial⟩
   rw[j];rfl
  |cons m ms=>
   have:Instr.findNow u (.agg xs.toArray) (m::ms) 0=none:=by simp[Instr.findNow,y]
   rw[this];exact h1
end
end
section
variable {m v:AV} {ms:Array MapEntry} {es es':List (Value×AV)} {f:MapEntry->MapEntry} {clock:Nat} {bo:Option (List Nat×Nat)} {ie:TI} {k ym yv:Value}
def uM:Option (List Nat×Nat)->Option (List Nat×Nat)
 |some (a,c)=>some (a++[c],c+1)
 |none=>none
def C0e:Option (List Nat×Nat)->Nat->Option (List Nat×Nat)
 |some (a,c),i=>some (a.eraseIdx i,c)
 |none,_=>none
def kS:TD->Option (List Nat×Nat)
 | .int _=>some ([],0)
 | .slice _ _=>some ([],0)
 |_=>none
def kU (x:Row) (K:List (Value×AV)->Option (List Nat×Nat)->Af):Af:=match x with| .map false es bo=>K es bo|_=>none
def L4 (ie:TI) (H:Hp) (K:KV):Af:=Ig H λs=>K (.mp s) ((s,.map false [] (kS ie.d))::H)
def Mh (m:AV) (k:Value) (v:AV) (H:Hp) (K:Hp->Af):Af:=
 match m with
 | .mp r=>IJ H r λx=>kU x λes bo=>I3 k es λf=>match f with
  |none=>LC H r (.map false (es++[(k,v)]) (uM bo)) K
  |some (i,_)=>LC H r (.map false (es.set i (k,v)) bo) K
 |_=>none
def wW (m:AV) (H:Hp) (K:List (Value×AV)->Af):Af:=
 match m with
 | .mp r=>IJ H r λx=>kU x λes _=>K es
 | .imap es=>K es
 | .v (.map none)=>K []
 |_=>none
def YV (ie:TI) (ok:Bool) (m:AV) (k:Value) (H:Hp) (K:AV->Af):Af:=
 wW m H λes=>I3 k es λf=>match f,ok with
  |none,true=>K (.tup [ie.zero,.v (.bool false)])
  |none,false=>K ie.zero
  |some (_,v),true=>K (.tup [v,.v (.bool true)])
  |some (_,v),false=>K v
def hC (m:AV) (k:Value) (H:Hp) (K:Hp->Af):Af:=
 match m with
 | .mp r=>IJ H r λx=>kU x λes bo=>I3 k es λf=>match f with
  |none=>K H
  |some (i,_)=>LC H r (.map false (es.eraseIdx i) (C0e bo i)) K
 |_=>none
def Yq (m:AV) (H:Hp) (K:AV->Af):Af:=wW m H λes=>HI es 0 λn=>K (.v (.int .i64 (.ofNat n)))
def B11 (ie:TI) (m:AV) (k:Value) (H:Hp) (K:KV):Af:=
 match m with
 | .mp r=>IJ H r λx=>kU x λes bo=>match bo with
  |some (a,c)=>I3 k es λf=>match f with
   |none=>LC H r (.map false (es++[(k,ie.zero)]) (some (a++[c],c+1))) λd=>K (.tup [ie.zero,.v (.int .i64 (.ofNat c))]) d
   |some (i,v)=>(match a[i]? with|some b=>K (.tup [v,.v (.int .i64 (.ofNat b))]) H|none=>none)
  |none=>none
 |_=>none
def B10 (m st v:AV) (H:Hp) (K:Hp->Af):Af:=
 match m with
 | .mp r=>IJ H r λx=>kU x λes bo=>L? st λz=>match bo with
  |some (a,c)=>(match a.findIdx? (λb=>ieq (.ofNat b) z) with
   |some i=>(match es[i]? with|some p=>LC H r (.map false (es.set i (p.1,v)) (some (a,c))) K|none=>none)
   |none=>none)
  |none=>none
 |_=>none
section
variable {P:Program} {G:Gl} {w0:Base} {C:Ctx} {H:Hp} {w:World} {r:AV×Hp}
def Ro {x:Row} {K:List (Value×AV)->Option (List Nat×Nat)->Af} (h:kU x K=some r):∃es bo,x= .map false es bo/\K es bo=some r:=by
 unfold kU at h;split at h
 ·exact⟨_,_,rfl,h⟩
 ·cases h
def Tn {K:Option (Nat×AV)->Af} (h:I3 k es K=some r):∃x,fX k es 0=some x/\K x=some r:=by
 unfold I3 at h;split at h
 ·exact⟨_,by assumption,h⟩
 ·cases h
def LB.append {ms ms':List MapEntry} (h:LB C w es ms) (k:LB C w es' ms'):LB C w (es++es') (ms++ms'):=
 ⟨by simp[h.1,k.1],λi p a=>by
  rw[List.getElem?_append] at a⊢;rw[h.1];split at a
  ·rename_i b;rw[Dj b];exact h.2 i p a
  ·rename_i b;rw[C4 b];exact k.2 _ p a⟩
def LB.one {m:MapEntry} (b:m.key=k) (hv:VRel C w v m.val):LB C w [(k,v)] [m]:=
 ⟨rfl,λi p a=>by
  cases i with
  |zero=>simp at a;subst a;exact⟨m,rfl,b,hv⟩
  |succ i=>simp at a⟩
theorem LB.modify {ms:List MapEntry} (h:LB C w es ms) (i:Nat) (d:∀m,ms[i]?=some m->(f m).key=k) (hv:∀m,ms[i]?=some m->VRel C w v (f m).val):LB C w (es.set i (k,v)) (ms.modify i f):=
 ⟨by simp[h.1],λj p a=>by
  rw[List.getElem?_set] at a;rw[List.getElem?_modify];split at a
  ·rename_i e;subst e;split at a
   ·rename_i g;injection a with a
    subst a;have b:i<ms.length:=by rw[h.1];exact g
    have hm:=K9 b;exact⟨f ms[i],by rw[hm];simp,d _ hm,hv _ hm⟩
   ·cases a
  ·rename_i e;obtain⟨m,h1,h2,c⟩:=h.2 j p a;exact⟨m,by rw[h1];simp[e],h2,c⟩⟩
theorem LB.eraseIdx {ms:List MapEntry} (h:LB C w es ms) (i:Nat):LB C w (es.eraseIdx i) (ms.eraseIdx i):=
 ⟨by rw[List.length_eraseIdx,List.length_eraseIdx,h.1],λj p a=>by
  rw[List.getElem?_eraseIdx] at a⊢;split at a
  ·rename_i b;rw[Dj b];exact h.2 j p a
  ·rename_i b;rw[C4 b];exact h.2 _ p a⟩
theorem MOk.push (h:MOk ms clock) (k v:Value):MOk (ms.push {key:=k,val:=v,born:=clock}) (clock+1):=
 ⟨by
  rw[l2t,List.pairwise_append];refine⟨h.born,by simp,λa c b hb=> ?_⟩;simp at hb;subst hb;have:=h.lt a c;show a.born≠clock;omega,λm hm=>by
  rw[l2t,Zs] at hm;rcases hm with hm|hm
  ·have:=h.lt m hm;omega
  ·simp at hm;subst hm;exact Nat.lt_succ_self _⟩
def Yw {ms:List MapEntry} {i:Nat} (a:∀m,(f m).born=m.born):(ms.modify i f).map (·.born)=ms.map (·.born):=by
 apply l0p;intro j;rw[wR,wR,List.getElem?_modify];cases ms[j]? with
 |none=>rfl
 |some m=>by_cases e:i=j<;>simp[e,a]
def A55:MOk ms clock↔(ms.toList.map (·.born)).Pairwise (λa b=>a≠b)/\∀b∈ms.toList.map (·.born),b<clock:=by
 constructor
 ·intro h;exact⟨by rw[List.pairwise_map];exact h.born,λb hb=>by obtain⟨m,hm,rfl⟩:=Ma.1 hb;exact h.lt m hm⟩
 ·rintro⟨h1,h2⟩;exact⟨by rw[List.pairwise_map] at h1;exact h1,λm hm=>h2 _ (Ma.2 ⟨m,hm,rfl⟩)⟩
theorem MOk.modify (h:MOk ms clock) (i:Nat) (a:∀m,(f m).born=m.born):MOk (ms.modify i f) clock:=by
 rw[A55,l2u,Yw a];exact A55.1 h
def Rc (ms:Array MapEntry) (i:Nat):(ms.eraseIdxIfInBounds i).toList=ms.toList.eraseIdx i:=by
 unfold Array.eraseIdxIfInBounds;split
 ·simp only[Array.toList_eraseIdx]
 ·rename_i h;rw[List.eraseIdx_of_length_le (by simpa using h)]
theorem fQ {α β:Type} (f:α->β):∀(l:List α) (i:Nat),(l.eraseIdx i).map f=(l.map f).eraseIdx i
 |[],_=>rfl
 |_::_,0=>rfl
 |a::l,i+1=>by simp[fQ f l i]
def MOk.erase (h:MOk ms clock) (i:Nat):MOk (ms.eraseIdxIfInBounds i) clock:=
 ⟨by rw[Rc];exact h.born.sublist (List.eraseIdx_sublist _ _),λm hm=>by rw[Rc] at hm;exact h.lt m ((List.eraseIdx_sublist _ _).subset hm)⟩
def YD {r:Nat} {bo bo':Option (List Nat×Nat)} {b:Nat} {ms ms':Array MapEntry} {clock clock':Nat} {O:Nat->Prop} (hr:Rel G w0 C H w) (c:Aj H r=some (.map false es bo)) (a:C.π r=some (some (b,0))) (hb:w.heap[b]?=some (.map ms clock))
 (he:LB C w es' ms'.toList) (hm:MOk ms' clock') (d:BOk bo' ms' clock'):(setObj b (.map ms' clock')).run P w= .ok () {w with heap:=w.heap.setIfInBounds b (.map ms' clock')}/\
  Rel G w0 C (upd H r (.map false es' bo')) {w with heap:=w.heap.setIfInBounds b (.map ms' clock')}/\Ext O C w C {w with heap:=w.heap.setIfInBounds b (.map ms' clock')}:=by
 obtain⟨h1,h2⟩:=MapKept.heap_set (w:=w) (o':= .map ms' clock') hb;have g:SameObj w {w with heap:=w.heap.setIfInBounds b (.map ms' clock')} b (.map ms' clock'):=⟨rfl,rfl,rfl,by simp,h1,h2⟩
 refine⟨MapKept.run_setObj_map _ hb,hr.set_obj (O:=O) c a g (λarr T fz hc=>by rw[hb] at hc;cases hc) (λe=>⟨b,ms',clock',a,h1,hm,he.mono e,d⟩)⟩
def ZY {r:Nat} {y:Value} (hr:Rel G w0 C H w) (s:Aj H r=some (.map false es bo)) (hv:VRel C w (.mp r) y):
 ∃b ms clock,y= .map (some b)/\C.π r=some (some (b,0))/\w.heap[b]?=some (.map ms clock)/\MOk ms clock/\LB C w es ms.toList/\BOk bo ms clock:=by
 cases hv with
 |@mp _ _ _ b c d=>
  obtain⟨e,ms,clock,i,j,n,p,q⟩:=hr.rows r _ s;have a:=i.symm.trans d;injection a with a;injection a with a;injection a with g h;subst g h
  exact⟨e,ms,clock,rfl,d,j,n,p,q⟩
def A1B {ty:TypeId} {K:KV} (hr:Rel G w0 C H w) (h:L4 ie H K=some r):∃v a y c b,K v a=some r/\(Instr.makeMap ty none).run P w= .ok y b/\Kv G w0 C w v a y c b:=by
 unfold L4 at h;rw[BV] at h;have hb:=Nq w (.map #[] 0);refine⟨_,_,.map (some w.heap.size),_,w.alloc (.map #[] 0),h,rfl,.mp (C.put_n _ _),hr.new_row hb ⟨w.heap.size,#[],0,C.put_n _ _,World.alloc_heap_new _ _,⟨by simp,by simp⟩,⟨rfl,λi p d=>by simp at d⟩,?_⟩,hr.new_ext hb⟩;unfold kS;split
 ·exact⟨rfl,rfl⟩
 ·exact⟨rfl,rfl⟩
 ·trivial
def tX {mt Y Z:TypeId} {K:Hp->Af} (X:P.underlying mt=some (.map Y Z)) (A:QE P Y k) (hr:Rel G w0 C H w) (hm:VRel C w m ym) (hv:VRel C w v yv) (h:Mh m k v H K=some r):
 ∃N M,K N=some r/\(Instr.mapUpdate mt ym k yv).run P w= .ok () M/\Rel G w0 C N M/\Ext w0.own C w C M:=by
 unfold Mh at h;split at h
 ·rename_i s;obtain⟨x,J,h1⟩:=Iw rfl h;obtain⟨es,bo,rfl,h2⟩:=Ro h1;obtain⟨f,hf,a⟩:=Tn h2;obtain⟨b,ms,clock,rfl,V,hb,t,he,R⟩:=ZY hr J hm;obtain⟨q,hq,d⟩:=A.find he hf;clear h h1 h2;cases f with
  |none=>
   simp only at a;rw[Dh] at a;obtain⟨c,_⟩:=d;subst c;obtain⟨B,D,F⟩:=YD (P:=P) (O:=w0.own) (es':=es++[(k,v)]) (bo':=uM bo) (ms':=ms.push {key:=k,val:=yv,born:=clock}) (clock':=clock+1) hr J V hb (by rw[l2t];exact he.append (.one rfl hv)) (t.push _ _) (by
    cases bo with
    |none=>trivial
    |some p=>obtain⟨c,y⟩:=R;exact⟨by rw[l2t,YN,c,y];rfl,by rw[y]⟩)
   refine⟨_,_,a,?_,D,F⟩;unfold Instr.mapUpdate;rw[Dk,run_underlying X w];simp only[FU];rw[Dk,l2r hb];simp only[FU];rw[Dk,A.check];simp only[FU];rw[Dk,hq];simp only[FU];exact B
  |some p=>
   obtain⟨i,v0⟩:=p;simp only at a;rw[Dh] at a;obtain⟨j,m0,Q,aa,L,g,u⟩:=d;have Q:i=j:=by omega
   subst Q;subst u;have n:ms[i]?=some m0:=by simpa using L
   obtain⟨B,D,F⟩:=YD (P:=P) (O:=w0.own) (es':=es.set i (k,v)) (bo':=bo) (ms':=ms.modify i λe=>{e with key:=k,val:=yv}) (clock':=clock) hr J V hb (by rw[l2u];exact he.modify i (λ_ _=>rfl) (λ_ _=>hv)) (t.modify i (λ_=>rfl)) (by
    cases bo with
    |none=>trivial
    |some p=>obtain⟨c,y⟩:=R;exact⟨by rw[l2u,Yw (f:= λe=>{e with key:=k,val:=yv}) (λ_=>rfl)];exact c,y⟩)
   refine⟨_,_,a,?_,D,F⟩;unfold Instr.mapUpdate;rw[Dk,run_underlying X w];simp only[FU];rw[Dk,l2r hb];simp only[FU];rw[Dk,A.check];simp only[FU];rw[Dk,hq];simp only[FU,n,xZ,l1q,g];rw[Dk,A.stays];simp only[FU];exact B
 ·cases h
def yQ {K:List (Value×AV)->Af} (hr:Rel G w0 C H w) (hm:VRel C w m ym) (h:wW m H K=some r):
 ∃es,K es=some r/\((ym= .map none/\es=[])\/∃b ms clock,ym= .map (some b)/\w.heap[b]?=some (.map ms clock)/\LB C w es ms.toList):=by
 unfold wW at h;split at h
 ·obtain⟨x,c,h1⟩:=Iw rfl h;obtain⟨es,bo,rfl,h2⟩:=Ro h1;obtain⟨b,ms,clock,rfl,g,hb,n,he,s⟩:=ZY hr c hm;exact⟨es,h2,.inr ⟨b,ms,clock,rfl,hb,he⟩⟩
 ·rename_i es;refine⟨es,h,?_⟩;cases hm with
  |@imap _ _ _ b clock ms q hb c j hn hc hv=>
   refine .inr ⟨b,ms,clock,rfl,hb,by simpa using c,λi p g=> ?_⟩;obtain⟨d,rfl⟩:=yB.1 g;have a:i<ms.size:=by omega
   refine⟨ms[i],by simp[a],?_,?_⟩
   ·have:=j i d;simpa [dV,a] using this
   ·have:=hv i d;have e:(ms.getD i default)=ms[i]:=by simp[dV,a]
    rw[e] at this;exact this.up rfl rfl
 ·exact⟨[],h,.inl ⟨AL.1 hm,rfl⟩⟩
 ·cases h
def A78 {mt M F:TypeId} {ok:Bool} {K:AV->Af} (s:P.underlying mt=some (.map M F)) (x:TOk1 P F ie) (d:QE P M k) (hr:Rel G w0 C H w) (hm:VRel C w m ym) (h:YV ie ok m k H K=some r):
 ∃v y,K v=some r/\(Instr.lookup mt ym k ok).run P w= .ok y w/\VRel C w v y:=by
 unfold YV at h;obtain⟨es,h1,u⟩:=yQ hr hm h;obtain⟨f,J,h2⟩:=Tn h1;obtain⟨z,hz,Q⟩:=x.run_zero w;have D:VRel C w ie.zero z:=by rw[<-Q];exact fD z
 clear h h1;have key:∀(ms:List MapEntry) (q:Option (Nat×Value)),uW k es ms 0 f q->LB C w es ms->
  ∃v y0 o,K (if ok=true then .tup [v,.v (.bool o)] else v)=some r/\VRel C w v y0/\((q=none/\y0=z/\o=false)\/∃i,q=some (i,y0)/\o=true):=by
  intro ms q a he;cases f with
  |none=>
   obtain⟨O,_⟩:=a;subst O;exact⟨ie.zero,z,false,by cases ok<;>exact h2,D,.inl ⟨rfl,rfl,rfl⟩⟩
  |some p=>
   obtain⟨i,N⟩:=p;obtain⟨j,m0,V,t,A,L,g⟩:=a;have B:VRel C w N m0.val:=by
    obtain⟨X,c,n,e⟩:=he.2 j _ t;rw[A] at c;injection c with c;subst c;exact e
   exact⟨N,m0.val,true,by cases ok<;>exact h2,B,.inr ⟨i,g,rfl⟩⟩
 have rel:∀{v:AV} {y0:Value} (o:Bool),VRel C w v y0->VRel C w (if ok=true then .tup [v,.v (.bool o)] else v) (if ok=true then .tuple #[y0,.bool o] else y0):=by
  intro v y0 o hv;cases ok with
  |true=>exact DC.2 ⟨[y0,.bool o],rfl,.cons hv (.cons (.v _) .nil)⟩
  |false=>exact hv
 rcases u with⟨rfl,rfl⟩|⟨b,ms,clock,rfl,hb,he⟩
 ·have he:LB C w [] []:=⟨rfl,λi p R=>by simp at R⟩
  obtain⟨q,hq,a⟩:=d.find he J;obtain⟨v,y0,o,c,n,e⟩:=key [] q a he;refine⟨_,_,c,?_,rel o n⟩;rcases e with⟨rfl,rfl,rfl⟩|⟨i,rfl,rfl⟩
  ·simp[Instr.lookup,run_underlying s,d.check,hq,hz,Result.andThen]
  ·simp[Instr.lookup,run_underlying s,d.check,hq,Result.andThen]
 ·obtain⟨q,hq,a⟩:=d.find he J;obtain⟨v,y0,o,c,n,e⟩:=key _ q a he;refine⟨_,_,c,?_,rel o n⟩;rcases e with⟨rfl,rfl,rfl⟩|⟨i,rfl,rfl⟩
  ·simp[Instr.lookup,run_underlying s,l2r hb,d.check,hq,hz,Result.andThen]
  ·simp[Instr.lookup,run_underlying s,l2r hb,d.check,hq,Result.andThen]
def A1G {mt kt et:TypeId} {ts:Array TypeId} {ty:TypeId} {K:Hp->Af} (t:ts[0]?=some mt) (Z:P.underlying mt=some (.map kt et)) (D:QE P kt k) (hr:Rel G w0 C H w) (hm:VRel C w m ym) (h:hC m k H K=some r):
 ∃L c,K L=some r/\(Builtin.delete_ ts ty #[ym,k]).run P w= .ok (.tuple #[]) c/\Rel G w0 C L c/\Ext w0.own C w C c:=by
 unfold hC at h;split at h
 ·rename_i s;obtain⟨x,F,h1⟩:=Iw rfl h;obtain⟨es,bo,rfl,h2⟩:=Ro h1;obtain⟨f,hf,y⟩:=Tn h2;obtain⟨b,ms,clock,rfl,Y,hb,g,he,X⟩:=ZY hr F hm;obtain⟨q,hq,d⟩:=D.find he hf;clear h h1 h2;have a:∀(c:World) (ms':Array MapEntry),(q=none/\ms'=ms\/∃i v,q=some (i,v)/\ms'=ms.eraseIdxIfInBounds i)->(setObj b (.map ms' clock)).run P w= .ok () c->(Builtin.delete_ ts ty #[.map (some b),k]).run P w= .ok (.tuple #[]) c:=by
   intro c ms' J A;rcases J with⟨rfl,rfl⟩|⟨i,v,rfl,rfl⟩
   ·simp[Builtin.delete_,t,run_underlying Z,l2r hb,D.check,hq,A,Result.andThen]
   ·simp[Builtin.delete_,t,run_underlying Z,l2r hb,D.check,hq,A,Result.andThen]
  cases f with
  |none=>
   obtain⟨B,_⟩:=d;subst B;obtain⟨u,N,Q⟩:=YD (P:=P) (O:=w0.own) (es':=es) (bo':=bo) (ms':=ms) (clock':=clock) hr F Y hb he g X;have A:({w with heap:=w.heap.setIfInBounds b (.map ms clock)}:World)=w:=by
    have:w.heap.setIfInBounds b (.map ms clock)=w.heap:=by
     apply Array.ext_getElem?;intro j;by_cases R:b=j
     ·subst R;rw[(MapKept.heap_set hb).1,hb]
     ·exact(MapKept.heap_set hb).2 j (λe=>R e.symm)
    rw[this]
   rw[A] at u;exact⟨H,w,y,a w ms (.inl ⟨rfl,rfl⟩) u,hr,.refl _ _ _⟩
  |some p=>
   obtain⟨i,v0⟩:=p;simp only at y;rw[Dh] at y;obtain⟨j,m0,M,aa,ab,V,n⟩:=d;have M:i=j:=by omega
   subst M;subst n;obtain⟨u,N,Q⟩:=YD (P:=P) (O:=w0.own) (es':=es.eraseIdx i) (bo':=C0e bo i) (ms':=ms.eraseIdxIfInBounds i) (clock':=clock) hr F Y hb (by rw[Rc];exact he.eraseIdx i) (g.erase i) (by
    cases bo with
    |none=>trivial
    |some p=>obtain⟨B,e2⟩:=X;exact⟨by rw[Rc,<-B,fQ],e2⟩)
   exact⟨_,_,y,a _ _ (.inr ⟨i,_,rfl,rfl⟩) u,N,Q⟩
 ·cases h
def A1E {mt g e:TypeId} {ts:Array TypeId} {ty:TypeId} {K:AV->Af} (a:ts[0]?=some mt) (d:P.underlying mt=some (.map g e)) (hr:Rel G w0 C H w) (hm:VRel C w m ym) (h:Yq m H K=some r):
 ∃v y,K v=some r/\(Builtin.len_ ts ty #[ym]).run P w= .ok y w/\VRel C w v y:=by
 unfold Yq at h;obtain⟨es,h1,c⟩:=yQ hr hm h;rw[Co,JQ] at h1;refine⟨_,.int .i64 es.length,h1,?_,.v _⟩;rcases c with⟨rfl,rfl⟩|⟨b,ms,clock,rfl,hb,he⟩
 ·simp[Builtin.len_,a,run_underlying d,goInt]
 ·have:=he.1;simp only[Array.length_toList] at this;simp[Builtin.len_,a,run_underlying d,l2r hb,goInt,this]
def A1F {mt N et:TypeId} {K:KV} (hu:P.underlying mt=some (.map N et)) (V:TOk1 P et ie) (D:QE P N k) (hr:Rel G w0 C H w) (hm:VRel C w m ym) (h:B11 ie m k H K=some r):
 ∃v Z y w',K v Z=some r/\(Instr.mapEntry mt ym k).run P w= .ok y w'/\Kv G w0 C w v Z y C w':=by
 unfold B11 at h;split at h
 ·rename_i s;obtain⟨x,hl,h1⟩:=Iw rfl h;obtain⟨es,bo,rfl,h2⟩:=Ro h1;clear h h1;split at h2
  ·rename_i bs c;obtain⟨f,hf,n⟩:=Tn h2;obtain⟨b,ms,clock,rfl,hp,hb,X,he,ho⟩:=ZY hr hl hm;obtain⟨o1,o2⟩:=ho;subst o2;obtain⟨q,hq,A⟩:=D.find he hf;obtain⟨z,hz,ez⟩:=V.run_zero w;have L:VRel C w ie.zero z:=by rw[<-ez];exact fD z
   clear h2;have aa:∀(g:Option (Nat×Value)->Sem Value) (res:Result Value),(g q).run P w=res->(do
    Instr.checkKey false 10000 N k
    let x<-Instr.findKey N k ms.toList
    g x:Sem Value).run P w=res:=by
    intro g res hg;rw[Dk,D.check];simp only[FU];rw[Dk,hq];exact hg
   cases f with
   |none=>
    simp only at n;rw[Dh] at n;obtain⟨e1,_⟩:=A;subst e1;obtain⟨u,g2,M⟩:=YD (P:=P) (O:=w0.own) (es':=es++[(k,ie.zero)]) (bo':=some (bs++[clock],clock+1)) (ms':=ms.push {key:=k,val:=z,born:=clock}) (clock':=clock+1) hr hl hp hb (by rw[l2t];exact he.append (.one rfl L)) (X.push _ _) ⟨by rw[l2t,YN,o1];rfl,rfl⟩;refine⟨_,_,.tuple #[z,goInt clock],_,n,?_,DC.2 ⟨[z,goInt clock],rfl,.cons (L.mono M) (.cons (.v _) .nil)⟩,g2,M⟩;unfold Instr.mapEntry;rw[Dk,run_underlying hu w];simp only[FU];rw[Dk,l2r hb];simp only[FU];rw[Dk,D.check];simp only[FU];rw[Dk,hq];simp only[FU];rw[Dk,hz];simp only[FU];rw[Dk,u];rfl
   |some p=>
    obtain⟨i,v0⟩:=p;simp only at n;obtain⟨j,m0,e0,R,t,a,J⟩:=A;have e0:i=j:=by omega
    subst e0;subst J;have d:ms[i]?=some m0:=by simpa using t
    have Q:bs[i]?=some m0.born:=by rw[<-o1,wR,t];rfl
    rw[Q] at n;simp only at n;have Y:VRel C w v0 m0.val:=by
     obtain⟨m',u,g2,M⟩:=he.2 i _ R;rw[t] at u;injection u with u;subst u;exact M
    have F:ms.modify i (λe=>{e with key:=k})=ms:=by
     apply Array.ext_getElem?;intro j;rw[l0s];by_cases B:i=j
     ·subst B;rw[d];simp[<-a]
     ·rw[C4 B]
    have hw:({w with heap:=w.heap.setIfInBounds b (.map ms clock)}:World)=w:=by
     have:w.heap.setIfInBounds b (.map ms clock)=w.heap:=by
      apply Array.ext_getElem?;intro j;by_cases B:b=j
      ·subst B;rw[(MapKept.heap_set hb).1,hb]
      ·exact(MapKept.heap_set hb).2 j (λe=>B e.symm)
     rw[this]
    refine⟨_,H,.tuple #[m0.val,goInt m0.born],w,n,?_,DC.2 ⟨[m0.val,goInt m0.born],rfl,.cons Y (.cons (.v _) .nil)⟩,hr,.refl _ _ _⟩;unfold Instr.mapEntry;rw[Dk,run_underlying hu w];simp only[FU];rw[Dk,l2r hb];simp only[FU];rw[Dk,D.check];simp only[FU];rw[Dk,hq];simp only[FU,d,xZ,l1q,a];rw[Dk,D.stays];simp only[FU,F];rw[Dk,MapKept.run_setObj_map _ hb,hw];rfl
  ·cases h2
 ·cases h
def A1A {mt:TypeId} {m st v:AV} {ym ys yv:Value} {K:Hp->Af} (hr:Rel G w0 C H w) (hm:VRel C w m ym) (Y:VRel C w st ys) (hv:VRel C w v yv) (h:B10 m st v H K=some r):
 ∃A y,K A=some r/\(Instr.entryStore mt ym ys yv).run P w= .ok () y/\Rel G w0 C A y/\Ext w0.own C w C y:=by
 unfold B10 at h;split at h
 ·rename_i s;obtain⟨x,D,h1⟩:=Iw rfl h;obtain⟨es,bo,rfl,h2⟩:=Ro h1;obtain⟨q,z,rfl,a⟩:=P0 h2;clear h h1 h2;split at a
  ·rename_i J c;split at a
   ·rename_i i B;split at a
    ·rename_i p X;rw[Dh] at a;obtain⟨b,ms,clock,rfl,t,hb,n,he,V⟩:=ZY hr D hm;obtain⟨F,o2⟩:=V;subst o2;have u:=AL.1 Y;subst u;have d:ms.findIdx? (λe=>(e.born:Int)==z)=some i:=by
      have L:∀p:MapEntry->Bool,ms.findIdx? p=ms.toList.findIdx? p:= λp=>by cases ms;simp
      rw[L];rw[<-F,List.findIdx?_map] at B;rw[<-B]
      congr 1
      funext e
      simp only[Function.comp,Q8];rw[tG];simp
     obtain⟨m1,j,g,Z⟩:=he.2 i p X;obtain⟨M,N,Q⟩:=YD (P:=P) (O:=w0.own) (es':=es.set i (p.1,v)) (bo':=some (J,clock)) (ms':=ms.modify i λe=>{e with val:=yv}) (clock':=clock) hr D t hb (by
      rw[l2u];refine he.modify i (λm hm=> ?_) (λ_ _=>hv);rw[j] at hm;injection hm with hm;subst hm;exact g) (n.modify i (λ_=>rfl)) ⟨by rw[l2u,Yw (f:= λe=>{e with val:=yv}) (λ_=>rfl)];exact F,rfl⟩
     refine⟨_,_,a,?_,N,Q⟩;unfold Instr.entryStore;simp only;rw[Dk,l2r hb];simp only[FU];rw[Dk];have R:(asInt (.int q z)).run P w= .ok z w:=rfl;rw[R];simp only[FU,d];exact M
    ·cases a
   ·cases a
  ·cases a
 ·cases h
end
end
section
variable {f:AV->AV->Bool} {K:KV} {es:List (Value×AV)} {y ym:Value}
def eJ:Value->Value->Bool
 | .string a,.string b=>eqbL a.data.toList b.data.toList
 | .int k a,.int c b=>decide (k=c)&&decide (a=b)
 | .bool a,.bool b=>a==b
 | .slice none 0 0,.slice none 0 0=>true
 | .pointer none,.pointer none=>true
 | .map none,.map none=>true
 | .nilFunc,.nilFunc=>true
 |_,_=>false
where eqbL:List UInt8->List UInt8->Bool
 |[],[]=>true
 |a::l,b::m=>Nat.beq a.toNat b.toNat&&eqbL l m
 |_,_=>false
def uT (f:AV->AV->Bool):List AV->List AV->Bool
 |[],[]=>true
 |a::l,b::m=>f a b&&uT f l m
 |_,_=>false
def fnB:AV->AV->Bool
 | .fn (.func f) [] [],.fn (.func g) [] []=>Nat.beq f g
 |_,_=>false
def B9x {a b:AV} (h:fnB a b=true):a=b:=by
 unfold fnB at h;split at h
 ·rw[YM h]
 ·cases h
def A7w (f:AV->AV->Bool):List (Value×AV)->List (Value×AV)->Bool
 |[],[]=>true
 |a::l,b::m=>eJ a.1 b.1&&(f a.2 b.2&&A7w f l m)
 |_,_=>false
def Vn:Nat->AV->AV->Bool
 |_,.v x,.v y=>eJ x y
 |d+1,.list n cs,.list m es=>Nat.beq n m&&uT (Vn d) cs es
 |d+1,.agg cs,.agg es=>uT (Vn d) cs es
 |d+1,.tup cs,.tup es=>uT (Vn d) cs es
 |d+1,.imap es,.imap a=>A7w (Vn d) es a
 |_+1,.fn f b cs,.fn g a ds=>fnB (.fn f b cs) (.fn g a ds)
 |_,_,_=>false
def A4N (a b:Af):Af:=
 match a with
 |some (v,[])=>(match b with
  |some (u,[])=>(match Vn 6 v u with|true=>some (v,[])|false=>none)
  |_=>none)
 |_=>none
def TM (F:Value×AV->List (Value×AV)->Af) (l:List (Value×AV)):List (Value×AV)->Af:=
 @List.rec (Value×AV) (λ_=>List (Value×AV)->Af) (λ_=>none)
  (λe rest ih pre=>@List.rec (Value×AV) (λ_=>Af) (F e pre) (λ_ _ _=>A4N (F e (pre++rest)) (ih (pre++[e]))) rest) l
def A5c (x:Row) (K:List (Value×AV)->Af):Af:=match x with| .iter l _=>K l|_=>none
def Wz (m:AV) (H:Hp) (K:KV):Af:=
 match m with
 | .imap es=>Ig H λs=>K (.it s) ((s,.iter es none)::H)
 | .v (.map none)=>Ig H λs=>K (.it s) ((s,.iter [] none)::H)
 | .mp s=>IJ H s λx=>kU x λes _=>ck (es.all λp=>iF 3 p.2) (LC H s .gone λa=>Ig a λt=>K (.it t) ((t,.iter es none)::a))
 |_=>none
def Yp (it:AV) (H:Hp) (K:KV):Af:=
 match it with
 | .it s=>IJ H s λx=>A5c x λl=>@List.rec (Value×AV) (λ_=>Af) (K (.tup [.v (.bool false)]) H)
  (λ_ _ _=>TM (λe rest=>LC H s (.iter rest (some e)) λa=>K (.tup [.v (.bool true),sF e.1,e.2]) a) l []) l
 |_=>none
def B0a (x:Row) (K:Value×AV->Af):Af:=match x with| .iter _ (some p)=>K p|_=>none
def Zv (it:AV) (H:Hp) (K:AV->Af):Af:=
 match it with
 | .it s=>IJ H s λx=>B0a x λp=>K (.tup [sF p.1,p.2])
 |_=>none
def B4M:∀{a b:List UInt8},eJ.eqbL a b=true->a=b:=by
 intro a
 induction a with
 |nil=>intro b h;cases b<;>simp[eJ.eqbL] at h;rfl
 |cons x a ih=>
  intro b h;cases b with
  |nil=>simp[eJ.eqbL] at h
  |cons y b=>
   simp only[eJ.eqbL,Kw] at h;rw[ih h.2,UInt8.toNat_inj.1 (YM h.1)]
def oZ {a b:Value} (h:eJ a b=true):a=b:=by
 unfold eJ at h;split at h
 ·rename_i x y;obtain⟨⟨x⟩⟩:=x;obtain⟨⟨y⟩⟩:=y;have:=B4M h;simp at this;rw[this]
 ·simp only[Kw,decide_eq_true_eq] at h;rw[h.1,h.2]
 ·rw[eq_of_beq h]
 ·rfl
 ·rfl
 ·rfl
 ·rfl
 ·cases h
def pZ (c:∀a b,f a b=true->a=b):∀{l m:List AV},uT f l m=true->l=m:=by
 intro l
 induction l with
 |nil=>intro m h;cases m<;>simp[uT] at h;rfl
 |cons a l ih=>
  intro m h;cases m with
  |nil=>simp[uT] at h
  |cons b m=>
   simp only[uT,Kw] at h;rw[c a b h.1,ih h.2]
def B58 (c:∀a b,f a b=true->a=b):∀{l m:List (Value×AV)},A7w f l m=true->l=m:=by
 intro l
 induction l with
 |nil=>intro m h;cases m<;>simp[A7w] at h;rfl
 |cons a l ih=>
  intro m h;cases m with
  |nil=>simp[A7w] at h
  |cons b m=>
   simp only[A7w,Kw] at h;rw[show a=b from Prod.ext (oZ h.1) (c _ _ h.2.1),ih h.2.2]
def A4j:∀(d:Nat) (a b:AV),Vn d a b=true->a=b:=by
 intro d
 induction d with
 |zero=>
  intro a b h;cases a<;>cases b<;>simp[Vn] at h
  rw[oZ h]
 |succ d ih=>
  intro a b h;cases a<;>cases b<;>simp only[Vn] at h<;>first|(cases h;done)|skip
  ·rw[oZ h]
  ·simp only[Kw] at h;rw[YM h.1,pZ ih h.2]
  ·exact B9x h
  ·rw[pZ ih h]
  ·rw[pZ ih h]
  ·rw[B58 ih h]
def A2W {a b:Af} {r:AV×Hp} (h:A4N a b=some r):a=some r/\b=some r:=by
 unfold A4N at h;split at h
 ·split at h
  ·split at h
   ·rename_i hq;rw[<-A4j _ _ _ hq];exact⟨h,h⟩
   ·cases h
  ·cases h
 ·cases h
section
variable {r:AV×Hp}
def mH (F:Value×AV->List (Value×AV)->Af) (e a:Value×AV) (l pre:List (Value×AV)):TM F (e::a::l) pre=A4N (F e (pre++a::l)) (TM F (a::l) (pre++[e])):=rfl
def sC (F:Value×AV->List (Value×AV)->Af) (e:Value×AV) (pre:List (Value×AV)):TM F [e] pre=F e pre:=rfl
def A0Q {F:Value×AV->List (Value×AV)->Af}:∀(l pre:List (Value×AV)),TM F l pre=some r->∀(j:Nat) (e:Value×AV),l[j]?=some e->F e (pre++l.eraseIdx j)=some r:=by
 intro l
 induction l with
 |nil=>intro pre h;cases h
 |cons e l ih=>
  intro pre h j a he;cases l with
  |nil=>
   rw[sC] at h;cases j with
   |zero=>simp at he;subst he;simpa using h
   |succ j=>simp at he
  |cons b l=>
   rw[mH] at h;obtain⟨h1,h2⟩:=A2W h;cases j with
   |zero=>simp at he;subst he;simpa using h1
   |succ j=>
    have:=ih _ h2 j a (by simpa using he);simpa using this
variable {P:Program} {G:Gl} {w0:Base} {C:Ctx} {H:Hp} {w:World}
def Ext.weak {C':Ctx} {w':World} {O:Nat->Prop} (h:Ext (λ_=>False) C w C' w'):Ext O C w C' w':=
 ⟨h.π,h.F,h.keep,h.B,h.keepB,h.size,λb i a=>(h.new b i a).imp id False.elim,λb a=>(h.newB b a).imp id False.elim,h.grow⟩
def mQ {mt A t:TypeId} (N:P.underlying mt=some (.map A t)) (hr:Rel G w0 C H w) (hm:VRel C w (.imap es) ym) (h:(Ig H λs=>K (.it s) ((s,.iter es none)::H))=some r):
 ∃v n y D B,K v n=some r/\(Instr.range mt ym).run P w= .ok y B/\Kv G w0 C w v n y D B:=by
 rw[BV] at h;cases hm with
 |@imap _ _ _ b clock ms u hb L J hn hc hv=>
  have c:=Nq w (.mapIter (some b) clock #[] clock);refine⟨_,_,.pointer (some ⟨w.heap.size,0,none⟩),_,w.alloc (.mapIter (some b) clock #[] clock),h,run_range_map w mt A t b ms clock N hb,.it (C.put_n _ _),hr.new_row c ⟨w.heap.size,some b,clock,#[],clock,C.put_n _ _,World.alloc_heap_new _ _,.inr ⟨b,ms,clock,rfl,rfl,rfl,u,(c.block b (hr.finB b u)).trans hb,?_,?_,trivial⟩⟩,hr.new_ext c⟩
  ·refine⟨?_,λm hm=> ?_⟩
   ·rw[l26];intro i j d x g;have:=hn i j g (by simpa using x);have a:i<ms.size:=by simpa using d
    have k:j<ms.size:=by simpa using x
    simpa [dV,a,k] using this
   ·obtain⟨i,d,rfl⟩:=List.mem_iff_getElem.1 hm;have a:i<ms.size:=by simpa using d
    have:=hc i a;simpa [dV,a] using this
  ·have F:(ms.toList.filter λe=> !(#[]:Array Nat).contains e.born)=ms.toList:=by simp
   rw[F];refine⟨by simpa using L,λi p M=> ?_⟩;obtain⟨d,rfl⟩:=yB.1 M;have a:i<ms.size:=by omega
   have q:(ms.getD i default)=ms[i]:=by simp[dV,a]
   refine⟨ms[i],by simp[a],?_,?_⟩
   ·have:=J i d;rwa[q] at this
   ·have:=hv i d;rw[q] at this;exact(this.mono (hr.new_ext (O:= λ_=>True) c).bare)
def Ctx.fixM (C:Ctx) (b:Nat):Ctx:={C with B:= λk=>C.B k\/k=b}
def Rel.freezeM {s b:Nat} {q:Bool} {F:Option (List Nat×Nat)} (h:Rel G w0 C H w) (p:Aj H s=some (.map q es F)) (u:C.π s=some (some (b,0))):Rel G w0 (C.fixM b) (cut H s) w/\Ext w0.own C w (C.fixM b) w:=by
 have m:=h.own s _ b 0 p u;have e:Ext w0.own C w (C.fixM b) w:=⟨λ_ _=>rfl,λ_ _ h=>h,λ_ _ _=>rfl,λ_ h=> .inl h,λ_ _=>rfl,λ_ a _ f h=>⟨a,f,h,rfl⟩,λ_ _ h=> .inl h,λk h=>by rcases h with h|h;exact .inl h;exact .inr (h▸m.1),Mb _⟩
 have c:∀t x,Aj (cut H s) t=some x->t≠s/\Aj H t=some x:= λt x d=>by
  by_cases v:t=s
  ·subst v;rw[PN] at d;cases d
  ·rw[Tl v] at d;exact⟨v,d⟩
 refine⟨⟨h.glob.mono e,h.below,λt x d=>h.lt t x (c t x d).2,λt x d=>(h.rows t x (c t x d).2).mono e (λ_ _ _=>rfl),?_,?_,h.fin,?_,?_⟩,e⟩
 ·intro t x k J d i;have j:=h.own t x k J (c t x d).2 i;refine⟨j.1,j.2.1,λg=> ?_⟩;rcases g with g|g
  ·exact j.2.2 g
  ·subst g;exact(c t x d).1 (h.sep t s x _ _ _ _ (c t x d).2 p i u)
 ·intro t B x D k L M d A i n;exact h.sep t B x D k L M (c t x d).2 (c B D A).2 i n
 ·intro k g;rcases g with g|g
  ·exact h.finB k g
  ·subst g;exact(h.rows s _ p).block (λe=>by cases e) u
 ·intro k j;rw[cut,BC] at j;exact h.nx k j
def A3O {mt O L:TypeId} {m:AV} (D:P.underlying mt=some (.map O L)) (hr:Rel G w0 C H w) (hm:VRel C w m ym) (h:Wz m H K=some r):
 ∃v n y C' p,K v n=some r/\(Instr.range mt ym).run P w= .ok y p/\Kv G w0 C w v n y C' p:=by
 unfold Wz at h;split at h
 ·exact mQ D hr hm h
 ·rw[BV] at h;have F:=AL.1 hm;subst F;have d:=Nq w (.mapIter none 0 #[] 0);exact⟨_,_,.pointer (some ⟨w.heap.size,0,none⟩),_,w.alloc (.mapIter none 0 #[] 0),h,run_range_nilMap w mt O L D,.it (C.put_n _ _),hr.new_row d ⟨w.heap.size,none,0,#[],0,C.put_n _ _,World.alloc_heap_new _ _,.inl ⟨rfl,rfl,rfl⟩⟩,hr.new_ext d⟩
 ·rename_i s;obtain⟨x,N,h1⟩:=Iw rfl h;obtain⟨es,bo,rfl,h2⟩:=Ro h1;obtain⟨hc,M⟩:=B3 h2;obtain⟨b,ms,clock,rfl,hp,hb,k,he, -⟩:=ZY hr N hm;rw[Dh] at M;obtain⟨B,J⟩:=hr.freezeM N hp;have A:VRel (C.fixM b) w (.imap es) (.map (some b)):=by
   refine .imap ms (.inr rfl) hb (by rw[<-he.1];simp) (λi e=> ?_) (λi j u hj=> ?_) (λi e=> ?_) (λi e=> ?_)
   ·obtain⟨m,t,V, -⟩:=he.2 i _ (K9 e);have c:ms[i]?=some m:=by simpa using t
    simp[dV,c,V]
   ·have g:j<ms.size:=by have:=he.1;simp at this;omega
    have a:i<ms.size:=by omega
    have:=(l26.1 k.born) i j (by simpa using a) (by simpa using g) u;simpa [dV,a,g] using this
   ·have a:i<ms.size:=by have:=he.1;simp at this;omega
    have:=k.lt ms[i] (by simp);simpa [dV,a] using this
   ·obtain⟨m,t, -,X⟩:=he.2 i _ (K9 e);have c:ms[i]?=some m:=by simpa using t
    have Y:(ms.getD i default)=m:=by simp[dV,c]
    rw[Y];have Z:=VRel.down (C:=C) (C':=C.bare) rfl rfl 3 _ _ (GH.1 hc _ (Qe e)) X;exact Z.mono J.bare
  obtain⟨v,n,y,C',p,Q,R,q⟩:=mQ D B A M;exact⟨v,n,y,C',p,Q,R,q.1,q.2.1,J.trans q.2.2⟩
 ·cases h
def A6Z {l:List MapEntry} (h:l.Pairwise λa b=>a.born≠b.born):∀(j:Nat) (e:MapEntry),l[j]?=some e->l.filter (λx=>decide (x.born≠e.born))=l.eraseIdx j:=by
 induction l with
 |nil=>intro j e he;simp at he
 |cons a l ih=>
  intro j e he;rw[l2q] at h;cases j with
  |zero=>
   simp at he;subst he;rw[l2n,C4 (by simp),List.eraseIdx_cons_zero,List.filter_eq_self];intro x c;have:=h.1 x c;simpa using λe=>this e.symm
  |succ j=>
   have he:l[j]?=some e:=by simpa using he
   rw[l2n,Dj (by have:=h.1 e (l1m he);simpa using this),List.eraseIdx_cons_succ,ih h.2 j e he]
def A0w (w:World) (n:Nat) (hn:0<n):∃(j:Nat) (w1:World),j<n/\w1.heap=w.heap/\w1.os=w.os/\w1.tape=w.tape/\w1.output=w.output/\(choose (.mapNext n)).run P w= .ok j w1:=by
 by_cases a:n<=1
 ·exact⟨0,w,hn,rfl,rfl,rfl,rfl,by simp[choose,Sem.run,Question.forced,a]⟩
 ·exact⟨_,w.drew,Nat.mod_lt _ hn,rfl,rfl,rfl,rfl,by
   simp only[choose,Sem.run,Question.forced,decide_eq_true_eq,a,if_false,Question.cut];rfl⟩
def Below.of_heap {w w1:World} (h:w1.heap=w.heap) (a:w1.os=w.os) (c:w1.tape=w.tape) (b:w1.output=w.output):Below w.heap.size w w1:=
 ⟨a,c,b,by rw[h];exact Mb _,λ_ _=>by rw[h]⟩
def A3Q {ty:TypeId} {it:AV} (hr:Rel G w0 C H w) (hv:VRel C w it y) (h:Yp it H K=some r):
 ∃v H' z w',K v H'=some r/\(Instr.next y false ty).run P w= .ok z w'/\Kv G w0 C w v H' z C w':=by
 unfold Yp at h;split at h
 ·rename_i s;obtain⟨x,hl,h1⟩:=Iw rfl h;clear h;unfold A5c at h1;split at h1
  ·rename_i l ap;cases hv with
   |@it _ _ _ b ao hp=>
    obtain⟨c,mo,since,seen,last,g1,g2,g3⟩:=hr.rows s _ hl;have R:=g1.symm.trans hp;injection R with R;injection R with R;injection R with e1 e2;subst e1 e2
    have q:(getObj c).run P w= .ok (.mapIter mo since seen last) w:=by simp[getObj,Sem.run,g2]
    rcases g3 with⟨rfl,rfl,_⟩|⟨m,ms,clock,e4,e5,e6,hB,hm,J,he,ah⟩
    ·have h1:K (.tup [.v (.bool false)]) H=some r:=h1;refine⟨_,_,.tuple #[.bool false],w,h1,?_,DC.2 ⟨[.bool false],rfl,.cons (.v _) .nil⟩,hr,.refl _ _ _⟩;simp only[Instr.next];rw[Dk,q];rfl
    ·have e5:=e5.symm;have e6:=e6.symm;subst e4;subst e5;subst e6;have ag:(getObj m).run P w= .ok (.map ms clock) w:=l2r hm;have g:∀x∈ms.toList,x.born<clock:=J.lt;have N:=next_test_false seen ms clock clock g (Mb _);have Y:((ms.filter λe=> !seen.contains e.born).filter λx=>decide (x.born<clock))=ms.filter λe=> !seen.contains e.born:=by
      rw[Array.filter_eq_self];intro x Q;have:=g x (by simp at Q⊢;exact Q.1);simpa using this
     have Z:((ms.filter λe=> !seen.contains e.born).filter λx=>decide (x.born≥clock))= #[]:=by
      rw[Array.filter_eq_empty_iff];intro x Q;have:=g x (by simp at Q⊢;exact Q.1);simp;omega
     obtain⟨L,hL⟩:∃L,L=ms.filter λe=> !seen.contains e.born:=⟨_,rfl⟩
     rw[<-hL] at Y Z;have n:L.toList=ms.toList.filter λe=> !seen.contains e.born:=by rw[hL,Array.toList_filter]
     rw[<-n] at he;have u:∀(res:Result Value),(do
      let x<-choose (.mapNext ((if L.isEmpty then #[none] else #[])++L.map some).size)
      match((if L.isEmpty then #[none] else #[])++L.map some)[x]? with
      |some (some e)=>do
       setObj c (.mapIter (some m) clock (seen.push e.born) clock)
       pure (.tuple #[.bool true,e.key,e.val])
      |some none=>pure (.tuple #[.bool false])
      |none=>stuck "Next: no such candidate" :Sem Value).run P w=res->(Instr.next (.pointer (some ⟨c,0,none⟩)) false ty).run P w=res:=by
      intro res ab;unfold Instr.next;simp only;rw[Dk,q];simp only[FU];rw[Dk,ag];simp only[FU,N,xY,if_false,<-hL,Y,Z,Array.append_empty];exact ab
     cases l with
     |nil=>
      have h1:K (.tup [.v (.bool false)]) H=some r:=h1;have ac:L= #[]:=by
       have:=he.nil_inv;exact Array.toList_inj.1 (by simpa using this)
      refine⟨_,_,.tuple #[.bool false],w,h1,u _ ?_,DC.2 ⟨[.bool false],rfl,.cons (.v _) .nil⟩,hr,.refl _ _ _⟩;subst ac;simp[choose,Sem.run,Question.forced]
     |cons V l0=>
      have h1:TM (λe rest=>LC H s (.iter rest (some e)) λH'=>K (.tup [.v (.bool true),sF e.1,e.2]) H') (V::l0) []=some r:=h1;have d:L.size=(V::l0).length:=by have:=he.1;simpa using this
      have ak:L.isEmpty=false:=by simp[Array.isEmpty,d]
      obtain⟨j,w1,hj,a1,a2,a3,a4,ae⟩:=A0w (P:=P) w L.size (by rw[d];simp);have aa:j<(V::l0).length:=by rw[<-d];exact hj
      have i:=A0Q _ _ h1 j _ (K9 aa);simp only[l3d,Dh] at i;obtain⟨a,F,t,A⟩:=he.2 j _ (K9 aa);have ad:L[j]?=some a:=by simpa using F
      have D:w1.heap[c]?=some (.mapIter (some m) clock seen clock):=by rw[a1];exact g2
      have ai:c<w1.heap.size:=(l1v.1 D).1;have p:=Below.of_heap a1 a2 a3 a4;have am:=hr.of_below p;have k:Ext w0.own C w C w1:=hr.ext_below p;have M:SameObj w1 (w1.putObj c (.mapIter (some m) clock (seen.push a.born) clock)) c (.mapIter (some m) clock (seen.push a.born) clock):=SameObj.putObj ai _;have aj:m≠c:= λe=>by subst e;rw[hm] at g2;cases g2
      have af:(ms.toList.filter λx=> !(seen.push a.born).contains x.born)=L.toList.eraseIdx j:=by
       rw[<-A6Z (l:=L.toList) (by rw[n];exact J.born.filter _) j a F,n,List.filter_filter];apply List.filter_congr;intro x _;rw[Array.contains_push];by_cases Q:x.born=a.born<;>simp[Q]
      obtain⟨an,X⟩:=am.set_obj (O:=w0.own) (y:= .iter ((V::l0).eraseIdx j) (some (V::l0)[j])) hl hp M (λarr T fz hc=>by rw[D] at hc;cases hc) (λex=>by
       refine⟨c,some m,clock,seen.push a.born,clock,hp,M.here,.inr ⟨m,ms,clock,rfl,rfl,rfl,hB,(M.others m aj).trans (by rw[a1];exact hm),J,?_,?_⟩⟩
       ·rw[af];exact(he.mono (k.trans ex.weak).bare).eraseIdx j
       ·refine⟨a,?_,Array.back?_push,t,A.mono (k.trans ex.weak).bare⟩;have:=l1m F;rw[n] at this;exact(K_.1 this).1)
      refine⟨_,_,.tuple #[.bool true,a.key,a.val],_,i,u _ ?_,DC.2 ⟨[.bool true,a.key,a.val],rfl,.cons (.v _) (.cons ?_ (.cons ?_ .nil))⟩,an,k.trans X⟩
      ·rw[ak];simp only[xY,if_false,Array.empty_append,Array.size_map];rw[Dk,ae];simp only[FU,Array.getElem?_map,ad,xZ];rw[Dk];have:(setObj c (.mapIter (some m) clock (seen.push a.born) clock)).run P w1= .ok () (w1.putObj c (.mapIter (some m) clock (seen.push a.born) clock)):=by simp[setObj,Sem.run,D,World.putObj]
       rw[this];rfl
      ·rw[t];exact fD _
      ·exact((A.up rfl rfl).mono (k.trans X))
  ·cases h1
 ·cases h
def A3W {it:AV} {K:AV->Af} (hr:Rel G w0 C H w) (hv:VRel C w it y) (h:Zv it H K=some r):
 ∃v z,K v=some r/\(Instr.entry y).run P w= .ok z w/\VRel C w v z:=by
 unfold Zv at h;split at h
 ·rename_i s;obtain⟨x,J,h1⟩:=Iw rfl h;clear h;unfold B0a at h1;split at h1
  ·rename_i left p;cases hv with
   |@it _ _ _ b i L=>
    obtain⟨j,O,since,seen,last,A,B,D⟩:=hr.rows s _ J;have c:=A.symm.trans L;injection c with c;injection c with c;injection c with k n;subst k n
    have d:(getObj j).run P w= .ok (.mapIter O since seen last) w:=by simp[getObj,Sem.run,B]
    rcases D with⟨_,_,u⟩|⟨m,ms,clock,q,Q,t,R,hm,g,he,a,k1,M,k3,N⟩
    ·cases u
    ·subst q;have e:(getObj m).run P w= .ok (.map ms clock) w:=l2r hm;have F:ms.find? (·.born==a.born)=some a:=by
      rw[<-Array.find?_toList];exact find_born a ms.toList (by rw[List.nodup_iff_pairwise_ne,List.pairwise_map];exact g.born) k1
     refine⟨_,.tuple #[a.key,a.val],h1,?_,DC.2 ⟨[a.key,a.val],rfl,.cons (by rw[k3];exact fD _) (.cons (N.up rfl rfl) .nil)⟩⟩;simp only[Instr.entry];rw[Dk,d];simp only[FU,M];rw[Dk,e];simp[t,F]
  ·cases h1
 ·cases h
end
end
section
variable {dst:AV} {K:AV->Af} {op:BinOp} {q:Bool} {b base esz n s:Nat} {fz:Nat×Nat} {i ie:TI} {y:Value}
section
variable {P:Program} {G:Gl} {w0:Base} {C:Ctx} {H:Hp} {w:World} {r:AV×Hp}
def Rel.set_row (h:Rel G w0 C H w) {x y:Row} (p:Aj H s=some x) (B:SR C w s y):Rel G w0 C (upd H s y) w:=by
 have key:∀t z,Aj (upd H s y) t=some z->(t=s/\z=y)\/(t≠s/\Aj H t=some z):= λt z hz=>by
  by_cases d:t=s
  ·subst d;rw[BB p] at hz;exact .inl ⟨rfl,(fR hz).1.symm⟩
  ·rw[Ag d] at hz;exact .inr ⟨d,hz⟩
 have c:∀t z,Aj (upd H s y) t=some z->∃e,Aj H t=some e:= λt z hz=>by
  rcases key t z hz with⟨rfl,_⟩|⟨_,h⟩
  ·exact⟨x,p⟩
  ·exact⟨z,h⟩
 refine⟨h.glob,h.below,?_,?_,?_,?_,h.fin,h.finB,λk f=>h.nx k (by rw[BC] at f;exact f)⟩
 ·intro t z hz;obtain⟨e,a⟩:=c t z hz;exact h.lt t e a
 ·intro t z hz;rcases key t z hz with⟨rfl,rfl⟩|⟨_,hz⟩
  ·exact B
  ·exact h.rows t z hz
 ·intro t z k m hz f;obtain⟨e,a⟩:=c t z hz;exact h.own t e k m a f
 ·intro t v z e k m D hz a f g;obtain⟨u,A⟩:=c t z hz;obtain⟨F,j⟩:=c v e a;exact h.sep t v u F k m D A j f g
theorem Laid.take {T:TypeId} {cs:List AV} {arr:Array Value} (h:Laid C w s q T cs b base arr fz) (n:Nat):Laid C w s false T (cs.take n) b base arr fz:=
 ⟨h.at_,h.block,h.free,by have:=h.fits;rw[l0h];omega,by
  have:=h.vals.unsel.take n;rw[List.take_take] at this;rw[l0h];exact this,λh=>by cases h⟩
theorem SR.take {T:TypeId} {cs:List AV} (h:SR C w s (.cells q T cs)) (n:Nat):SR C w s (.cells false T (cs.take n)):=by
 rcases h with⟨rfl,h⟩|⟨b,base,arr,fz,h⟩
 ·exact .inl ⟨by simp,h⟩
 ·exact .inr ⟨b,base,arr,fz,h.take n⟩
def A4K (s:AV) (H:Hp) (K:Hp->Af):Af:=
 match s with
 | .sl sz r o n=>IJ H r λx=>JV x λE cs=>HI cs 0 λcl=>@Bool.rec (λ_=>Af) (SB (Nat.add o (Nat.mul n sz)) cs λa=>LC H r (.cells false E a) K) (K H) (Nat.beq (Nat.add o (Nat.mul n sz)) cl)
 |_=>K H
def rF {s:AV} {K:Hp->Af} (h:A4K s H K=some r):∃a,K a=some r/\Ao a=Ao H/\∀{G:Gl} {w0:Base} {C:Ctx} {w:World},Rel G w0 C H w->Rel G w0 C a w:=by
 unfold A4K at h;split at h
 ·rename_i sz r1 o n;obtain⟨q,E,cs,c,h1⟩:=Kz h;rw[Co,JQ] at h1;cases hb:Nat.beq (Nat.add o (Nat.mul n sz)) cs.length
  ·rw[hb] at h1;simp only[Oh,Dh] at h1;exact⟨_,h1,BC _ _ _,λhr=>hr.set_row c ((hr.rows _ _ c).take _)⟩
  ·rw[hb] at h1;exact⟨H,h1,rfl,λhr=>hr⟩
 ·exact⟨H,h,rfl,λhr=>hr⟩
def E9 (e:TypeId) (esz:Nat) (ie i2:TI) (s x:AV) (H:Hp) (K:KV):Af:=A4K s H λa=>Ve e esz ie i2 s x a K
def yZ (e:TypeId) (esz:Nat) (ie i2:TI) (s x:AV) (H:Hp) (K:KV):Af:=match x with
 | .sl sz r o n=>Ta H (.sl sz r o n) λm c=>A4K s H λa=>Ve e esz ie i2 s (.list m c) a K
 |x=>E9 e esz ie i2 s x H K
def A1I (esz:Nat) (dst src:AV) (H:Hp) (K:KV):Af:=
 Ta H src λm c=>HI c 0 λk=>match dst with
  | .sl sz r o n=>ck (Nat.beq k (Nat.mul m esz)&&(Nat.beq sz esz&&(Nat.blt 0 n&&(Nat.ble m n&&(Nu c&&Tf esz src))))) (IJ H r λx=>eS x λq E cs=>El o c cs λa=>LC H r (.cells q E a) λd=>K (.v (.int .i64 (.ofNat m))) d)
  |_=>none
def uA (esz:Nat) (ie:TI) (dst:AV) (H:Hp) (K:Hp->Af):Af:=
 match dst with
 | .v (.slice none 0 0)=>K H
 | .sl _ _ _ 0=>K H
 | .sl sz r o n=>GW ie.zero λz=>HI z 0 λk=>ck (Nat.beq k esz&&(Nat.beq sz esz&&Nu z)) (Yh n z λc=>IJ H r λx=>eS x λq E cs=>El o c cs λa=>LC H r (.cells q E a) K)
 |_=>none
def wX (n esz:Nat) (x:AV) (c a:Option AV) (H:Hp) (K:AV->Af):Af:=
 match x with
 | .ptr s p k=>IJ H s λy=>JV y λ_ cs=>HI cs 0 λcl=>ck (Nat.ble (Nat.add (Nat.add p k) (Nat.mul n esz)) cl)
  (Xh c 0 λl=>Xh a n λh=>ck (Nat.ble l h&&Nat.ble h n) (fN (Nat.add (Nat.add p k) (Nat.mul l esz)) λd=>fN (Nat.sub h l) λm=>K (.sl esz s d m)))
 |_=>none
def Xg (ks:List LK) (op:BinOp) (a b:AV) (K:AV->Af):Af:=
 match a,b with
 | .agg c,.agg d=>mM c λxs=>mM d λe=>ck (fits ks xs) (match Yx xs e,op with
  |some q,.eql=>bB q K
  |some q,.neq=>bB (!q) K
  |_,_=>none)
 |_,_=>none
def Rj (i ie:TI) (op:BinOp) (a b:AV) (K:AV->Af):Af:=
 match a,b with
 | .ptr r p k,.ptr e d c=>ck (Nat.beq r e&&(Nat.beq (Nat.add p k) (Nat.add d c)&& !Nat.beq ie.size 0)) (match op with| .eql=>K (.v (.bool true))| .neq=>K (.v (.bool false))|_=>none)
 |a,b=>Ap i op a b K
def xN {s o:Nat} {E:TypeId} {cs ys:List AV} {arr:Array Value} {vs:List Value} (hr:Rel G w0 C H w) (h:Aj H s=some (.cells q E cs)) (f:Laid C w s q E cs b base arr fz) (a:o+ys.length<=cs.length) (hv:CG C w ys vs) (c:ys.all AV.one=true):
 ∃e,(storeCells ⟨b,base+o,none⟩ vs 0).run P w= .ok () e/\Rel G w0 C (upd H s (.cells q E (splice cs o ys))) e/\Ext w0.own C w C e:=by
 have k:=f.fits;have g:vs.length=ys.length:=hv.1;obtain⟨e,d,j⟩:=MJ (P:=P) vs w arr (base+o) 0 f.block f.free (by omega) (A11 hv c);have:=hr.store (O:=w0.own) h f a hv (by simpa using j);exact⟨e,d,this.1,this.2⟩
def A2T {sz s o n:Nat} {E:TypeId} {cs:List AV} (hr:Rel G w0 C H w) (A:Aj H s=some (.cells q E cs)) (hv:VRel C w (.sl sz s o n) y) (hn:n≠0):∃b base arr fz cap,y= .slice (some ⟨b,base+o,none⟩) n cap/\n<=cap/\Laid C w s q E cs b base arr fz/\base+o+cap*sz<=arr.size:=by
 cases hv with
 |slz=>exact absurd rfl hn
 |@sl _ _ _ _ _ _ b base cap arr T fz j e hb hsz=>
  rcases hr.rows s _ A with⟨_,x⟩|⟨k,a,c,g,h⟩
  ·rw[x] at j;cases j
  ·have d:=h.at_.symm.trans j;injection d with d;injection d with d;injection d with m p;subst m p
   have f:=h.block.symm.trans hb;injection f with f;injection f with t u v
   subst t u v;exact⟨k,a,c,g,cap,rfl,e,h,hsz⟩
def A3X {T:Ty} (X:iP P T) {B ty e:TypeId} {ts:Array TypeId} {dst src:AV} {y z:Value} {K:KV} (L:ts[0]?=some B) (Z:T B=some i) (Y:i.d= .slice e esz) (J:esz≠0) (hr:Rel G w0 C H w) (hv:VRel C w dst y) (hs:VRel C w src z) (h:A1I esz dst src H K=some r):
 ∃v N u A,K v N=some r/\(Builtin.copy_ ts ty #[y,z]).run P w= .ok u A/\Kv G w0 C w v N u C A:=by
 unfold A1I at h;obtain⟨m,ys,q0,x,h1⟩:=YS h;rw[Co,JQ] at h1;split at h1
 ·rename_i sz s o n;obtain⟨hc,h2⟩:=B3 h1;simp only[Kw,pO,Wj,iS,FI] at hc;obtain⟨c1,c2,c3,c4,c5,c6⟩:=hc;obtain⟨q,E,cs,R,V⟩:=UE h2;obtain⟨g,O⟩:=Oi _ _ _ _ _ V;rw[Dh] at O;obtain⟨b,base,arr,fz,cap,rfl,Q,D,hsz⟩:=A2T hr R hv (by omega);obtain⟨j,vs,M,a⟩:=WL (P:=P) (esz:=esz) hr hs x c1 (λq hq=>by subst hq;exact YM c6);obtain⟨A,t,p,F⟩:=xN (P:=P) hr R D g M c5;obtain⟨hu,f⟩:=(X B i Z).elem_slice Y;have c:(sizeOf e).run P w= .ok esz w:=by rw[<-f];exact BU w (by rw[f];exact J)
  refine⟨_,_,goInt m,A,O,?_,.v _,p,F⟩;unfold Builtin.copy_;simp only[L,l15,l21,l0r];rw[Dk,run_underlying hu w];simp only[FU];rw[Dk,j];simp only[FU];rw[Dk,c];simp only[FU];have k:Nat.min m n=m:=l22 c4;rw[Dk,k,a w (λ_ _=>rfl)];simp only[FU];rw[Dk,t];rfl
 ·cases h1
def A3Z {T:Ty} (Q:iP P T) {v ty e:TypeId} {ts:Array TypeId} {K:Hp->Af} (p:ts[0]?=some v) (hi:T v=some i) (hd:i.d= .slice e esz) (B:T e=some ie) (hr:Rel G w0 C H w) (hv:VRel C w dst y) (h:uA esz ie dst H K=some r):
 ∃N u,K N=some r/\(Builtin.clear_ ts ty #[y]).run P w= .ok (.tuple #[]) u/\Rel G w0 C N u/\Ext w0.own C w C u:=by
 obtain⟨X,aa⟩:=(Q v i hi).elem_slice hd;have hz:∀{a:Option Addr} {c:Nat},(Builtin.clear_ ts ty #[.slice a 0 c]).run P w= .ok (.tuple #[]) w:=by
  intro a c;unfold Builtin.clear_;simp only[p,l15,l21];rw[Dk,run_underlying X w];simp only[FU];cases a<;>rfl
 unfold uA at h;split at h
 ·obtain rfl:=AL.1 hv;exact⟨H,w,h,hz,hr,.refl _ _ _⟩
 ·cases hv with
  |slz=>exact⟨H,w,h,hz,hr,.refl _ _ _⟩
  |sl=>exact⟨H,w,h,hz,hr,.refl _ _ _⟩
 ·rename_i sz s o n D;rw[CI,Co,JQ] at h;obtain⟨hc,h2⟩:=B3 h;simp only[Kw,pO,FI] at hc;obtain⟨c1,c2,c3⟩:=hc;rw[Yg] at h2;obtain⟨q,E,cs,V,Z⟩:=UE h2;obtain⟨f,O⟩:=Oi _ _ _ _ _ Z;rw[Dh] at O;have hn:n≠0:= λe=>D e;obtain⟨b,base,arr,fz,cap,rfl,R,x,hsz⟩:=A2T hr V hv hn;obtain⟨z,L,Y⟩:=(Q e ie B).run_zero w;have F:CG C w (Bv ie.zero) z.cells.toList:=OU (t:=e) Y;have M:CG C w (Xz n (Bv ie.zero)) ((List.range n).flatMap λ_=>z.cells.toList):=by rw[eT];exact YL F n
  have g:(Xz n (Bv ie.zero)).all AV.one=true:=by
   rw[eT,List.all_flatMap];simp[c3]
  obtain⟨u,m,j,A⟩:=xN (P:=P) hr V x f M g;refine⟨_,u,O,?_,j,A⟩;obtain⟨n,rfl⟩:∃k,n=k+1:=⟨n-1,by omega⟩
  unfold Builtin.clear_;simp only[p,l15,l21];rw[Dk,run_underlying X w];simp only[FU];have J:(Builtin.zeroCells z.cells (n+1)).toList=(List.range (n+1)).flatMap λ_=>z.cells.toList:=congrArg Array.toList (dY z.cells (n+1));rw[Dk,L];simp only[FU,J];rw[Dk,m];rfl
 ·cases h
def A3L {T:Ty} (hT:iP P T) {ty e:TypeId} {x:AV} {lo hi:Option AV} {yl Y:Option Value} (R:T ty=some i) (hd:i.d= .array n e esz) (X:esz≠0) (hr:Rel G w0 C H w) (hv:VRel C w x y) (V:V' C w lo yl) (Q:V' C w hi Y) (h:wX n esz x lo hi H K=some r):
 ∃v u,K v=some r/\(Instr.sliceAt ty y yl Y none).run P w= .ok u w/\VRel C w v u:=by
 unfold wX at h;split at h
 ·rename_i s p k;obtain⟨q,E,cs,hl,h1⟩:=Kz h;rw[Co,JQ] at h1;obtain⟨hc,h2⟩:=B3 h1;obtain⟨l,M,h3⟩:=Jo h2;obtain⟨m,N,h4⟩:=Jo h3;obtain⟨hb,Z⟩:=B3 h4;rw[DT,DT] at Z;simp only[Kw,iS] at hb;rw[iS] at hc;have hc:p+k+n*esz<=cs.length:=hc;obtain⟨hu,t⟩:=(hT ty i R).elem_array hd;have f:(sizeOf e).run P w= .ok esz w:=by rw[<-t];exact BU w (by rw[t];exact X)
  have O:=SM (P:=P) (isS:=false) V Q (mx:=none) (ym:=none) trivial (Mb n) M N (x:=n) (by simp[Za]) (by omega) (by simp);cases hv with
  |@ptr _ _ _ _ _ b base J=>
   rcases hr.rows s _ hl with⟨_,h6⟩|⟨L,a,g,aa,c⟩
   ·have:=h6.symm.trans J;cases this
   ·have j:=c.at_.symm.trans J;injection j with j;injection j with j;injection j with e1 e2;subst e1 e2
    have hf:=c.fits;have F:(Instr.sliceAt ty (.pointer (some ⟨L,a+(p+k),none⟩)) yl Y none).run P w= .ok (.slice (some (if n=l then⟨L,a+(p+k),none⟩ else⟨L,a+(p+k)+l*esz,none⟩)) (m-l) (n-l)) w:=by
     unfold Instr.sliceAt;rw[Dk,run_underlying hu w];simp only[FU,Instr.sureAddr];rw[Dk,kW];simp only[FU];rw[Dk,O];simp only[FU,kV];rw[Dk,f];simp only[FU,kW,JT]
    refine⟨_,_,Z,F,?_⟩;by_cases B:n=l
    ·have A:m-l=0:=by omega
     have D:n-l=0:=by omega
     rw[Dj B,A,D];have:Nat.sub m l=0:=A;rw[this];exact .slz (by rw[J];simp)
    ·rw[C4 B];have e4:a+(p+k)+l*esz=a+(Nat.add (Nat.add p k) (Nat.mul l esz)):=by show _=a+(p+k+l*esz);omega
     rw[e4];refine .sl J (Nat.sub_le_sub_right hb.2 l) c.block ?_;show a+(p+k+l*esz)+(n-l)*esz<=g.size;have:l*esz+(n-l)*esz=n*esz:=by rw[<-W_];congr 1;omega
     omega
 ·cases h
def A3V {t:TypeId} {ks:List LK} {a b:AV} {y z:Value} (x A:Operand) (m:EqFlat P t ks) (B:VRel C w a y) (hb:VRel C w b z) (h:Xg ks op a b K=some r):
 ∃v u,K v=some r/\(do eqGuard op t x A y z;binOp op t y z).run P w= .ok u w/\VRel C w v u:=by
 unfold Xg at h;split at h
 ·rename_i F J;obtain⟨xs,rfl,h1⟩:=dH _ _ h;obtain⟨d,rfl,h2⟩:=dH _ _ h1;obtain⟨e,c⟩:=B3 h2;have D:=qX B;have hz:=qX hb;subst D hz;have p:=run_eqGuard_agg (P:=P) w op t x A xs.toArray d.toArray m.guard;split at c
  ·rename_i q hq;rw[OC] at c;obtain⟨f,g⟩:=Vh hq;refine⟨_,.bool q,c,?_,.v _⟩;rw[Dk,p];simp only[FU];rw[run_eql_struct];have:=m.equal e (g ks e) w;have j:decide (xs=d)=q:=by rw[tG,f];simp
   rw[j] at this;have k:(Op.equalIn 10000 t (.agg xs.toArray) (.agg d.toArray)).run P w= .ok q w:=this;rw[k];rfl
  ·rename_i q hq;rw[OC] at c;obtain⟨f,g⟩:=Vh hq;refine⟨_,.bool (!q),c,?_,.v _⟩;rw[Dk,p];simp only[FU];rw[run_neq_struct];have:=m.equal e (g ks e) w;have j:decide (xs=d)=q:=by rw[tG,f];simp
   rw[j] at this;have k:(Op.equalIn 10000 t (.agg xs.toArray) (.agg d.toArray)).run P w= .ok q w:=this;rw[k];rfl
  ·cases c
 ·cases h
def A3U {T:Ty} (j:iP P T) {ty e:TypeId} {a b:AV} {y z:Value} (D F:Operand) (M:T ty=some i) (R:i.d= .pointer e) (m:T e=some ie) (J:VRel C w a y) (hb:VRel C w b z) (h:Rj i ie op a b K=some r):
 ∃v u,K v=some r/\(do eqGuard op ty D F y z;binOp op ty y z).run P w= .ok u w/\VRel C w v u:=by
 unfold Rj at h;split at h
 ·rename_i s p k s' p' Z;obtain⟨hc,h1⟩:=B3 h;simp only[Kw,pO,X!] at hc;obtain⟨c1,c2,c3⟩:=hc;subst c1;have c2:p+k=p'+Z:=c2;have B:y=z/\∃c,y= .pointer (some c):=by
   cases J with
   |ptr V=>
    cases hb with
    |ptr t=>
     have f:=V.symm.trans t;injection f with f;injection f with f;injection f with g N;subst g N
     exact⟨by rw[c2],_,rfl⟩
  obtain⟨rfl,c,rfl⟩:=B;obtain⟨u,X,g⟩:=(j ty i M).under;rw[R] at g;have A:u= .pointer e:=by cases u<;>simp[td] at g;rw[g]
  subst A;obtain⟨x,z0,Y,hs,_⟩:=(j e ie m).info;have heq:(Op.equal ty (.pointer (some c)) (.pointer (some c))).run P w= .ok true w:=by
   show(Op.equalIn (9999+1) ty _ _).run P w=_;unfold Op.equalIn;rw[Dk,run_underlying X w];simp[sizeOf,typeInfo,Y,sameAddr]
  have L:=mO (P:=P) (op:=op) (ty:=ty) (x:=D) (y:=F) (a:= .pointer (some c)) (b:= .pointer (some c)) w ⟨by simp,by simp⟩;split at h1
  ·exact⟨_,.bool true,h1,by rw[Dk,L];simp[binOp,heq],.v _⟩
  ·exact⟨_,.bool false,h1,by rw[Dk,L];simp[binOp,heq],.v _⟩
  ·cases h1
 ·obtain⟨v,h1,h2⟩:=yY (T:=T) (ty:=ty) M h;obtain⟨v',u,O,Q,rfl⟩:=qN j D F J hb h2;exact⟨v',u,h1,O,Q⟩
end
end
section
variable {v:AV} {K:AV->Af} {d e s:TypeId} {y:Value}
def B49 (l:List Lie) (e n o u:Nat):Bool:=@List.rec Lie (λ_=>Bool) false (λp _ ih=>@Bool.rec (λ_=>Bool) ih true (Nat.beq p.1 e&&(Nat.beq p.2.1 n&&(Nat.beq p.2.2.1 o&&Nat.beq p.2.2.2 u)))) l
def A1z (ie:TI) (v:AV) (H:Hp) (K:AV->Af):Af:=
 match v with
 | .ptr s p k=>IJ H s λx=>JV x λ_ cs=>HI cs 0 λcl=>ck (Nat.blt (Nat.add p k) cl&& !Nat.beq ie.size 0) (K (.ptr s p k))
 |_=>none
def A1u (l:List Lie) (u:TypeId) (v:AV) (H:Hp) (K:AV->Af):Af:=
 match v with
 | .ptr s p k=>IJ H s λx=>eS x λq E cs=>HI cs 0 λcl=>ck (q&&B49 l E cl (Nat.add p k) u) (K (.ptr s p k))
 |_=>none
def A73 (s:AV) (K:AV->Af):Af:=
 match s with
 | .sl sz r o n=>ck (Nat.beq sz 1&&Nat.blt 0 n) (K (.ptr r o 0))
 |_=>none
def A3I (e:TypeId) (p n:AV) (H:Hp) (K:KV):Af:=
 match p with
 | .ptr s o k=>L? n λz=>iN z λn=>IJ H s λx=>JV x λE cs=>ck (Nat.beq E e&&(Nat.blt 0 n&&Nat.blt n 9223372036854775807)) (E8 n (Di (Nat.add o k) cs) λb=>fu8 b λl=>LC H s .gone λa=>K (.v (.string ⟨⟨l⟩⟩)) a)
 |_=>none
def B06 {l:List Lie} {e n o u:Nat} (h:B49 l e n o u=true):(e,n,o,u)∈l:=by
 induction l with
 |nil=>cases h
 |cons p l ih=>
  have h:@Bool.rec (λ_=>Bool) (B49 l e n o u) true (Nat.beq p.1 e&&(Nat.beq p.2.1 n&&(Nat.beq p.2.2.1 o&&Nat.beq p.2.2.2 u)))=true:=h;cases hq:(Nat.beq p.1 e&&(Nat.beq p.2.1 n&&(Nat.beq p.2.2.1 o&&Nat.beq p.2.2.2 u)))
  ·rw[hq] at h;exact List.mem_cons_of_mem _ (ih h)
  ·simp only[Kw,pO] at hq;obtain⟨h1,h2,f,g⟩:=hq;obtain⟨a,b,c,d⟩:=p;simp only at h1 h2 f g;subst h1 h2 f g;exact List.mem_cons_self
section
variable {P:Program} {G:Gl} {w0:Base} {C:Ctx} {H:Hp} {w w':World} {r:AV×Hp}
def A3P {T:Ty} (F:iP P T) {i ie:TI} (V:T s=some i) (R:i.d= .pointer e) (m:T e=some ie) (A:P.underlying d=some .unsafePointer) (hr:Rel G w0 C H w) (hv:VRel C w v y) (h:A1z ie v H K=some r):
 K v=some r/\(convert s d y).run P w= .ok y w:=by
 unfold A1z at h;split at h
 ·rename_i t p k;obtain⟨q,E,cs,X,h1⟩:=Kz h;rw[Co,JQ] at h1;obtain⟨hc,h2⟩:=B3 h1;simp only[Kw,Wj,X!] at hc;obtain⟨c1,c2⟩:=hc;have c1:p+k<cs.length:=c1;refine⟨h2,?_⟩;cases hv with
  |@ptr _ _ _ _ _ b B J=>
   rcases hr.rows t _ X with⟨_,Q⟩|⟨L,a,c,O,f⟩
   ·have:=Q.symm.trans J;cases this
   ·have g:=f.at_.symm.trans J;injection g with g;injection g with g;injection g with M N;subst M N
    have hf:=f.fits;obtain⟨u,Z,j⟩:=(F s i V).under;rw[R] at j;have n:u= .pointer e:=by cases u<;>simp[td] at j;rw[j]
    subst n;obtain⟨x,z0,hx,Y,_⟩:=(F e ie m).info;have hsz:x.size≠0:= λD=>by rw[Y] at D;rw[D] at c2;simp at c2
    exact Lib.run_to_unsafe w ⟨L,a+(p+k),none⟩ Z A hx hsz (e:=E) (cells:=c.size) (by simp[World.shape?,f.block]) (by show a+(p+k)<c.size;omega)
 ·cases h
def A3J {l:List Lie} (m:∀e n o u,(e,n,o,u)∈l->liesAt P P.depth e (n/P.cellsOf e) o u 1=true/\(P.info? u).isSome=true) {s d u:TypeId} (A:P.underlying s=some .unsafePointer) (O:P.underlying d=some (.pointer u)) (hr:Rel G w0 C H w) (hv:VRel C w v y) (h:A1u l u v H K=some r):
 K v=some r/\(convert s d y).run P w= .ok y w:=by
 unfold A1u at h;split at h
 ·rename_i t p k;obtain⟨q,E,cs,R,h1⟩:=UE h;rw[Co,JQ] at h1;obtain⟨hc,h2⟩:=B3 h1;simp only[Kw] at hc;obtain⟨c1,c2⟩:=hc;obtain⟨c,f⟩:=m _ _ _ _ (B06 c2);refine⟨h2,?_⟩;cases hv with
  |@ptr _ _ _ _ _ b B D=>
   rcases hr.rows t _ R with⟨_,N⟩|⟨F,x,g,M,a⟩
   ·have:=N.symm.trans D;cases this
   ·have i:=a.at_.symm.trans D;injection i with i;injection i with i;injection i with J L;subst J L
    obtain⟨V,X⟩:=a.exact c1;subst V;obtain⟨j,Q⟩:=Option.isSome_iff_exists.1 f;refine Lib.run_from_unsafe w ⟨F,0+(p+k),none⟩ A O Q (e:=E) (cells:=g.size) (by simp[World.shape?,a.block]) ?_;rw[X,JQ];exact c
 ·cases h
def Rel.change (h:Rel G w0 C H w) {s b base:Nat} {x:Row} (L:Aj H s=some x) (M:C.π s=some (some (b,base))) (q:w'.os=w.os) (X:w'.tape=w.tape) (B:w'.output=w.output) (hsz:w'.heap.size=w.heap.size) (g:∀k,k≠b->w'.heap[k]?=w.heap[k]?)
 (hb:∀arr T fz,w.heap[b]?=some (.cells arr T fz)->∃m A,w'.heap[b]?=some (.cells m T A)/\m.size=arr.size):Rel G w0 C (cut H s) w'/\Ext w0.own C w C w':=by
 have j:=h.own s x b base L M;have e:Ext w0.own C w C w':=by
  refine⟨λ_ _=>rfl,λ_ _ h=>h,λk i h=> ?_,λ_ h=>h,λk h=>g k (λe=>j.2.2 (e▸h)),λk a t f h=> ?_,λ_ _ h=> .inl h,λ_ h=> .inl h,Nat.le_of_eq hsz.symm⟩
  ·exact l0t (g k (λe=>j.2.1 i (e▸h)))
  ·by_cases n:k=b
   ·subst n;exact hb a t f h
   ·exact⟨a,f,(g k n).trans h,rfl⟩
 have c:∀t z,Aj (cut H s) t=some z->t≠s/\Aj H t=some z:= λt z hz=>by
  by_cases p:t=s
  ·subst p;rw[PN] at hz;cases hz
  ·rw[Tl p] at hz;exact⟨p,hz⟩
 refine⟨⟨h.glob.mono e,⟨q.trans h.below.os,X.trans h.below.tape,B.trans h.below.output,by rw[hsz];exact h.below.size,λk n J=>(g k (λe=> ?_)).trans (h.below.block k n J)⟩,λt z hz=>h.lt t z (c t z hz).2,λt z hz=>(h.rows t z (c t z hz).2).mono e (λk u D=>g k (λQ=> ?_)),
  λt z k o hz=>h.own t z k o (c t z hz).2,λt N z O k Y Z hz F=>h.sep t N z O k Y Z (c t z hz).2 (c N O F).2,λk i V=>hsz▸h.fin k i V,λk R=>hsz▸h.finB k R,λk n=>h.nx k (by rw[cut,BC] at n;exact n)⟩,e⟩
 ·subst e;rcases j.1 with q|q
  ·omega
  ·exact J q
 ·subst Q;exact(c t z hz).1 (h.sep t s z x _ _ _ (c t z hz).2 L D M)
def wQ (hc:P.cellsOf e=1) (count off n:Nat) (hn:off+n<=count):liesAt P P.depth e count off e n=true:=by
 have a:P.depth=(2*(P.types.size+Made.depth)+1)+1:=rfl;rw[a];simp only[liesAt,l1i];left;rw[a];simp[rowAt,hc,hn,sameLayout,Nat.mod_one]
def A3H {T:Ty} (hT:iP P T) {e J it ty:TypeId} {F ie:TI} {p n:AV} {y z:Value} {K:KV} (ak:T J=some F) (hd:F.d= .pointer e) (ah:T e=some ie) (ad:ie.size=1) (hr:Rel G w0 C H w) (hv:VRel C w p y) (hn:VRel C w n z) (h:A3I e p n H K=some r):
 ∃v H' u w',K v H'=some r/\(Builtin.unsafeString_ #[J,it] ty #[y,z]).run P w= .ok u w'/\Kv G w0 C w v H' u C w':=by
 unfold A3I at h;split at h
 ·rename_i s o k;obtain⟨kk,zz,rfl,h1⟩:=P0 h;obtain⟨m,rfl,h2⟩:=Wm h1;obtain⟨q,E,cs,hl,h3⟩:=Kz h2;obtain⟨hc,h4⟩:=B3 h3;simp only[Kw,pO,Wj] at hc;obtain⟨c1,c2,c3⟩:=hc;subst c1;obtain⟨x,h5⟩:=Nm _ _ _ _ h4;rw[C6] at x h5;obtain⟨f,Z,h6⟩:=A1i _ _ h5;rw[Dh] at h6;obtain rfl:=AL.1 hn;have ax:o+k+m<=cs.length:=by
   have:m<=(cs.drop (o+k)).length:=x;simp at this;omega
  cases hv with
  |@ptr _ _ _ _ _ b ap hp=>
   rcases hr.rows s _ hl with⟨_,h7⟩|⟨g,c,t,aq,i⟩
   ·have:=h7.symm.trans hp;cases this
   ·have L:=i.at_.symm.trans hp;injection L with L;injection L with L;injection L with e1 e2;subst e1 e2
    have hf:=i.fits;have aj:f.length=m:=by
     have:=congrArg List.length Z;simp at this;have:(cs.drop (o+k)).length=cs.length-(o+k):=by simp
     simp_all
    have A:∀j (R:j<f.length),w.cell? ⟨g,c+(o+k)+j,none⟩=some (.int .u8 (f[j]:Int)):= λj R=>by
     have ag:cs[o+k+j]?=some (.v (.int .u8 (f[j]:Int))):=by
      have:=congrArg (λl=>l[j]?) Z;simp only[X?,tH,wR] at this;rw[Dj (by omega),K9 R] at this;simpa using this
     obtain⟨hi,af⟩:=yB.1 ag;obtain⟨y,hy,aa⟩:=i.get _ hi;rw[af] at aa;rw[<-AL.1 aa];rw[<-hy]
     congr 2
     omega
    obtain⟨hu,N⟩:P.underlying J=some (.pointer E)/\P.cellsOf E=1:=by
     obtain⟨u,hu,eu⟩:=(hT J F ak).under;rw[hd] at eu;have an:u= .pointer E:=by cases u<;>simp[td] at eu;rw[eu]
     subst an;exact⟨hu,by rw[(hT E ie ah).cellsOf,ad]⟩
    have D:∀(f:List Nat) (off:Nat) (acc:ByteArray),(∀j (R:j<f.length),w.cell? ⟨g,off+j,none⟩=some (.int .u8 (f[j]:Int)))->
     (loadBytes ⟨g,off,none⟩ acc f.length).run P w= .ok ⟨acc.data++(f.map UInt8.ofNat).toArray⟩ w:=by
     intro f
     induction f with
     |nil=>intro off acc _;simp[loadBytes]
     |cons n f ih=>
      intro off acc hc;have h0:w.cell? ⟨g,off,none⟩=some (.int .u8 (n:Int)):=hc 0 (by simp);have ao:=ih (off+1) (acc.push (UInt8.ofNat n)) (λj R=>by
       have:=hc (j+1) (by simpa using R);simpa [kX,Nat.add_comm 1 j] using this)
      have hx:((n:Int).toNat).toUInt8=UInt8.ofNat n:=by simp
      simp only[LP,loadBytes,Dk,run_load,h0,Result.andThen,hx,JT];rw[ao]
      congr 1
      apply ByteArray.ext;simp[ByteArray.push]
    have V:=D f (c+(o+k)) .empty A;rw[aj] at V;have B:liesAt P P.depth E (t.size/P.cellsOf E) (c+(o+k)) E m=true:=wQ N _ _ _ (by rw[N,Nat.div_one];omega);have O:=hr.change (w':=w.freeze ⟨g,c+(o+k),none⟩ m) hl hp (by unfold World.freeze;split<;>rfl) (by unfold World.freeze;split<;>rfl) (by unfold World.freeze;split<;>rfl) (by unfold World.freeze;split<;>simp) (λk' ai=>by
     unfold World.freeze;split
     ·rfl
     ·simp only[l0s];rw[C4 (λe=>ai e.symm)]) (λarr T0 ar ae=>by
     unfold World.freeze;rw[C4 (by omega)];simp only[l0s,if_true,ae,xZ];exact⟨arr,_,rfl,rfl⟩)
    refine⟨_,_,.string ⟨⟨f.map UInt8.ofNat⟩⟩,_,h6,?_,.v _,O.1,O.2⟩;have X:IntKind.i64.max=9223372036854775807:=rfl;have Q:Builtin.unsafeString_ #[J,it] ty #[.pointer (some ⟨g,c+(o+k),none⟩),.int kk m]=
     (do
      let n<-asInt (.int kk m)
      if n<0 then runtimePanic (.error "unsafe.String: len out of range")
      if n>IntKind.i64.max then unsupported (.unsafePointer "String: a length above the largest int")
      if n=0 then pure (.string .empty)
      else if<-variablesAt ⟨g,c+(o+k),none⟩ (<-elemOf J) n.toNat then do
       let s<-loadBytes ⟨g,c+(o+k),none⟩ .empty n.toNat
       freeze ⟨g,c+(o+k),none⟩ n.toNat
       pure (.string s)
      else unsupported (.unsafePointer "String: not so many bytes at ptr")):=rfl
    rw[Q];have Y:¬(m:Int)<0:=by omega
    have M:¬(9223372036854775807:Int)<(m:Int):=by omega
    have hz:¬m=0:=by omega
    have am:w.shape? g=some (E,t.size):=by simp[World.shape?,i.block]
    simp[asInt,asIntOf,X,Y,M,hz,variablesAt,am,elemOf,run_underlying hu,B,V]
 ·cases h
def A5I {t:Tm} {N:Nat} {ro:Option Nat} {o:Oper} {c:Call} {f:FuncId} {h:Operand} {first cap:List AV} {K:AV->Hp->Prop} (B:iR P f) (p:o.op= .call c) (g:c.callee= .value h) (i:JH G t h= .fn (.func f) first cap) (A:first++c.args.toList.map (JH G t)++cap=[v]) (x:K v H):Tv P G ro N o t H K:=by
 refine Uq (λc hc=>by rw[p] at hc;cases hc) λw0 L C N a w s=> ?_;have hv:=AW s h;rw[i] at hv;obtain⟨D,J,he,m,n⟩:=Jr.1 hv;have b:=(m.append (uO s c.args.toList)).append n;rw[A] at b;obtain⟨y,F,q,k,j⟩:=b.cons_inv;have u:=j.nil_inv;subst u;refine⟨v,H,y,C,w,x,.inl ?_,k,s.rel,.refl _ _ _⟩;have:(D++c.args.toList.map a.eval++J).toArray= #[y]:=by rw[q]
 have hr:=B y w;simp only[execOp,p,resolve,g,he,Deferred.ofValue,Dk,kW,FU,invoke];rw[<-hr]
 congr 2
 rw[<-this];apply oQ;simp
end
end
section
variable {a:Act} {c rest:Code} {w:World}
def qA (P:Program) (c rest:Code) (Q:Exit->Act->World->Prop) (a:Act) (w:World):Prop:=
 ∀(b:Frame) (k:List Item) (cs:List Frame),∃e d f,Q e d f/\Arrives P (lone (b.at a (.code rest:: .inScope c::k)) cs w) b k cs e d f
def A3z {P:Program} {Q s:Exit->Act->World->Prop} (x:∀l a w,s (.goto l) a w->∃i,findLabel c l=some i/\qA P c i Q a w) (hq:∀e a w,(∀l,e≠.goto l)->s e a w->Q e a w)
 (h:rest.wp P s a w):qA P c rest Q a w:=by
 intro b k cs;obtain⟨e,d,g,h1,f⟩:=h b (.inScope c::k) cs;cases e with
 |normal=>exact⟨.normal,d,g,hq _ _ _ (by simp) h1,Steps.trans f (.one step_inScope)⟩
 |exit id=>exact⟨.exit id,d,g,hq _ _ _ (by simp) h1,λB y=>f B (by simp[exitTo,y])⟩
 |goto l=>
  obtain⟨i,v,A⟩:=x l d g h1;have u:gotoIn l (.inScope c::k)=some (.code i:: .inScope c::k):=by simp[gotoIn,v]
  obtain⟨q,p,r,n,j⟩:=A b k cs;exact⟨q,p,r,n,.of_steps (f _ u) j⟩
 |ret=>exact⟨_,d,g,hq _ _ _ (by simp) h1,f⟩
 |panic C=>exact⟨_,d,g,hq _ _ _ (by simp) h1,f⟩
 |outgrown=>exact⟨_,d,g,hq _ _ _ (by simp) h1,f⟩
def A07 {P:Program} {Q:Exit->Act->World->Prop} (h:qA P c c Q a w):(Code.scope c).wp P Q a w:=by
 intro b k cs;obtain⟨e,d,g,hq,f⟩:=h b k cs;exact⟨e,d,g,hq,.of_steps (.one step_scope) f⟩
section
variable {P:Program} {G:Gl} {m N:Nat} {t:Tm} {H:Hp} {Q:Exit->Tm->Hp->Prop}
def V! (P:Program) (G:Gl) (m N:Nat) (c rest:Code) (Q:Exit->Tm->Hp->Prop) (t:Tm) (H:Hp):Prop:=
 ∀w0 b C a w,St G w0 b C N t H a w->qA P c rest (M0 G w0 b m C N w Q) a w
def A7m (h:V! P G m N c c Q t H):Tc P G none m N (.scope c) Q t H:= λw0 b C a w s=>wpIn_wide.2 (A07 (h w0 b C a w s))
def zF {n:Exit->Tm->Hp->Prop} (F:∀l t H,n (.goto l) t H->∃d,findLabel c l=some d/\V! P G m N c d Q t H) (hq:∀e t H,(∀l,e≠.goto l)->n e t H->Q e t H)
 (h:Tc P G none m N rest n t H):V! P G m N c rest Q t H:=by
 intro w0 y C a w s;refine A3z ?_ ?_ (wpIn_wide.1 (h w0 y C a w s))
 ·rintro l x A ⟨j,i,g,v,u,p⟩;obtain⟨d,D,J⟩:=F l i g p;refine⟨d,D,?_⟩;intro b k cs;obtain⟨B,a2,K,r,f⟩:=J w0 y j x A v b k cs;exact⟨B,a2,K,r.later u,f⟩
 ·rintro e x A q ⟨j,i,g,v,u,p⟩;exact⟨j,i,g,v,u,hq e i g q p⟩
end
end
section
variable {K:AV->Af}
def SC (a:AV):Bool:=match a with
 | .v (.map _)=>false
 | .v _=>true
 |_=>false
def Sv (f:AV->(AV->Af)->Af) (l:List AV):(List AV->Af)->Af:=
 @List.rec AV (λ_=>(List AV->Af)->Af) (λK=>K []) (λa _ ih K=>f a λb=>ih λc=>K (b::c)) l
def A3t (a:AV) (K:AV->Af):Af:=
 match a with
 | .v x=>K (.v x)
 | .list n cs=>ck (cs.all SC) (K (.list n cs))
 |_=>none
def A3s (H:Hp) (ih:AV->(AV->Af)->Af) (a:AV) (K:AV->Af):Af:=
 match a with
 | .v x=>K (.v x)
 | .list n cs=>ck (cs.all SC) (K (.list n cs))
 | .agg cs=>Sv ih cs λb=>K (.agg b)
 | .tup cs=>Sv ih cs λb=>K (.tup b)
 | .sl sz r o n=>IJ H r λx=>JV x λ_ cs=>E8 (Nat.mul n sz) (Di o cs) λc=>Sv ih c λd=>K (.list n d)
 |_=>none
def Nl (H:Hp) (D:Nat):AV->(AV->Af)->Af:=@Nat.rec (λ_=>AV->(AV->Af)->Af) A3t (λ_ ih=>A3s H ih) D
def KC (R:Rt) (f:Nat) (args:List AV) (H:Hp) (K:AV->Af):Af:=
 match args with
 |[.ptr s 0 0]=>IJ H s λx=>eS x λq _ cs=>match q,cs with
  |true,[.mp m]=>IJ H m λy=>oM y λa=>ck (a.all λp=>iF 3 p.2) (Aq (R.call f [.iptr [.imap a]] [] λv b=>Nl b depth v λc=>some (c,[])) K)
  |_,_=>none
 |_=>An R f args H K
section
variable {G:Gl} {w0:Base} {C C2:Ctx} {H:Hp} {w:World} {r:AV×Hp}
def J_ {f:AV->(AV->Af)->Af} (m:∀a y K,VRel C w a y->f a K=some r->∃b,VRel C2 w b y/\K b=some r):
 ∀(l:List AV) (ys:List Value) (K:List AV->Af),CG C w l ys->Sv f l K=some r->∃c,CG C2 w c ys/\K c=some r:=by
 intro l
 induction l with
 |nil=>intro ys K d h;exact⟨[],by rw[d.nil_inv];exact .nil,h⟩
 |cons a l ih=>
  intro ys K d h;obtain⟨y,e,rfl,h1,h2⟩:=d.cons_inv;have h:(f a λb=>Sv f l λc=>K (b::c))=some r:=h;obtain⟨b,g,i⟩:=m a y _ h1 h;obtain⟨c,j,k⟩:=ih e _ h2 i;exact⟨_,.cons g j,k⟩
def A12 (hr:Rel G w0 C H w) (h2:C2.bare=C2) (u:∀s x k o,Aj H s=some x->C.π s=some (some (k,o))->∀i,C2.F k i)
 (q:∀n cs y,cs.all SC=true->VRel C w (.list n cs) y->VRel C2 w (.list n cs) y):∀(D:Nat) (a:AV) (y:Value) (K:AV->Af),VRel C w a y->Nl H D a K=some r->∃X,VRel C2 w X y/\K X=some r:=by
 intro D
 induction D with
 |zero=>
  intro a y K hv h;change A3t a K=some r at h;unfold A3t at h;split at h
  ·exact⟨_,by rw[AL.1 hv];exact .v _,h⟩
  ·obtain⟨h1,h⟩:=B3 h;exact⟨_,q _ _ _ h1 hv,h⟩
  ·cases h
 |succ D ih=>
  intro a y K hv h;have M:= λl A K=>J_ (f:=Nl H D) (C:=C) (C2:=C2) (w:=w) (r:=r) ih l A K;change A3s H (Nl H D) a K=some r at h;unfold A3s at h;split at h
  ·exact⟨_,by rw[AL.1 hv];exact .v _,h⟩
  ·obtain⟨h1,h⟩:=B3 h;exact⟨_,q _ _ _ h1 hv,h⟩
  ·obtain⟨A,rfl,Q⟩:=EM.1 hv;obtain⟨V,h1,h2⟩:=M _ _ _ Q h;exact⟨_,EM.2 ⟨A,rfl,h1⟩,h2⟩
  ·obtain⟨A,rfl,Q⟩:=DC.1 hv;obtain⟨V,h1,h2⟩:=M _ _ _ Q h;exact⟨_,DC.2 ⟨A,rfl,h1⟩,h2⟩
  ·rename_i sz s o n;obtain⟨q0,e,cs,t,h1⟩:=Kz h;obtain⟨c,g⟩:=Nm _ _ _ _ h1;rw[C6] at c g;cases hv with
   |slz ad=>
    have g:Sv (Nl H D) ((cs.drop o).take (0*sz)) (λc'=>K (.list 0 c'))=some r:=g;rw[Nat.zero_mul,List.take_zero] at g;exact⟨_,.list0,g⟩
   |@sl _ _ _ _ _ _ bk Y cap arr T fz L p ab Z=>
    rcases hr.rows s _ t with⟨_,h6⟩|⟨b',b,j,aa,B⟩
    ·rw[h6] at L;cases L
    ·have m:=B.at_.symm.trans L;injection m with m;injection m with m;injection m with e1 e2;subst e1 e2
     have d:CG C w ((cs.drop o).take (n*sz)) ((((j.toList.drop b).take cs.length).drop o).take (n*sz)):=(B.vals.unsel.drop o).take _;obtain⟨V,g,h4⟩:=M _ _ _ d g;have ac:V.length=n*sz:=by
      rw[<-g.1,d.1,l0h];have:n*sz<=(cs.drop o).length:=c;omega
     refine⟨_,.list p (λi=>((((j.toList.drop b).take cs.length).drop o).take (n*sz)).getD i undef) (λi J=>u s _ _ _ t L _) (λi J=> ?_) (λi J=> ?_),h4⟩
     ·have N:i<n*sz:=by omega
      have O:o+i<cs.length:=by have:n*sz<=(cs.drop o).length:=c;simp at this;omega
      rw[kX,B.cell];rw[Vl,X?,Dj N,tH,X?,Dj O,tH,l27];have hf:=B.fits;rw[l1p (by omega)];rfl
     ·have:=g.get i J;rw[h2,Vl,K9 (by rw[g.1];exact J)];exact this
  ·cases h
variable {D:XE->Cf->Nat->List Oper->Bool} {E:XE} {P:Program} {R:Rt} {f:Nat} {args:List AV}
def U? (hR:RSound D E P R) (h:KC R f args H K=some r):Zw P f/\QF P E.G f args H (λv H'=>H'=H/\K v=some r):=by
 unfold KC at h;split at h
 rotate_left
 ·exact Yy hR h
 rename_i s;obtain⟨q,T,cs,a3,h⟩:=UE h;split at h
 rotate_left
 ·cases h
 rename_i _ _ m;obtain⟨x,az,h⟩:=Iw rfl h;unfold oM at h;split at h
 rotate_left
 ·cases h
 rename_i _ es bo;obtain⟨ar,h⟩:=B3 h;obtain⟨v0,H0,V,am⟩:=Rp h;have hc:=(hR.call _ _ _ _ _ V).2;refine⟨(hR.call _ _ _ _ _ V).1,?_⟩;intro w0 C w ys hr ha;obtain⟨y,ba,rfl,ao,ap⟩:=ha.cons_inv;have:=ap.nil_inv;subst this;cases ao with
 |@ptr _ _ _ _ _ b ac L=>
 rcases hr.rows s _ a3 with⟨h1,_⟩|⟨b',ak,arr,fz,hd⟩
 ·cases h1
 have e':=hd.at_.symm.trans L;injection e' with e';injection e' with e';injection e' with e1 e2;subst e1 e2
 obtain⟨aq,hsz⟩:=hd.exact rfl;subst aq;have hsz:arr.size=1:=hsz;obtain⟨vm,ab,Z⟩:=hd.vals.2 0 _ (by rfl:([AV.mp m])[0]?=some (.mp m));have Z:VRel C w (.mp m) vm:=Z;have ab:arr[0]?=some vm:=by simpa using ab
 obtain⟨bm,ms,clock,rfl,a9,ad,ah,he, -⟩:=ZY hr az Z;have A:w.cell? ⟨b',0,none⟩=some (.map (some bm)):=by rw[hd.cell];exact ab
 have aa:∀i,i≠0->w.cell? ⟨b',i,none⟩=none:= λi c=>by rw[hd.cell];exact Array.getElem?_eq_none (by omega)
 let X:Ctx:={π:= λ_=>none,F:= λk i=>C.F k i\/k=b',B:= λk=>C.B k\/k=bm}
 have ag:bm<w.heap.size:=(l1v.1 ad).1;have J:(∀k i,X.F k i->k<w.heap.size)/\∀k,X.B k->k<w.heap.size:=
  ⟨λk i d=>d.elim (hr.fin k i) λe=>e▸hd.lt,λk hB=>hB.elim (hr.finB k) λe=>e▸ag⟩
 have eb:Ext (λ_=>True) C.bare w X.bare w:=⟨λ_ h=>absurd rfl h,λ_ _ h=> .inl h,λ_ _ _=>rfl,λ_ h=> .inl h,λ_ _=>rfl,λ_ a _ f h=>⟨a,f,h,rfl⟩,λ_ _ _=> .inr trivial,λ_ _=> .inr trivial,Mb _⟩
 have a5:VRel X w (.imap es) (.map (some bm)):=by
  refine .imap ms (.inr rfl) ad (by rw[<-he.1];simp) (λi c=> ?_) (λi j ay hj=> ?_) (λi c=> ?_) (λi c=> ?_)
  ·obtain⟨mm,u,N, -⟩:=he.2 i _ (K9 c);have Y:ms[i]?=some mm:=by simpa using u
   simp[dV,Y,N]
  ·have af:j<ms.size:=by have:=he.1;simp at this;omega
   have O:i<ms.size:=by omega
   have:=(l26.1 ah.born) i j (by simpa using O) (by simpa using af) ay;simpa [dV,O,af] using this
  ·have O:i<ms.size:=by have:=he.1;simp at this;omega
   have:=ah.lt ms[i] (by simp);simpa [dV,O] using this
  ·obtain⟨mm,u, -,h6⟩:=he.2 i _ (K9 c);have Y:ms[i]?=some mm:=by simpa using u
   have h7:(ms.getD i default)=mm:=by simp[dV,Y]
   rw[h7];have h8:=VRel.down (C:=C) (C':=C.bare) rfl rfl 3 _ _ (GH.1 ar _ (Qe c)) h6;exact h8.mono eb
 have a6:VRel X w (.iptr [.imap es]) (.pointer (some ⟨b',0+(0+0),none⟩)):=
  .iptr (λ_=> .map (some bm)) (λ_ _=> .inr rfl) (λi c=>by
   have:i=0:=by simpa using c
   subst this;exact A) (λi c=>by
   have:i=0:=by simpa using c
   subst this;exact a5)
 have an:Rel E.G ⟨w,λ_=>False⟩ X [] w:=
  ⟨λg cs hg i v hv=>⟨.inl (hr.glob g cs hg i v hv).1,(hr.glob g cs hg i v hv).2⟩,.refl _ _,λ_ _ h=>by simp[Aj] at h,λ_ _ h=>by simp[Aj] at h,λ_ _ _ _ h=>by simp[Aj] at h,λ_ _ _ _ _ _ _ h=>by simp[Aj] at h,J.1,J.2,λ_ _=>rfl⟩
 refine(hc _ X w _ an (.cons a6 .nil)).mono ?_;rintro e w' ⟨v,y,C',H',rfl,M,hv,hx,t⟩;have hb:Below w.heap.size w w':=M.below.toBelow;have Q:∀k,Base.own ⟨w,λ_=>False⟩ k->w.heap.size<=k:= λk h=>h.elim id (λh=>h.elim)
 let C2:Ctx:={π:=C.π,F:= λk i=>C.F k i\/(w.heap.size<=k/\(C'.F k i\/∃s x o,Aj H' s=some x/\C'.π s=some (some (k,o)))),B:=C.B}
 have e:Ext w0.own C w C2 w':=⟨λ_ _=>rfl,λ_ _ h=> .inl h,λk i h=>hb.cell (p:=⟨k,i,none⟩) (hr.fin k i h),λ_ h=>h,λk h=>hb.block k (hr.finB k h),
  λk arr T fz h=>⟨arr,fz,(hb.block k (l1v.1 h).1).trans h,rfl⟩,λk i h=>h.imp id (λh=> .inl (Z7 hr.below.size h.1)),λk h=> .inl h,hb.size⟩
 have ai:Rel E.G w0 C2 H w':=by
  refine⟨hr.glob.mono e,hr.below.below hb,hr.lt,λs x t=>(hr.rows s x t).mono e (λk ac L=>hb.block k ((hr.rows s x t).block (E3 t) L)),λs x k o t L=> ?_,hr.sep,λk i d=> ?_,λk hB=>l2s (hr.finB k hB) hb.size,hr.nx⟩
  ·have h1:=hr.own s x k o t L;have h2:=(hr.rows s x t).block (E3 t) L;refine⟨h1.1,λi d=> ?_,h1.2.2⟩;rcases d with d|d
   ·exact h1.2.1 i d
   ·have:=d.1;omega
  ·rcases d with d|⟨_,d|⟨s,x,o,t,L⟩⟩
   ·exact l2s (hr.fin k i d) hb.size
   ·exact M.fin k i d
   ·exact(M.rows s x t).block (E3 t) L
 obtain⟨v',a4,hK⟩:=A12 (C2:=C2.bare) M rfl (λs x k o t L i=> .inr ⟨Q k (M.own s x k o t L).1,.inr ⟨s,x,o,t,L⟩⟩) (λn cs y ax hy=>by
  cases hy with
  |list0=>exact .list0
  |@list _ _ _ cap _ bb o h vs d ae a7=>
   have aj:∀i (c:i<cs.length),∃z:Value,cs[i]= .v z/\vs i=z/\∀k,z≠.map k:= λi c=>by
    have h1:=GH.1 ax _ (Qe c);have h2:=a7 i c;cases hq:cs[i] with
    |v z=>
     rw[hq] at h1 h2;refine⟨z,rfl,AL.1 h2,λk e=> ?_⟩;subst e;simp[SC] at h1
    |_=>rw[hq] at h1;simp[SC] at h1
   refine .list h vs (λi c=> ?_) ae (λi c=> ?_)
   ·obtain⟨z,_,h2,h3⟩:=aj i c;rcases hx.new _ _ (d i c) with u|u
    ·rcases u with u|u
     ·exact .inl u
     ·exfalso;have N:=hx.keep bb (o+i) (.inr u);rw[ae i c] at N;subst u;by_cases ho:o+i=0
      ·rw[ho,A] at N;injection N with N
       exact h3 _ (h2.symm.trans N)
      ·rw[aa _ ho] at N;cases N
    ·exact .inr ⟨Q _ u,.inl (d i c)⟩
   ·obtain⟨z,h1,h2,_⟩:=aj i c;rw[h1,<-h2];exact .v _) depth v y _ hv t
 injection hK with hK
 injection hK with hK a8
 subst hK;exact⟨v',y,C2,H,rfl,ai,a4.up rfl rfl,e.frm,rfl,am⟩
def zpm (E:XE) (g:Nat) (R:Rt) (all:List AV) (H:Hp) (K:AV->Af):Af:=(λ(_:Unit)=>@Bool.rec (λ_=>Af) (An R g all H K) (KC R g all H K) (E.lm g)) Iq
def dQ {X:XE} (a:RSound D E P R) (h:zpm X f R args H K=some r):Zw P f/\QF P E.G f args H (λv b=>b=H/\K v=some r):=by
 change @Bool.rec (λ_=>Af) (An R f args H K) (KC R f args H K) (X.lm f)=some r at h;cases hq:X.lm f
 ·rw[hq] at h;exact Yy a h
 ·rw[hq] at h;exact U? a h
end
end
end Go.Abs
end
