import Derived.Laws.MakeOwn
import Derived.Laws.IdiomRangeMap
import Derived.Lib.UnsafeStr
import Derived.Lib.Builder
import Derived.ScopeJumps
import Derived.Test.YtjbpmepbnkbmfaaGreatDoorP01
set_option linter.all false
set_option maxHeartbeats 0
noncomputable section
namespace Go.Abs
open Go.RowKit
def eMk(e:TypeId)(esz:Nat)(ie:TI)(len cap:AV)(H:Hp)(K:KV):Af:=
 A03 len λl=>iN l λn=>A03 cap λc=>iN c λm=>He ie.zero λz=>HN z 0 λk=>
  ck (Nat.beq k esz&&(!Nat.beq esz 0&&(Nat.beq ie.size esz&&(Nat.ble n m&&(Nat.ble (Nat.mul ie.bytes m) 281474976710656&&Nat.ble m 281474976710656)))))
   (Zq n z λcs=>HE H λs=>K (.sl esz s 0 n) ((s,.cells false e cs)::H))
section
variable{T:Ty}{H:Hp}{r:AV×Hp}{P:Program}{G:Gl}{w0:Base}{C:Ctx}{w:World}
def A8m(N:kU P T){ty e:TypeId}{esz:Nat}{i ie:TI}{len cap:AV}{y1 y2:Value}{K:KV}(hi:T ty=some i)(hd:i.d=.slice e esz)(u:T e=some ie)(h1:VRel C w len y1)(h2:VRel C w cap y2)(hr:Rel G w0 C H w)(h:eMk e esz ie len cap H K=some r):
 ∃v J y Q O,K v J=some r/\(Instr.makeSlice ty y1 y2).run P w=.ok y O/\KU G w0 C w v J y Q O:=by
 unfold eMk at h;have⟨k1,l,d1,Y⟩:=Qp h;have⟨n,b,Z⟩:=XC Y;have⟨k2,c,d2,g3⟩:=Qp Z;have⟨m,X,L⟩:=XC g3;rw[CP,C4]at L;have⟨hb,M⟩:=B7 L;rw[Zp,BS]at M;simp only[KW,rU,l19,kZ]at hb;have⟨b1,b2,R,b4,V,b6⟩:=hb;subst b X d1 d2;have D:=AQ.1 h1;have F:=AQ.1 h2;subst D F;have⟨hu,hc⟩:=(N ty i hi).elem_slice hd;have⟨inf,z,g,x,A,hz,s⟩:=(N e ie u).info;have k:CJ C w (B4 ie.zero) z.cells.toList:=PH (t:=e) s;have p:z.cells.size=esz:=by have:=k.1;simp at this;omega
 have aa:ie.bytes*m<=281474976710656:=V;have q:(inf.bytes:Int)*(m:Int)<=281474976710656:=by
  have:((ie.bytes*m:Nat):Int)<=281474976710656:=by omega
  rw[Int.natCast_mul]at this;rw[A];exact this
 have j:=run_make (P:=P) w ty e inf z hu g hz k1 k2 n m (by omega) (by omega) q (by omega);have B:CJ C w (YG n (B4 ie.zero)) ((List.range n).flatMap λ_=>z.cells.toList):=by rw[iL];exact ZQ k n
 have a:(YG n (B4 ie.zero)).length=n*esz:=by rw[YF];congr 1;omega
 have f:(madeCells z.cells (m*esz)).toList.take (n*esz)=(List.range n).flatMap λ_=>z.cells.toList:=by
  have b:=congrArg Array.toList (gQ z.cells n);rw[p]at b;simp only[Array.toList_map,Array.toList_range]at b;rw[<-b];simp only[madeCells,Array.toList_map,Array.toList_range,p];rw[<-List.map_take]
  congr 1
  rw[List.take_range,l22 (l28 _ b4)]
 have key:=ZO hr (NZ w (.cells (madeCells z.cells (m*esz)) e)) e (cs:=YG n (B4 ie.zero)) (arr:=madeCells z.cells (m*esz)) (fz:=(0,0)) (World.alloc_heap_new w _) (λi _=>by omega) esz n m b4 (by rw[size_madeCells];exact MC _) (by rw[size_madeCells,a];exact l28 _ b4) (by rw[a,f];exact B);refine⟨_,_,_,_,_,M,?_,key⟩;rw[j];simp only[kY,x,R]
end
def A2z(e:TypeId)(a:AV)(H:Hp)(K:KV):Af:=
 match a with
 |.v (.string s)=>HN s.data.toList 0 λn=>fZ s.data.toList λcs=>HE H λr=>K (.sl 1 r 0 n) ((r,.cells false e cs)::H)
 |_=>none
section
variable{H:Hp}{r:AV×Hp}{P:Program}{G:Gl}{w0:Base}{C:Ctx}{w:World}
def B4w(w:World)(e:TypeId)(s:ByteArray):∃(cap:Nat)(arr:Array Value)(w':World),s.size<=cap/\(Conv.stringToBytes e s).run P w=.ok (.slice (some ⟨w.heap.size,0,none⟩) s.size cap) w'/\Below w.heap.size w w'/\
 w'.heap[w.heap.size]?=some (.cells arr e (cap,cap+1))/\arr.size=cap/\arr.toList.take s.size=s.data.toList.map λb=>Value.int .u8 b.toNat:=by
 let q:Question:=.appendCap s.size 0 e
 let c:=q.cut (w.tape w.drawn q)
 have hc:s.size<=c:=by show s.size<=s.size+_;omega
 have hsz:(s.data.map λb=>Value.int .u8 b.toNat).size=s.size:=by rw[Array.size_map];rfl
 have f:(s.data.map λb=>Value.int .u8 b.toNat).toList.length=s.size:=by rw[Array.length_toList];exact hsz
 let arr:Array Value:=(s.data.map λb=>Value.int .u8 b.toNat)++Array.replicate (c-s.size) (.int .u8 0)
 have a:arr.size=c:=by
  show((s.data.map λb=>Value.int .u8 b.toNat)++Array.replicate (c-s.size) (Value.int .u8 0)).size=c;rw[Array.size_append,hsz,Array.size_replicate];omega
 refine⟨c,arr,{w with drawn:=w.drawn+1,heap:=w.heap.push (.cells arr e (c,c+1))},hc,?_,?_,by simp,a,?_⟩
 ·unfold Conv.stringToBytes;rw[Dr,run_choose,CL (by simp[Question.forced])];simp only[Ga];simp only[newRow,Dr,run_newObj,Ga,nJ,markStringish];have d:World.shape? {heap:=w.heap.push (Obj.cells arr e),tape:=w.tape,drawn:=w.drawn+1,os:=w.os,output:=w.output} w.heap.size=some (e,c):=by
   simp only[World.shape?,Array.getElem?_push_size];rw[a]
  have i:World.freeze {heap:=w.heap.push (Obj.cells arr e),tape:=w.tape,drawn:=w.drawn+1,os:=w.os,output:=w.output} {block:=w.heap.size,off:=c} 1={heap:=w.heap.push (Obj.cells arr e (c,c+1)),tape:=w.tape,drawn:=w.drawn+1,os:=w.os,output:=w.output}:=by
   unfold World.freeze;rw[CL (by omega)]
   congr 1
   apply Array.ext_getElem?;intro j;rw[l0s];by_cases g:w.heap.size=j
   ·subst g;rw[Dv rfl,Array.getElem?_push_size,Array.getElem?_push_size];rfl
   ·rw[CL g,l2c,l2c,CL (λh=>g h.symm),CL (λh=>g h.symm)]
  rw[run_shape];have m:=d;show(((Result.ok (World.shape? {heap:=w.heap.push (Obj.cells arr e),tape:=w.tape,drawn:=w.drawn+1,os:=w.os,output:=w.output} w.heap.size) _).andThen _).andThen _)=_;rw[d];simp only[Ga,run_freeze];exact congrArg (Result.ok _) i
 ·exact⟨rfl,rfl,rfl,by simp,λk n=>by simp[l2c,Nat.ne_of_lt n]⟩
 ·show((s.data.map λb=>Value.int .u8 b.toNat)++Array.replicate (c-s.size) (Value.int .u8 0)).toList.take s.size=_;rw[Array.toList_append,l32 (Nat.le_of_eq f.symm)];rw[l25 (Nat.le_of_eq f),Array.toList_map]
def A4V{e:TypeId}{a:AV}{y:Value}{K:KV}(hr:Rel G w0 C H w)(hv:VRel C w a y)(h:A2z e a H K=some r):
 ∃s,y=.string s/\∃v d g j c,K v d=some r/\(Conv.stringToBytes e s).run P w=.ok g c/\KU G w0 C w v d g j c:=by
 unfold A2z at h;split at h
 ·rename_i s;have p:=AQ.1 hv;refine⟨s,p,?_⟩;rw[C4,ZT,BS,JZ]at h;have⟨cap,arr,c,h1,h2,k,m,q,n⟩:=B4w (P:=P) w e s;have f:(s.data.toList.map λb=>AV.v (.int .u8 b.toNat)).length=s.size:=by rw[QK];rfl
  have key:=ZO hr k e (cs:=s.data.toList.map λb=>AV.v (.int .u8 b.toNat)) m (λi hi=>by omega) 1 s.size cap h1 (by omega) (by rw[f];omega) (by
   rw[f,n];have:=Xz (C:=C.sel false) (w:=w) (s.data.toList.map λb=>Value.int .u8 b.toNat);simpa [l1y] using this)
  exact⟨_,_,_,_,_,h,h2,key⟩
 ·cases h
end
section
variable{q:Bool}{C:Ctx}{es:IH}{ms:List MapEntry}{kt:TypeId}{a b k:Value}{p:Value×AV}{w:World}
def jL:Value->Value->Option Bool
 |.string a,.string b=>some (eqB a.data.toList b.data.toList)
 |.int k a,.int c b=>match decide (k=c) with|true=>some (ieq a b)|false=>none
 |.bool a,.bool b=>some (a==b)
 |_,_=>none
def Ys(xs:Hx):Hx->Option Bool:=
 @List.rec Value (λ_=>Hx->Option Bool) (λd=>match d with|[]=>some true|_=>none)
  (λx _ ih d=>match d with
   |[]=>none
   |y::d=>match jL x y with
    |some b=>(match ih d with|some c=>some (b&&c)|none=>none)
    |none=>none) xs
def keq:Value->Value->Option Bool
 |.agg xs,.agg c=>Ys xs.toList c.toList
 |a,b=>jL a b
def jH(k:Value)(es:IH):Nat->Option (Option (Nat×AV)):=
 @List.rec (Value×AV) (λ_=>Nat->Option (Option (Nat×AV))) (λ_=>some none)
  (λp _ ih i=>match keq k p.1 with|some true=>some (some (i,p.2))|some false=>ih (Nat.succ i)|none=>none) es
def fV(k:Value)(p:Value×AV)(es:IH)(i:Nat):jH k (p::es) i=(match keq k p.1 with|some true=>some (some (i,p.2))|some false=>jH k es (i+1)|none=>none):=rfl
def I9(k:Value)(es:IH)(K:Option (Nat×AV)->Af):Af:=match jH k es 0 with|some x=>K x|none=>none
def eJ(cs:Is):(Hx->Af)->Af:=
 @List.rec AV (λ_=>(Hx->Af)->Af) (λK=>K []) (λa _ ih K=>match a with|.v x=>ih λl=>K (x::l)|_=>none) cs
def Kk(a:AV)(K:Value->Af):Af:=match a with|.v (.string s)=>K (.string s)|_=>none
def XB(q:IntKind)(a:AV)(K:Value->Af):Af:=match a with|.v (.int c n)=>ck (decide (c=q)) (K (.int c n))|_=>none
def B5x(ks:List LK)(a:AV)(K:Value->Af):Af:=match a with|.agg cs=>eJ cs λvs=>ck (fits ks vs) (K (.agg vs.toArray))|_=>none
def Rq(P:Program)(kt:TypeId)(k:Value):Prop:=
 (P.underlying kt=some .string/\∃s,k=.string s)\/(∃q n,P.underlying kt=some (.int q)/\k=.int q n)\/(∃ks xs,EqFlat P kt ks/\fits ks xs=true/\k=.agg xs.toArray)
def E?(h:jL a b=some q):(q=true↔a=b)/\∀c:LK,c.fit a=true->c.fit b=true:=by
 cases a<;>cases b<;>simp[jL]at h
 ·subst h;exact⟨by simp,λc d=>by cases c<;>simp[LK.fit]at d⊢⟩
 ·split at h
  ·rename_i e;injection h with h
   have e:_=_:=l2y e;subst e;refine⟨by rw[<-h,Rk];simp,λc d=>?_⟩;cases c<;>simp[LK.fit]at d⊢
   exact d
  ·cases h
 ·rw[Rm]at h;refine⟨?_,λc d=>by cases c<;>simp[LK.fit]at d⊢⟩;rename_i x y;have⟨⟨x⟩⟩:=x;have⟨⟨y⟩⟩:=y;rw[<-h];simp
def A8H(x:Value)(xs:Hx)(ys:Hx):Ys (x::xs) ys=(match ys with|[]=>none|y::ys=>(match jL x y with|some b=>(match Ys xs ys with|some c=>some (b&&c)|none=>none)|none=>none)):=rfl
def Wd:∀{xs ys:Hx}{q:Bool},Ys xs ys=some q->(q=true↔xs=ys)/\∀ks,fits ks xs=true->fits ks ys=true:=by
 intro xs
 induction xs with
 |nil=>
  intro ys q h;cases ys with
  |nil=>injection h with h;subst h;exact⟨by simp,λ_ h=>h⟩
  |cons y ys=>cases h
 |cons x xs ih=>
  intro ys q h;rw[A8H]at h;cases ys with
  |nil=>cases h
  |cons y ys=>
   simp only at h;cases h1:jL x y with
   |none=>rw[h1]at h;cases h
   |some b=>
    rw[h1]at h;simp only at h;cases h2:Ys xs ys with
    |none=>rw[h2]at h;cases h
    |some c=>
     rw[h2]at h;injection h with h
     have⟨e,f1⟩:=E? h1;have⟨f,f2⟩:=ih h2;refine⟨by rw[<-h,KW,e,f,List.cons.injEq],λks d=>?_⟩;cases ks with
     |nil=>simp[fits]at d
     |cons k ks=>
      simp only[fits,KW]at d⊢;exact⟨f1 k d.1,f2 ks d.2⟩
def A2b(h:keq a b=some q):q=true↔a=b:=by
 unfold keq at h;split at h
 ·rename_i xs c;rw[(Wd h).1];constructor
  ·intro e;rw[Array.toList_inj.1 e]
  ·intro e;injection e with e;rw[e]
 ·exact(E? h).1
section
variable{P:Program}
def fX{r:AV×Hp}:∀(cs:Is)(K:Hx->Af),eJ cs K=some r->∃vs:Hx,cs=vs.map AV.v/\K vs=some r:=by
 intro cs
 induction cs with
 |nil=>intro K h;exact⟨[],rfl,h⟩
 |cons a cs ih=>
  intro K h;have h:(match(generalizing:=false) a with|.v x=>eJ cs λl=>K (x::l)|_=>none)=some r:=h;split at h
  ·have⟨vs,e,h2⟩:=ih _ h;exact⟨_::vs,by rw[e];rfl,h2⟩
  ·cases h
def tD{vs:Hx}{y:Value}(h:VRel C w (.agg (vs.map AV.v)) y):y=.agg vs.toArray:=by
 obtain⟨e,rfl,c⟩:=ET.1 h
 congr 1
 congr 1
 apply l0p;intro i;cases hi:vs[i]? with
 |none=>
  have:=c.1;simp only[QK]at this;have h1:vs.length<=i:=by simpa using List.getElem?_eq_none_iff.1 hi
  exact l1j (by omega)
 |some v=>
  have⟨y,d,hv⟩:=c.2 i (.v v) (by rw[yY,hi];rfl);rw[d,AQ.1 hv]
def xX:∀{ks:List LK}{xs:Hx}(n:Nat),fits ks xs=true->((xs.zip xs).all λp=>Instr.sameBits n p.1 p.2)=true:=by
 intro ks
 induction ks with
 |nil=>intro xs n h;cases xs<;>simp[fits]at h;rfl
 |cons k ks ih=>
  intro xs n h;cases xs with
  |nil=>simp[fits]at h
  |cons x xs=>
   simp only[fits,KW]at h;simp only[List.zip_cons_cons,qU,KW];refine⟨?_,ih n h.2⟩;have h1:=h.1;cases k<;>cases x<;>simp[LK.fit]at h1<;>simp[Instr.sameBits,MapKept.bytes_beq]
def Rq.stays(h:Rq P kt k)(w:World):(Instr.keyThatStays k k).run P w=.ok k w:=by
 have:Instr.sameBits 10000 k k=true:=by
  rcases h with⟨_,s,rfl⟩|⟨q,n,_,rfl⟩|⟨ks,xs,_,h,rfl⟩
  ·simp[Instr.sameBits,MapKept.bytes_beq]
  ·simp[Instr.sameBits]
  ·have:=xX 9999 h;show(xs.toArray.size==xs.toArray.size&&(xs.toArray.toList.zip xs.toArray.toList).all λ(x,y)=>Instr.sameBits 9999 x y)=true;simp only[beq_self_eq_true,l1b];exact this
 simp[Instr.keyThatStays,this]
def Rq.check(h:Rq P kt k)(em:Bool)(w:World):(Instr.checkKey em 10000 kt k).run P w=.ok () w:=by
 rcases h with⟨c,s,rfl⟩|⟨q,n,c,rfl⟩|⟨ks,xs,he,h,rfl⟩
 ·exact MapKept.run_checkKey c (d:=.string) (by simp[MapKept.IsKey]) em 9999
 ·exact MapKept.run_checkKey c (d:=.int q) (by simp[MapKept.IsKey]) em 9999
 ·exact he.check h em w
def xF(k:Value)(es:IH)(ms:List MapEntry)(c:Nat):Option (Nat×AV)->Option (Nat×Value)->Prop
 |none,r=>r=none/\∀p∈es,p.1≠k
 |some (i,v),r=>∃(j:Nat)(m:MapEntry),i=c+j/\es[j]?=some (k,v)/\ms[j]?=some m/\m.key=k/\r=some (i,m.val)
def Ml.cons_inv(h:Ml C w (p::es) ms):∃m c,ms=m::c/\m.key=p.1/\VRel C w p.2 m.val/\Ml C w es c:=by
 cases ms with
 |nil=>exact absurd h.1 (by simp)
 |cons m ms=>
  have⟨f,h1,h2,d⟩:=h.2 0 p rfl;simp at h1;subst h1;exact⟨m,ms,rfl,h2,d,by simpa using h.1,λi x e=>by simpa using h.2 (i+1) x (by simpa using e)⟩
def Ml.nil_inv(h:Ml C w [] ms):ms=[]:=gM (by simpa using h.1)
def xF.step{m:MapEntry}{d:Nat}(c:p.1≠k):∀{x:Option (Nat×AV)}{r:Option (Nat×Value)},xF k es ms (d+1) x r->xF k (p::es) (m::ms) d x r
 |none,r,⟨h1,h2⟩=>⟨h1,λq hq=>by
  rcases Vp.1 hq with rfl|hq
  ·exact c
  ·exact h2 q hq⟩
 |some (i,v),r,⟨j,h,h1,h2,e,f,g⟩=>⟨j+1,h,by omega,by simpa using h2,by simpa using e,f,g⟩
def eK{d:TypeDesc}(t:∀v q,keq k v=some q->Instr.sameNow d k v=some q):∀(es:IH)(ms:List MapEntry)(i:Nat)(x:Option (Nat×AV)),Ml C w es ms->jH k es i=some x->∃r,Instr.findNow d k ms i=some r/\xF k es ms i x r:=by
 intro es
 induction es with
 |nil=>
  intro ms i x he h;injection h with h
  subst h;rw[he.nil_inv];exact⟨none,rfl,rfl,by simp⟩
 |cons p es ih=>
  intro ms i x he h;obtain⟨m,n,rfl,g,hv,f⟩:=he.cons_inv;rw[fV]at h;cases hq:keq k p.1 with
  |none=>rw[hq]at h;cases h
  |some q=>
   rw[hq]at h;have s:=t _ _ hq;have c:=A2b hq;cases q with
   |true=>
    injection h with h
    subst h;have:k=p.1:=c.1 rfl;refine⟨some (i,m.val),by simp[Instr.findNow,g,s],0,m,rfl,by rw[this];rfl,rfl,by rw[g,this],rfl⟩
   |false=>
    have⟨r,h1,h2⟩:=ih n (i+1) x f h;have j:p.1≠k:=λe=>by have:=c.2 e.symm;cases this
    exact⟨r,by simp[Instr.findNow,g,s,h1],h2.step j⟩
def oA{ks:List LK}(B:EqFlat P kt ks){xs:Hx}(v:fits ks xs=true):∀(es:IH)(ms:List MapEntry)(i:Nat)(x:Option (Nat×AV)),Ml C w es ms->jH (.agg xs.toArray) es i=some x->
 ∃r,(Instr.findAsking kt (.agg xs.toArray) ms i).run P w=.ok r w/\xF (.agg xs.toArray) es ms i x r:=by
 intro es
 induction es with
 |nil=>
  intro ms i x he h;injection h with h
  subst h;rw[he.nil_inv];exact⟨none,rfl,rfl,by simp⟩
 |cons p es ih=>
  intro ms i x he h;obtain⟨m,n,rfl,t,hv,f⟩:=he.cons_inv;rw[fV]at h;cases hq:keq (.agg xs.toArray) p.1 with
  |none=>rw[hq]at h;cases h
  |some q=>
   rw[hq]at h;have c:=A2b hq;have heq:(Op.equal kt (.agg xs.toArray) m.key).run P w=.ok q w:=by
    rw[t];unfold keq at hq;split at hq
    ·rename_i D s d y;injection d with d
     subst d;have g:=(Wd hq).2 ks (by simpa using v);have:=B.equal v g w;rw[y];have A:s.toList.toArray=s:=by simp
     rw[A]at this;rw[this]
     congr 1
     rw[qW,(Wd hq).1];simp
    ·rename_i h1;cases u:p.1 with
     |agg s=>exact absurd u (h1 _ _ rfl)
     |_=>rw[u]at hq;simp[jL]at hq
   cases q with
   |true=>
    injection h with h
    subst h;have:_=p.1:=c.1 rfl;refine⟨some (i,m.val),by simp[Instr.findAsking,heq],0,m,rfl,by rw[this];rfl,rfl,by rw[t,this],rfl⟩
   |false=>
    have⟨r,h1,h2⟩:=ih n (i+1) x f h;have j:p.1≠_:=λe=>by have:=c.2 e.symm;cases this
    exact⟨r,by simp[Instr.findAsking,heq,h1],h2.step j⟩
def Rq.find(t:Rq P kt k){x:Option (Nat×AV)}(he:Ml C w es ms)(h:jH k es 0=some x):∃r,(Instr.findKey kt k ms).run P w=.ok r w/\xF k es ms 0 x r:=by
 rcases t with⟨c,s,rfl⟩|⟨q,n,c,rfl⟩|⟨ks,xs,i,g,rfl⟩
 ·have⟨r,h1,h2⟩:=eK (d:=.string) (λv q hq=>by
   cases v<;>simp[keq,jL]at hq
   rename_i u;simp only[Instr.sameNow];rw[<-hq,Rm]
   congr 1
   have⟨⟨s⟩⟩:=s;have⟨⟨u⟩⟩:=u;rw[qW,MapKept.bytes_beq];simp) es ms 0 x he h
  exact⟨r,MapKept.run_findKey c h1,h2⟩
 ·have⟨r,h1,h2⟩:=eK (d:=.int q) (λv B hq=>by
   cases v<;>simp[keq,jL]at hq
   rename_i A m;by_cases e:q=A
   ·subst e;simp at hq;simp only[Instr.sameNow,Dv];rw[<-hq,Rk]
    congr 1
   ·simp[e]at hq) es ms 0 x he h
  exact⟨r,MapKept.run_findKey c h1,h2⟩
 ·have⟨r,h1,h2⟩:=oA i g es ms 0 x he h;refine⟨r,?_,h2⟩;have c:∃u,P.underlying kt=some u/\(∀b,Instr.sameNow u (.agg xs.toArray) b=none):=by
   have f:=i.leaves;unfold leaves at f;split at f
   ·simp at f
   ·simp at f
   ·simp at f
   ·rename_i c;exact⟨_,c,λb=>by cases b<;>rfl⟩
   ·rename_i c;exact⟨_,c,λb=>by cases b<;>rfl⟩
   ·cases f
  have⟨u,c,y⟩:=c;unfold Instr.findKey;rw[Dr,run_underlying c w];simp only[Ga];cases ms with
  |nil=>
   have:=he.1;have e:es=[]:=gM (by simpa using this.symm);obtain⟨j,_⟩:r=none/\True:=by
    subst e;have g:x=none:=(l2b h).symm;subst g;exact⟨h2.1,trivial⟩
   rw[j];rfl
  |cons m ms=>
   have:Instr.findNow u (.agg xs.toArray) (m::ms) 0=none:=by simp[Instr.findNow,y]
   rw[this];exact h1
end
end
section
variable{m v:AV}{ms:Array MapEntry}{es es':IH}{f:MapEntry->MapEntry}{clock:Nat}{bo:Option (Hb×Nat)}{ie:TI}{k ym yv:Value}
def wV:Option (Hb×Nat)->Option (Hb×Nat)
 |some (a,c)=>some (a++[c],c+1)
 |none=>none
def C1O:Option (Hb×Nat)->Nat->Option (Hb×Nat)
 |some (a,c),i=>some (a.eraseIdx i,c)
 |none,_=>none
def fL:TD->Option (Hb×Nat)
 |.int _=>some ([],0)
 |.slice _ _=>some ([],0)
 |_=>none
def nI(x:Row)(K:IH->Option (Hb×Nat)->Af):Af:=match x with|.map false es bo=>K es bo|_=>none
def Ld(ie:TI)(H:Hp)(K:KV):Af:=HE H λs=>K (.mp s) ((s,.map false [] (fL ie.d))::H)
def Mg(m:AV)(k:Value)(v:AV)(H:Hp)(K:Ru):Af:=
 match m with
 |.mp r=>IP H r λx=>nI x λes bo=>I9 k es λf=>match f with
  |none=>LJ H r (.map false (es++[(k,v)]) (wV bo)) K
  |some (i,_)=>LJ H r (.map false (es.set i (k,v)) bo) K
 |_=>none
def zC(m:AV)(H:Hp)(K:IH->Af):Af:=
 match m with
 |.mp r=>IP H r λx=>nI x λes _=>K es
 |.imap es=>K es
 |.v (.map none)=>K []
 |_=>none
def Ye(ie:TI)(ok:Bool)(m:AV)(k:Value)(H:Hp)(K:K2):Af:=
 zC m H λes=>I9 k es λf=>match f,ok with
  |none,true=>K (.tup [ie.zero,.v (.bool false)])
  |none,false=>K ie.zero
  |some (_,v),true=>K (.tup [v,.v (.bool true)])
  |some (_,v),false=>K v
def kC(m:AV)(k:Value)(H:Hp)(K:Ru):Af:=
 match m with
 |.mp r=>IP H r λx=>nI x λes bo=>I9 k es λf=>match f with
  |none=>K H
  |some (i,_)=>LJ H r (.map false (es.eraseIdx i) (C1O bo i)) K
 |_=>none
def Zy(m:AV)(H:Hp)(K:K2):Af:=zC m H λes=>HN es 0 λn=>K (.v (.int .i64 (.ofNat n)))
def B2f(ie:TI)(m:AV)(k:Value)(H:Hp)(K:KV):Af:=
 match m with
 |.mp r=>IP H r λx=>nI x λes bo=>match bo with
  |some (a,c)=>I9 k es λf=>match f with
   |none=>LJ H r (.map false (es++[(k,ie.zero)]) (some (a++[c],c+1))) λd=>K (.tup [ie.zero,.v (.int .i64 (.ofNat c))]) d
   |some (i,v)=>(match a[i]? with|some b=>K (.tup [v,.v (.int .i64 (.ofNat b))]) H|none=>none)
  |none=>none
 |_=>none
def B2e(m st v:AV)(H:Hp)(K:Ru):Af:=
 match m with
 |.mp r=>IP H r λx=>nI x λes bo=>A03 st λz=>match bo with
  |some (a,c)=>(match a.findIdx? (λb=>ieq (.ofNat b) z) with
   |some i=>(match es[i]? with|some p=>LJ H r (.map false (es.set i (p.1,v)) (some (a,c))) K|none=>none)
   |none=>none)
  |none=>none
 |_=>none
section
variable{P:Program}{G:Gl}{w0:Base}{C:Ctx}{H:Hp}{w:World}{r:AV×Hp}
def RR{x:Row}{K:IH->Option (Hb×Nat)->Af}(h:nI x K=some r):∃es bo,x=.map false es bo/\K es bo=some r:=by
 unfold nI at h;split at h
 ·exact⟨_,_,rfl,h⟩
 ·cases h
def TW{K:Option (Nat×AV)->Af}(h:I9 k es K=some r):∃x,jH k es 0=some x/\K x=some r:=by
 unfold I9 at h;split at h
 ·exact⟨_,by assumption,h⟩
 ·cases h
def Ml.append{ms ms':List MapEntry}(h:Ml C w es ms)(k:Ml C w es' ms'):Ml C w (es++es') (ms++ms'):=
 ⟨by simp[h.1,k.1],λi p a=>by
  rw[List.getElem?_append]at a⊢;rw[h.1];split at a
  ·rename_i hi;rw[Dv hi];exact h.2 i p a
  ·rename_i hi;rw[CL hi];exact k.2 _ p a⟩
def Ml.one{m:MapEntry}(b:m.key=k)(hv:VRel C w v m.val):Ml C w [(k,v)] [m]:=
 ⟨rfl,λi p a=>by
  cases i with
  |zero=>simp at a;subst a;exact⟨m,rfl,b,hv⟩
  |succ i=>simp at a⟩
def Ml.modify{ms:List MapEntry}(h:Ml C w es ms)(i:Nat)(d:∀m,ms[i]?=some m->(f m).key=k)(hv:∀m,ms[i]?=some m->VRel C w v (f m).val):Ml C w (es.set i (k,v)) (ms.modify i f):=
 ⟨by simp[h.1],λj p a=>by
  rw[List.getElem?_set]at a;rw[List.getElem?_modify];split at a
  ·rename_i e;subst e;split at a
   ·rename_i g;injection a with a
    subst a;have b:i<ms.length:=by rw[h.1];exact g
    have hm:=KJ b;exact⟨f ms[i],by rw[hm];simp,d _ hm,hv _ hm⟩
   ·cases a
  ·rename_i e;have⟨m,h1,h2,c⟩:=h.2 j p a;exact⟨m,by rw[h1];simp[e],h2,c⟩⟩
def Ml.eraseIdx{ms:List MapEntry}(h:Ml C w es ms)(i:Nat):Ml C w (es.eraseIdx i) (ms.eraseIdx i):=
 ⟨by rw[List.length_eraseIdx,List.length_eraseIdx,h.1],λj p a=>by
  rw[List.getElem?_eraseIdx]at a⊢;split at a
  ·rename_i hi;rw[Dv hi];exact h.2 j p a
  ·rename_i hi;rw[CL hi];exact h.2 _ p a⟩
def MOk.push(h:MOk ms clock)(k v:Value):MOk (ms.push {key:=k,val:=v,born:=clock}) (clock+1):=
 ⟨by
  rw[l2s,List.pairwise_append];refine⟨h.born,by simp,λa c b hb=>?_⟩;simp at hb;subst hb;have:=h.lt a c;show a.born≠clock;omega,λm hm=>by
  rw[l2s,dV]at hm;rcases hm with hm|hm
  ·have:=h.lt m hm;omega
  ·simp at hm;subst hm;exact Nat.lt_succ_self _⟩
def ZB{ms:List MapEntry}{i:Nat}(a:∀m,(f m).born=m.born):(ms.modify i f).map (·.born)=ms.map (·.born):=by
 apply l0p;intro j;rw[yY,yY,List.getElem?_modify];cases ms[j]? with
 |none=>rfl
 |some m=>by_cases e:i=j<;>simp[e,a]
def A6e:MOk ms clock↔(ms.toList.map (·.born)).Pairwise (λa b=>a≠b)/\∀b∈ms.toList.map (·.born),b<clock:=by
 constructor
 ·intro h;exact⟨by rw[List.pairwise_map];exact h.born,λb hb=>by obtain⟨m,hm,rfl⟩:=Pu.1 hb;exact h.lt m hm⟩
 ·rintro⟨h1,h2⟩;exact⟨by rw[List.pairwise_map]at h1;exact h1,λm hm=>h2 _ (Pu.2 ⟨m,hm,rfl⟩)⟩
def MOk.modify(h:MOk ms clock)(i:Nat)(a:∀m,(f m).born=m.born):MOk (ms.modify i f) clock:=by
 rw[A6e,l2t,ZB a];exact A6e.1 h
def RJ(ms:Array MapEntry)(i:Nat):(ms.eraseIdxIfInBounds i).toList=ms.toList.eraseIdx i:=by
 unfold Array.eraseIdxIfInBounds;split
 ·simp only[Array.toList_eraseIdx]
 ·rename_i h;rw[List.eraseIdx_of_length_le (by simpa using h)]
def jE{α β:Type}(f:α->β):∀(l:List α)(i:Nat),(l.eraseIdx i).map f=(l.map f).eraseIdx i
 |[],_=>rfl
 |_::_,0=>rfl
 |a::l,i+1=>by simp[jE f l i]
def MOk.erase(h:MOk ms clock)(i:Nat):MOk (ms.eraseIdxIfInBounds i) clock:=
 ⟨by rw[RJ];exact h.born.sublist (List.eraseIdx_sublist _ _),λm hm=>by rw[RJ]at hm;exact h.lt m ((List.eraseIdx_sublist _ _).subset hm)⟩
def ZJ{r:Nat}{bo bo':Option (Hb×Nat)}{b:Nat}{ms ms':Array MapEntry}{clock clock':Nat}{O:Nat->Prop}(hr:Rel G w0 C H w)(c:Ah H r=some (.map false es bo))(a:C.π r=some (some (b,0)))(hb:w.heap[b]?=some (.map ms clock))(he:Ml C w es' ms'.toList)(hm:MOk ms' clock')(d:BOk bo' ms' clock'):(setObj b (.map ms' clock')).run P w=.ok () {w with heap:=w.heap.setIfInBounds b (.map ms' clock')}/\
  Rel G w0 C (upd H r (.map false es' bo')) {w with heap:=w.heap.setIfInBounds b (.map ms' clock')}/\Ext O C w C {w with heap:=w.heap.setIfInBounds b (.map ms' clock')}:=by
 have⟨h1,h2⟩:=MapKept.heap_set (w:=w) (o':=.map ms' clock') hb;have g:SameObj w {w with heap:=w.heap.setIfInBounds b (.map ms' clock')} b (.map ms' clock'):=⟨rfl,rfl,rfl,by simp,h1,h2⟩
 refine⟨MapKept.run_setObj_map _ hb,hr.set_obj (O:=O) c a g (λarr T fz hc=>by rw[hb]at hc;cases hc) (λe=>⟨b,ms',clock',a,h1,hm,he.mono e,d⟩)⟩
def fM{r:Nat}{y:Value}(hr:Rel G w0 C H w)(s:Ah H r=some (.map false es bo))(hv:VRel C w (.mp r) y):
 ∃b ms clock,y=.map (some b)/\C.π r=some (some (b,0))/\w.heap[b]?=some (.map ms clock)/\MOk ms clock/\Ml C w es ms.toList/\BOk bo ms clock:=by
 cases hv with
 |@mp _ _ _ b c d=>
  have⟨e,ms,clock,i,j,n,p,q⟩:=hr.rows r _ s;have a:=i.symm.trans d;injection a with a;injection a with a;injection a with g h;subst g h
  exact⟨e,ms,clock,rfl,d,j,n,p,q⟩
def A2C{ty:TypeId}{K:KV}(hr:Rel G w0 C H w)(h:Ld ie H K=some r):∃v a y c b,K v a=some r/\(Instr.makeMap ty none).run P w=.ok y b/\KU G w0 C w v a y c b:=by
 unfold Ld at h;rw[BS]at h;have hb:=NZ w (.map #[] 0);refine⟨_,_,.map (some w.heap.size),_,w.alloc (.map #[] 0),h,rfl,.mp (C.put_n _ _),hr.new_row hb ⟨w.heap.size,#[],0,C.put_n _ _,World.alloc_heap_new _ _,⟨by simp,by simp⟩,⟨rfl,λi p d=>by simp at d⟩,?_⟩,hr.new_ext hb⟩;unfold fL;split
 ·exact⟨rfl,rfl⟩
 ·exact⟨rfl,rfl⟩
 ·trivial
def wE{mt Y Z:TypeId}{K:Ru}(X:P.underlying mt=some (.map Y Z))(A:Rq P Y k)(hr:Rel G w0 C H w)(hm:VRel C w m ym)(hv:VRel C w v yv)(h:Mg m k v H K=some r):
 ∃N M,K N=some r/\(Instr.mapUpdate mt ym k yv).run P w=.ok () M/\Rel G w0 C N M/\Ext w0.own C w C M:=by
 unfold Mg at h;split at h
 ·rename_i s;have⟨x,J,h1⟩:=Iz rfl h;obtain⟨es,bo,rfl,h2⟩:=RR h1;have⟨f,hf,a⟩:=TW h2;obtain⟨b,ms,clock,rfl,V,hb,t,he,R⟩:=fM hr J hm;have⟨q,hq,d⟩:=A.find he hf;clear h h1 h2;cases f with
  |none=>
   simp only at a;rw[Dh]at a;have⟨c,_⟩:=d;subst c;have⟨B,D,F⟩:=ZJ (P:=P) (O:=w0.own) (es':=es++[(k,v)]) (bo':=wV bo) (ms':=ms.push {key:=k,val:=yv,born:=clock}) (clock':=clock+1) hr J V hb (by rw[l2s];exact he.append (.one rfl hv)) (t.push _ _) (by
    cases bo with
    |none=>trivial
    |some p=>have⟨c,y⟩:=R;exact⟨by rw[l2s,dW,c,y];rfl,by rw[y]⟩)
   refine⟨_,_,a,?_,D,F⟩;unfold Instr.mapUpdate;rw[Dr,run_underlying X w];simp only[Ga];rw[Dr,l2q hb];simp only[Ga];rw[Dr,A.check];simp only[Ga];rw[Dr,hq];simp only[Ga];exact B
  |some p=>
   have⟨i,v0⟩:=p;simp only at a;rw[Dh]at a;have⟨j,m0,Q,aa,L,g,u⟩:=d;have Q:i=j:=by omega
   subst Q;subst u;have n:ms[i]?=some m0:=by simpa using L
   have⟨B,D,F⟩:=ZJ (P:=P) (O:=w0.own) (es':=es.set i (k,v)) (bo':=bo) (ms':=ms.modify i λe=>{e with key:=k,val:=yv}) (clock':=clock) hr J V hb (by rw[l2t];exact he.modify i (λ_ _=>rfl) (λ_ _=>hv)) (t.modify i (λ_=>rfl)) (by
    cases bo with
    |none=>trivial
    |some p=>have⟨c,y⟩:=R;exact⟨by rw[l2t,ZB (f:=λe=>{e with key:=k,val:=yv}) (λ_=>rfl)];exact c,y⟩)
   refine⟨_,_,a,?_,D,F⟩;unfold Instr.mapUpdate;rw[Dr,run_underlying X w];simp only[Ga];rw[Dr,l2q hb];simp only[Ga];rw[Dr,A.check];simp only[Ga];rw[Dr,hq];simp only[Ga,n,D?,l1q,g];rw[Dr,A.stays];simp only[Ga];exact B
 ·cases h
def I'{K:IH->Af}(hr:Rel G w0 C H w)(hm:VRel C w m ym)(h:zC m H K=some r):
 ∃es,K es=some r/\((ym=.map none/\es=[])\/∃b ms clock,ym=.map (some b)/\w.heap[b]?=some (.map ms clock)/\Ml C w es ms.toList):=by
 unfold zC at h;split at h
 ·have⟨x,c,h1⟩:=Iz rfl h;obtain⟨es,bo,rfl,h2⟩:=RR h1;obtain⟨b,ms,clock,rfl,d,hb,j,he,q⟩:=fM hr c hm;exact⟨es,h2,.inr ⟨b,ms,clock,rfl,hb,he⟩⟩
 ·rename_i es;refine⟨es,h,?_⟩;cases hm with
  |@imap _ _ _ b clock ms n hb c g hn hc hv=>
   refine .inr ⟨b,ms,clock,rfl,hb,by simpa using c,λi p d=>?_⟩;obtain⟨hi,rfl⟩:=E'.1 d;have a:i<ms.size:=by omega
   refine⟨ms[i],by simp[a],?_,?_⟩
   ·have:=g i hi;simpa [gO,a] using this
   ·have:=hv i hi;have e:(ms.getD i default)=ms[i]:=by simp[gO,a]
    rw[e]at this;exact this.up rfl rfl
 ·exact⟨[],h,.inl ⟨AQ.1 hm,rfl⟩⟩
 ·cases h
def A8n{mt M F:TypeId}{ok:Bool}{K:K2}(s:P.underlying mt=some (.map M F))(x:TOk1 P F ie)(d:Rq P M k)(hr:Rel G w0 C H w)(hm:VRel C w m ym)(h:Ye ie ok m k H K=some r):
 ∃v y,K v=some r/\(Instr.lookup mt ym k ok).run P w=.ok y w/\VRel C w v y:=by
 unfold Ye at h;have⟨es,h1,u⟩:=I' hr hm h;have⟨f,J,h2⟩:=TW h1;have⟨z,hz,Q⟩:=x.run_zero w;have D:VRel C w ie.zero z:=by rw[<-Q];exact iT z
 clear h h1;have key:∀(ms:List MapEntry)(q:Option (Nat×Value)),xF k es ms 0 f q->Ml C w es ms->
  ∃v y0 o,K (if ok=true then .tup [v,.v (.bool o)] else v)=some r/\VRel C w v y0/\((q=none/\y0=z/\o=false)\/∃i,q=some (i,y0)/\o=true):=by
  intro ms q a he;cases f with
  |none=>
   have⟨O,_⟩:=a;subst O;exact⟨ie.zero,z,false,by cases ok<;>exact h2,D,.inl ⟨rfl,rfl,rfl⟩⟩
  |some p=>
   have⟨i,N⟩:=p;have⟨j,m0,V,t,A,L,g⟩:=a;have B:VRel C w N m0.val:=by
    have⟨X,c,n,e⟩:=he.2 j _ t;rw[A]at c;injection c with c;subst c;exact e
   exact⟨N,m0.val,true,by cases ok<;>exact h2,B,.inr ⟨i,g,rfl⟩⟩
 have rel:∀{v:AV}{y0:Value}(o:Bool),VRel C w v y0->VRel C w (if ok=true then .tup [v,.v (.bool o)] else v) (if ok=true then .tuple #[y0,.bool o] else y0):=by
  intro v y0 o hv;cases ok with
  |true=>exact DQ.2 ⟨[y0,.bool o],rfl,.cons hv (.cons (.v _) .nil)⟩
  |false=>exact hv
 rcases u with⟨rfl,rfl⟩|⟨b,ms,clock,rfl,hb,he⟩
 ·have he:Ml C w [] []:=⟨rfl,λi p R=>by simp at R⟩
  have⟨q,hq,a⟩:=d.find he J;have⟨v,y0,o,c,n,e⟩:=key [] q a he;refine⟨_,_,c,?_,rel o n⟩;rcases e with⟨rfl,rfl,rfl⟩|⟨i,rfl,rfl⟩
  ·simp[Instr.lookup,run_underlying s,d.check,hq,hz,Result.andThen]
  ·simp[Instr.lookup,run_underlying s,d.check,hq,Result.andThen]
 ·have⟨q,hq,a⟩:=d.find he J;have⟨v,y0,o,c,n,e⟩:=key _ q a he;refine⟨_,_,c,?_,rel o n⟩;rcases e with⟨rfl,rfl,rfl⟩|⟨i,rfl,rfl⟩
  ·simp[Instr.lookup,run_underlying s,l2q hb,d.check,hq,hz,Result.andThen]
  ·simp[Instr.lookup,run_underlying s,l2q hb,d.check,hq,Result.andThen]
def A2H{mt kt et:TypeId}{ts:Array TypeId}{ty:TypeId}{K:Ru}(t:ts[0]?=some mt)(Z:P.underlying mt=some (.map kt et))(D:Rq P kt k)(hr:Rel G w0 C H w)(hm:VRel C w m ym)(h:kC m k H K=some r):
 ∃L c,K L=some r/\(Builtin.delete_ ts ty #[ym,k]).run P w=.ok (.tuple #[]) c/\Rel G w0 C L c/\Ext w0.own C w C c:=by
 unfold kC at h;split at h
 ·rename_i s;have⟨x,F,h1⟩:=Iz rfl h;obtain⟨es,bo,rfl,h2⟩:=RR h1;have⟨f,hf,y⟩:=TW h2;obtain⟨b,ms,clock,rfl,Y,hb,g,he,X⟩:=fM hr F hm;have⟨q,hq,d⟩:=D.find he hf;clear h h1 h2;have a:∀(c:World)(ms':Array MapEntry),(q=none/\ms'=ms\/∃i v,q=some (i,v)/\ms'=ms.eraseIdxIfInBounds i)->(setObj b (.map ms' clock)).run P w=.ok () c->(Builtin.delete_ ts ty #[.map (some b),k]).run P w=.ok (.tuple #[]) c:=by
   intro c ms' J A;rcases J with⟨rfl,rfl⟩|⟨i,v,rfl,rfl⟩
   ·simp[Builtin.delete_,t,run_underlying Z,l2q hb,D.check,hq,A,Result.andThen]
   ·simp[Builtin.delete_,t,run_underlying Z,l2q hb,D.check,hq,A,Result.andThen]
  cases f with
  |none=>
   have⟨B,_⟩:=d;subst B;have⟨u,N,Q⟩:=ZJ (P:=P) (O:=w0.own) (es':=es) (bo':=bo) (ms':=ms) (clock':=clock) hr F Y hb he g X;have A:({w with heap:=w.heap.setIfInBounds b (.map ms clock)}:World)=w:=by
    have:w.heap.setIfInBounds b (.map ms clock)=w.heap:=by
     apply Array.ext_getElem?;intro j;by_cases R:b=j
     ·subst R;rw[(MapKept.heap_set hb).1,hb]
     ·exact(MapKept.heap_set hb).2 j (λe=>R e.symm)
    rw[this]
   rw[A]at u;exact⟨H,w,y,a w ms (.inl ⟨rfl,rfl⟩) u,hr,.refl _ _ _⟩
  |some p=>
   have⟨i,v0⟩:=p;simp only at y;rw[Dh]at y;have⟨j,m0,M,aa,ab,V,n⟩:=d;have M:i=j:=by omega
   subst M;subst n;have⟨u,N,Q⟩:=ZJ (P:=P) (O:=w0.own) (es':=es.eraseIdx i) (bo':=C1O bo i) (ms':=ms.eraseIdxIfInBounds i) (clock':=clock) hr F Y hb (by rw[RJ];exact he.eraseIdx i) (g.erase i) (by
    cases bo with
    |none=>trivial
    |some p=>have⟨B,e2⟩:=X;exact⟨by rw[RJ,<-B,jE],e2⟩)
   exact⟨_,_,y,a _ _ (.inr ⟨i,_,rfl,rfl⟩) u,N,Q⟩
 ·cases h
def A2F{mt g e:TypeId}{ts:Array TypeId}{ty:TypeId}{K:K2}(a:ts[0]?=some mt)(d:P.underlying mt=some (.map g e))(hr:Rel G w0 C H w)(hm:VRel C w m ym)(h:Zy m H K=some r):
 ∃v y,K v=some r/\(Builtin.len_ ts ty #[ym]).run P w=.ok y w/\VRel C w v y:=by
 unfold Zy at h;have⟨es,h1,c⟩:=I' hr hm h;rw[C4,JZ]at h1;refine⟨_,.int .i64 es.length,h1,?_,.v _⟩;rcases c with⟨rfl,rfl⟩|⟨b,ms,clock,rfl,hb,he⟩
 ·simp[Builtin.len_,a,run_underlying d,goInt]
 ·have:=he.1;simp only[Array.length_toList]at this;simp[Builtin.len_,a,run_underlying d,l2q hb,goInt,this]
def A2G{mt N et:TypeId}{K:KV}(hu:P.underlying mt=some (.map N et))(V:TOk1 P et ie)(D:Rq P N k)(hr:Rel G w0 C H w)(hm:VRel C w m ym)(h:B2f ie m k H K=some r):
 ∃v Z y w',K v Z=some r/\(Instr.mapEntry mt ym k).run P w=.ok y w'/\KU G w0 C w v Z y C w':=by
 unfold B2f at h;split at h
 ·rename_i s;have⟨x,hl,h1⟩:=Iz rfl h;obtain⟨es,bo,rfl,h2⟩:=RR h1;clear h h1;split at h2
  ·rename_i bs c;have⟨f,hf,n⟩:=TW h2;obtain⟨b,ms,clock,rfl,hp,hb,X,he,ho⟩:=fM hr hl hm;have⟨o1,o2⟩:=ho;subst o2;have⟨q,hq,A⟩:=D.find he hf;have⟨z,hz,ez⟩:=V.run_zero w;have L:VRel C w ie.zero z:=by rw[<-ez];exact iT z
   clear h2;have aa:∀(g:Option (Nat×Value)->Sem Value)(res:Result Value),(g q).run P w=res->(do
    Instr.checkKey false 10000 N k
    let x<-Instr.findKey N k ms.toList
    g x:Sem Value).run P w=res:=by
    intro g res hg;rw[Dr,D.check];simp only[Ga];rw[Dr,hq];exact hg
   cases f with
   |none=>
    simp only at n;rw[Dh]at n;have⟨e1,_⟩:=A;subst e1;have⟨u,g2,M⟩:=ZJ (P:=P) (O:=w0.own) (es':=es++[(k,ie.zero)]) (bo':=some (bs++[clock],clock+1)) (ms':=ms.push {key:=k,val:=z,born:=clock}) (clock':=clock+1) hr hl hp hb (by rw[l2s];exact he.append (.one rfl L)) (X.push _ _) ⟨by rw[l2s,dW,o1];rfl,rfl⟩;refine⟨_,_,.tuple #[z,goInt clock],_,n,?_,DQ.2 ⟨[z,goInt clock],rfl,.cons (L.mono M) (.cons (.v _) .nil)⟩,g2,M⟩;unfold Instr.mapEntry;rw[Dr,run_underlying hu w];simp only[Ga];rw[Dr,l2q hb];simp only[Ga];rw[Dr,D.check];simp only[Ga];rw[Dr,hq];simp only[Ga];rw[Dr,hz];simp only[Ga];rw[Dr,u];rfl
   |some p=>
    have⟨i,v0⟩:=p;simp only at n;have⟨j,m0,e0,R,t,a,J⟩:=A;have e0:i=j:=by omega
    subst e0;subst J;have d:ms[i]?=some m0:=by simpa using t
    have Q:bs[i]?=some m0.born:=by rw[<-o1,yY,t];rfl
    rw[Q]at n;simp only at n;have Y:VRel C w v0 m0.val:=by
     have⟨m',u,g2,M⟩:=he.2 i _ R;rw[t]at u;injection u with u;subst u;exact M
    have F:ms.modify i (λe=>{e with key:=k})=ms:=by
     apply Array.ext_getElem?;intro j;rw[l0s];by_cases B:i=j
     ·subst B;rw[d];simp[<-a]
     ·rw[CL B]
    have hw:({w with heap:=w.heap.setIfInBounds b (.map ms clock)}:World)=w:=by
     have:w.heap.setIfInBounds b (.map ms clock)=w.heap:=by
      apply Array.ext_getElem?;intro j;by_cases B:b=j
      ·subst B;rw[(MapKept.heap_set hb).1,hb]
      ·exact(MapKept.heap_set hb).2 j (λe=>B e.symm)
     rw[this]
    refine⟨_,H,.tuple #[m0.val,goInt m0.born],w,n,?_,DQ.2 ⟨[m0.val,goInt m0.born],rfl,.cons Y (.cons (.v _) .nil)⟩,hr,.refl _ _ _⟩;unfold Instr.mapEntry;rw[Dr,run_underlying hu w];simp only[Ga];rw[Dr,l2q hb];simp only[Ga];rw[Dr,D.check];simp only[Ga];rw[Dr,hq];simp only[Ga,d,D?,l1q,a];rw[Dr,D.stays];simp only[Ga,F];rw[Dr,MapKept.run_setObj_map _ hb,hw];rfl
  ·cases h2
 ·cases h
def A2B{mt:TypeId}{m st v:AV}{ym ys yv:Value}{K:Ru}(hr:Rel G w0 C H w)(hm:VRel C w m ym)(X:VRel C w st ys)(hv:VRel C w v yv)(h:B2e m st v H K=some r):
 ∃A y,K A=some r/\(Instr.entryStore mt ym ys yv).run P w=.ok () y/\Rel G w0 C A y/\Ext w0.own C w C y:=by
 unfold B2e at h;split at h
 ·rename_i s;have⟨x,B,h1⟩:=Iz rfl h;obtain⟨es,bo,rfl,h2⟩:=RR h1;obtain⟨q,z,rfl,a⟩:=Qp h2;clear h h1 h2;split at a
  ·rename_i F c;split at a
   ·rename_i i hi;split at a
    ·rename_i p V;rw[Dh]at a;obtain⟨b,ms,clock,rfl,t,hb,n,he,R⟩:=fM hr B hm;have⟨D,Z⟩:=R;subst Z;have u:=AQ.1 X;subst u;have d:ms.findIdx? (λe=>(e.born:Int)==z)=some i:=by
      have J:∀p:MapEntry->Bool,ms.findIdx? p=ms.toList.findIdx? p:=λp=>by cases ms;simp
      rw[J];rw[<-D,List.findIdx?_map]at hi;rw[<-hi]
      congr 1
      funext e
      simp only[Function.comp,Rk];rw[qW];simp
     have⟨m1,j,g,Y⟩:=he.2 i p V;have⟨L,M,N⟩:=ZJ (P:=P) (O:=w0.own) (es':=es.set i (p.1,v)) (bo':=some (F,clock)) (ms':=ms.modify i λe=>{e with val:=yv}) (clock':=clock) hr B t hb (by
      rw[l2t];refine he.modify i (λm hm=>?_) (λ_ _=>hv);rw[j]at hm;injection hm with hm;subst hm;exact g) (n.modify i (λ_=>rfl)) ⟨by rw[l2t,ZB (f:=λe=>{e with val:=yv}) (λ_=>rfl)];exact D,rfl⟩
     refine⟨_,_,a,?_,M,N⟩;unfold Instr.entryStore;simp only;rw[Dr,l2q hb];simp only[Ga];rw[Dr];have Q:(asInt (.int q z)).run P w=.ok z w:=rfl;rw[Q];simp only[Ga,d];exact L
    ·cases a
   ·cases a
  ·cases a
 ·cases h
end
end
section
variable{f:AV->AV->Bool}{K:KV}{es:IH}{y ym:Value}
def iC:Value->Value->Bool
 |.string a,.string b=>eqbL a.data.toList b.data.toList
 |.int k a,.int c b=>decide (k=c)&&decide (a=b)
 |.bool a,.bool b=>a==b
 |.slice none 0 0,.slice none 0 0=>true
 |.pointer none,.pointer none=>true
 |.map none,.map none=>true
 |.nilFunc,.nilFunc=>true
 |_,_=>false
where eqbL:Ha->Ha->Bool
 |[],[]=>true
 |a::l,b::m=>Nat.beq a.toNat b.toNat&&eqbL l m
 |_,_=>false
def xC(f:AV->AV->Bool):Is->Is->Bool
 |[],[]=>true
 |a::l,b::m=>f a b&&xC f l m
 |_,_=>false
def fnB:AV->AV->Bool
 |.fn (.func f) [] [],.fn (.func g) [] []=>Nat.beq f g
 |_,_=>false
def C17{a b:AV}(h:fnB a b=true):a=b:=by
 unfold fnB at h;split at h
 ·rw[ZR h]
 ·cases h
def A8K(f:AV->AV->Bool):IH->IH->Bool
 |[],[]=>true
 |a::l,b::m=>iC a.1 b.1&&(f a.2 b.2&&A8K f l m)
 |_,_=>false
def Vo:Nat->AV->AV->Bool
 |_,.v x,.v y=>iC x y
 |d+1,.list n cs,.list m es=>Nat.beq n m&&xC (Vo d) cs es
 |d+1,.agg cs,.agg es=>xC (Vo d) cs es
 |d+1,.tup cs,.tup es=>xC (Vo d) cs es
 |d+1,.imap es,.imap a=>A8K (Vo d) es a
 |_+1,.fn f b cs,.fn g a ds=>fnB (.fn f b cs) (.fn g a ds)
 |_,_,_=>false
def A5T(a b:Af):Af:=
 match a with
 |some (v,[])=>(match b with
  |some (u,[])=>(match Vo 6 v u with|true=>some (v,[])|false=>none)
  |_=>none)
 |_=>none
def UH(F:Value×AV->IH->Af)(l:IH):IH->Af:=
 @List.rec (Value×AV) (λ_=>IH->Af) (λ_=>none)
  (λe rest ih pre=>@List.rec (Value×AV) (λ_=>Af) (F e pre) (λ_ _ _=>A5T (F e (pre++rest)) (ih (pre++[e]))) rest) l
def A6n(x:Row)(K:IH->Af):Af:=match x with|.iter l _=>K l|_=>none
def XP(m:AV)(H:Hp)(K:KV):Af:=
 match m with
 |.imap es=>HE H λs=>K (.it s) ((s,.iter es none)::H)
 |.v (.map none)=>HE H λs=>K (.it s) ((s,.iter [] none)::H)
 |.mp s=>IP H s λx=>nI x λes _=>ck (es.all λp=>dA 3 p.2) (LJ H s .gone λa=>HE a λt=>K (.it t) ((t,.iter es none)::a))
 |_=>none
def Zx(it:AV)(H:Hp)(K:KV):Af:=
 match it with
 |.it s=>IP H s λx=>A6n x λl=>@List.rec (Value×AV) (λ_=>Af) (K (.tup [.v (.bool false)]) H)
  (λ_ _ _=>UH (λe rest=>LJ H s (.iter rest (some e)) λa=>K (.tup [.v (.bool true),uJ e.1,e.2]) a) l []) l
 |_=>none
def B1o(x:Row)(K:Value×AV->Af):Af:=match x with|.iter _ (some p)=>K p|_=>none
def eA(it:AV)(H:Hp)(K:K2):Af:=
 match it with
 |.it s=>IP H s λx=>B1o x λp=>K (.tup [uJ p.1,p.2])
 |_=>none
def B64:∀{a b:Ha},iC.eqbL a b=true->a=b:=by
 intro a
 induction a with
 |nil=>intro b h;cases b<;>simp[iC.eqbL]at h;rfl
 |cons x a ih=>
  intro b h;cases b with
  |nil=>simp[iC.eqbL]at h
  |cons y b=>
   simp only[iC.eqbL,KW]at h;rw[ih h.2,UInt8.toNat_inj.1 (ZR h.1)]
def rK{a b:Value}(h:iC a b=true):a=b:=by
 unfold iC at h;split at h
 ·rename_i x y;have⟨⟨x⟩⟩:=x;have⟨⟨y⟩⟩:=y;have:=B64 h;simp at this;rw[this]
 ·simp only[KW,decide_eq_true_eq]at h;rw[h.1,h.2]
 ·rw[eq_of_beq h]
 ·rfl
 ·rfl
 ·rfl
 ·rfl
 ·cases h
def sE(c:∀a b,f a b=true->a=b):∀{l m:Is},xC f l m=true->l=m:=by
 intro l
 induction l with
 |nil=>intro m h;cases m<;>simp[xC]at h;rfl
 |cons a l ih=>
  intro m h;cases m with
  |nil=>simp[xC]at h
  |cons b m=>
   simp only[xC,KW]at h;rw[c a b h.1,ih h.2]
def B6x(c:∀a b,f a b=true->a=b):∀{l m:IH},A8K f l m=true->l=m:=by
 intro l
 induction l with
 |nil=>intro m h;cases m<;>simp[A8K]at h;rfl
 |cons a l ih=>
  intro m h;cases m with
  |nil=>simp[A8K]at h
  |cons b m=>
   simp only[A8K,KW]at h;rw[show a=b from Prod.ext (rK h.1) (c _ _ h.2.1),ih h.2.2]
def A5s:∀(d:Nat)(a b:AV),Vo d a b=true->a=b:=by
 intro d
 induction d with
 |zero=>
  intro a b h;cases a<;>cases b<;>simp[Vo]at h
  rw[rK h]
 |succ d ih=>
  intro a b h;cases a<;>cases b<;>simp only[Vo]at h<;>first|(cases h;done)|skip
  ·rw[rK h]
  ·simp only[KW]at h;rw[ZR h.1,sE ih h.2]
  ·exact C17 h
  ·rw[sE ih h]
  ·rw[sE ih h]
  ·rw[B6x ih h]
def A40{a b:Af}{r:AV×Hp}(h:A5T a b=some r):a=some r/\b=some r:=by
 unfold A5T at h;split at h
 ·split at h
  ·split at h
   ·rename_i hq;rw[<-A5s _ _ _ hq];exact⟨h,h⟩
   ·cases h
  ·cases h
 ·cases h
section
variable{r:AV×Hp}
def oS(F:Value×AV->IH->Af)(e a:Value×AV)(l pre:IH):UH F (e::a::l) pre=A5T (F e (pre++a::l)) (UH F (a::l) (pre++[e])):=rfl
def uH(F:Value×AV->IH->Af)(e:Value×AV)(pre:IH):UH F [e] pre=F e pre:=rfl
def A1Q{F:Value×AV->IH->Af}:∀(l pre:IH),UH F l pre=some r->∀(j:Nat)(e:Value×AV),l[j]?=some e->F e (pre++l.eraseIdx j)=some r:=by
 intro l
 induction l with
 |nil=>intro pre h;cases h
 |cons e l ih=>
  intro pre h j a he;cases l with
  |nil=>
   rw[uH]at h;cases j with
   |zero=>simp at he;subst he;simpa using h
   |succ j=>simp at he
  |cons b l=>
   rw[oS]at h;have⟨h1,h2⟩:=A40 h;cases j with
   |zero=>simp at he;subst he;simpa using h1
   |succ j=>
    have:=ih _ h2 j a (by simpa using he);simpa using this
variable{P:Program}{G:Gl}{w0:Base}{C:Ctx}{H:Hp}{w:World}
def Ext.weak{C':Ctx}{w':World}{O:Nat->Prop}(h:Ext (λ_=>False) C w C' w'):Ext O C w C' w':=
 ⟨h.π,h.F,h.keep,h.B,h.keepB,h.size,λb i a=>(h.new b i a).imp id False.elim,λb a=>(h.newB b a).imp id False.elim,h.grow⟩
def pB{mt x q:TypeId}(M:P.underlying mt=some (.map x q))(hr:Rel G w0 C H w)(hm:VRel C w (.imap es) ym)(h:(HE H λs=>K (.it s) ((s,.iter es none)::H))=some r):
 ∃v k y B A,K v k=some r/\(Instr.range mt ym).run P w=.ok y A/\KU G w0 C w v k y B A:=by
 rw[BS]at h;cases hm with
 |@imap _ _ _ b clock ms t hb J F hn hc hv=>
  have c:=NZ w (.mapIter (some b) clock #[] clock);refine⟨_,_,.pointer (some ⟨w.heap.size,0,none⟩),_,w.alloc (.mapIter (some b) clock #[] clock),h,run_range_map w mt x q b ms clock M hb,.it (C.put_n _ _),hr.new_row c ⟨w.heap.size,some b,clock,#[],clock,C.put_n _ _,World.alloc_heap_new _ _,.inr ⟨b,ms,clock,rfl,rfl,rfl,t,(c.block b (hr.finB b t)).trans hb,?_,?_,trivial⟩⟩,hr.new_ext c⟩
  ·refine⟨?_,λm hm=>?_⟩
   ·rw[l26];intro i j hi u d;have:=hn i j d (by simpa using u);have a:i<ms.size:=by simpa using hi
    have g:j<ms.size:=by simpa using u
    simpa [gO,a,g] using this
   ·obtain⟨i,hi,rfl⟩:=List.mem_iff_getElem.1 hm;have a:i<ms.size:=by simpa using hi
    have:=hc i a;simpa [gO,a] using this
  ·have D:(ms.toList.filter λe=>!(#[]:Array Nat).contains e.born)=ms.toList:=by simp
   rw[D];refine⟨by simpa using J,λi p L=>?_⟩;obtain⟨hi,rfl⟩:=E'.1 L;have a:i<ms.size:=by omega
   have n:(ms.getD i default)=ms[i]:=by simp[gO,a]
   refine⟨ms[i],by simp[a],?_,?_⟩
   ·have:=F i hi;rwa[n]at this
   ·have:=hv i hi;rw[n]at this;exact(this.mono (hr.new_ext (O:=λ_=>True) c).bare)
def Ctx.fixM(C:Ctx)(b:Nat):Ctx:={C with B:=λk=>C.B k\/k=b}
def Rel.freezeM{s b:Nat}{q:Bool}{F:Option (Hb×Nat)}(h:Rel G w0 C H w)(p:Ah H s=some (.map q es F))(u:C.π s=some (some (b,0))):Rel G w0 (C.fixM b) (cut H s) w/\Ext w0.own C w (C.fixM b) w:=by
 have m:=h.own s _ b 0 p u;have e:Ext w0.own C w (C.fixM b) w:=⟨λ_ _=>rfl,λ_ _ h=>h,λ_ _ _=>rfl,λ_ h=>.inl h,λ_ _=>rfl,λ_ a _ f h=>⟨a,f,h,rfl⟩,λ_ _ h=>.inl h,λk h=>by rcases h with h|h;exact .inl h;exact .inr (h▸m.1),MC _⟩
 have c:∀t x,Ah (cut H s) t=some x->t≠s/\Ah H t=some x:=λt x d=>by
  by_cases v:t=s
  ·subst v;rw[MW]at d;cases d
  ·rw[QJ v]at d;exact⟨v,d⟩
 refine⟨⟨h.glob.mono e,h.below,λt x d=>h.lt t x (c t x d).2,λt x d=>(h.rows t x (c t x d).2).mono e (λ_ _ _=>rfl),?_,?_,h.fin,?_,?_⟩,e⟩
 ·intro t x k J d i;have j:=h.own t x k J (c t x d).2 i;refine⟨j.1,j.2.1,λg=>?_⟩;rcases g with g|g
  ·exact j.2.2 g
  ·subst g;exact(c t x d).1 (h.sep t s x _ _ _ _ (c t x d).2 p i u)
 ·intro t B x D k L M d A i n;exact h.sep t B x D k L M (c t x d).2 (c B D A).2 i n
 ·intro k g;rcases g with g|g
  ·exact h.finB k g
  ·subst g;exact(h.rows s _ p).block (λe=>by cases e) u
 ·intro k j;rw[cut,B9]at j;exact h.nx k j
def A4W{mt N J:TypeId}{m:AV}(B:P.underlying mt=some (.map N J))(hr:Rel G w0 C H w)(hm:VRel C w m ym)(h:XP m H K=some r):
 ∃v k y C' n,K v k=some r/\(Instr.range mt ym).run P w=.ok y n/\KU G w0 C w v k y C' n:=by
 unfold XP at h;split at h
 ·exact pB B hr hm h
 ·rw[BS]at h;have D:=AQ.1 hm;subst D;have d:=NZ w (.mapIter none 0 #[] 0);exact⟨_,_,.pointer (some ⟨w.heap.size,0,none⟩),_,w.alloc (.mapIter none 0 #[] 0),h,run_range_nilMap w mt N J B,.it (C.put_n _ _),hr.new_row d ⟨w.heap.size,none,0,#[],0,C.put_n _ _,World.alloc_heap_new _ _,.inl ⟨rfl,rfl,rfl⟩⟩,hr.new_ext d⟩
 ·rename_i s;have⟨x,M,h1⟩:=Iz rfl h;obtain⟨es,bo,rfl,h2⟩:=RR h1;have⟨hc,L⟩:=B7 h2;obtain⟨b,ms,clock,rfl,Z,hb,g,he, -⟩:=fM hr M hm;rw[Dh]at L;have⟨A,F⟩:=hr.freezeM M Z;have u:VRel (C.fixM b) w (.imap es) (.map (some b)):=by
   refine .imap ms (.inr rfl) hb (by rw[<-he.1];simp) (λi hi=>?_) (λi j t hj=>?_) (λi hi=>?_) (λi hi=>?_)
   ·obtain⟨m,q,R, -⟩:=he.2 i _ (KJ hi);have c:ms[i]?=some m:=by simpa using q
    simp[gO,c,R]
   ·have e:j<ms.size:=by have:=he.1;simp at this;omega
    have a:i<ms.size:=by omega
    have:=(l26.1 g.born) i j (by simpa using a) (by simpa using e) t;simpa [gO,a,e] using this
   ·have a:i<ms.size:=by have:=he.1;simp at this;omega
    have:=g.lt ms[i] (by simp);simpa [gO,a] using this
   ·obtain⟨m,q, -,V⟩:=he.2 i _ (KJ hi);have c:ms[i]?=some m:=by simpa using q
    have X:(ms.getD i default)=m:=by simp[gO,c]
    rw[X];have Y:=VRel.down (C:=C) (C':=C.bare) rfl rfl 3 _ _ (G9.1 hc _ (Ql hi)) V;exact Y.mono F.bare
  have⟨v,k,y,C',n,O,Q,p⟩:=pB B A u L;exact⟨v,k,y,C',n,O,Q,p.1,p.2.1,F.trans p.2.2⟩
 ·cases h
def A8e{l:List MapEntry}(h:l.Pairwise λa b=>a.born≠b.born):∀(j:Nat)(e:MapEntry),l[j]?=some e->l.filter (λx=>decide (x.born≠e.born))=l.eraseIdx j:=by
 induction l with
 |nil=>intro j e he;simp at he
 |cons a l ih=>
  intro j e he;rw[l2p]at h;cases j with
  |zero=>
   simp at he;subst he;rw[l2m,CL (by simp),List.eraseIdx_cons_zero,List.filter_eq_self];intro x c;have:=h.1 x c;simpa using λe=>this e.symm
  |succ j=>
   have he:l[j]?=some e:=by simpa using he
   rw[l2m,Dv (by have:=h.1 e (l1m he);simpa using this),List.eraseIdx_cons_succ,ih h.2 j e he]
def A1v(w:World)(n:Nat)(hn:0<n):∃(j:Nat)(w1:World),j<n/\w1.heap=w.heap/\w1.os=w.os/\w1.tape=w.tape/\w1.output=w.output/\(choose (.mapNext n)).run P w=.ok j w1:=by
 by_cases a:n<=1
 ·exact⟨0,w,hn,rfl,rfl,rfl,rfl,by simp[choose,Sem.run,Question.forced,a]⟩
 ·exact⟨_,w.drew,Nat.mod_lt _ hn,rfl,rfl,rfl,rfl,by
   simp only[choose,Sem.run,Question.forced,decide_eq_true_eq,a,if_false,Question.cut];rfl⟩
def Below.of_heap{w w1:World}(h:w1.heap=w.heap)(a:w1.os=w.os)(c:w1.tape=w.tape)(b:w1.output=w.output):Below w.heap.size w w1:=
 ⟨a,c,b,by rw[h];exact MC _,λ_ _=>by rw[h]⟩
def A4Y{ty:TypeId}{it:AV}(hr:Rel G w0 C H w)(hv:VRel C w it y)(h:Zx it H K=some r):
 ∃v H' z w',K v H'=some r/\(Instr.next y false ty).run P w=.ok z w'/\KU G w0 C w v H' z C w':=by
 unfold Zx at h;split at h
 ·rename_i s;have⟨x,hl,h1⟩:=Iz rfl h;clear h;unfold A6n at h1;split at h1
  ·rename_i l aq;cases hv with
   |@it _ _ _ b ap hp=>
    have⟨c,mo,since,seen,last,g1,g2,g3⟩:=hr.rows s _ hl;have R:=g1.symm.trans hp;injection R with R;injection R with R;injection R with e1 e2;subst e1 e2
    have q:(getObj c).run P w=.ok (.mapIter mo since seen last) w:=by simp[getObj,Sem.run,g2]
    rcases g3 with⟨rfl,rfl,_⟩|⟨m,ms,clock,e4,e5,e6,hB,hm,J,he,ah⟩
    ·have h1:K (.tup [.v (.bool false)]) H=some r:=h1;refine⟨_,_,.tuple #[.bool false],w,h1,?_,DQ.2 ⟨[.bool false],rfl,.cons (.v _) .nil⟩,hr,.refl _ _ _⟩;simp only[Instr.next];rw[Dr,q];rfl
    ·have e5:=e5.symm;have e6:=e6.symm;subst e4;subst e5;subst e6;have ag:(getObj m).run P w=.ok (.map ms clock) w:=l2q hm;have g:∀x∈ms.toList,x.born<clock:=J.lt;have N:=next_test_false seen ms clock clock g (MC _);have Y:((ms.filter λe=>!seen.contains e.born).filter λx=>decide (x.born<clock))=ms.filter λe=>!seen.contains e.born:=by
      rw[Array.filter_eq_self];intro x Q;have:=g x (by simp at Q⊢;exact Q.1);simpa using this
     have Z:((ms.filter λe=>!seen.contains e.born).filter λx=>decide (x.born≥clock))= #[]:=by
      rw[Array.filter_eq_empty_iff];intro x Q;have:=g x (by simp at Q⊢;exact Q.1);simp;omega
     obtain⟨L,hL⟩:∃L,L=ms.filter λe=>!seen.contains e.born:=⟨_,rfl⟩
     rw[<-hL]at Y Z;have n:L.toList=ms.toList.filter λe=>!seen.contains e.born:=by rw[hL,Array.toList_filter]
     rw[<-n]at he;have u:∀(res:Result Value),(do
      let x<-choose (.mapNext ((if L.isEmpty then #[none] else #[])++L.map some).size)
      match((if L.isEmpty then #[none] else #[])++L.map some)[x]? with
      |some (some e)=>do
       setObj c (.mapIter (some m) clock (seen.push e.born) clock)
       pure (.tuple #[.bool true,e.key,e.val])
      |some none=>pure (.tuple #[.bool false])
      |none=>stuck "Next: no such candidate" :Sem Value).run P w=res->(Instr.next (.pointer (some ⟨c,0,none⟩)) false ty).run P w=res:=by
      intro res ab;unfold Instr.next;simp only;rw[Dr,q];simp only[Ga];rw[Dr,ag];simp only[Ga,N,D!,if_false,<-hL,Y,Z,Array.append_empty];exact ab
     cases l with
     |nil=>
      have h1:K (.tup [.v (.bool false)]) H=some r:=h1;have ac:L= #[]:=by
       have:=he.nil_inv;exact Array.toList_inj.1 (by simpa using this)
      refine⟨_,_,.tuple #[.bool false],w,h1,u _ ?_,DQ.2 ⟨[.bool false],rfl,.cons (.v _) .nil⟩,hr,.refl _ _ _⟩;subst ac;simp[choose,Sem.run,Question.forced]
     |cons V l0=>
      have h1:UH (λe rest=>LJ H s (.iter rest (some e)) λH'=>K (.tup [.v (.bool true),uJ e.1,e.2]) H') (V::l0) []=some r:=h1;have d:L.size=(V::l0).length:=by have:=he.1;simpa using this
      have ak:L.isEmpty=false:=by simp[Array.isEmpty,d]
      have⟨j,w1,hj,a1,a2,a3,a4,ae⟩:=A1v (P:=P) w L.size (by rw[d];simp);have aa:j<(V::l0).length:=by rw[<-d];exact hj
      have i:=A1Q _ _ h1 j _ (KJ aa);simp only[l3b,Dh]at i;have⟨a,F,t,A⟩:=he.2 j _ (KJ aa);have ad:L[j]?=some a:=by simpa using F
      have D:w1.heap[c]?=some (.mapIter (some m) clock seen clock):=by rw[a1];exact g2
      have ai:c<w1.heap.size:=(l1v.1 D).1;have p:=Below.of_heap a1 a2 a3 a4;have am:=hr.of_below p;have k:Ext w0.own C w C w1:=hr.ext_below p;have M:SameObj w1 (w1.putObj c (.mapIter (some m) clock (seen.push a.born) clock)) c (.mapIter (some m) clock (seen.push a.born) clock):=SameObj.putObj ai _;have aj:m≠c:=λe=>by subst e;rw[hm]at g2;cases g2
      have af:(ms.toList.filter λx=>!(seen.push a.born).contains x.born)=L.toList.eraseIdx j:=by
       rw[<-A8e (l:=L.toList) (by rw[n];exact J.born.filter _) j a F,n,List.filter_filter];apply List.filter_congr;intro x _;rw[Array.contains_push];by_cases Q:x.born=a.born<;>simp[Q]
      have⟨ao,X⟩:=am.set_obj (O:=w0.own) (y:=.iter ((V::l0).eraseIdx j) (some (V::l0)[j])) hl hp M (λarr T fz hc=>by rw[D]at hc;cases hc) (λex=>by
       refine⟨c,some m,clock,seen.push a.born,clock,hp,M.here,.inr ⟨m,ms,clock,rfl,rfl,rfl,hB,(M.others m aj).trans (by rw[a1];exact hm),J,?_,?_⟩⟩
       ·rw[af];exact(he.mono (k.trans ex.weak).bare).eraseIdx j
       ·refine⟨a,?_,Array.back?_push,t,A.mono (k.trans ex.weak).bare⟩;have:=l1m F;rw[n]at this;exact(l2z.1 this).1)
      refine⟨_,_,.tuple #[.bool true,a.key,a.val],_,i,u _ ?_,DQ.2 ⟨[.bool true,a.key,a.val],rfl,.cons (.v _) (.cons ?_ (.cons ?_ .nil))⟩,ao,k.trans X⟩
      ·rw[ak];simp only[D!,if_false,Array.empty_append,Array.size_map];rw[Dr,ae];simp only[Ga,Array.getElem?_map,ad,D?];rw[Dr];have:(setObj c (.mapIter (some m) clock (seen.push a.born) clock)).run P w1=.ok () (w1.putObj c (.mapIter (some m) clock (seen.push a.born) clock)):=by simp[setObj,Sem.run,D,World.putObj]
       rw[this];rfl
      ·rw[t];exact iT _
      ·exact((A.up rfl rfl).mono (k.trans X))
  ·cases h1
 ·cases h
def A53{it:AV}{K:K2}(hr:Rel G w0 C H w)(hv:VRel C w it y)(h:eA it H K=some r):
 ∃v z,K v=some r/\(Instr.entry y).run P w=.ok z w/\VRel C w v z:=by
 unfold eA at h;split at h
 ·rename_i s;have⟨x,J,h1⟩:=Iz rfl h;clear h;unfold B1o at h1;split at h1
  ·rename_i left p;cases hv with
   |@it _ _ _ b i L=>
    have⟨j,O,since,seen,last,A,B,D⟩:=hr.rows s _ J;have c:=A.symm.trans L;injection c with c;injection c with c;injection c with k n;subst k n
    have d:(getObj j).run P w=.ok (.mapIter O since seen last) w:=by simp[getObj,Sem.run,B]
    rcases D with⟨_,_,u⟩|⟨m,ms,clock,q,Q,t,R,hm,g,he,a,k1,M,k3,N⟩
    ·cases u
    ·subst q;have e:(getObj m).run P w=.ok (.map ms clock) w:=l2q hm;have F:ms.find? (·.born==a.born)=some a:=by
      rw[<-Array.find?_toList];exact find_born a ms.toList (by rw[List.nodup_iff_pairwise_ne,List.pairwise_map];exact g.born) k1
     refine⟨_,.tuple #[a.key,a.val],h1,?_,DQ.2 ⟨[a.key,a.val],rfl,.cons (by rw[k3];exact iT _) (.cons (N.up rfl rfl) .nil)⟩⟩;simp only[Instr.entry];rw[Dr,d];simp only[Ga,M];rw[Dr,e];simp[t,F]
  ·cases h1
 ·cases h
end
end
section
variable{dst:AV}{K:K2}{op:BinOp}{q:Bool}{b base esz n s:Nat}{fz:Nat×Nat}{i ie:TI}{y:Value}
section
variable{P:Program}{G:Gl}{w0:Base}{C:Ctx}{H:Hp}{w:World}{r:AV×Hp}
def Rel.set_row(h:Rel G w0 C H w){x y:Row}(p:Ah H s=some x)(B:TF C w s y):Rel G w0 C (upd H s y) w:=by
 have key:∀t z,Ah (upd H s y) t=some z->(t=s/\z=y)\/(t≠s/\Ah H t=some z):=λt z hz=>by
  by_cases d:t=s
  ·subst d;rw[BC p]at hz;exact .inl ⟨rfl,(jF hz).1.symm⟩
  ·rw[Ag d]at hz;exact .inr ⟨d,hz⟩
 have c:∀t z,Ah (upd H s y) t=some z->∃e,Ah H t=some e:=λt z hz=>by
  rcases key t z hz with⟨rfl,_⟩|⟨_,h⟩
  ·exact⟨x,p⟩
  ·exact⟨z,h⟩
 refine⟨h.glob,h.below,?_,?_,?_,?_,h.fin,h.finB,λk f=>h.nx k (by rw[B9]at f;exact f)⟩
 ·intro t z hz;have⟨e,a⟩:=c t z hz;exact h.lt t e a
 ·intro t z hz;rcases key t z hz with⟨rfl,rfl⟩|⟨_,hz⟩
  ·exact B
  ·exact h.rows t z hz
 ·intro t z k m hz f;have⟨e,a⟩:=c t z hz;exact h.own t e k m a f
 ·intro t v z e k m D hz a f g;have⟨u,A⟩:=c t z hz;have⟨F,j⟩:=c v e a;exact h.sep t v u F k m D A j f g
def Laid.take{T:TypeId}{cs:Is}{arr:Array Value}(h:Laid C w s q T cs b base arr fz)(n:Nat):Laid C w s false T (cs.take n) b base arr fz:=
 ⟨h.at_,h.block,h.free,by have:=h.fits;rw[E!];omega,by
  have:=h.vals.unsel.take n;rw[List.take_take]at this;rw[E!];exact this,λh=>by cases h⟩
def TF.take{T:TypeId}{cs:Is}(h:TF C w s (.cells q T cs))(n:Nat):TF C w s (.cells false T (cs.take n)):=by
 rcases h with⟨rfl,h⟩|⟨b,base,arr,fz,h⟩
 ·exact .inl ⟨by simp,h⟩
 ·exact .inr ⟨b,base,arr,fz,h.take n⟩
def A5R(s:AV)(H:Hp)(K:Ru):Af:=
 match s with
 |.sl sz r o n=>IP H r λx=>Kb x λE cs=>HN cs 0 λcl=>@Bool.rec (λ_=>Af) (To (Nat.add o (Nat.mul n sz)) cs λa=>LJ H r (.cells false E a) K) (K H) (Nat.beq (Nat.add o (Nat.mul n sz)) cl)
 |_=>K H
def tJ{s:AV}{K:Ru}(h:A5R s H K=some r):∃a,K a=some r/\Ar a=Ar H/\∀{G:Gl}{w0:Base}{C:Ctx}{w:World},Rel G w0 C H w->Rel G w0 C a w:=by
 unfold A5R at h;split at h
 ·rename_i sz r1 o n;have⟨q,E,cs,c,h1⟩:=Ka h;rw[C4,JZ]at h1;cases hb:Nat.beq (Nat.add o (Nat.mul n sz)) cs.length
  ·rw[hb]at h1;simp only[OY,Dh]at h1;exact⟨_,h1,B9 _ _ _,λhr=>hr.set_row c ((hr.rows _ _ c).take _)⟩
  ·rw[hb]at h1;exact⟨H,h1,rfl,λhr=>hr⟩
 ·exact⟨H,h,rfl,λhr=>hr⟩
def E0(e:TypeId)(esz:Nat)(ie i2:TI)(s x:AV)(H:Hp)(K:KV):Af:=A5R s H λa=>Wa e esz ie i2 s x a K
def K?(e:TypeId)(esz:Nat)(ie i2:TI)(s x:AV)(H:Hp)(K:KV):Af:=match x with
 |.sl sz r o n=>Tw H (.sl sz r o n) λm c=>A5R s H λa=>Wa e esz ie i2 s (.list m c) a K
 |x=>E0 e esz ie i2 s x H K
def A2K(esz:Nat)(dst src:AV)(H:Hp)(K:KV):Af:=
 Tw H src λm c=>HN c 0 λk=>match dst with
  |.sl sz r o n=>ck (Nat.beq k (Nat.mul m esz)&&(Nat.beq sz esz&&(Nat.blt 0 n&&(Nat.ble m n&&(Oe c&&Sj esz src))))) (IP H r λx=>iK x λq E cs=>Ey o c cs λa=>LJ H r (.cells q E a) λd=>K (.v (.int .i64 (.ofNat m))) d)
  |_=>none
def wI(esz:Nat)(ie:TI)(dst:AV)(H:Hp)(K:Ru):Af:=
 match dst with
 |.v (.slice none 0 0)=>K H
 |.sl _ _ _ 0=>K H
 |.sl sz r o n=>He ie.zero λz=>HN z 0 λk=>ck (Nat.beq k esz&&(Nat.beq sz esz&&Oe z)) (Zq n z λc=>IP H r λx=>iK x λq E cs=>Ey o c cs λa=>LJ H r (.cells q E a) K)
 |_=>none
def zD(n esz:Nat)(x:AV)(a hi:Option AV)(H:Hp)(K:K2):Af:=
 match x with
 |.ptr s p k=>IP H s λy=>Kb y λ_ cs=>HN cs 0 λcl=>ck (Nat.ble (Nat.add (Nat.add p k) (Nat.mul n esz)) cl)
  (Yp a 0 λl=>Yp hi n λh=>ck (Nat.ble l h&&Nat.ble h n) (fN (Nat.add (Nat.add p k) (Nat.mul l esz)) λc=>fN (Nat.sub h l) λm=>K (.sl esz s c m)))
 |_=>none
def Vg(ks:List LK)(op:BinOp)(a b:AV)(K:K2):Af:=
 match a,b with
 |.agg c,.agg d=>eJ c λxs=>eJ d λe=>ck (fits ks xs) (match Ys xs e,op with
  |some q,.eql=>bB q K
  |some q,.neq=>bB (!q) K
  |_,_=>none)
 |_,_=>none
def RN(i ie:TI)(op:BinOp)(a b:AV)(K:K2):Af:=
 match a,b with
 |.ptr r p k,.ptr e d c=>ck (Nat.beq r e&&(Nat.beq (Nat.add p k) (Nat.add d c)&& !Nat.beq ie.size 0)) (match op with|.eql=>K (.v (.bool true))|.neq=>K (.v (.bool false))|_=>none)
 |a,b=>Aq i op a b K
def A!{s o:Nat}{E:TypeId}{cs ys:Is}{arr:Array Value}{vs:Hx}(hr:Rel G w0 C H w)(h:Ah H s=some (.cells q E cs))(f:Laid C w s q E cs b base arr fz)(a:o+ys.length<=cs.length)(hv:CJ C w ys vs)(c:ys.all AV.one=true):
 ∃e,(storeCells ⟨b,base+o,none⟩ vs 0).run P w=.ok () e/\Rel G w0 C (upd H s (.cells q E (splice cs o ys))) e/\Ext w0.own C w C e:=by
 have k:=f.fits;have g:vs.length=ys.length:=hv.1;have⟨e,d,j⟩:=Np (P:=P) vs w arr (base+o) 0 f.block f.free (by omega) (A23 hv c);have:=hr.store (O:=w0.own) h f a hv (by simpa using j);exact⟨e,d,this.1,this.2⟩
def A3X{sz s o n:Nat}{E:TypeId}{cs:Is}(hr:Rel G w0 C H w)(A:Ah H s=some (.cells q E cs))(hv:VRel C w (.sl sz s o n) y)(hn:n≠0):∃b base arr fz cap,y=.slice (some ⟨b,base+o,none⟩) n cap/\n<=cap/\Laid C w s q E cs b base arr fz/\base+o+cap*sz<=arr.size:=by
 cases hv with
 |slz=>exact absurd rfl hn
 |@sl _ _ _ _ _ _ b base cap arr T fz j e hb hsz=>
  rcases hr.rows s _ A with⟨_,x⟩|⟨k,a,c,g,h⟩
  ·rw[x]at j;cases j
  ·have d:=h.at_.symm.trans j;injection d with d;injection d with d;injection d with m p;subst m p
   have f:=h.block.symm.trans hb;injection f with f;injection f with t u v
   subst t u v;exact⟨k,a,c,g,cap,rfl,e,h,hsz⟩
def A54{T:Ty}(X:kU P T){B ty e:TypeId}{ts:Array TypeId}{dst src:AV}{y z:Value}{K:KV}(L:ts[0]?=some B)(hi:T B=some i)(Y:i.d=.slice e esz)(J:esz≠0)(hr:Rel G w0 C H w)(hv:VRel C w dst y)(Z:VRel C w src z)(h:A2K esz dst src H K=some r):
 ∃v N u A,K v N=some r/\(Builtin.copy_ ts ty #[y,z]).run P w=.ok u A/\KU G w0 C w v N u C A:=by
 unfold A2K at h;have⟨m,ys,q0,x,h1⟩:=ZU h;rw[C4,JZ]at h1;split at h1
 ·rename_i sz s o n;have⟨hc,h2⟩:=B7 h1;simp only[KW,rU,Wg,kZ,FM]at hc;have⟨c1,c2,c3,c4,c5,c6⟩:=hc;have⟨q,E,cs,R,V⟩:=VB h2;have⟨g,O⟩:=OZ _ _ _ _ _ V;rw[Dh]at O;obtain⟨b,base,arr,fz,cap,rfl,Q,D,hsz⟩:=A3X hr R hv (by omega);have⟨j,vs,M,a⟩:=XS (P:=P) (esz:=esz) hr Z x c1 (λq hq=>by subst hq;exact ZR c6);have⟨A,t,p,F⟩:=A! (P:=P) hr R D g M c5;have⟨hu,f⟩:=(X B i hi).elem_slice Y;have c:(sizeOf e).run P w=.ok esz w:=by rw[<-f];exact Cg w (by rw[f];exact J)
  refine⟨_,_,goInt m,A,O,?_,.v _,p,F⟩;unfold Builtin.copy_;simp only[L,l15,l21,l0r];rw[Dr,run_underlying hu w];simp only[Ga];rw[Dr,j];simp only[Ga];rw[Dr,c];simp only[Ga];have k:Nat.min m n=m:=l22 c4;rw[Dr,k,a w (λ_ _=>rfl)];simp only[Ga];rw[Dr,t];rfl
 ·cases h1
def A56{T:Ty}(Q:kU P T){v ty e:TypeId}{ts:Array TypeId}{K:Ru}(p:ts[0]?=some v)(hi:T v=some i)(hd:i.d=.slice e esz)(B:T e=some ie)(hr:Rel G w0 C H w)(hv:VRel C w dst y)(h:wI esz ie dst H K=some r):
 ∃N u,K N=some r/\(Builtin.clear_ ts ty #[y]).run P w=.ok (.tuple #[]) u/\Rel G w0 C N u/\Ext w0.own C w C u:=by
 have⟨X,aa⟩:=(Q v i hi).elem_slice hd;have hz:∀{a:Option Addr}{c:Nat},(Builtin.clear_ ts ty #[.slice a 0 c]).run P w=.ok (.tuple #[]) w:=by
  intro a c;unfold Builtin.clear_;simp only[p,l15,l21];rw[Dr,run_underlying X w];simp only[Ga];cases a<;>rfl
 unfold wI at h;split at h
 ·obtain rfl:=AQ.1 hv;exact⟨H,w,h,hz,hr,.refl _ _ _⟩
 ·cases hv with
  |slz=>exact⟨H,w,h,hz,hr,.refl _ _ _⟩
  |sl=>exact⟨H,w,h,hz,hr,.refl _ _ _⟩
 ·rename_i sz s o n D;rw[CP,C4,JZ]at h;have⟨hc,h2⟩:=B7 h;simp only[KW,rU,FM]at hc;have⟨c1,c2,c3⟩:=hc;rw[Zp]at h2;have⟨q,E,cs,V,Z⟩:=VB h2;have⟨f,O⟩:=OZ _ _ _ _ _ Z;rw[Dh]at O;have hn:n≠0:=λe=>D e;obtain⟨b,base,arr,fz,cap,rfl,R,x,hsz⟩:=A3X hr V hv hn;have⟨z,L,Y⟩:=(Q e ie B).run_zero w;have F:CJ C w (B4 ie.zero) z.cells.toList:=PH (t:=e) Y;have M:CJ C w (YG n (B4 ie.zero)) ((List.range n).flatMap λ_=>z.cells.toList):=by rw[iL];exact ZQ F n
  have g:(YG n (B4 ie.zero)).all AV.one=true:=by
   rw[iL,List.all_flatMap];simp[c3]
  have⟨u,m,j,A⟩:=A! (P:=P) hr V x f M g;refine⟨_,u,O,?_,j,A⟩;obtain⟨n,rfl⟩:∃k,n=k+1:=⟨n-1,by omega⟩
  unfold Builtin.clear_;simp only[p,l15,l21];rw[Dr,run_underlying X w];simp only[Ga];have J:(Builtin.zeroCells z.cells (n+1)).toList=(List.range (n+1)).flatMap λ_=>z.cells.toList:=congrArg Array.toList (gQ z.cells (n+1));rw[Dr,L];simp only[Ga,J];rw[Dr,m];rfl
 ·cases h
def A4T{T:Ty}(hT:kU P T){ty e:TypeId}{x:AV}{lo hi:Option AV}{yl Y:Option Value}(R:T ty=some i)(hd:i.d=.array n e esz)(X:esz≠0)(hr:Rel G w0 C H w)(hv:VRel C w x y)(V:A0B C w lo yl)(Q:A0B C w hi Y)(h:zD n esz x lo hi H K=some r):
 ∃v u,K v=some r/\(Instr.sliceAt ty y yl Y none).run P w=.ok u w/\VRel C w v u:=by
 unfold zD at h;split at h
 ·rename_i s p k;have⟨q,E,cs,hl,h1⟩:=Ka h;rw[C4,JZ]at h1;have⟨hc,h2⟩:=B7 h1;have⟨l,M,h3⟩:=Jx h2;have⟨m,N,h4⟩:=Jx h3;have⟨hb,Z⟩:=B7 h4;rw[DF,DF]at Z;simp only[KW,kZ]at hb;rw[kZ]at hc;have hc:p+k+n*esz<=cs.length:=hc;have⟨hu,t⟩:=(hT ty i R).elem_array hd;have f:(sizeOf e).run P w=.ok esz w:=by rw[<-t];exact Cg w (by rw[t];exact X)
  have O:=T7 (P:=P) (isS:=false) V Q (mx:=none) (ym:=none) trivial (MC n) M N (x:=n) (by simp[dC]) (by omega) (by simp);cases hv with
  |@ptr _ _ _ _ _ b base J=>
   rcases hr.rows s _ hl with⟨_,h6⟩|⟨L,a,g,aa,c⟩
   ·have:=h6.symm.trans J;cases this
   ·have j:=c.at_.symm.trans J;injection j with j;injection j with j;injection j with e1 e2;subst e1 e2
    have hf:=c.fits;have F:(Instr.sliceAt ty (.pointer (some ⟨L,a+(p+k),none⟩)) yl Y none).run P w=.ok (.slice (some (if n=l then⟨L,a+(p+k),none⟩ else⟨L,a+(p+k)+l*esz,none⟩)) (m-l) (n-l)) w:=by
     unfold Instr.sliceAt;rw[Dr,run_underlying hu w];simp only[Ga,Instr.sureAddr];rw[Dr,nJ];simp only[Ga];rw[Dr,O];simp only[Ga,kY];rw[Dr,f];simp only[Ga,nJ,Kq]
    refine⟨_,_,Z,F,?_⟩;by_cases B:n=l
    ·have A:m-l=0:=by omega
     have D:n-l=0:=by omega
     rw[Dv B,A,D];have:Nat.sub m l=0:=A;rw[this];exact .slz (by rw[J];simp)
    ·rw[CL B];have e4:a+(p+k)+l*esz=a+(Nat.add (Nat.add p k) (Nat.mul l esz)):=by show _=a+(p+k+l*esz);omega
     rw[e4];refine .sl J (Nat.sub_le_sub_right hb.2 l) c.block ?_;show a+(p+k+l*esz)+(n-l)*esz<=g.size;have:l*esz+(n-l)*esz=n*esz:=by rw[<-l1e];congr 1;omega
     omega
 ·cases h
def A52{t:TypeId}{ks:List LK}{a b:AV}{y z:Value}(x A:Operand)(m:EqFlat P t ks)(B:VRel C w a y)(hb:VRel C w b z)(h:Vg ks op a b K=some r):
 ∃v u,K v=some r/\(do eqGuard op t x A y z;binOp op t y z).run P w=.ok u w/\VRel C w v u:=by
 unfold Vg at h;split at h
 ·rename_i F J;obtain⟨xs,rfl,h1⟩:=fX _ _ h;obtain⟨d,rfl,h2⟩:=fX _ _ h1;have⟨e,c⟩:=B7 h2;have D:=tD B;have hz:=tD hb;subst D hz;have p:=run_eqGuard_agg (P:=P) w op t x A xs.toArray d.toArray m.guard;split at c
  ·rename_i q hq;rw[NY]at c;have⟨f,g⟩:=Wd hq;refine⟨_,.bool q,c,?_,.v _⟩;rw[Dr,p];simp only[Ga];rw[run_eql_struct];have:=m.equal e (g ks e) w;have j:decide (xs=d)=q:=by rw[qW,f];simp
   rw[j]at this;have k:(Op.equalIn 10000 t (.agg xs.toArray) (.agg d.toArray)).run P w=.ok q w:=this;rw[k];rfl
  ·rename_i q hq;rw[NY]at c;have⟨f,g⟩:=Wd hq;refine⟨_,.bool (!q),c,?_,.v _⟩;rw[Dr,p];simp only[Ga];rw[run_neq_struct];have:=m.equal e (g ks e) w;have j:decide (xs=d)=q:=by rw[qW,f];simp
   rw[j]at this;have k:(Op.equalIn 10000 t (.agg xs.toArray) (.agg d.toArray)).run P w=.ok q w:=this;rw[k];rfl
  ·cases c
 ·cases h
def A51{T:Ty}(j:kU P T){ty e:TypeId}{a b:AV}{y z:Value}(D F:Operand)(hi:T ty=some i)(Q:i.d=.pointer e)(m:T e=some ie)(J:VRel C w a y)(hb:VRel C w b z)(h:RN i ie op a b K=some r):
 ∃v u,K v=some r/\(do eqGuard op ty D F y z;binOp op ty y z).run P w=.ok u w/\VRel C w v u:=by
 unfold RN at h;split at h
 ·rename_i s p k s' Z Y;have⟨hc,h1⟩:=B7 h;simp only[KW,rU,l19]at hc;have⟨c1,c2,c3⟩:=hc;subst c1;have c2:p+k=Z+Y:=c2;have B:y=z/\∃c,y=.pointer (some c):=by
   cases J with
   |ptr R=>
    cases hb with
    |ptr t=>
     have f:=R.symm.trans t;injection f with f;injection f with f;injection f with g M;subst g M
     exact⟨by rw[c2],_,rfl⟩
  obtain⟨rfl,c,rfl⟩:=B;have⟨u,V,g⟩:=(j ty i hi).under;rw[Q]at g;have A:u=.pointer e:=by cases u<;>simp[td]at g;rw[g]
  subst A;have⟨x,z0,X,hs,_⟩:=(j e ie m).info;have heq:(Op.equal ty (.pointer (some c)) (.pointer (some c))).run P w=.ok true w:=by
   show(Op.equalIn (9999+1) ty _ _).run P w=_;unfold Op.equalIn;rw[Dr,run_underlying V w];simp[sizeOf,typeInfo,X,sameAddr]
  have L:=oZ (P:=P) (op:=op) (ty:=ty) (x:=D) (y:=F) (a:=.pointer (some c)) (b:=.pointer (some c)) w ⟨by simp,by simp⟩;split at h1
  ·exact⟨_,.bool true,h1,by rw[Dr,L];simp[binOp,heq],.v _⟩
  ·exact⟨_,.bool false,h1,by rw[Dr,L];simp[binOp,heq],.v _⟩
  ·cases h1
 ·have⟨v,h1,h2⟩:=K! (T:=T) (ty:=ty) hi h;obtain⟨v',u,N,O,rfl⟩:=sT j D F J hb h2;exact⟨v',u,h1,N,O⟩
end
end
section
variable{v:AV}{K:K2}{d e s:TypeId}{y:Value}
def B5q(l:List Lie)(e n o u:Nat):Bool:=@List.rec Lie (λ_=>Bool) false (λp _ ih=>@Bool.rec (λ_=>Bool) ih true (Nat.beq p.1 e&&(Nat.beq p.2.1 n&&(Nat.beq p.2.2.1 o&&Nat.beq p.2.2.2 u)))) l
def A2A(ie:TI)(v:AV)(H:Hp)(K:K2):Af:=
 match v with
 |.ptr s p k=>IP H s λx=>Kb x λ_ cs=>HN cs 0 λcl=>ck (Nat.blt (Nat.add p k) cl&& !Nat.beq ie.size 0) (K (.ptr s p k))
 |_=>none
def A2v(l:List Lie)(u:TypeId)(v:AV)(H:Hp)(K:K2):Af:=
 match v with
 |.ptr s p k=>IP H s λx=>iK x λq E cs=>HN cs 0 λcl=>ck (q&&B5q l E cl (Nat.add p k) u) (K (.ptr s p k))
 |_=>none
def A8i(s:AV)(K:K2):Af:=
 match s with
 |.sl sz r o n=>ck (Nat.beq sz 1&&Nat.blt 0 n) (K (.ptr r o 0))
 |_=>none
def A4Q(e:TypeId)(p n:AV)(H:Hp)(K:KV):Af:=
 match p with
 |.ptr s o k=>A03 n λz=>iN z λn=>IP H s λx=>Kb x λE cs=>ck (Nat.beq E e&&(Nat.blt 0 n&&Nat.blt n 9223372036854775807)) (E9 n (Dn (Nat.add o k) cs) λb=>fu8 b λl=>LJ H s .gone λa=>K (.v (.string ⟨⟨l⟩⟩)) a)
 |_=>none
def B1k{l:List Lie}{e n o u:Nat}(h:B5q l e n o u=true):(e,n,o,u)∈l:=by
 induction l with
 |nil=>cases h
 |cons p l ih=>
  have h:@Bool.rec (λ_=>Bool) (B5q l e n o u) true (Nat.beq p.1 e&&(Nat.beq p.2.1 n&&(Nat.beq p.2.2.1 o&&Nat.beq p.2.2.2 u)))=true:=h;cases hq:(Nat.beq p.1 e&&(Nat.beq p.2.1 n&&(Nat.beq p.2.2.1 o&&Nat.beq p.2.2.2 u)))
  ·rw[hq]at h;exact List.mem_cons_of_mem _ (ih h)
  ·simp only[KW,rU]at hq;have⟨h1,h2,f,g⟩:=hq;have⟨a,b,c,d⟩:=p;simp only at h1 h2 f g;subst h1 h2 f g;exact List.mem_cons_self
section
variable{P:Program}{G:Gl}{w0:Base}{C:Ctx}{H:Hp}{w w':World}{r:AV×Hp}
def A4X{T:Ty}(F:kU P T){i ie:TI}(hi:T s=some i)(R:i.d=.pointer e)(m:T e=some ie)(A:P.underlying d=some .unsafePointer)(hr:Rel G w0 C H w)(hv:VRel C w v y)(h:A2A ie v H K=some r):
 K v=some r/\(convert s d y).run P w=.ok y w:=by
 unfold A2A at h;split at h
 ·rename_i t p k;have⟨q,E,cs,V,h1⟩:=Ka h;rw[C4,JZ]at h1;have⟨hc,h2⟩:=B7 h1;simp only[KW,Wg,l19]at hc;have⟨c1,c2⟩:=hc;have c1:p+k<cs.length:=c1;refine⟨h2,?_⟩;cases hv with
  |@ptr _ _ _ _ _ b B J=>
   rcases hr.rows t _ V with⟨_,Q⟩|⟨L,a,c,O,f⟩
   ·have:=Q.symm.trans J;cases this
   ·have g:=f.at_.symm.trans J;injection g with g;injection g with g;injection g with M N;subst M N
    have hf:=f.fits;have⟨u,Y,j⟩:=(F s i hi).under;rw[R]at j;have n:u=.pointer e:=by cases u<;>simp[td]at j;rw[j]
    subst n;have⟨x,z0,Z,X,_⟩:=(F e ie m).info;have hsz:x.size≠0:=λD=>by rw[X]at D;rw[D]at c2;simp at c2
    exact Lib.run_to_unsafe w ⟨L,a+(p+k),none⟩ Y A Z hsz (e:=E) (cells:=c.size) (by simp[World.shape?,f.block]) (by show a+(p+k)<c.size;omega)
 ·cases h
def A4R{l:List Lie}(m:∀e n o u,(e,n,o,u)∈l->liesAt P P.depth e (n/P.cellsOf e) o u 1=true/\(P.info? u).isSome=true){s d u:TypeId}(A:P.underlying s=some .unsafePointer)(O:P.underlying d=some (.pointer u))(hr:Rel G w0 C H w)(hv:VRel C w v y)(h:A2v l u v H K=some r):
 K v=some r/\(convert s d y).run P w=.ok y w:=by
 unfold A2v at h;split at h
 ·rename_i t p k;have⟨q,E,cs,R,h1⟩:=VB h;rw[C4,JZ]at h1;have⟨hc,h2⟩:=B7 h1;simp only[KW]at hc;have⟨c1,c2⟩:=hc;have⟨c,f⟩:=m _ _ _ _ (B1k c2);refine⟨h2,?_⟩;cases hv with
  |@ptr _ _ _ _ _ b B D=>
   rcases hr.rows t _ R with⟨_,N⟩|⟨F,x,g,M,a⟩
   ·have:=N.symm.trans D;cases this
   ·have i:=a.at_.symm.trans D;injection i with i;injection i with i;injection i with J L;subst J L
    have⟨V,X⟩:=a.exact c1;subst V;have⟨j,Q⟩:=Option.isSome_iff_exists.1 f;refine Lib.run_from_unsafe w ⟨F,0+(p+k),none⟩ A O Q (e:=E) (cells:=g.size) (by simp[World.shape?,a.block]) ?_;rw[X,JZ];exact c
 ·cases h
def Rel.change(h:Rel G w0 C H w){s b base:Nat}{x:Row}(L:Ah H s=some x)(M:C.π s=some (some (b,base)))(q:w'.os=w.os)(X:w'.tape=w.tape)(B:w'.output=w.output)(hsz:w'.heap.size=w.heap.size)(g:∀k,k≠b->w'.heap[k]?=w.heap[k]?)(hb:∀arr T fz,w.heap[b]?=some (.cells arr T fz)->∃m A,w'.heap[b]?=some (.cells m T A)/\m.size=arr.size):Rel G w0 C (cut H s) w'/\Ext w0.own C w C w':=by
 have j:=h.own s x b base L M;have e:Ext w0.own C w C w':=by
  refine⟨λ_ _=>rfl,λ_ _ h=>h,λk i h=>?_,λ_ h=>h,λk h=>g k (λe=>j.2.2 (e▸h)),λk a t f h=>?_,λ_ _ h=>.inl h,λ_ h=>.inl h,Nat.le_of_eq hsz.symm⟩
  ·exact l0t (g k (λe=>j.2.1 i (e▸h)))
  ·by_cases n:k=b
   ·subst n;exact hb a t f h
   ·exact⟨a,f,(g k n).trans h,rfl⟩
 have c:∀t z,Ah (cut H s) t=some z->t≠s/\Ah H t=some z:=λt z hz=>by
  by_cases p:t=s
  ·subst p;rw[MW]at hz;cases hz
  ·rw[QJ p]at hz;exact⟨p,hz⟩
 refine⟨⟨h.glob.mono e,⟨q.trans h.below.os,X.trans h.below.tape,B.trans h.below.output,by rw[hsz];exact h.below.size,λk n J=>(g k (λe=>?_)).trans (h.below.block k n J)⟩,λt z hz=>h.lt t z (c t z hz).2,λt z hz=>(h.rows t z (c t z hz).2).mono e (λk u D=>g k (λQ=>?_)),
  λt z k o hz=>h.own t z k o (c t z hz).2,λt N z O k Y Z hz F=>h.sep t N z O k Y Z (c t z hz).2 (c N O F).2,λk i V=>hsz▸h.fin k i V,λk R=>hsz▸h.finB k R,λk n=>h.nx k (by rw[cut,B9]at n;exact n)⟩,e⟩
 ·subst e;rcases j.1 with q|q
  ·omega
  ·exact J q
 ·subst Q;exact(c t z hz).1 (h.sep t s z x _ _ _ (c t z hz).2 L D M)
def yX(hc:P.cellsOf e=1)(count off n:Nat)(hn:off+n<=count):liesAt P P.depth e count off e n=true:=by
 have a:P.depth=(2*(P.types.size+Made.depth)+1)+1:=rfl;rw[a];simp only[liesAt,l1i];left;rw[a];simp[rowAt,hc,hn,sameLayout,Nat.mod_one]
def A4P{T:Ty}(hT:kU P T){e J it ty:TypeId}{F ie:TI}{p n:AV}{y z:Value}{K:KV}(ak:T J=some F)(hd:F.d=.pointer e)(ah:T e=some ie)(ad:ie.size=1)(hr:Rel G w0 C H w)(hv:VRel C w p y)(hn:VRel C w n z)(h:A4Q e p n H K=some r):
 ∃v H' u w',K v H'=some r/\(Builtin.unsafeString_ #[J,it] ty #[y,z]).run P w=.ok u w'/\KU G w0 C w v H' u C w':=by
 unfold A4Q at h;split at h
 ·rename_i s o k;obtain⟨kk,zz,rfl,h1⟩:=Qp h;obtain⟨m,rfl,h2⟩:=XC h1;have⟨q,E,cs,hl,h3⟩:=Ka h2;have⟨hc,h4⟩:=B7 h3;simp only[KW,rU,Wg]at hc;have⟨c1,c2,c3⟩:=hc;subst c1;have⟨x,h5⟩:=Ma _ _ _ _ h4;rw[CA]at x h5;have⟨f,Z,h6⟩:=A2k _ _ h5;rw[Dh]at h6;obtain rfl:=AQ.1 hn;have ay:o+k+m<=cs.length:=by
   have:m<=(cs.drop (o+k)).length:=x;simp at this;omega
  cases hv with
  |@ptr _ _ _ _ _ b aq hp=>
   rcases hr.rows s _ hl with⟨_,h7⟩|⟨g,c,t,ar,i⟩
   ·have:=h7.symm.trans hp;cases this
   ·have L:=i.at_.symm.trans hp;injection L with L;injection L with L;injection L with e1 e2;subst e1 e2
    have hf:=i.fits;have aj:f.length=m:=by
     have:=congrArg List.length Z;simp at this;have:(cs.drop (o+k)).length=cs.length-(o+k):=by simp
     simp_all
    have A:∀j(R:j<f.length),w.cell? ⟨g,c+(o+k)+j,none⟩=some (.int .u8 (f[j]:Int)):=λj R=>by
     have ag:cs[o+k+j]?=some (.v (.int .u8 (f[j]:Int))):=by
      have:=congrArg (λl=>l[j]?) Z;simp only[D_,qX,yY]at this;rw[Dv (by omega),KJ R]at this;simpa using this
     have⟨hi,af⟩:=E'.1 ag;have⟨y,hy,aa⟩:=i.get _ hi;rw[af]at aa;rw[<-AQ.1 aa];rw[<-hy]
     congr 2
     omega
    obtain⟨hu,N⟩:P.underlying J=some (.pointer E)/\P.cellsOf E=1:=by
     have⟨u,hu,eu⟩:=(hT J F ak).under;rw[hd]at eu;have ao:u=.pointer E:=by cases u<;>simp[td]at eu;rw[eu]
     subst ao;exact⟨hu,by rw[(hT E ie ah).cellsOf,ad]⟩
    have D:∀(f:Hb)(off:Nat)(acc:ByteArray),(∀j(R:j<f.length),w.cell? ⟨g,off+j,none⟩=some (.int .u8 (f[j]:Int)))->
     (loadBytes ⟨g,off,none⟩ acc f.length).run P w=.ok ⟨acc.data++(f.map UInt8.ofNat).toArray⟩ w:=by
     intro f
     induction f with
     |nil=>intro off acc _;simp[loadBytes]
     |cons n f ih=>
      intro off acc hc;have h0:w.cell? ⟨g,off,none⟩=some (.int .u8 (n:Int)):=hc 0 (by simp);have ap:=ih (off+1) (acc.push (UInt8.ofNat n)) (λj R=>by
       have:=hc (j+1) (by simpa using R);simpa [lB,Nat.add_comm 1 j] using this)
      have hx:((n:Int).toNat).toUInt8=UInt8.ofNat n:=by simp
      simp only[LI,loadBytes,Dr,run_load,h0,Result.andThen,hx,Kq];rw[ap]
      congr 1
      apply ByteArray.ext;simp[ByteArray.push]
    have V:=D f (c+(o+k)) .empty A;rw[aj]at V;have B:liesAt P P.depth E (t.size/P.cellsOf E) (c+(o+k)) E m=true:=yX N _ _ _ (by rw[N,Nat.div_one];omega);have O:=hr.change (w':=w.freeze ⟨g,c+(o+k),none⟩ m) hl hp (by unfold World.freeze;split<;>rfl) (by unfold World.freeze;split<;>rfl) (by unfold World.freeze;split<;>rfl) (by unfold World.freeze;split<;>simp) (λk' ai=>by
     unfold World.freeze;split
     ·rfl
     ·simp only[l0s];rw[CL (λe=>ai e.symm)]) (λarr T0 ax ae=>by
     unfold World.freeze;rw[CL (by omega)];simp only[l0s,if_true,ae,D?];exact⟨arr,_,rfl,rfl⟩)
    refine⟨_,_,.string ⟨⟨f.map UInt8.ofNat⟩⟩,_,h6,?_,.v _,O.1,O.2⟩;have X:IntKind.i64.max=9223372036854775807:=rfl;have Q:Builtin.unsafeString_ #[J,it] ty #[.pointer (some ⟨g,c+(o+k),none⟩),.int kk m]=
     (do
      let n<-asInt (.int kk m)
      if n<0 then runtimePanic (.error "unsafe.String: len out of range")
      if n>IntKind.i64.max then unsupported (.unsafePointer "String: a length above the largest int")
      if n=0 then pure (.string .empty)
      else if<-variablesAt ⟨g,c+(o+k),none⟩ (<-elemOf J) n.toNat then do
       let s<-loadBytes ⟨g,c+(o+k),none⟩ .empty n.toNat
       freeze ⟨g,c+(o+k),none⟩ n.toNat
       pure (.string s)
      else unsupported (.unsafePointer "String: not so many bytes at ptr")):=rfl
    rw[Q];have Y:¬(m:Int)<0:=by omega
    have M:¬(9223372036854775807:Int)<(m:Int):=by omega
    have hz:¬m=0:=by omega
    have am:w.shape? g=some (E,t.size):=by simp[World.shape?,i.block]
    simp[asInt,asIntOf,X,Y,M,hz,variablesAt,am,elemOf,run_underlying hu,B,V]
 ·cases h
def A6P{t:Tm}{N:Nat}{ro:Option Nat}{o:Oper}{c:Call}{f:FuncId}{h:Operand}{first cap:Is}{K:AV->Hp->Prop}(B:kW P f)(p:o.op=.call c)(g:c.callee=.value h)(i:JX G t h=.fn (.func f) first cap)(A:first++c.args.toList.map (JX G t)++cap=[v])(x:K v H):Uf P G ro N o t H K:=by
 refine Vn (λc hc=>by rw[p]at hc;cases hc) λw0 L C N a w s=>?_;have hv:=Bc s h;rw[i]at hv;have⟨D,J,he,m,n⟩:=Jy.1 hv;have b:=(m.append (wX s c.args.toList)).append n;rw[A]at b;have⟨y,F,q,k,j⟩:=b.cons_inv;have u:=j.nil_inv;subst u;refine⟨v,H,y,C,w,x,.inl ?_,k,s.rel,.refl _ _ _⟩;have:(D++c.args.toList.map a.eval++J).toArray= #[y]:=by rw[q]
 have hr:=B y w;simp only[execOp,p,resolve,g,he,Deferred.ofValue,Dr,nJ,Ga,invoke];rw[<-hr]
 congr 2
 rw[<-this];apply qY;simp
end
end
section
variable{a:Act}{c rest:Code}{w:World}
def sG(P:Program)(c rest:Code)(Q:Exit->Act->World->Prop)(a:Act)(w:World):Prop:=
 ∀(b:Frame)(k:List Item)(cs:List Frame),∃e d f,Q e d f/\Arrives P (lone (b.at a (.code rest:: .inScope c::k)) cs w) b k cs e d f
def A4F{P:Program}{Q s:Exit->Act->World->Prop}(x:∀l a w,s (.goto l) a w->∃i,findLabel c l=some i/\sG P c i Q a w)(hq:∀e a w,(∀l,e≠.goto l)->s e a w->Q e a w)(h:rest.wp P s a w):sG P c rest Q a w:=by
 intro b k cs;have⟨e,d,g,h1,f⟩:=h b (.inScope c::k) cs;cases e with
 |normal=>exact⟨.normal,d,g,hq _ _ _ (by simp) h1,Steps.trans f (.one step_inScope)⟩
 |exit id=>exact⟨.exit id,d,g,hq _ _ _ (by simp) h1,λB y=>f B (by simp[exitTo,y])⟩
 |goto l=>
  have⟨i,v,A⟩:=x l d g h1;have u:gotoIn l (.inScope c::k)=some (.code i:: .inScope c::k):=by simp[gotoIn,v]
  have⟨q,p,r,n,j⟩:=A b k cs;exact⟨q,p,r,n,.of_steps (f _ u) j⟩
 |ret=>exact⟨_,d,g,hq _ _ _ (by simp) h1,f⟩
 |panic C=>exact⟨_,d,g,hq _ _ _ (by simp) h1,f⟩
 |outgrown=>exact⟨_,d,g,hq _ _ _ (by simp) h1,f⟩
def A13{P:Program}{Q:Exit->Act->World->Prop}(h:sG P c c Q a w):(Code.scope c).wp P Q a w:=by
 intro b k cs;have⟨e,d,g,hq,f⟩:=h b k cs;exact⟨e,d,g,hq,.of_steps (.one step_scope) f⟩
section
variable{P:Program}{G:Gl}{m N:Nat}{t:Tm}{H:Hp}{Q:Exit->Tm->Hp->Prop}
def A0D(P:Program)(G:Gl)(m N:Nat)(c rest:Code)(Q:Exit->Tm->Hp->Prop)(t:Tm)(H:Hp):Prop:=
 ∀w0 b C a w,St G w0 b C N t H a w->sG P c rest (Nc G w0 b m C N w Q) a w
def A8B(h:A0D P G m N c c Q t H):QU P G none m N (.scope c) Q t H:=λw0 b C a w s=>wpIn_wide.2 (A13 (h w0 b C a w s))
def L_{n:Exit->Tm->Hp->Prop}(F:∀l t H,n (.goto l) t H->∃d,findLabel c l=some d/\A0D P G m N c d Q t H)(hq:∀e t H,(∀l,e≠.goto l)->n e t H->Q e t H)(h:QU P G none m N rest n t H):A0D P G m N c rest Q t H:=by
 intro w0 y C a w s;refine A4F ?_ ?_ (wpIn_wide.1 (h w0 y C a w s))
 ·rintro l x A ⟨j,i,g,v,u,p⟩;have⟨d,D,J⟩:=F l i g p;refine⟨d,D,?_⟩;intro b k cs;have⟨B,a2,K,r,f⟩:=J w0 y j x A v b k cs;exact⟨B,a2,K,r.later u,f⟩
 ·rintro e x A q ⟨j,i,g,v,u,p⟩;exact⟨j,i,g,v,u,hq e i g q p⟩
end
end
section
variable{K:K2}
def Tp(a:AV):Bool:=match a with
 |.v (.map _)=>false
 |.v _=>true
 |_=>false
def Tg(f:AV->K2->Af)(l:Is):(Is->Af)->Af:=
 @List.rec AV (λ_=>(Is->Af)->Af) (λK=>K []) (λa _ ih K=>f a λb=>ih λc=>K (b::c)) l
def A4A(a:AV)(K:K2):Af:=
 match a with
 |.v x=>K (.v x)
 |.list n cs=>ck (cs.all Tp) (K (.list n cs))
 |_=>none
def A4z(H:Hp)(ih:AV->K2->Af)(a:AV)(K:K2):Af:=
 match a with
 |.v x=>K (.v x)
 |.list n cs=>ck (cs.all Tp) (K (.list n cs))
 |.agg cs=>Tg ih cs λb=>K (.agg b)
 |.tup cs=>Tg ih cs λb=>K (.tup b)
 |.sl sz r o n=>IP H r λx=>Kb x λ_ cs=>E9 (Nat.mul n sz) (Dn o cs) λc=>Tg ih c λd=>K (.list n d)
 |_=>none
def NT(H:Hp)(D:Nat):AV->K2->Af:=@Nat.rec (λ_=>AV->K2->Af) A4A (λ_ ih=>A4z H ih) D
def I3(R:Rt)(f:Nat)(args:Is)(H:Hp)(K:K2):Af:=
 match args with
 |[.ptr s 0 0]=>IP H s λx=>iK x λq _ cs=>match q,cs with
  |true,[.mp m]=>IP H m λy=>qT y λa=>ck (a.all λp=>dA 3 p.2) (Ax (R.call f [.iptr [.imap a]] [] λv b=>NT b depth v λc=>some (c,[])) K)
  |_,_=>none
 |_=>Ap R f args H K
section
variable{G:Gl}{w0:Base}{C C2:Ctx}{H:Hp}{w:World}{r:AV×Hp}
def Z?{f:AV->K2->Af}(m:∀a y K,VRel C w a y->f a K=some r->∃b,VRel C2 w b y/\K b=some r):
 ∀(l:Is)(ys:Hx)(K:Is->Af),CJ C w l ys->Tg f l K=some r->∃c,CJ C2 w c ys/\K c=some r:=by
 intro l
 induction l with
 |nil=>intro ys K d h;exact⟨[],by rw[d.nil_inv];exact .nil,h⟩
 |cons a l ih=>
  intro ys K d h;obtain⟨y,e,rfl,h1,h2⟩:=d.cons_inv;have h:(f a λb=>Tg f l λc=>K (b::c))=some r:=h;have⟨b,g,i⟩:=m a y _ h1 h;have⟨c,j,k⟩:=ih e _ h2 i;exact⟨_,.cons g j,k⟩
def A24(hr:Rel G w0 C H w)(h2:C2.bare=C2)(u:∀s x k o,Ah H s=some x->C.π s=some (some (k,o))->∀i,C2.F k i)(q:∀n cs y,cs.all Tp=true->VRel C w (.list n cs) y->VRel C2 w (.list n cs) y):∀(D:Nat)(a:AV)(y:Value)(K:K2),VRel C w a y->NT H D a K=some r->∃V,VRel C2 w V y/\K V=some r:=by
 intro D
 induction D with
 |zero=>
  intro a y K hv h;change A4A a K=some r at h;unfold A4A at h;split at h
  ·exact⟨_,by rw[AQ.1 hv];exact .v _,h⟩
  ·have⟨h1,h⟩:=B7 h;exact⟨_,q _ _ _ h1 hv,h⟩
  ·cases h
 |succ D ih=>
  intro a y K hv h;have L:=λl A K=>Z? (f:=NT H D) (C:=C) (C2:=C2) (w:=w) (r:=r) ih l A K;change A4z H (NT H D) a K=some r at h;unfold A4z at h;split at h
  ·exact⟨_,by rw[AQ.1 hv];exact .v _,h⟩
  ·have⟨h1,h⟩:=B7 h;exact⟨_,q _ _ _ h1 hv,h⟩
  ·obtain⟨A,rfl,O⟩:=ET.1 hv;have⟨Q,h1,h2⟩:=L _ _ _ O h;exact⟨_,ET.2 ⟨A,rfl,h1⟩,h2⟩
  ·obtain⟨A,rfl,O⟩:=DQ.1 hv;have⟨Q,h1,h2⟩:=L _ _ _ O h;exact⟨_,DQ.2 ⟨A,rfl,h1⟩,h2⟩
  ·rename_i sz s o n;have⟨q0,e,cs,t,h1⟩:=Ka h;have⟨c,g⟩:=Ma _ _ _ _ h1;rw[CA]at c g;cases hv with
   |slz ad=>
    have g:Tg (NT H D) ((cs.drop o).take (0*sz)) (λZ=>K (.list 0 Z))=some r:=g;rw[Nat.zero_mul,List.take_zero]at g;exact⟨_,.list0,g⟩
   |@sl _ _ _ _ _ _ bk X cap arr T fz J p ab Y=>
    rcases hr.rows s _ t with⟨_,h6⟩|⟨b',b,j,aa,B⟩
    ·rw[h6]at J;cases J
    ·have m:=B.at_.symm.trans J;injection m with m;injection m with m;injection m with e1 e2;subst e1 e2
     have d:CJ C w ((cs.drop o).take (n*sz)) ((((j.toList.drop b).take cs.length).drop o).take (n*sz)):=(B.vals.unsel.drop o).take _;have⟨Q,g,h4⟩:=L _ _ _ d g;have ac:Q.length=n*sz:=by
      rw[<-g.1,d.1,E!];have:n*sz<=(cs.drop o).length:=c;omega
     refine⟨_,.list p (λi=>((((j.toList.drop b).take cs.length).drop o).take (n*sz)).getD i undef) (λi hi=>u s _ _ _ t J _) (λi hi=>?_) (λi hi=>?_),h4⟩
     ·have M:i<n*sz:=by omega
      have N:o+i<cs.length:=by have:n*sz<=(cs.drop o).length:=c;simp at this;omega
      rw[lB,B.cell];rw[TV,D_,Dv M,qX,D_,Dv N,qX,l27];have hf:=B.fits;rw[l1p (by omega)];rfl
     ·have:=g.get i hi;rw[h2,TV,KJ (by rw[g.1];exact hi)];exact this
  ·cases h
variable{D:XE->Cf->Nat->List Oper->Bool}{E:XE}{P:Program}{R:Rt}{f:Nat}{args:Is}
def A0z(hR:RSound D E P R)(h:I3 R f args H K=some r):eC P f/\Rr P E.G f args H (λv H'=>H'=H/\K v=some r):=by
 unfold I3 at h;split at h
 rotate_left
 ·exact ZD hR h
 rename_i s;have⟨q,T,cs,a3,h⟩:=VB h;split at h
 rotate_left
 ·cases h
 rename_i _ _ m;have⟨x,az,h⟩:=Iz rfl h;unfold qT at h;split at h
 rotate_left
 ·cases h
 rename_i _ es bo;have⟨ar,h⟩:=B7 h;have⟨v0,H0,Q,ak⟩:=RW h;have hc:=(hR.call _ _ _ _ _ Q).2;refine⟨(hR.call _ _ _ _ _ Q).1,?_⟩;intro w0 C w ys hr ha;obtain⟨y,ba,rfl,ao,ap⟩:=ha.cons_inv;have:=ap.nil_inv;subst this;cases ao with
 |@ptr _ _ _ _ _ b ab J=>
 rcases hr.rows s _ a3 with⟨h1,_⟩|⟨b',aj,arr,fz,hd⟩
 ·cases h1
 have e':=hd.at_.symm.trans J;injection e' with e';injection e' with e';injection e' with e1 e2;subst e1 e2
 have⟨aq,hsz⟩:=hd.exact rfl;subst aq;have hsz:arr.size=1:=hsz;have⟨vm,aa,Y⟩:=hd.vals.2 0 _ (by rfl:([AV.mp m])[0]?=some (.mp m));have Y:VRel C w (.mp m) vm:=Y;have aa:arr[0]?=some vm:=by simpa using aa
 obtain⟨bm,ms,clock,rfl,a9,ac,ag,he, -⟩:=fM hr az Y;have u:w.cell? ⟨b',0,none⟩=some (.map (some bm)):=by rw[hd.cell];exact aa
 have Z:∀i,i≠0->w.cell? ⟨b',i,none⟩=none:=λi hi=>by rw[hd.cell];exact Array.getElem?_eq_none (by omega)
 let V:Ctx:={π:=λ_=>none,F:=λk i=>C.F k i\/k=b',B:=λk=>C.B k\/k=bm}
 have af:bm<w.heap.size:=(l1v.1 ac).1;have A:(∀k i,V.F k i->k<w.heap.size)/\∀k,V.B k->k<w.heap.size:=
  ⟨λk i c=>c.elim (hr.fin k i) λe=>e▸hd.lt,λk hB=>hB.elim (hr.finB k) λe=>e▸af⟩
 have eb:Ext (λ_=>True) C.bare w V.bare w:=⟨λ_ h=>absurd rfl h,λ_ _ h=>.inl h,λ_ _ _=>rfl,λ_ h=>.inl h,λ_ _=>rfl,λ_ a _ f h=>⟨a,f,h,rfl⟩,λ_ _ _=>.inr trivial,λ_ _=>.inr trivial,MC _⟩
 have a5:VRel V w (.imap es) (.map (some bm)):=by
  refine .imap ms (.inr rfl) ac (by rw[<-he.1];simp) (λi hi=>?_) (λi j ay hj=>?_) (λi hi=>?_) (λi hi=>?_)
  ·obtain⟨mm,t,M, -⟩:=he.2 i _ (KJ hi);have X:ms[i]?=some mm:=by simpa using t
   simp[gO,X,M]
  ·have ae:j<ms.size:=by have:=he.1;simp at this;omega
   have N:i<ms.size:=by omega
   have:=(l26.1 ag.born) i j (by simpa using N) (by simpa using ae) ay;simpa [gO,N,ae] using this
  ·have N:i<ms.size:=by have:=he.1;simp at this;omega
   have:=ag.lt ms[i] (by simp);simpa [gO,N] using this
  ·obtain⟨mm,t, -,h6⟩:=he.2 i _ (KJ hi);have X:ms[i]?=some mm:=by simpa using t
   have h7:(ms.getD i default)=mm:=by simp[gO,X]
   rw[h7];have h8:=VRel.down (C:=C) (C':=C.bare) rfl rfl 3 _ _ (G9.1 ar _ (Ql hi)) h6;exact h8.mono eb
 have a6:VRel V w (.iptr [.imap es]) (.pointer (some ⟨b',0+(0+0),none⟩)):=
  .iptr (λ_=>.map (some bm)) (λ_ _=>.inr rfl) (λi hi=>by
   have:i=0:=by simpa using hi
   subst this;exact u) (λi hi=>by
   have:i=0:=by simpa using hi
   subst this;exact a5)
 have am:Rel E.G ⟨w,λ_=>False⟩ V [] w:=
  ⟨λg cs hg i v hv=>⟨.inl (hr.glob g cs hg i v hv).1,(hr.glob g cs hg i v hv).2⟩,.refl _ _,λ_ _ h=>by simp[Ah]at h,λ_ _ h=>by simp[Ah]at h,λ_ _ _ _ h=>by simp[Ah]at h,λ_ _ _ _ _ _ _ h=>by simp[Ah]at h,A.1,A.2,λ_ _=>rfl⟩
 refine(hc _ V w _ am (.cons a6 .nil)).mono ?_;rintro e w' ⟨v,y,C',H',rfl,L,hv,hx,d⟩;have hb:Below w.heap.size w w':=L.below.toBelow;have O:∀k,Base.own ⟨w,λ_=>False⟩ k->w.heap.size<=k:=λk h=>h.elim id (λh=>h.elim)
 let C2:Ctx:={π:=C.π,F:=λk i=>C.F k i\/(w.heap.size<=k/\(C'.F k i\/∃s x o,Ah H' s=some x/\C'.π s=some (some (k,o)))),B:=C.B}
 have e:Ext w0.own C w C2 w':=⟨λ_ _=>rfl,λ_ _ h=>.inl h,λk i h=>hb.cell (p:=⟨k,i,none⟩) (hr.fin k i h),λ_ h=>h,λk h=>hb.block k (hr.finB k h),
  λk arr T fz h=>⟨arr,fz,(hb.block k (l1v.1 h).1).trans h,rfl⟩,λk i h=>h.imp id (λh=>.inl (fR hr.below.size h.1)),λk h=>.inl h,hb.size⟩
 have ah:Rel E.G w0 C2 H w':=by
  refine⟨hr.glob.mono e,hr.below.below hb,hr.lt,λs x d=>(hr.rows s x d).mono e (λk ab J=>hb.block k ((hr.rows s x d).block (ED d) J)),λs x k o d J=>?_,hr.sep,λk i c=>?_,λk hB=>l2r (hr.finB k hB) hb.size,hr.nx⟩
  ·have h1:=hr.own s x k o d J;have h2:=(hr.rows s x d).block (ED d) J;refine⟨h1.1,λi c=>?_,h1.2.2⟩;rcases c with c|c
   ·exact h1.2.1 i c
   ·have:=c.1;omega
  ·rcases c with c|⟨_,c|⟨s,x,o,d,J⟩⟩
   ·exact l2r (hr.fin k i c) hb.size
   ·exact L.fin k i c
   ·exact(L.rows s x d).block (ED d) J
 have⟨v',a4,hK⟩:=A24 (C2:=C2.bare) L rfl (λs x k o d J i=>.inr ⟨O k (L.own s x k o d J).1,.inr ⟨s,x,o,d,J⟩⟩) (λn cs y ax hy=>by
  cases hy with
  |list0=>exact .list0
  |@list _ _ _ cap _ bb o h vs c ad a7=>
   have ai:∀i(hi:i<cs.length),∃z:Value,cs[i]=.v z/\vs i=z/\∀k,z≠.map k:=λi hi=>by
    have h1:=G9.1 ax _ (Ql hi);have h2:=a7 i hi;cases hq:cs[i] with
    |v z=>
     rw[hq]at h1 h2;refine⟨z,rfl,AQ.1 h2,λk e=>?_⟩;subst e;simp[Tp]at h1
    |_=>rw[hq]at h1;simp[Tp]at h1
   refine .list h vs (λi hi=>?_) ad (λi hi=>?_)
   ·have⟨z,_,h2,h3⟩:=ai i hi;rcases hx.new _ _ (c i hi) with t|t
    ·rcases t with t|t
     ·exact .inl t
     ·exfalso;have M:=hx.keep bb (o+i) (.inr t);rw[ad i hi]at M;subst t;by_cases ho:o+i=0
      ·rw[ho,u]at M;injection M with M
       exact h3 _ (h2.symm.trans M)
      ·rw[Z _ ho]at M;cases M
    ·exact .inr ⟨O _ t,.inl (c i hi)⟩
   ·have⟨z,h1,h2,_⟩:=ai i hi;rw[h1,<-h2];exact .v _) depth v y _ hv d
 injection hK with hK
 injection hK with hK a8
 subst hK;exact⟨v',y,C2,H,rfl,ah,a4.up rfl rfl,e.frm,rfl,ak⟩
def zpm(E:XE)(g:Nat)(R:Rt)(all:Is)(H:Hp)(K:K2):Af:=(λ(_:Unit)=>@Bool.rec (λ_=>Af) (Ap R g all H K) (I3 R g all H K) (E.lm g)) HW
def gG{X:XE}(a:RSound D E P R)(h:zpm X f R args H K=some r):eC P f/\Rr P E.G f args H (λv b=>b=H/\K v=some r):=by
 change @Bool.rec (λ_=>Af) (Ap R f args H K) (I3 R f args H K) (X.lm f)=some r at h;cases hq:X.lm f
 ·rw[hq]at h;exact ZD a h
 ·rw[hq]at h;exact A0z a h
end
end
section
variable{K:K2}{x:Operand}{i:TI}{kt:TypeId}
def Ky(E:XE)(t:Tm)(x:Operand)(K:K2):Af:=
 match x with
 |.tmp i=>gtm t i K
 |.const v=>K (uJ v)
 |.global g=>E.gl.getK g λcs=>K (.iptr cs)
 |.func f=>K (.fn (.func f) [] [])
def sL(E:XE)(t:Tm)(l:List Operand):(Is->Af)->Af:=
 @List.rec Operand (λ_=>(Is->Af)->Af) (λK=>K []) (λx _ ih K=>Ky E t x λv=>ih λvs=>K (v::vs)) l
def sI(E:XE)(t:Tm)(x:Option Operand)(K:Option AV->Af):Af:=
 match x with
 |none=>K none
 |some x=>Ky E t x λv=>K (some v)
def plK(i:TI)(j:Nat)(K:Nat->Nat->Af):Af:=(λ(_:Unit)=>match Rz i j with|some (o,s)=>fNS o λo=>K o s|none=>none) HW
def lC(E:XE)(t:Tm)(i:TI)(l:List (Nat×Operand)):(List (Nat×Nat×AV)->Af)->Af:=
 @List.rec (Nat×Operand) (λ_=>(List (Nat×Nat×AV)->Af)->Af) (λK=>K []) (λp _ ih K=>plK i p.1 λo s=>Ky E t p.2 λv=>ih λa=>K ((o,s,v)::a)) l
def B5V(i:TI)(f:Nat)(K:Nat->Nat->TypeId->Af):Af:=(λ(_:Unit)=>match i.d with|.struct a=>(match a[f]? with|some (o,s,ft)=>K o s ft|none=>none)|_=>none) HW
def T?(i:TI)(K:TypeId->Nat->Af):Af:=(λ(_:Unit)=>match i.d with|.slice e a=>K e a|_=>none) HW
def A6B(i:TI):TypeId:=match i.d with|.slice e _=>e|_=>0
def elK(E:XE)(i:TI)(K:TI->Af):Af:=(λ(_:Unit)=>match kB i with|some e=>E.ty.getK e K|none=>K i) HW
def LG(v:AV)(K:K2):Af:=match v with|.ptr r p k=>K (.ptr r p k)|.iptr cs=>K (.iptr cs)|.fn (.func f) a b=>K (.fn (.func f) a b)|_=>none
def Cj(q a b:AV)(K:K2):Af:=match q with|.v (.bool true)=>K a|.v (.bool false)=>K b|_=>none
def A4D:TD->Bool
 |.int .u8=>true
 |_=>false
def cvK(E:XE)(s d:TypeId)(i j:TI)(a:AV)(H:Hp)(K:K2):Af:=
 (λ(_:Unit)=>match i.d with
  |.slice e _=>(match j.d with
   |.string=>E.ty.getK e λb=>ckS (A4D b.d) (zF a H K)
   |_=>none)
  |.pointer e=>ckS (Nat.beq d E.up&& !E.lie.isEmpty) (E.ty.getK e λb=>A2A b a H K)
  |.other=>(match j.d with
   |.pointer u=>ckS (Nat.beq s E.up&& !E.lie.isEmpty) (A2v E.lie u a H K)
   |_=>none)
  |_=>Jk i j a K) HW
def Z'(i:TI)(K:TypeId->TypeId->Af):Af:=(λ(_:Unit)=>match i.d with|.map k e=>K k e|_=>none) HW
def A82(E:XE)(kt:TypeId)(a:AV)(K:Value->Af):Af:=
 E.ty.getK kt λb=>(λ(_:Unit)=>match b.d with
  |.string=>Kk a K
  |.int q=>XB q a K
  |.struct _=>E.eqt.getK kt λks=>B5x ks a K
  |.array .. =>E.eqt.getK kt λks=>B5x ks a K
  |_=>none) HW
def A4E:Operand->Bool
 |.const .nilIface=>true
 |_=>false
def B7t(op:BinOp)(a:AV)(K:K2):Af:=
 match a,op with
 |.v .nilIface,.eql=>K (.v (.bool true))
 |.v .nilIface,.neq=>K (.v (.bool false))
 |_,_=>none
def C2e(E:XE)(op:BinOp)(ty:TypeId)(f:Bool)(a b:AV)(K:K2):Af:=
 E.ty.getK ty λi=>(λ(_:Unit)=>match i.d with
  |.struct _=>E.eqt.getK ty λks=>Vg ks op a b K
  |.array .. =>E.eqt.getK ty λks=>Vg ks op a b K
  |.pointer e=>E.ty.getK e λc=>RN i c op a b K
  |.iface=>ckS f (B7t op a K)
  |_=>Aq i op a b K) HW
def A3g(i:TI)(v:AV)(l h m:Option AV)(H:Hp)(K:K2):Af:=
 (λ(_:Unit)=>match i.d with
  |.array n _ a=>(match m with|none=>zD n a v l h H K|some _=>none)
  |_=>D3 i v l h m K) HW
def B3s(i:TI)(v:AV)(H:Hp)(K:K2):Af:=
 (λ(_:Unit)=>match i.d with
  |.map .. =>Zy v H K
  |_=>Ba i v K) HW
def A96(E:XE)(R:Rt)(f:AV)(b:Is)(H:Hp)(K:K2):Af:=
 match f with
 |.fn (.func g) first cap=>ckS (!E.imp g) (Tq b cap λa=>Tq first a λall=>zpm E g R all H K)
 |_=>none
def P!(E:XE)(R:Rt)(t:Tm)(H:Hp)(c:Call)(K:K2):Af:=
 match c.callee with
 |.value e=>Ky E t e λf=>sL E t c.args.toList λd=>A96 E R f d H K
 |.builtin .len=>match c.args.toList,c.argTypes.toList with
  |[x],[ty]=>Ky E t x λv=>E.ty.getK ty λi=>B3s i v H K
  |_,_=>none
 |.builtin .unsafeSliceData=>match c.args.toList with
  |[x]=>Ky E t x λv=>A8i v K
  |_=>none
 |.builtin .min=>match c.args.toList with
  |[x,y]=>Ky E t x λa=>Ky E t y λb=>eMM true a b K
  |_=>none
 |.builtin .max=>match c.args.toList with
  |[x,y]=>Ky E t x λa=>Ky E t y λb=>eMM false a b K
  |_=>none
 |_=>none
def Sa(E:XE)(R:Rt)(t:Tm)(H:Hp)(o:Op)(K:K2):Af:=
 match o with
 |.move x=>Ky E t x K
 |.assign x=>Ky E t x K
 |.pick c a b=>Ky E t c λq=>Ky E t a λa=>Ky E t b λb=>Cj q a b K
 |.load ty x=>Ky E t x λv=>E.ty.getK ty λi=>AE i v H K
 |.nilCheck x=>Ky E t x λv=>LG v K
 |.binOp op ty x y _=>Ky E t x λa=>Ky E t y λb=>C2e E op ty (A4E y) a b K
 |.unOp op _ x=>Ky E t x λa=>MJ op a K
 |.convert s d x=>Ky E t x λa=>E.ty.getK s λi=>E.ty.getK d λj=>cvK E s d i j a H K
 |.makeFunc fn first cap=>sL E t first.toList λw=>sL E t cap.toList λcs=>K (.fn fn w cs)
 |.fieldAddr ty x f=>Ky E t x λv=>E.ty.getK ty λi=>B5V i f λoff sz _=>ckS (!Nat.beq sz 0) (CI off v K)
 |.field ty x f=>Ky E t x λv=>E.ty.getK ty λi=>B5V i f λoff _ ft=>E.ty.getK ft λj=>A0l off j v K
 |.indexAddr ty x e=>Ky E t x λv=>Ky E t e λn=>E.ty.getK ty λi=>D4 i v n K
 |.index ty x e=>Ky E t x λv=>Ky E t e λn=>E.ty.getK ty λi=>elK E i λj=>kG i j v n K
 |.slice ty x B hi mx=>Ky E t x λv=>sI E t B λl=>sI E t hi λh=>sI E t mx λm=>E.ty.getK ty λi=>A3g i v l h m H K
 |.extract x k=>Ky E t x λv=>C9 v k K
 |.build ty parts=>E.ty.getK ty λi=>ckS (A0t i) (lC E t i parts.toList λl=>Cb i l K)
 |.call c=>P! E R t H c K
 |.buildSlice ty n parts=>E.ty.getK ty λi=>T? i λ_ g=>E.ty.getK (A6B i) λp=>lC E t i parts.toList λl=>Z6 g p n l K
 |.lookup ty x e ok=>Ky E t x λm=>Ky E t e λk=>E.ty.getK ty λi=>Z' i λkt u=>A82 E kt k λA=>E.ty.getK u λp=>Ye p ok m A H K
 |.entry it=>Ky E t it λv=>eA v H K
 |_=>none
section
variable{D:XE->Cf->Nat->List Oper->Bool}{E:XE}{P:Program}{R:Rt}{t:Tm}{H:Hp}{r:AV×Hp}{ro:Option Nat}{N:Nat}
def A6R{cs:Is}(h:cs.all isV=true):(cs.map unV).map AV.v=cs:=by
 induction cs with
 |nil=>rfl
 |cons c cs ih=>
  simp only[qU,KW]at h;simp only[X0,ih h.2];cases c<;>simp[isV]at h
  rfl
def Bh(a:XE.Ok D E P)(h:Ky E t x K=some r):K (JX E.G t x)=some r:=by
 unfold Ky at h;split at h
 ·rwa[Vb]at h
 ·exact h
 ·have⟨cs,h1,h2⟩:=Bk h;have:=a.gl _ _ h1;simp only[JX,XE.G,h1,D?,A6R this];exact h2
 ·exact h
def Sc(a:XE.Ok D E P):∀(l:List Operand)(K:Is->Af),sL E t l K=some r->K (l.map (JX E.G t))=some r:=by
 intro l
 induction l with
 |nil=>intro K h;exact h
 |cons x l ih=>
  intro K h;have h:(Ky E t x λv=>sL E t l λvs=>K (v::vs))=some r:=h;exact ih _ (Bh a h)
def lD(a:XE.Ok D E P){x:Option Operand}{K:Option AV->Af}(h:sI E t x K=some r):K (x.map (JX E.G t))=some r:=by
 unfold sI at h;split at h
 ·exact h
 ·exact Bh a h
def Yu(b:XE.Ok D E P):∀(l:List (Nat×Operand))(K:List (Nat×Nat×AV)->Af),lC E t i l K=some r->
 ∃a,K a=some r/\((l.map λp=>(p.1,JX E.G t p.2)).map λp=>(Rz i p.1).map λq=>(q.1,q.2,p.2))=a.map some:=by
 intro l
 induction l with
 |nil=>intro K h;exact⟨[],h,rfl⟩
 |cons p l ih=>
  intro K h;have h:(plK i p.1 λo s=>Ky E t p.2 λv=>lC E t i l λa=>K ((o,s,v)::a))=some r:=h;unfold plK at h;split at h
  ·rename_i o s c;simp only[B20]at h;have⟨a,h1,h2⟩:=ih _ (Bh b h);refine⟨_,h1,?_⟩;simp only[X0,c,D?,h2]
  ·cases h
def rd(b:XE.Ok D E P){o:Oper}{v:AV}{K:K2}(e:∀c,o.op≠.defer c)(f:sO (E.env P) o.op t H (λg a=>g=v/\a=H))(d:K v=some r):Uf P E.G ro N o t H (λv a=>a=H/\K v=some r):=
 Uf.mono (Vn e (zN (E:=E.env P) b.env f)) (by rintro _ _ ⟨rfl,rfl⟩;exact⟨rfl,d⟩)
def Qk{K:TypeId->TypeId->Af}(h:Z' i K=some r):∃k e,i.d=.map k e/\K k e=some r:=by
 unfold Z' at h;split at h
 ·rename_i a;exact⟨_,_,a,h⟩
 ·cases h
def Qj(b:XE.Ok D E P){mt kt a:TypeId}(hi:E.ty.get mt=some i)(c:i.d=.map kt a):P.underlying mt=some (.map kt a):=by
 have⟨u,f,e⟩:=(b.ty mt i hi).under;rw[c]at e;cases u<;>simp[td]at e
 rw[f,e.1,e.2]
def VQ(j:XE.Ok D E P){a:AV}{K:Value->Af}(h:A82 E kt a K=some r):∃k,Rq P kt k/\K k=some r/\∀{C:Ctx}{w:World}{y:Value},VRel C w a y->y=k:=by
 have⟨p,f,h⟩:=Bk h;have⟨u,m,e⟩:=(j.ty kt p f).under;have g:∀ks,E.eqt.get kt=some ks->B5x ks a K=some r->∃k,Rq P kt k/\K k=some r/\∀{C:Ctx}{w:World}{y:Value},VRel C w a y->y=k:=λks b h=>by
  unfold B5x at h;split at h
  ·obtain⟨vs,rfl,h1⟩:=fX _ _ h;have⟨h2,n⟩:=Mj h1;exact⟨_,.inr (.inr ⟨ks,vs,j.eq kt ks b,h2,rfl⟩),n,λhv=>tD hv⟩
  ·cases h
 simp only at h;split at h
 ·rename_i d;rw[d]at e;have c:u=.string:=by cases u<;>simp[td]at e;rfl
  subst c;unfold Kk at h;split at h
  ·exact⟨_,.inl ⟨m,_,rfl⟩,h,λhv=>AQ.1 hv⟩
  ·cases h
 ·rename_i q d;rw[d]at e;have c:u=.int q:=by cases u<;>simp[td]at e;rw[e]
  subst c;unfold XB at h;split at h
  ·have⟨h1,h2⟩:=Mj h;have h1:_=q:=l2y h1;subst h1;exact⟨_,.inr (.inl ⟨_,_,m,rfl⟩),h2,λhv=>AQ.1 hv⟩
  ·cases h
 ·have⟨ks,b,h⟩:=Bk h;exact g ks b h
 ·have⟨ks,b,h⟩:=Bk h;exact g ks b h
 ·cases h
def Qw{o:Oper}(e:∀c,o.op≠.defer c)(h:∀(w0:Base)(s0:Nat)(C:Ctx)(N:Nat)(a:Act)(w:World),St E.G w0 s0 C N t H a w->∃v y,K v=some r/\(execOp a.eval o).run P w=.ok (.value y) w/\VRel C w v y):Uf P E.G ro N o t H (λv b=>b=H/\K v=some r):=
 Vn e λw0 s0 C N a w s=>let⟨v,y,h1,h2,d⟩:=h w0 s0 C N a w s;⟨v,H,y,C,w,⟨rfl,h1⟩,.inl h2,d,s.rel,.refl _ _ _⟩
def A3r(f:XE.Ok D E P){o:Oper}{op:BinOp}{ty J:TypeId}{x y:Operand}(d:o.op=.binOp op ty x y J)(h:C2e E op ty (A4E y) (JX E.G t x) (JX E.G t y) K=some r):Uf P E.G ro N o t H (λv g=>g=H/\K v=some r):=by
 have⟨i,hi,h⟩:=Bk h;have nd:∀c,o.op≠.defer c:=λc hc=>by rw[d]at hc;cases hc
 have p:∀ks,E.eqt.get ty=some ks->Vg ks op (JX E.G t x) (JX E.G t y) K=some r->Uf P E.G ro N o t H (λv g=>g=H/\K v=some r):=λks b h=>by
  refine Qw nd λw0 A C N a w s=>?_;have⟨v,u,h1,h2,j⟩:=A52 (P:=P) x y (f.eq ty ks b) (Bc s x) (Bc s y) h;refine⟨v,u,h1,?_,j⟩;simp only[execOp,d];rw[Dr,h2];rfl
 simp only at h;split at h
 ·have⟨ks,b,h⟩:=Bk h;exact p ks b h
 ·have⟨ks,b,h⟩:=Bk h;exact p ks b h
 ·rename_i e k;have⟨L,m,h⟩:=Bk h;refine Qw nd λw0 A C N a w s=>?_;have⟨v,u,h1,h2,j⟩:=A51 (P:=P) (T:=E.T) f.ty x y hi k m (Bc s x) (Bc s y) h;refine⟨v,u,h1,?_,j⟩;simp only[execOp,d];rw[Dr,h2];rfl
 ·rename_i k;have⟨hc,h⟩:=Mj h;have F:y=.const .nilIface:=by
   unfold A4E at hc;split at hc
   ·rfl
   ·cases hc
  subst F;have⟨u,n,e⟩:=(f.ty ty i hi).under;rw[k]at e;obtain⟨ms,rfl⟩:∃ms,u=.interface ms:=by cases u<;>simp[td]at e;exact⟨_,rfl⟩
  have he:∀w,(Op.equal ty .nilIface .nilIface).run P w=.ok true w:=λw=>by
   show(Op.equalIn (9999+1) ty _ _).run P w=_;unfold Op.equalIn;rw[Dr,run_underlying n w];rfl
  have q:∀(op:BinOp)(z:Operand)(w:World),(eqGuard op ty z (.const .nilIface) .nilIface .nilIface).run P w=.ok () w:=λop z w=>by
   unfold eqGuard;rw[Sem.run_ite];refine B1B (by simp) ?_;simp
  refine Qw nd λw0 A C N a w s=>?_;have hv:=Bc s x;have hz:a.eval (.const .nilIface)=.nilIface:=rfl;unfold B7t at h;split at h
  ·rename_i hq _ _;rw[hq]at hv;have hv:=AQ.1 hv;refine⟨_,.bool true,h,?_,.v _⟩;simp only[execOp,d];rw[hv,hz,Dr,Dr,q];simp[binOp,he]
  ·rename_i hq _ _;rw[hq]at hv;have hv:=AQ.1 hv;refine⟨_,.bool false,h,?_,.v _⟩;simp only[execOp,d];rw[hv,hz,Dr,Dr,q];simp[binOp,he]
  ·cases h
 ·have⟨u,n,B⟩:=K! (T:=E.T) (ty:=ty) hi h;exact rd f nd (by rw[d];simpa [sO,XE.env] using B) n
def RP{K:TypeId->Nat->Af}(h:T? i K=some r):∃e a,i.d=.slice e a/\K e a=some r:=by
 unfold T? at h;split at h
 ·rename_i b;exact⟨_,_,b,h⟩
 ·cases h
def A8y(j:XE.Ok D E P){o:Oper}{ty:TypeId}{n:Nat}{parts:Array (Nat×Operand)}(k:o.op=.buildSlice ty n parts)(h:(E.ty.getK ty λi=>T? i λ_ b=>E.ty.getK (A6B i) λm=>lC E t i parts.toList λl=>Z6 b m n l K)=some r):Uf P E.G ro N o t H (λv u=>u=H/\K v=some r):=by
 have⟨i,hi,h⟩:=Bk h;have⟨e,b,f,h⟩:=RP h;have he:A6B i=e:=by simp[A6B,f]
 rw[he]at h;have⟨m,g,h⟩:=Bk h;have⟨l,h1,h2⟩:=Yu j _ _ h;refine Vn (λc hc=>by rw[k]at hc;cases hc) λw0 L C N a w s=>?_;have⟨B,hq⟩:=mN s parts;have⟨v,y,q,J,A,d,hv,hr,F⟩:=A8t (P:=P) (T:=E.T) j.ty hi f g (by rw[<-h2];simp[Rz,f]) h1 B hq s.rel;refine⟨v,H,y,q,J,⟨rfl,A⟩,.inl ?_,hv,hr,F⟩;have:(parts.map λ(i,x)=>(i,a.eval x))=(parts.toList.map λp=>(p.1,a.eval p.2)).toArray:=by apply qY;simp
 simp only[execOp,k];rw[this,Dr,d];rfl
def A8A(q:XE.Ok D E P){o:Oper}{s d:TypeId}(O:o.op=.convert s d x){i j ie:TI}{e z:Nat}(hi:E.ty.get s=some i)(Z:E.ty.get d=some j)(Y:i.d=.slice e z)(A:j.d=.string)(B:E.ty.get e=some ie)(f:A4D ie.d=true)(h:zF (JX E.G t x) H K=some r):Uf P E.G ro N o t H (λv V=>V=H/\K v=some r):=by
 refine Vn (λc hc=>by rw[O]at hc;cases hc) λw0 s0 C N a w st=>?_;have⟨h1,l,X,b⟩:=A59 (P:=P) st.rel (Bc st x) h;refine⟨.v (.string ⟨⟨l⟩⟩),H,.string ⟨⟨l⟩⟩,C,w,⟨rfl,X⟩,.inl ?_,.v _,st.rel,.refl _ _ _⟩;have u:(convert s d (a.eval x)).run P w=.ok (.string ⟨⟨l⟩⟩) w:=by
  have⟨F,_⟩:=(q.ty s i hi).elem_slice Y;have⟨Q,J,M⟩:=(q.ty d j Z).under;have⟨u3,L,p⟩:=(q.ty e ie B).under;rw[A]at M;have g:Q=.string:=by cases Q<;>simp[td]at M;rfl
  subst g;have m:u3=.int .u8:=by
   cases hq:ie.d with
   |int k=>
    rw[hq]at f p;cases k<;>simp[A4D]at f
    cases u3<;>simp[td]at p
    rw[p]
   |_=>rw[hq]at f;simp[A4D]at f
  subst m;unfold convert;rw[Dr,run_underlying F w];simp only[Ga];rw[Dr,run_underlying J w];simp only[Ga];generalize a.eval x=y at h1 b;cases y with
  |slice ad n cap=>
   simp only;rw[Dr,run_underlying L w];simp only[Ga];exact b
  |string s=>exact absurd rfl (h1 s)
  |_=>simp[Conv.bytesToString]at b
 simp only[execOp,O];rw[Dr,u];rfl
def G'{f:Nat}{K:Nat->Nat->TypeId->Af}(h:B5V i f K=some r):∃a o s ft,i.d=.struct a/\a[f]?=some (o,s,ft)/\K o s ft=some r:=by
 unfold B5V at h;split at h
 ·rename_i a b;split at h
  ·rename_i c;exact⟨a,_,_,_,b,c,h⟩
  ·cases h
 ·cases h
def gZ(f:XE.Ok D E P)(L:RSound D E P R){o:Oper}{c:Call}(p:o.op=.call c)(h:P! E R t H c K=some r):Uf P E.G ro N o t H (λv J=>J=H/\K v=some r):=by
 have nd:∀c,o.op≠.defer c:=λc hc=>by rw[p]at hc;cases hc
 unfold P! at h;split at h
 ·rename_i Y d;have h:=Sc f _ _ (Bh f h);unfold A96 at h;split at h
  ·rename_i g first cap O;have⟨_,h⟩:=B7 h;rw[J2,J2,<-eI]at h;have⟨⟨fn,h1,h2,B⟩,hc⟩:=gG L h;exact Uf.mono (T8 p d O h1 h2 B hc) (λ_ _ h=>h)
  ·cases h
 ·rename_i d;split at h
  ·rename_i x ty m q;have⟨i,hi,h⟩:=Bk (Bh f h);unfold B3s at h;split at h
   ·rename_i kt X M;refine Qw nd λw0 V C N a w s=>?_;have⟨v,y,h1,h2,B⟩:=A2F (P:=P) (ty:=o.type) (ts:=c.argTypes) (by rw[<-l27,q];rfl) (Qj f hi M) s.rel (Bc s x) h;refine⟨v,y,h1,?_,B⟩;have e:c.args.map a.eval= #[a.eval x]:=by apply qY;simp[m]
    rw[ID p _ d,e];show(do pure (Next.value (<-Builtin.len_ c.argTypes o.type #[a.eval x]))).run P w=_;rw[Dr,h2];rfl
   ·have⟨u,A,j⟩:=A8o (T:=E.T) hi h;exact rd f nd (by rw[p];simp only[sO,d,m,q];simpa [XE.env] using j) A
  ·cases h
 ·rename_i d;split at h
  ·rename_i x m;have h:=Bh f h;unfold A8i at h;split at h
   ·rename_i sz rr oo n hq;have⟨hc,h1⟩:=B7 h;simp only[KW,rU,Wg]at hc;refine Qw nd λw0 V C N a w s=>?_;have hv:=Bc s x;rw[hq]at hv;have e:c.args.map a.eval= #[a.eval x]:=by apply qY;simp[m]
    rw[ID p _ d,e];generalize a.eval x=y at hv;cases hv with
    |slz=>exact absurd hc.2 (by simp)
    |@sl _ _ _ _ _ _ b k cap arr T fz Q F hb hsz=>
     refine⟨_,.pointer (some ⟨b,k+oo,none⟩),h1,?_,.ptr Q⟩;show(do pure (Next.value (<-Builtin.unsafeSliceData_ c.argTypes o.type #[.slice (some ⟨b,k+oo,none⟩) n cap]))).run P w=_;rw[Dr,Lib.run_unsafeSliceData_row _ _ _ _ _ _ (by omega)];rfl
   ·cases h
  ·cases h
 ·rename_i d;split at h
  ·rename_i x y m;have⟨u,A,j⟩:=A2D (Bh f (Bh f h));exact rd f nd (by rw[p];simp only[sO,d,m];simpa [XE.env] using j) A
  ·cases h
 ·rename_i d;split at h
  ·rename_i x y m;have⟨u,A,j⟩:=A2D (Bh f (Bh f h));exact rd f nd (by rw[p];simp only[sO,d,m];simpa [XE.env] using j) A
  ·cases h
 ·cases h
def TP(m:XE.Ok D E P)(hR:RSound D E P R){o:Oper}(h:Sa E R t H o.op K=some r):Uf P E.G ro N o t H (λv Y=>Y=H/\K v=some r):=by
 unfold Sa at h;split at h
 all_goals try (cases h;done)
 case h_1 x g=>exact rd m (λc hc=>by rw[g]at hc;cases hc) (by rw[g];exact⟨rfl,rfl⟩) (Bh m h)
 case h_2 x g=>exact rd m (λc hc=>by rw[g]at hc;cases hc) (by rw[g];exact⟨rfl,rfl⟩) (Bh m h)
 case h_3 c a b g=>
  have h:=Bh m (Bh m (Bh m h));unfold Cj at h;split at h
  ·rename_i hq;exact rd m (λc hc=>by rw[g]at hc;cases hc) (by rw[g];simp[sO,XE.env,hq]) h
  ·rename_i hq;exact rd m (λc hc=>by rw[g]at hc;cases hc) (by rw[g];simp[sO,XE.env,hq]) h
  ·cases h
 case h_4 ty x g=>
  have⟨i,hi,h⟩:=Bk (Bh m h);have⟨u,p,q⟩:=A2I (T:=E.T) (ty:=ty) hi h;exact rd m (λc hc=>by rw[g]at hc;cases hc) (by rw[g];simpa [sO,XE.env] using q) p
 case h_5 x g=>
  have h:=Bh m h;unfold LG at h;split at h
  ·rename_i hq;exact rd m (λc hc=>by rw[g]at hc;cases hc) (by rw[g];simp[sO,XE.env,hq,A9c]) h
  ·rename_i hq;exact rd m (λc hc=>by rw[g]at hc;cases hc) (by rw[g];simp[sO,XE.env,hq,A9c]) h
  ·rename_i hq;exact rd m (λc hc=>by rw[g]at hc;cases hc) (by rw[g];simp[sO,XE.env,hq,A9c]) h
  ·cases h
 case h_6 op ty x y yt g=>exact A3r m g (Bh m (Bh m h))
 case h_7 op ty x g=>
  have⟨u,p,q⟩:=B28 (Bh m h);exact rd m (λc hc=>by rw[g]at hc;cases hc) (by rw[g];simpa [sO,XE.env] using q) p
 case h_8 s d x g=>
  have⟨i,hi,h⟩:=Bk (Bh m h);have⟨j,J,h⟩:=Bk h;unfold cvK at h;simp only at h;split at h
  ·rename_i e z F;split at h
   ·rename_i M;have⟨ie,B,h⟩:=Bk h;have⟨p,h⟩:=Mj h;exact A8A m g hi J F M B p h
   ·cases h
  ·rename_i e F;have⟨hc,h⟩:=Mj h;simp only[KW,rU,l19]at hc;have⟨ie,B,h⟩:=Bk h;refine Qw (λc hc=>by rw[g]at hc;cases hc) λw0 X C N a w st=>?_;have⟨h1,h2⟩:=A4X (P:=P) (T:=E.T) m.ty hi F B (d:=d) (by rw[hc.1];exact m.up hc.2) st.rel (Bc st x) h;refine⟨_,_,h1,?_,Bc st x⟩;simp only[execOp,g];rw[Dr,h2];rfl
  ·rename_i F;split at h
   ·rename_i u M;have⟨hc,h⟩:=Mj h;simp only[KW,rU,l19]at hc;have aa:P.underlying d=some (.pointer u):=by
     have⟨u',ad,Q⟩:=(m.ty d j J).under;rw[M]at Q;cases u'<;>simp[td]at Q
     rw[ad,Q]
    refine Qw (λc hc=>by rw[g]at hc;cases hc) λw0 X C N a w st=>?_;have⟨h1,h2⟩:=A4R (P:=P) m.lie (s:=s) (by rw[hc.1];exact m.up hc.2) aa st.rel (Bc st x) h;refine⟨_,_,h1,?_,Bc st x⟩;simp only[execOp,g];rw[Dr,h2];rfl
   ·cases h
  ·have⟨u,p,q⟩:=A55 (T:=E.T) hi J h;exact rd m (λc hc=>by rw[g]at hc;cases hc) (by rw[g];simpa [sO,XE.env] using q) p
 case h_9 fn first cap g=>
  have h:=Sc m _ _ (Sc m _ _ h);exact rd m (λc hc=>by rw[g]at hc;cases hc) (by rw[g];exact⟨rfl,rfl⟩) h
 case h_10 ty x f g=>
  have⟨i,hi,h⟩:=Bk (Bh m h);have⟨fs,off,s,ft,h1,h2,h⟩:=G' h;have⟨hz,h⟩:=B7 h;have⟨u,p,q⟩:=B2o (T:=E.T) (ty:=ty) hi h1 h2 (λe=>by rw[e]at hz;simp at hz) h;exact rd m (λc hc=>by rw[g]at hc;cases hc) (by rw[g];simpa [sO,XE.env] using q) p
 case h_11 ty x f g=>
  have⟨i,hi,h⟩:=Bk (Bh m h);have⟨fs,off,s,ft,h1,h2,h⟩:=G' h;have⟨j,J,h⟩:=Bk h;have⟨u,p,q⟩:=A8q (T:=E.T) (ty:=ty) hi h1 h2 J h;exact rd m (λc hc=>by rw[g]at hc;cases hc) (by rw[g];simpa [sO,XE.env] using q) p
 case h_12 ty x V g=>
  have⟨i,hi,h⟩:=Bk (Bh m (Bh m h));have⟨u,p,q⟩:=B2k (T:=E.T) (ty:=ty) hi h;exact rd m (λc hc=>by rw[g]at hc;cases hc) (by rw[g];simpa [sO,XE.env] using q) p
 case h_13 ty x V g=>
  have⟨i,hi,h⟩:=Bk (Bh m (Bh m h));unfold elK at h;have fin:∀j,(∀e,kB i=some e->E.T e=some j)->kG i j (JX E.G t x) (JX E.G t V) K=some r->Uf P E.G ro N o t H (λv Y=>Y=H/\K v=some r):=λj J h=>by
   have⟨u,p,q⟩:=A8p (T:=E.T) (ty:=ty) hi J h;exact rd m (λc hc=>by rw[g]at hc;cases hc) (by rw[g];simpa [sO,XE.env] using q) p
  split at h
  ·rename_i e he;have⟨j,J,h⟩:=Bk h;exact fin j (λQ A=>by rw[he]at A;injection A with A;subst A;exact J) h
  ·rename_i he;exact fin i (λQ A=>by rw[he]at A;cases A) h
 case h_14 ty x lo hi mx g=>
  have h0:=Bk (lD m (lD m (lD m (Bh m h))));clear h;have⟨i,O,h⟩:=h0;unfold A3g at h;split at h
  ·rename_i n e Z F;split at h
   ·rename_i hm;have ac:mx=none:=by cases mx with
     |none=>rfl
     |some _=>cases hm
    subst ac;refine Qw (λc hc=>by rw[g]at hc;cases hc) λw0 X C N a w st=>?_;have⟨v,u,h1,h2,L⟩:=A4T (P:=P) (T:=E.T) m.ty O F (m.pos ty i e Z O (.inr ⟨n,F⟩)) st.rel (Bc st x) (YR st lo) (YR st hi) h;refine⟨v,u,h1,?_,L⟩;simp only[execOp,g];rw[Dr];have:(Instr.sliceAt ty (a.eval x) (lo.map a.eval) (hi.map a.eval) (Option.map a.eval none)).run P w=.ok u w:=h2;rw[this];rfl
   ·cases h
  ·have⟨u,p,q⟩:=A2x (T:=E.T) (ty:=ty) O h;exact rd m (λc hc=>by rw[g]at hc;cases hc) (by rw[g];simpa [sO,XE.env] using q) p
 case h_15 x k g=>
  have⟨vs,u,h1,h2,L⟩:=A8r (Bh m h);exact rd m (λc hc=>by rw[g]at hc;cases hc) (by rw[g];simp only[sO,XE.env,h1,h2,Mu];exact⟨trivial,trivial⟩) L
 case h_16 ty parts g=>
  have⟨i,hi,h⟩:=Bk h;have⟨hb,h⟩:=B7 h;have⟨l,h1,h2⟩:=Yu m _ _ h;have⟨u,p,q⟩:=A2M (T:=E.T) (ty:=ty) hi hb h2 h1;exact rd m (λc hc=>by rw[g]at hc;cases hc) (by rw[g];simpa [sO,XE.env] using q) p
 case h_17 c g=>exact gZ m hR g h
 case h_18 ty n parts g=>exact A8y m g h
 case h_19 ty x V ok g=>
  have⟨i,hi,h⟩:=Bk (Bh m (Bh m h));have⟨kt,et,F,h⟩:=Qk h;have⟨kv,hk,h,ab⟩:=VQ m h;have⟨ie,B,h⟩:=Bk h;refine Qw (λc hc=>by rw[g]at hc;cases hc) λw0 X C N a w st=>?_;have⟨v,y,h1,h2,L⟩:=A8n (P:=P) (Qj m hi F) (m.ty et ie B) hk st.rel (Bc st x) h;refine⟨v,y,h1,?_,L⟩;simp only[execOp,g];rw[Dr,ab (Bc st V),h2];rfl
 case h_20 it g=>
  have h:=Bh m h;refine Qw (λc hc=>by rw[g]at hc;cases hc) λw0 X C N a w st=>?_;have⟨v,y,h1,h2,L⟩:=A53 (P:=P) st.rel (Bc st it) h;refine⟨v,y,h1,?_,L⟩;simp only[execOp,g];rw[Dr,h2];rfl
end
end
section
variable{aZ bd:Code}
def B9T(r:Nat)(K:AV->Hp->Prop):Exit->Tm->Hp->Prop
 |.normal,_,H=>∃N t ps aZ bd,Ah H r=some (.loop N t ps aZ bd none)/\K (.v (.bool true)) (upd H r (.loop N t ps aZ bd (some none)))
 |.ret,_,H=>∃N t ps aZ bd,Ah H r=some (.loop N t ps aZ bd none)/\K (.v (.bool false)) (upd H r (.loop N t ps aZ bd (some (some .ret))))
 |.exit id,_,H=>∃N t ps aZ bd,Ah H r=some (.loop N t ps aZ bd none)/\K (.v (.bool false)) (upd H r (.loop N t ps aZ bd (some (some (.exit id)))))
 |.goto l,_,H=>∃N t ps aZ bd,Ah H r=some (.loop N t ps aZ bd none)/\K (.v (.bool false)) (upd H r (.loop N t ps aZ bd (some (some (.goto l)))))
 |_,_,_=>False
section
variable{P:Program}{G:Gl}{ro:Option Nat}{N:Nat}{t:Tm}{H:Hp}
def A5q{o:Oper}{c:Call}{fv:Operand}{r:Nat}{K:AV->Hp->Prop}(R:o.op=.call c)(M:c.callee=.value fv)(hf:JX G t fv=.yl r){D:Nat}{t':Tm}{ps:Array Tmp}{args:Is}(m:c.args.toList.map (JX G t)=args)(hl:Ah H r=some (.loop D t' ps aZ bd (some none)))(ae:ps.size=args.length)(ad:∀p∈ps.toList,p<D)(h:∀b,QU P G (some b) (Ar H) D aZ (B0R (λt1 H1=>∃N1 k j g i,Ah H1 r=some (.loop N1 k j g i (some none))/\QU P G (some b) (Ar H) D bd (B9T r K) t1 (upd H1 r (.loop N1 k j g i none))) (λ_ _ _=>False)) (zV t' ps.toList args) H):Uf P G ro N o t H K:=by
 intro w0 s0 C a w Q s;have hv:=Bc s fv;rw[hf]at hv;generalize hy:a.eval fv=y at hv;cases hv with
 |yl L=>
 rename_i b am;have⟨F,l,h1,h2,h3,h4,h5,h6,h7,h8,h9⟩:=s.rel.rows r _ hl;have e:=h1.symm.trans L;injection e with e;injection e with e;injection e with e1 J;subst e1 J
 have V:r<Ar H:=C? s.rel (by rw[L];simp);have d:=wX s c.args.toList;rw[m]at d;have A:(c.args.map a.eval).size=l.params.size:=by
  have:=d.1;simp at this;simp[h6,ae,this]
 refine⟨λf _=>trivial,?_⟩;rw[Oper.semAt_eq _ _ _ (by rw[R];intro c hc;cases hc)];have X:(execOp a.eval o).run P w=.ok (.round F l.fn ((l.params.zip (c.args.map a.eval)).foldl (λtmps(t,a)=>tmps.setIfInBounds t a) l.tmps) l.assign l.body) w:=by
  simp only[execOp,R,resolve,M,hy,Deferred.ofValue,Dr,nJ,Ga,invoke];have:=run_yield (P:=P) (w:=w) (args:= #[]++c.args.map a.eval) h2 (by simpa using A);simpa using this
 rw[X];refine⟨λhd=>by simp[xG]at hd,?_⟩;have ht:=A7q (C:=C) (w:=w) l.params.toList args (c.args.toList.map a.eval) t' l.tmps (λp L=>by rw[h5];exact ad p (h6▸L)) d h9;have ah:(l.params.zip (c.args.map a.eval)).foldl (λtmps(x:Tmp×Value)=>match x with|(t,a)=>tmps.setIfInBounds t a) l.tmps=(l.params.toList.zip (c.args.toList.map a.eval)).foldl (λt(p:Tmp×Value)=>t.setIfInBounds p.1 p.2) l.tmps:=by
  have hz:(l.params.zip (c.args.map a.eval)).foldl (λtmps(p:Tmp×Value)=>tmps.setIfInBounds p.1 p.2) l.tmps=(l.params.toList.zip (c.args.toList.map a.eval)).foldl (λt(p:Tmp×Value)=>t.setIfInBounds p.1 p.2) l.tmps:=by
   rw[<-Array.foldl_toList];simp
  exact hz
 refine roundIn_of_wpIn trivial ?_;rw[ah,h7,h8];have ai:St G w0 0 C D (zV t' ps.toList args) H {tmps:=(l.params.toList.zip (c.args.toList.map a.eval)).foldl (λt(p:Tmp×Value)=>t.setIfInBounds p.1 p.2) l.tmps,defers:=[]} w:=
  ⟨s.rel,by rw[ht.2];exact h5,by rw[<-h6];exact ht.1,.nil,l1h _⟩
 refine wpIn_mono (h F w0 0 C _ w ai) ?_;rintro e a1 w1 ⟨C1,t1,H1,s1,x1,q1⟩;cases e with
 |normal=>
  have⟨N1,k,j,g,i,aa,n⟩:=q1;have q:C1.π r=some (some (F,0)):=(x1.π r V (by rw[L];simp)).trans L;have⟨l1,g1,g2,g3,g4,g5,g6,g7,g8,Y⟩:=s1.rel.set_loop (pend':=none) (O:=w0.own) aa q;have⟨af,J⟩:=Y {l1 with state:=.busy} rfl (by rw[g3];rfl) rfl rfl rfl rfl;refine⟨_,run_beginRound g1 g2,?_⟩;have aj:St G w0 0 C1 D t1 (upd H1 r (.loop N1 k j g i none)) a1 (w1.putObj F (.loop {l1 with state:=.busy})):=⟨af,s1.size,s1.tmps.mono J,s1.defers.mono J.B J.keepB,l1h _⟩
  refine wpIn_mono (n w0 0 C1 a1 _ aj) ?_;rintro e a3 w3 ⟨C3,t3,H3,s3,x3,q3⟩;have ac:C3.π r=some (some (F,0)):=(x3.π r V (by rw[q];simp)).trans q;have ak:Frm (Ar H) w0.own C w C3 w3:=(x1.trans J.frm).trans x3;have fin:∀jump:Option Code,(∃N t ps aZ bd,Ah H3 r=some (.loop N t ps aZ bd none)/\K (.v (.bool jump.isNone)) (upd H3 r (.loop N t ps aZ bd (some jump))))->
   ∃v w4,(Instr.endRound F jump).run P w3=.ok v w4/\∃Z y C' H',a.put o.dst v=a.put o.dst y/\K Z H'/\VRel C' w4 Z y/\Rel G w0 C' H' w4/\Ext w0.own C w C' w4:=by
   rintro jump ⟨N3,ar,aq,ao,ap,ab,hK⟩;have⟨l3,k1,k2,k3,k4,k5,k6,k7,k8,u⟩:=s3.rel.set_loop (pend':=some jump) (O:=w0.own) ab ac;have⟨ag,e4⟩:=u {l3 with state:=if jump.isNone then .ready else .done,pending:=jump} (by cases jump<;>rfl) rfl rfl rfl rfl rfl;exact⟨_,_,run_endRound jump k1,_,_,C3,_,rfl,hK,.v _,ag,(ak.trans e4.frm).ext_of s.rel⟩
  cases e with
  |normal=>exact fin none q3
  |ret=>exact fin (some .ret) q3
  |exit id=>exact fin (some (.exit id)) q3
  |goto l=>exact fin (some (.goto l)) q3
  |panic ch=>exact q3.elim
  |outgrown=>exact q3.elim
 |_=>exact q1.elim
def A5n{m:Nat}{Q:Exit->Tm->Hp->Prop}{g:Operand}{ps:Array Tmp}{f:FuncId}{first cap:Is}(hg:JX G t g=.fn (.func f) first cap){fn:Func}(aq:P.funcs[f]?=some fn)(F:fn.body.isNone=false)(K:(fn.name== "runtime.NumGoroutine")=false)(h:Rr P G f (first++[.yl (Ar H)]++cap) ((Ar H,.loop N t ps aZ bd (some none))::H) (λ_ H2=>∃N' t' aj V X d,Ah H2 (Ar H)=some (.loop N' t' aj V X (some d))/\B9W Q t (cut H2 (Ar H)) d)):QU P G none m N (.rangeFunc g ps aZ bd) Q t H:=by
 intro w0 s0 C a w s;refine wpIn_rangeFunc ?_;intro aa _;have hv:=Bc s g;rw[hg]at hv;have⟨ys,zs,he,ax,ay⟩:=Jy.1 hv;have af:=NZ w (.deferred (some []));have k:(w.alloc (.deferred (some []))).heap.size=w.heap.size+1:=World.size_alloc _ _;have rD:Rel G w0 C H (w.alloc (.deferred (some []))):=s.rel.of_below af;have A:(w.alloc (.deferred (some []))).heap[w.heap.size]?=some (.deferred (some [])):=World.alloc_heap_new w _;have⟨ak,am⟩:=rD.addB (b:=w.heap.size) (by rw[k];omega) (.inl s.rel.below.size) (λr x o hx hp=>l1l _ ((s.rel.rows r x hx).block (ED hx) hp));have eD:Ext w0.own C w (C.addB w.heap.size) (w.alloc (.deferred (some []))):=(s.rel.ext_below af).trans am;obtain⟨lp,i⟩:∃lp:Loop,lp={state:=.ready,pending:=none,fn:=aa,tmps:=a.tmps,params:=ps,assign:=aZ,body:=bd,defers:=w.heap.size}:=⟨_,rfl⟩
 have D:=NZ (w.alloc (.deferred (some []))) (.loop lp);have eL:Ext w0.own (C.addB w.heap.size) (w.alloc (.deferred (some []))) ((C.addB w.heap.size).put (Ar H) (some ((w.alloc (.deferred (some []))).heap.size,0))) ((w.alloc (.deferred (some []))).alloc (.loop lp)):=ak.new_ext D;have j:((w.alloc (.deferred (some []))).alloc (.loop lp)).heap[(w.alloc (.deferred (some []))).heap.size]?=some (.loop lp):=World.alloc_heap_new _ _;have L:=eD.trans eL;have r1:=ak.new_row (x:=.loop N t ps aZ bd (some none)) D ⟨_,lp,Ctx.put_n _ _ _,j,by rw[i];rfl,by rw[i];rfl,by rw[i];exact s.size,by rw[i],by rw[i],by rw[i],(show lp.tmps=a.tmps by rw[i])▸s.tmps.mono L⟩;generalize ac:(C.addB w.heap.size).put (Ar H) (some ((w.alloc (.deferred (some []))).heap.size,0))=R at r1 L;generalize ad:(w.alloc (.deferred (some []))).alloc (.loop lp)=q at r1 L j;have ai:R.π (Ar H)=some (some (w.heap.size+1,0)):=by rw[<-ac,Ctx.put_n,k]
 have ab:R.B w.heap.size:=by rw[<-ac];exact .inr rfl
 have ao:q.heap[w.heap.size]?=some (.deferred (some [])):=by
  rw[<-ad];exact(D.block _ (by rw[k];omega)).trans A
 have ae:CJ R q (first++[.yl (Ar H)]++cap) (ys++[.func (.yield (w.heap.size+1)) #[] #[]]++zs):=((ax.mono L).append (.cons (.yl ai) .nil)).append (ay.mono L);have J:=h w0 R q _ r1 ae;refine⟨w.heap.size+1,[{target:=.collected w.heap.size,args:= #[]}],q,{target:=.fn (.func f) zs.toArray,args:=ys.toArray++ #[Value.func (.yield (w.heap.size+1)) #[] #[]]},q,f,(ys++[Value.func (.yield (w.heap.size+1)) #[] #[]]++zs).toArray,q,?_,?_,λ_ _=>trivial,?_,λhd=>by simp[xG]at hd,?_⟩
 ·rw[<-ad,i];exact run_enterLoop_outer _ _ _ _ _
 ·simp only[resolve,rangeCall,he,Deferred.ofValue,nJ];simp[Act.eval]
 ·simp only[invoke,callFunc,Dr,run_program,Ga,aq,K,F,D!,if_false,nJ]
  congr 2
  apply qY;simp
 ·refine CallsIn.mono (callsIn_wide.2 J) ?_;rintro e w2 ⟨v,y,n,H2,rfl,r2,az,x2,N',t',aj,V,X,d,ag,hq⟩;have u:Ext w0.own R q n w2:=x2.ext_of r1;have ah:n.π (Ar H)=some (some (w.heap.size+1,0)):=u.at ai;have⟨b',M,k1,k2,k3,k4,_⟩:=r2.rows (Ar H) _ ag;have Y:=k1.symm.trans ah;injection Y with Y;injection Y with Y;injection Y with e3 e4;subst e3
  have ar:=(l1v.1 k2).1;have⟨r3,Z⟩:=r2.set_obj (O:=w0.own) (y:=.gone) ag ah (SameObj.putObj ar (.loop {M with state:=.exhausted})) (λarr T fz hc=>by rw[k2]at hc;cases hc) (λ_=>trivial);have ex:Ext w0.own C w n (w2.putObj (w.heap.size+1) (.loop {M with state:=.exhausted})):=(L.trans u).trans Z;have p:=u.trans Z;have ap:DOk w0 s0 n (w2.putObj (w.heap.size+1) (.loop {M with state:=.exhausted})) (Y_ w.heap.size::a.defers):=by
   have⟨bs,d1,d2,d3⟩:=s.defers;refine⟨w.heap.size::bs,List.nodup_cons.2 ⟨λhm=>l1l _ (s.rel.finB _ (d3 _ hm).2.2.1),d1⟩,by rw[d2];rfl,λb hb=>?_⟩;rcases Vp.1 hb with rfl|hb
   ·exact⟨s.le,.inl s.rel.below.size,p.B _ ab,(p.keepB _ ab).trans ao⟩
   ·have⟨g1,g2,g3,g4⟩:=d3 b hb;exact⟨g1,g2,ex.B _ g3,(ex.keepB _ g3).trans g4⟩
  have st:St G w0 s0 n N t (cut H2 (Ar H)) {a with defers:=[Y_ w.heap.size]++a.defers} (w2.putObj (w.heap.size+1) (.loop {M with state:=.exhausted})):=
   ⟨r3,s.size,s.tmps.mono ex,ap,fR s.le ex.grow⟩
  refine⟨d,w2.putObj (w.heap.size+1) (.loop {M with state:=.exhausted}),?_,?_⟩
  ·have:=run_endLoop (P:=P) k2 (by rw[k3];cases d<;>simp[B4r]);have hj:M.pending=d:=by rw[k4];cases d<;>rfl
   rw[this,hj]
  ·cases d with
   |none=>exact⟨n,t,_,st,ex.frm,hq⟩
   |some c=>
    cases c with
    |ret=>exact wpIn_ret ⟨n,t,_,st,ex.frm,hq⟩
    |exit id=>exact wpIn_exit ⟨n,t,_,st,ex.frm,hq⟩
    |goto l=>exact wpIn_goto ⟨n,t,_,st,ex.frm,hq⟩
    |_=>exact hq.elim
end
end
section
variable{c:Call}{s:Nat}
def eH(x:Row)(K:Nat->Tm->Array Tmp->Code->Code->Option (Option Code)->Af):Af:=match x with|.loop N t ps b d a=>K N t ps b d a|_=>none
def EC(H:Hp)(r:Nat)(ready:Bool)(to:Option (Option Code))(K:Ru):Af:=
 IP H r λx=>eH x λN t ps b d a=>match ready,a with
  |true,some none=>LJ H r (.loop N t ps b d to) K
  |false,none=>LJ H r (.loop N t ps b d to) K
  |_,_=>none
def A3O(t:Tm)(ps:List Tmp):Is->(Tm->Af)->Af:=
 @List.rec Tmp (λ_=>Tm->Is->(Tm->Af)->Af) (λt b K=>@List.rec AV (λ_=>Af) (K t) (λ_ _ _=>none) b)
  (λp _ ih t b K=>@List.rec AV (λ_=>Af) none (λa b _=>ih ((p,a)::t) b K) b) ps t
def C_(N:Nat)(ps:List Tmp):Bool:=@List.rec Tmp (λ_=>Bool) true (λp _ ih=>@Bool.rec (λ_=>Bool) false ih (Nat.blt p N)) ps
def Oj(R:Rt)(r:Nat)(args:Is)(H:Hp)(K:KV):Af:=
 IP H r λx=>eH x λN t ps i j b=>match b with
  |some none=>ck (C_ N ps.toList) (A3O t ps.toList args λf=>R.run ⟨true,f.map (·.1),false,N,[]⟩ i f H λe k g=>match e with
   |.normal=>EC g r true none λh=>R.run ⟨true,f.map (·.1),false,N,[]⟩ j k h λe _ d=>match e with
    |.normal=>EC d r false (some none) λa=>K (.v (.bool true)) a
    |.ret=>EC d r false (some (some .ret)) λa=>K (.v (.bool false)) a
    |.exit id=>EC d r false (some (some (.exit id))) λa=>K (.v (.bool false)) a
    |.goto l=>EC d r false (some (some (.goto l))) λa=>K (.v (.bool false)) a
    |_=>none
   |_=>none)
  |_=>none
def A97(E:XE)(R:Rt)(f:AV)(b:Is)(H:Hp)(K:KV):Af:=
 match f with
 |.fn (.func g) first cap=>ck (E.imp g) (Zu b cap λa=>Zu first a λall=>R.call g all H K)
 |.yl r=>Oj R r b H K
 |_=>none
def C3c(i:TI)(K:TypeId->Af):Af:=(λ(_:Unit)=>match i.d with|.pointer e=>K e|_=>none) HW
def C5v(E:XE)(e:TypeId)(esz:Nat)(ie i2:TI)(s x:AV)(H:Hp)(K:KV):Af:=(λ(_:Unit)=>@Bool.rec (λ_=>Af) (E0 e esz ie i2 s x H K) (K? e esz ie i2 s x H K) (E.ov e)) HW
def Yv(E:XE)(R:Rt)(t:Tm)(H:Hp)(c:Call)(K:KV):Af:=
 match c.callee with
 |.value h=>Ky E t h λf=>sL E t c.args.toList λg=>A97 E R f g H K
 |.builtin .append=>match c.args.toList,c.argTypes.toList with
  |[s,x],[v,w]=>Ky E t s λs=>Ky E t x λx=>E.ty.getK v λi1=>E.ty.getK w λi2=>T? i1 λe a=>E.ty.getK e λb=>C5v E e a b i2 s x H K
  |_,_=>none
 |.builtin .copy=>match c.args.toList,c.argTypes.toList with
  |[s,x],ty::_=>Ky E t s λs=>Ky E t x λx=>E.ty.getK ty λi=>T? i λ_ a=>A2K a s x H K
  |_,_=>none
 |.builtin .clear=>match c.args.toList,c.argTypes.toList with
  |[s],[ty]=>Ky E t s λs=>E.ty.getK ty λi=>T? i λe a=>E.ty.getK e λb=>wI a b s H λd=>K (.tup []) d
  |_,_=>none
 |.builtin .delete=>match c.args.toList,c.argTypes.toList with
  |[m,k],ty::_=>Ky E t m λm=>Ky E t k λk=>E.ty.getK ty λi=>Z' i λj _=>A82 E j k λq=>kC m q H λd=>K (.tup []) d
  |_,_=>none
 |.builtin .unsafeString=>match c.args.toList,c.argTypes.toList with
  |[p,n],[u,_]=>Ky E t p λp=>Ky E t n λn=>E.ty.getK u λi=>C3c i λe=>E.ty.getK e λb=>ckS (Nat.beq b.size 1) (A4Q e p n H K)
  |_,_=>none
 |_=>none
def gW(E:XE)(R:Rt)(t:Tm)(H:Hp)(o:Op)(K:KV):Af:=
 match o with
 |.store ty x y=>Ky E t x λp=>Ky E t y λv=>E.ty.getK ty λi=>DE i p v H λa=>K (.v undef) a
 |.alloc ty=>E.ty.getK ty λi=>Bx ty i H K
 |.box ty x=>Ky E t x λv=>FV ty v H K
 |.buildSlice ty n parts=>E.ty.getK ty λi=>T? i λe b=>E.ty.getK e λd=>lC E t i parts.toList λl=>GF e b d n l H K
 |.call c=>Yv E R t H c K
 |.makeSlice ty l c=>Ky E t l λl=>Ky E t c λc=>E.ty.getK ty λi=>T? i λe b=>E.ty.getK e λd=>eMk e b d l c H K
 |.makeMap ty none=>E.ty.getK ty λi=>Z' i λ_ h=>E.ty.getK h λd=>Ld d H K
 |.mapUpdate ty m k v=>Ky E t m λm=>Ky E t k λk=>Ky E t v λv=>E.ty.getK ty λi=>Z' i λf _=>A82 E f k λg=>Mg m g v H λa=>K (.v undef) a
 |.insert ty m k v=>Ky E t m λm=>Ky E t k λk=>Ky E t v λv=>E.ty.getK ty λi=>Z' i λf _=>A82 E f k λg=>Mg m g v H λa=>K (.v undef) a
 |.mapEntry ty m k=>Ky E t m λm=>Ky E t k λk=>E.ty.getK ty λi=>Z' i λf h=>A82 E f k λg=>E.ty.getK h λd=>B2f d m g H K
 |.entryStore _ m st v=>Ky E t m λm=>Ky E t st λst=>Ky E t v λv=>B2e m st v H λa=>K (.v undef) a
 |.range ty x=>Ky E t x λm=>E.ty.getK ty λi=>Z' i λ_ _=>XP m H K
 |.next it false=>Ky E t it λv=>Zx v H K
 |_=>none
section
variable{D:XE->Cf->Nat->List Oper->Bool}{E:XE}{P:Program}{R:Rt}{t:Tm}{H:Hp}{r:AV×Hp}{ro:Option Nat}{N:Nat}
def fO{x:Row}{K:Nat->Tm->Array Tmp->Code->Code->Option (Option Code)->Af}(h:eH x K=some r):∃N t ps b d a,x=.loop N t ps b d a/\K N t ps b d a=some r:=by
 unfold eH at h;split at h
 ·exact⟨_,_,_,_,_,_,rfl,h⟩
 ·cases h
def Oq{ready:Bool}{to:Option (Option Code)}{K:Ru}(h:EC H s ready to K=some r):
 ∃N t ps a b,Ah H s=some (.loop N t ps a b (if ready then some none else none))/\K (upd H s (.loop N t ps a b to))=some r:=by
 unfold EC at h;have⟨x,h1,h2⟩:=Iz rfl h;obtain⟨N,t,ps,a,b,e,rfl,d⟩:=fO h2;clear h h2;have h:=d;clear d;split at h
 ·rw[Dh]at h;exact⟨N,t,ps,a,b,h1,h⟩
 ·rw[Dh]at h;exact⟨N,t,ps,a,b,h1,h⟩
 ·cases h
def A1n:∀(ps:List Tmp)(t:Tm)(b:Is)(K:Tm->Af),A3O t ps b K=some r->ps.length=b.length/\K (zV t ps b)=some r:=by
 intro ps
 induction ps with
 |nil=>
  intro t b K h;cases b with
  |nil=>exact⟨rfl,h⟩
  |cons a b=>cases h
 |cons p ps ih=>
  intro t b K h;cases b with
  |nil=>cases h
  |cons a b=>
   have⟨h1,h2⟩:=ih ((p,a)::t) b K h;exact⟨by simpa using h1,h2⟩
def A7U{ps:List Tmp}(h:C_ N ps=true):∀p∈ps,p<N:=by
 induction ps with
 |nil=>intro p a;simp at a
 |cons q ps ih=>
  have e:C_ N (q::ps)=@Bool.rec (λ_=>Bool) false (C_ N ps) (Nat.blt q N):=rfl;rw[e]at h;cases hq:Nat.blt q N
  ·rw[hq]at h;cases h
  ·rw[hq]at h;intro p a;rcases Vp.1 a with rfl|a
   ·rwa[Wg]at hq
   ·exact ih h p a
def Wk(m:RSound D E P R){o:Oper}{j:Operand}{K:KV}(B:o.op=.call c)(a:c.callee=.value j)(y:JX E.G t j=.yl s)(h:Oj R s (c.args.toList.map (JX E.G t)) H K=some r):Uf P E.G ro N o t H (λv p=>K v p=some r):=by
 unfold Oj at h;have⟨x,A,h2⟩:=Iz rfl h;obtain⟨L,O,ps,u,w,n,rfl,k⟩:=fO h2;clear h h2;have h:=k;clear k;split at h
 ·have⟨h1,h⟩:=B7 h;have⟨h2,h⟩:=A1n _ _ _ _ h;refine A5q B a y rfl A (by simpa using h2) (A7U h1) λb=>?_;refine QU.mono (m.run (some b) _ u _ H _ r (Ar H) (λ_=>rfl) (λh=>by cases h) h) λe Q F hq=>?_;cases e with
  |normal=>
   have⟨q,C,i,d,f,g,hq⟩:=Oq hq;refine⟨q,C,i,d,f,g,QU.mono (m.run (some b) _ w _ _ _ r (Ar H) (λ_=>rfl) (λh=>by cases h) hq) λe V J hq=>?_⟩;cases e with
   |normal=>exact Oq hq
   |ret=>exact Oq hq
   |exit id=>exact Oq hq
   |goto l=>exact Oq hq
   |panic M=>cases hq
   |outgrown=>cases hq
  |_=>cases hq
 ·cases h
def wr(b:XE.Ok D E P){o:Oper}{v:AV}{H':Hp}{K:KV}(e:∀c,o.op≠.defer c)(f:B3u (E.env P) o.op t H (Ar H) (λg a=>g=v/\a=H'))(d:K v H'=some r):Uf P E.G ro N o t H (λv H'=>K v H'=some r):=
 Uf.mono (Vn e (A3v (E:=E.env P) b.env f)) (by rintro _ _ ⟨rfl,rfl⟩;exact d)
def B2Z{o:Oper}{K:AV->Hp->Prop}{d:Hp}(b:∀{G:Gl}{w0:Base}{C:Ctx}{w:World},Rel G w0 C H w->Rel G w0 C d w)(h:Uf P E.G ro N o t d K):Uf P E.G ro N o t H K:=
 λw0 e C a w Q s=>h w0 e C a w Q ⟨b s.rel,s.size,s.tmps,s.defers,s.le⟩
def Rn{o:Oper}{K:KV}(g:∀c,o.op≠.defer c)(h:∀(w0:Base)(s0:Nat)(C:Ctx)(N:Nat)(a:Act)(w:World),St E.G w0 s0 C N t H a w->∃v b y e d,K v b=some r/\((execOp a.eval o).run P w=.ok (.value y) d\/((execOp a.eval o).run P w=.ok .skip d/\y=undef))/\KU E.G w0 C w v b y e d):Uf P E.G ro N o t H (λv b=>K v b=some r):=
 Vn g λw0 s0 C N a w s=>let⟨v,b,y,e,d,h1,h2,f⟩:=h w0 s0 C N a w s;⟨v,b,y,e,d,h1,h2,f.1,f.2.1,f.2.2⟩
def Mm(j:XE.Ok D E P)(hR:RSound D E P R){o:Oper}(O:o.op=.call c){K:KV}(h:Yv E R t H c K=some r):Uf P E.G ro N o t H (λv y=>K v y=some r):=by
 have nd:∀c,o.op≠.defer c:=λc hc=>by rw[O]at hc;cases hc
 unfold Yv at h;split at h
 ·rename_i fv b;have h:=Sc j _ _ (Bh j h);unfold A97 at h;split at h
  ·rename_i g first cap hf;have⟨_,h⟩:=B7 h;rw[Ni,Ni,<-eI]at h;have⟨⟨fn,h1,h2,F⟩,hc⟩:=hR.call _ _ _ _ _ h;exact T8 O b hf h1 h2 F hc
  ·rename_i s hf;exact Wk hR O b hf h
  ·cases h
 ·rename_i b;split at h
  ·rename_i s x t1 t2 M f;have⟨i1,aa,h⟩:=Bk (Bh j (Bh j h));have⟨i2,ab,h⟩:=Bk h;have⟨e,A,J,h⟩:=RP h;have⟨X,B,h⟩:=Bk h;have main:E0 e A X i2 (JX E.G t s) (JX E.G t x) H K=some r->Uf P E.G ro N o t H (λv y=>K v y=some r):=λh=>by
    unfold E0 at h;have⟨H1,h,ai,L⟩:=tJ h;have⟨v,y,hK,V⟩:=K_ (T:=E.T) aa ab J B h;refine B2Z L ?_;exact wr j nd (by rw[O];simp only[B3u,b,M,f];exact V) hK
   change @Bool.rec (λ_=>Af) (E0 e A X i2 (JX E.G t s) (JX E.G t x) H K) (K? e A X i2 (JX E.G t s) (JX E.G t x) H K) (E.ov e)=some r at h;cases ac:E.ov e
   ·rw[ac]at h;exact main h
   rw[ac]at h;change K? e A X i2 (JX E.G t s) (JX E.G t x) H K=some r at h;unfold K? at h;split at h
   rotate_left
   ·exact main h
   rename_i sz r1 o1 n1 aj;have⟨m,ys,q,ad,h⟩:=ZU h;have⟨H1,h,ai,L⟩:=tJ h;have⟨v,y,hK,V⟩:=K_ (T:=E.T) aa ab J B h;refine Rn nd λw0 s0 C N a w st=>?_;have ae:=Bc st x;rw[aj]at ae;have⟨v,y,u,C',Q,⟨h1,h2⟩,F,Y⟩:=Yw (P:=P) (ty:=o.type) (ts:=c.argTypes) (T:=E.T) j.ty (t1:=t1) (t2:=t2) (by rw[<-l27,f];rfl) (by rw[<-l27,f];rfl) (L st.rel) (Bc st s) (z:=a.eval x) (λam m' ao q' ha ah _=>by
    injection ha with ha
    injection ha with e1 e2
    injection e2 with e2 e3
    subst e1 e2 e3;exact XS st.rel ae (q:=q) ad ah (λs hs=>by cases hs)) V
   subst h1 h2;refine⟨v,y,u,C',Q,hK,.inl ?_,Y⟩;have d:c.args.map a.eval= #[a.eval s,a.eval x]:=by apply qY;simp[M]
   rw[ID O _ b,d];show(do pure (Next.value (<-Builtin.append_ c.argTypes o.type #[a.eval s,a.eval x]))).run P w=_;rw[Dr,F];rfl
  ·cases h
 ·rename_i b;split at h
  ·rename_i s x ty ak M f;have⟨i,hi,h⟩:=Bk (Bh j (Bh j h));have⟨e,A,J,h⟩:=RP h;refine Rn nd λw0 s0 C N a w st=>?_;have⟨v,y,u,Q,h1,h2,F⟩:=A54 (P:=P) (T:=E.T) (ty:=o.type) (ts:=c.argTypes) j.ty (by rw[<-l27,f];rfl) hi J (j.pos ty i e A hi (.inl J)) st.rel (Bc st s) (Bc st x) h;refine⟨v,y,u,C,Q,h1,.inl ?_,F⟩;have d:c.args.map a.eval= #[a.eval s,a.eval x]:=by apply qY;simp[M]
   rw[ID O _ b,d];show(do pure (Next.value (<-Builtin.copy_ c.argTypes o.type #[a.eval s,a.eval x]))).run P w=_;rw[Dr,h2];rfl
  ·cases h
 ·rename_i b;split at h
  ·rename_i s ty M f;have⟨i,hi,h⟩:=Bk (Bh j h);have⟨e,A,J,h⟩:=RP h;have⟨X,B,h⟩:=Bk h;refine Rn nd λw0 s0 C N a w st=>?_;have⟨y,Q,h1,h2,F,Y⟩:=A56 (P:=P) (T:=E.T) (ty:=o.type) (ts:=c.argTypes) j.ty (by rw[<-l27,f];rfl) hi J B st.rel (Bc st s) h;refine⟨_,y,.tuple #[],C,Q,h1,.inl ?_,DQ.2 ⟨[],rfl,.nil⟩,F,Y⟩;have d:c.args.map a.eval= #[a.eval s]:=by apply qY;simp[M]
   rw[ID O _ b,d];show(do pure (Next.value (<-Builtin.clear_ c.argTypes o.type #[a.eval s]))).run P w=_;rw[Dr,h2];rfl
  ·cases h
 ·rename_i b;split at h
  ·rename_i m k ty ak M f;have⟨i,hi,h⟩:=Bk (Bh j (Bh j h));have⟨kt,et,J,h⟩:=Qk h;have⟨kv,hk,h,ag⟩:=VQ j h;refine Rn nd λw0 s0 C N a w st=>?_;have⟨y,Q,h1,h2,F,Y⟩:=A2H (P:=P) (ty:=o.type) (ts:=c.argTypes) (by rw[<-l27,f];rfl) (Qj j hi J) hk st.rel (Bc st m) h;refine⟨_,y,.tuple #[],C,Q,h1,.inl ?_,DQ.2 ⟨[],rfl,.nil⟩,F,Y⟩;have d:c.args.map a.eval= #[a.eval m,kv]:=by apply qY;simp[M,ag (Bc st k)]
   rw[ID O _ b,d];show(do pure (Next.value (<-Builtin.delete_ c.argTypes o.type #[a.eval m,kv]))).run P w=_;rw[Dr,h2];rfl
  ·cases h
 ·rename_i b;split at h
  ·rename_i p n pt it M f;have⟨i,hi,h⟩:=Bk (Bh j (Bh j h));unfold C3c at h;split at h
   ·rename_i e J;have⟨X,B,h⟩:=Bk h;have⟨af,h⟩:=Mj h;refine Rn nd λw0 s0 C N a w st=>?_;have⟨v,y,u,Q,h1,h2,F⟩:=A4P (P:=P) (T:=E.T) (it:=it) (ty:=o.type) j.ty hi J B (ZR af) st.rel (Bc st p) (Bc st n) h;refine⟨v,y,u,C,Q,h1,.inl ?_,F⟩;have d:c.args.map a.eval= #[a.eval p,a.eval n]:=by apply qY;simp[M]
    have Z:c.argTypes= #[pt,it]:=by apply qY;simp[f]
    rw[ID O _ b,d,Z];show(do pure (Next.value (<-Builtin.unsafeString_ #[pt,it] o.type #[a.eval p,a.eval n]))).run P w=_;rw[Dr,h2];rfl
   ·cases h
  ·cases h
 ·cases h
def Ig(d:XE.Ok D E P)(hR:RSound D E P R){o:Oper}{K:KV}(h:gW E R t H o.op K=some r):Uf P E.G ro N o t H (λv f=>K v f=some r):=by
 unfold gW at h;split at h
 all_goals try (cases h;done)
 case h_1 ty x y b=>
  have⟨i,hi,h⟩:=Bk (Bh d (Bh d h));have⟨f,B,F⟩:=B29 (T:=E.T) (ty:=ty) hi h;refine Uf.mono (Vn (λc hc=>by rw[b]at hc;cases hc) (zN (E:=E.env P) (K:=λv Z=>v=.v undef/\Z=f) d.env (by rw[b];simpa [sO,XE.env] using F))) ?_;rintro _ _ ⟨rfl,rfl⟩;exact B
 case h_2 ty b=>
  have⟨i,hi,h⟩:=Bk h;have⟨v,f,B,F⟩:=A2O (T:=E.T) hi h;exact wr d (λc hc=>by rw[b]at hc;cases hc) (by rw[b];exact F) B
 case h_3 ty x b=>
  have⟨v,f,B,F⟩:=A8s (ty:=ty) (Bh d h);exact wr d (λc hc=>by rw[b]at hc;cases hc) (by rw[b];exact F) B
 case h_4 ty n parts b=>
  have⟨i,hi,h⟩:=Bk h;have⟨e,aa,q,h⟩:=RP h;have⟨X,u,h⟩:=Bk h;have⟨l,h1,h2⟩:=Yu d _ _ h;have⟨v,f,B,F⟩:=B2t (T:=E.T) (ps:=parts.toList.map λp=>(p.1,JX E.G t p.2)) hi q u (by rw[<-h2];simp[Rz,q]) h1;exact wr d (λc hc=>by rw[b]at hc;cases hc) (by rw[b];exact F) B
 case h_5 c b=>exact Mm d hR b h
 case h_6 ty l c b=>
  have⟨i,hi,h⟩:=Bk (Bh d (Bh d h));have⟨e,aa,q,h⟩:=RP h;have⟨X,u,h⟩:=Bk h;refine Vn (λc hc=>by rw[b]at hc;cases hc) λw0 J C N a w s=>?_;have⟨v,f,y,L,g,B,V,hv,hr,F⟩:=A8m (P:=P) (T:=E.T) d.ty hi q u (Bc s l) (Bc s c) s.rel h;refine⟨v,f,y,L,g,B,.inl ?_,hv,hr,F⟩;simp only[execOp,b];rw[Dr,V];rfl
 case h_7 ty b=>
  have⟨i,hi,h⟩:=Bk h;have⟨Y,M,q,h⟩:=Qk h;have⟨X,u,h⟩:=Bk h;refine Rn (λc hc=>by rw[b]at hc;cases hc) λw0 J C N a w st=>?_;have⟨v,f,y,L,g,h1,h2,j⟩:=A2C (P:=P) (ty:=ty) st.rel h;refine⟨v,f,y,L,g,h1,.inl ?_,j⟩;simp only[execOp,b];have:(Instr.makeMap ty (Option.map a.eval none)).run P w=.ok y g:=h2;rw[Dr,this];rfl
 case h_8 ty m k v b=>
  have⟨i,hi,h⟩:=Bk (Bh d (Bh d (Bh d h)));have⟨Y,M,q,h⟩:=Qk h;have⟨kv,Q,h,A⟩:=VQ d h;refine Rn (λc hc=>by rw[b]at hc;cases hc) λw0 J C N a w st=>?_;have⟨f,g,h1,h2,j,O⟩:=wE (P:=P) (Qj d hi q) Q st.rel (Bc st m) (Bc st v) h;refine⟨_,f,undef,C,g,h1,.inr ⟨?_,rfl⟩,.v _,j,O⟩;simp only[execOp,b];rw[Dr,A (Bc st k),h2];rfl
 case h_9 ty m k v b=>
  have⟨i,hi,h⟩:=Bk (Bh d (Bh d (Bh d h)));have⟨Y,M,q,h⟩:=Qk h;have⟨kv,Q,h,A⟩:=VQ d h;refine Rn (λc hc=>by rw[b]at hc;cases hc) λw0 J C N a w st=>?_;have⟨f,g,h1,h2,j,O⟩:=wE (P:=P) (Qj d hi q) Q st.rel (Bc st m) (Bc st v) h;refine⟨_,f,undef,C,g,h1,.inr ⟨?_,rfl⟩,.v _,j,O⟩;simp only[execOp,b];rw[Dr,A (Bc st k),h2];rfl
 case h_10 ty m k b=>
  have⟨i,hi,h⟩:=Bk (Bh d (Bh d h));have⟨Y,M,q,h⟩:=Qk h;have⟨kv,Q,h,A⟩:=VQ d h;have⟨X,u,h⟩:=Bk h;refine Rn (λc hc=>by rw[b]at hc;cases hc) λw0 J C N a w st=>?_;have⟨v,f,y,g,h1,h2,j⟩:=A2G (P:=P) (Qj d hi q) (d.ty M X u) Q st.rel (Bc st m) h;refine⟨v,f,y,C,g,h1,.inl ?_,j⟩;simp only[execOp,b];rw[Dr,A (Bc st k),h2];rfl
 case h_11 ty m s v b=>
  have h:=Bh d (Bh d (Bh d h));refine Rn (λc hc=>by rw[b]at hc;cases hc) λw0 J C N a w st=>?_;have⟨f,g,h1,h2,j,O⟩:=A2B (P:=P) (mt:=ty) st.rel (Bc st m) (Bc st s) (Bc st v) h;refine⟨_,f,undef,C,g,h1,.inr ⟨?_,rfl⟩,.v _,j,O⟩;simp only[execOp,b];rw[Dr,h2];rfl
 case h_12 ty x b=>
  have⟨i,hi,h⟩:=Bk (Bh d h);have⟨Y,M,q,h⟩:=Qk h;refine Rn (λc hc=>by rw[b]at hc;cases hc) λw0 J C N a w st=>?_;have⟨v,f,y,L,g,h1,h2,j⟩:=A4W (P:=P) (Qj d hi q) st.rel (Bc st x) h;refine⟨v,f,y,L,g,h1,.inl ?_,j⟩;simp only[execOp,b];rw[Dr,h2];rfl
 case h_13 it b=>
  have h:=Bh d h;refine Rn (λc hc=>by rw[b]at hc;cases hc) λw0 J C N a w st=>?_;have⟨v,f,y,g,h1,h2,j⟩:=A4Y (P:=P) (ty:=o.type) st.rel (Bc st it) h;refine⟨v,f,y,C,g,h1,.inl ?_,j⟩;simp only[execOp,b];rw[Dr,h2];rfl
end
end
section
variable{K:KV}{d:Option Tmp}
def A2t(b:Bool)(all:Is)(H:Hp)(K:KV)(x:Af):Af:=
 (λ(_:Unit)=>match b with
  |true=>(match all with|[v]=>K v H|_=>none)
  |false=>x) HW
def CH(E:XE)(R:Rt)(f:AV)(b:Is)(H:Hp)(K:KV):Af:=
 match f with
 |.fn (.func g) first cap=>Tq b cap λa=>Tq first a λall=>A2t (E.ne g) all H K (@Bool.rec (λ_=>Af) (zpm E g R all H λv=>K v H) (R.call g all H K) (E.imp g))
 |.yl r=>Oj R r b H K
 |_=>none
def O?(E:XE)(R:Rt)(f:AV)(b:Is)(H:Hp)(K:KV):Af:=
 match f with
 |.fn (.func g) first cap=>Tq b cap λa=>Tq first a λall=>A2t (E.ne g) all H K (@Bool.rec (λ_=>Af) (zpm E g R all H λv=>K v H) (@Bool.rec (λ_=>Af) (R.call g all H K) (Ap R g all H λv=>K v H) (E.lm g)) (E.imp g))
 |.yl r=>Oj R r b H K
 |_=>none
def A3q(E:XE)(R:Rt)(fz:Bool)(t:Tm)(H:Hp)(c:Call)(K:KV):Af:=
 match c.callee with
 |.value b=>Ky E t b λf=>sL E t c.args.toList λa=>@Bool.rec (λ_=>Af) (CH E R f a H K) (O? E R f a H K) fz
 |.builtin .append=>Yv E R t H c K
 |.builtin .copy=>Yv E R t H c K
 |.builtin .clear=>Yv E R t H c K
 |.builtin .delete=>Yv E R t H c K
 |.builtin .unsafeString=>Yv E R t H c K
 |.builtin _=>P! E R t H c λv=>K v H
 |_=>none
def B7g:TD->Bool
 |.string=>true
 |_=>false
def zcv(E:XE)(R:Rt)(t:Tm)(H:Hp)(s d:TypeId)(x:Operand)(K:KV):Af:=
 E.ty.getK s λi=>E.ty.getK d λj=>(λ(_:Unit)=>match j.d with
  |.slice e _=>ckS (B7g i.d) (E.ty.getK e λb=>ckS (A4D b.d) (Ky E t x λa=>A2z e a H K))
  |_=>Sa E R t H (.convert s d x) λv=>K v H) HW
def zop(E:XE)(R:Rt)(fz:Bool)(t:Tm)(H:Hp)(o:Op)(K:KV):Af:=
 match o with
 |.call c=>A3q E R fz t H c K
 |.store a b c=>gW E R t H (.store a b c) K
 |.alloc a=>gW E R t H (.alloc a) K
 |.box a b=>gW E R t H (.box a b) K
 |.makeSlice a b c=>gW E R t H (.makeSlice a b c) K
 |.makeMap a b=>gW E R t H (.makeMap a b) K
 |.mapUpdate a b c d=>gW E R t H (.mapUpdate a b c d) K
 |.insert a b c d=>gW E R t H (.insert a b c d) K
 |.mapEntry a b c=>gW E R t H (.mapEntry a b c) K
 |.entryStore a b c d=>gW E R t H (.entryStore a b c d) K
 |.range a b=>gW E R t H (.range a b) K
 |.next a b=>gW E R t H (.next a b) K
 |.convert a b c=>zcv E R t H a b c K
 |.buildSlice a b c=>@Bool.rec (λ_=>Af) (gW E R t H (.buildSlice a b c) K) (Sa E R t H (.buildSlice a b c) λv=>K v H) fz
 |o=>Sa E R t H o λv=>K v H
def gdV(want:Bool)(v:AV)(K:Bool->Af):Af:=
 match v with
 |.v (.bool b)=>@Bool.rec (λ_=>Af) (@Bool.rec (λ_=>Af) (K true) (K false) b) (@Bool.rec (λ_=>Af) (K false) (K true) b) want
 |.dk=>none
 |_=>K false
def gdK(all:List Oper)(t:Tm)(g:Option (Nat×Bool))(K:Bool->Af):Af:=
 match g with
 |none=>K true
 |some (j,want)=>match all[j]? with
  |some p=>match p.dst with
   |some d=>gtm t d λv=>gdV want v K
   |none=>K false
  |none=>K false
def A2Q(N:Nat)(d:Option Tmp)(K:Af):Af:=(λ(_:Unit)=>match d with|some d=>ckS (Nat.blt d N) K|none=>K) HW
def QZ(t:Tm)(d:Option Tmp)(v:AV)(K:Tm->Af):Af:=(λ(_:Unit)=>match d with|some d=>K ((d,v)::t)|none=>K t) HW
def A88(g:Option (Nat×Bool))(x y:Af):Af:=(λ(_:Unit)=>match g with|none=>x|some _=>y) HW
def Ei(a:Af)(K:KV):Af:=match a with|some (v,H)=>K v H|none=>none
def A6X(E:XE)(R:Rt)(fz:Bool)(N:Nat)(all:List Oper)(l:List Oper):Tm->Hp->(Tm->Ru)->Af:=
 @List.rec Oper (λ_=>Tm->Hp->(Tm->Ru)->Af) (λt H K=>K t H)
  (λo _ ih t H K=>A2Q N o.dst (A88 o.guard (zop E R fz t H o.op λv a=>QZ t o.dst v λb=>ih b a K)
   (Ei (gdK all t o.guard λg=>@Bool.rec (λ_=>Af) (some (.v undef,H)) (zop E R fz t H o.op λv a=>some (v,a)) g) λv a=>QZ t o.dst v λb=>ih b a K))) l
section
variable{D:XE->Cf->Nat->List Oper->Bool}{E:XE}{P:Program}{R:Rt}{t:Tm}{H:Hp}{r:AV×Hp}{ro:Option Nat}{N m:Nat}{fz:Bool}
def P?(k:XE.Ok D E P)(f:RSound D E P R){o:Oper}{c:Call}(e:o.op=.call c)(h:A3q E R fz t H c K=some r):Uf P E.G ro N o t H (λv u=>K v u=some r):=by
 unfold A3q at h;split at h
 ·rename_i p a;have h:=Sc k _ _ (Bh k h);cases fz
  ·have h:CH E R (JX E.G t p) ([]++c.args.toList.map (JX E.G t)) H K=some r:=h;unfold CH at h;split at h
   ·rename_i g first cap i;rw[J2,J2,<-eI]at h;cases b:E.ne g
    rotate_left
    ·rw[b]at h;unfold A2t at h;simp only at h;split at h
     ·rename_i v j;exact A6P (k.ne g b) e a i j h
     ·cases h
    rw[b]at h;have h:@Bool.rec (λ_=>Af) (zpm E g R (first++c.args.toList.map (JX E.G t)++cap) H λv=>K v H) (R.call g (first++c.args.toList.map (JX E.G t)++cap) H K) (E.imp g)=some r:=h;cases hi:E.imp g
    ·rw[hi]at h;have⟨⟨fn,h1,h2,n⟩,hc⟩:=gG f h;exact Uf.mono (T8 e a i h1 h2 n hc) (by rintro _ _ ⟨rfl,h⟩;exact h)
    ·rw[hi]at h;have⟨⟨fn,h1,h2,n⟩,hc⟩:=f.call _ _ _ _ _ h;exact T8 e a i h1 h2 n hc
   ·rename_i s i;exact Wk f e a i h
   ·cases h
  ·have h:O? E R (JX E.G t p) ([]++c.args.toList.map (JX E.G t)) H K=some r:=h;unfold O? at h;split at h
   ·rename_i g first cap i;rw[J2,J2,<-eI]at h;cases b:E.ne g
    rotate_left
    ·rw[b]at h;unfold A2t at h;simp only at h;split at h
     ·rename_i v j;exact A6P (k.ne g b) e a i j h
     ·cases h
    rw[b]at h;have h:@Bool.rec (λ_=>Af) (zpm E g R (first++c.args.toList.map (JX E.G t)++cap) H λv=>K v H) (@Bool.rec (λ_=>Af) (R.call g (first++c.args.toList.map (JX E.G t)++cap) H K) (Ap R g (first++c.args.toList.map (JX E.G t)++cap) H λv=>K v H) (E.lm g)) (E.imp g)=some r:=h;cases hi:E.imp g
    ·rw[hi]at h;have⟨⟨fn,h1,h2,n⟩,hc⟩:=gG f h;exact Uf.mono (T8 e a i h1 h2 n hc) (by rintro _ _ ⟨rfl,h⟩;exact h)
    ·rw[hi]at h;have h:@Bool.rec (λ_=>Af) (R.call g (first++c.args.toList.map (JX E.G t)++cap) H K) (Ap R g (first++c.args.toList.map (JX E.G t)++cap) H λv=>K v H) (E.lm g)=some r:=h;cases q:E.lm g
     ·rw[q]at h;have⟨⟨fn,h1,h2,n⟩,hc⟩:=f.call _ _ _ _ _ h;exact T8 e a i h1 h2 n hc
     ·rw[q]at h;have⟨⟨fn,h1,h2,n⟩,hc⟩:=ZD f (K:=λv=>K v H) h;exact Uf.mono (T8 e a i h1 h2 n hc) (by rintro _ _ ⟨rfl,h⟩;exact h)
   ·rename_i s i;exact Wk f e a i h
   ·cases h
 ·exact Mm k f e h
 ·exact Mm k f e h
 ·exact Mm k f e h
 ·exact Mm k f e h
 ·exact Mm k f e h
 ·exact Uf.mono (gZ k f e h) (by rintro _ _ ⟨rfl,h⟩;exact h)
 ·cases h
def A73(f:XE.Ok D E P)(hR:RSound D E P R){o:Oper}{s d:TypeId}{x:Operand}(F:o.op=.convert s d x)(h:zcv E R t H s d x K=some r):Uf P E.G ro N o t H (λv u=>K v u=some r):=by
 have⟨i,hi,h⟩:=Bk h;have⟨j,hj,h⟩:=Bk h;simp only at h;split at h
 ·rename_i e z hd;have⟨n,h⟩:=Mj h;have⟨Q,B,h⟩:=Bk h;have⟨b,h⟩:=Mj h;have h:=Bh f h;refine Vn (λc hc=>by rw[F]at hc;cases hc) λw0 s0 C N a w st=>?_;have⟨str,hy,v,u,X,Y,V,Z,g,hv,hr,hx⟩:=A4V (P:=P) st.rel (Bc st x) h;refine⟨v,u,X,Y,V,Z,.inl ?_,hv,hr,hx⟩;have A:(convert s d (a.eval x)).run P w=.ok X V:=by
   have⟨u1,J,O⟩:=(f.ty s i hi).under;have⟨L,_⟩:=(f.ty d j hj).elem_slice hd;have⟨u3,M,y⟩:=(f.ty e Q B).under;have q:u3=.int .u8:=by
    cases hq:Q.d with
    |int k=>
     rw[hq]at b y;cases k<;>simp[A4D]at b
     cases u3<;>simp[td]at y
     rw[y]
    |_=>rw[hq]at b;simp[A4D]at b
   have p:u1=.string:=by
    cases hq:i.d with
    |string=>
     rw[hq]at O;cases u1<;>simp[td]at O
     rfl
    |_=>rw[hq]at n;simp[B7g]at n
   subst q p;rw[hy];unfold convert;rw[Dr,run_underlying J w];simp only[Ga];rw[Dr,run_underlying L w];simp only[Ga];rw[Dr,run_underlying M w];simp only[Ga];exact g
  simp only[execOp,F];rw[Dr,A];rfl
 ·exact Uf.mono (TP (K:=λv=>K v H) f hR (by rw[F];exact h)) (by rintro _ _ ⟨rfl,h⟩;exact h)
def lE(b:XE.Ok D E P)(e:RSound D E P R){o:Oper}(h:zop E R fz t H o.op K=some r):Uf P E.G ro N o t H (λv f=>K v f=some r):=by
 unfold zop at h;split at h
 ·rename_i c a;exact P? b e a h
 ·rename_i a;exact Ig b e (by rw[a];exact h)
 ·rename_i a;exact Ig b e (by rw[a];exact h)
 ·rename_i a;exact Ig b e (by rw[a];exact h)
 ·rename_i a;exact Ig b e (by rw[a];exact h)
 ·rename_i a;exact Ig b e (by rw[a];exact h)
 ·rename_i a;exact Ig b e (by rw[a];exact h)
 ·rename_i a;exact Ig b e (by rw[a];exact h)
 ·rename_i a;exact Ig b e (by rw[a];exact h)
 ·rename_i a;exact Ig b e (by rw[a];exact h)
 ·rename_i a;exact Ig b e (by rw[a];exact h)
 ·rename_i a;exact Ig b e (by rw[a];exact h)
 ·rename_i a;exact A73 b e a h
 ·rename_i a;cases fz
  ·exact Ig b e (by rw[a];exact h)
  ·exact Uf.mono (TP (K:=λv=>K v H) b e (by rw[a];exact h)) (by rintro _ _ ⟨rfl,h⟩;exact h)
 ·exact Uf.mono (TP b e h) (by rintro _ _ ⟨rfl,h⟩;exact h)
def jQ{all:List Oper}{o:Oper}{K:Bool->Af}(h:gdK all t o.guard K=some r):(K true=some r/\(Hf all t o=.run\/Hf all t o=.dep true))\/(K false=some r/\(Hf all t o=.skip\/Hf all t o=.dep false)):=by
 unfold gdK at h;unfold Hf;split at h
 ·rename_i c;rw[c];exact .inl ⟨h,.inl rfl⟩
 ·rename_i j want c;rw[c];simp only;split at h
  ·rename_i p e;rw[e];simp only;split at h
   ·rename_i d a;rw[a];rw[Vb]at h;simp only;unfold gdV at h;split at h
    ·rename_i b hb;rw[hb];simp only[Vm];cases want<;>cases b
     ·exact .inl ⟨h,.inr rfl⟩
     ·exact .inr ⟨h,.inr rfl⟩
     ·exact .inr ⟨h,.inr rfl⟩
     ·exact .inl ⟨h,.inr rfl⟩
    ·cases h
    ·rename_i h1 h2;refine .inr ⟨h,.inl ?_⟩;have:Vm (HR t d)=.skip:=by
      unfold Vm;split
      ·rename_i b hb;exact absurd hb (h1 b)
      ·rename_i hb;exact absurd hb h2
      ·rfl
     rw[this]
   ·rename_i a;rw[a];exact .inr ⟨h,.inl rfl⟩
  ·rename_i e;rw[e];exact .inr ⟨h,.inl rfl⟩
def oH{K:Af}(h:A2Q N d K=some r):dok N d/\K=some r:=by
 unfold A2Q at h;split at h
 ·have⟨h1,h2⟩:=B7 h;rw[Wg]at h1;exact⟨h1,h2⟩
 ·exact⟨trivial,h⟩
def Wb{a:Af}(h:Ei a K=some r):∃v b,a=some (v,b)/\K v b=some r:=by
 unfold Ei at h;split at h
 ·exact⟨_,_,rfl,h⟩
 ·cases h
def TS{v:AV}{K:Tm->Af}:QZ t d v K=K (Sh t d v):=by cases d<;>rfl
def A3k(y:XE.Ok D E P)(A:RSound D E P R){all:List Oper}:∀(l:List Oper)(t:Tm)(H:Hp)(K:Tm->Ru),A6X E R fz N all l t H K=some r->
 A0E P E.G ro m N all.toArray l (λe f b=>e=.normal/\K f b=some r) t H:=by
 intro l
 induction l with
 |nil=>intro t H K h;exact B2Y ⟨rfl,h⟩
 |cons o l ih=>
  intro t H K h;have h:A2Q N o.dst (A88 o.guard (zop E R fz t H o.op λv b=>QZ t o.dst v λf=>A6X E R fz N all l f b K)
   (Ei (gdK all t o.guard λg=>@Bool.rec (λ_=>Af) (some (.v undef,H)) (zop E R fz t H o.op λv b=>some (v,b)) g) λv b=>QZ t o.dst v λf=>A6X E R fz N all l f b K))=some r:=h
  have⟨p,h⟩:=oH h;intro w0 O C a w s;have j:=xB s.tmps all o;cases c:o.guard with
  |none=>
   have k:Hf all t o=.run:=by unfold Hf;rw[c]
   rw[c]at h;have h:(zop E R fz t H o.op λv b=>QZ t o.dst v λf=>A6X E R fz N all l f b K)=some r:=h;refine A32 p s (j.1 k) (Uf.mono (lE y A h) λv b i=>?_);rw[TS]at i;exact ih _ _ _ i
  |some F=>
   rw[c]at h;have h:(Ei (gdK all t (some F) λg=>@Bool.rec (λ_=>Af) (some (.v undef,H)) (zop E R fz t H o.op λv b=>some (v,b)) g) λv b=>QZ t o.dst v λf=>A6X E R fz N all l f b K)=some r:=h;rw[<-c]at h;have⟨v,B,J,n⟩:=Wb h;rw[TS]at n;rcases jQ J with⟨h1,h2⟩|⟨h1,h2⟩
   ·have x:Region.wanted o (yielded all.toArray a.tmps)=true:=by
     rcases h2 with h2|h2
     ·exact j.1 h2
     ·exact j.2.2 _ h2
    refine A32 p s x (Uf.mono (lE y A h1) λQ b i=>?_);injection i with i;injection i with q u
    subst q u;exact ih _ _ _ n
   ·have x:Region.wanted o (yielded all.toArray a.tmps)=false:=by
     rcases h2 with h2|h2
     ·exact j.2.1 h2
     ·exact j.2.2 _ h2
    have h1:some (AV.v undef,H)=some (v,B):=h1;injection h1 with h1;injection h1 with L M
    subst L M;exact A8E p s x (ih _ _ _ n)
end
end
section
variable{c:Code}{Q:Exit->Tm->Hp->Prop}{F:Tm->Ru}
def zE(a:AV)(H:Hp)(K:KV):Af:=match a with
 |.sl sz r o n=>IP H r λx=>Kb x λ_ cs=>E9 (Nat.mul n sz) (Dn o cs) λc=>ck (c.all (dA 3)) (LJ H r .gone λb=>K (.list n c) b)
 |a=>K a H
def B5O(F:Tm->Ru)(us:List (Nat×Nat)):Tm->Ru:=
 @List.rec (Nat×Nat) (λ_=>Tm->Ru) F (λu _ ih t H=>gtm t u.1 λa=>zE a H λd b=>ih ((u.1,d)::t) b) us
def C14(rc:List (Nat×List (Nat×Nat)))(id:Nat)(F:Tm->Ru)(t:Tm)(H:Hp):Af:=(λ(_:Unit)=>@List.rec (Nat×List (Nat×Nat)) (λ_=>Tm->Ru) F (λp _ ih=>@Bool.rec (λ_=>Tm->Ru) ih (B5O F p.2) (Nat.beq p.1 (Nat.add id 1000000))) rc t H) HW
section
variable{P:Program}{G:Gl}{w0:Base}{C:Ctx}{H:Hp}{w:World}{r:AV×Hp}{ro:Option Nat}{m N:Nat}
def A50(hr:Rel G w0 C H w){a:AV}{y:Value}(M:VRel C w a y){K:KV}(h:zE a H K=some r):∃v J C',K v J=some r/\VRel C' w v y/\Rel G w0 C' J w/\Ext w0.own C w C' w:=by
 unfold zE at h;split at h
 ·rename_i sz s o n;have⟨q0,e,cs,u,h1⟩:=Ka h;have⟨d,h2⟩:=Ma _ _ _ _ h1;rw[CA]at d h2;have⟨hc,j⟩:=B7 h2;rw[Dh]at j;cases M with
  |slz ac=>
   have j:K (.list 0 ((cs.drop o).take (0*sz))) (cut H s)=some r:=j;rw[Nat.zero_mul,List.take_zero]at j;exact⟨_,_,C,j,.list0,hr.cut_row s,.refl _ _ _⟩
  |@sl _ _ _ _ _ _ bk L cap arr T fz B p aa O=>
   rcases hr.rows s _ u with⟨_,h6⟩|⟨R,b,g,Y,q⟩
   ·rw[h6]at B;cases B
   ·have k:=q.at_.symm.trans B;injection k with k;injection k with k;injection k with V X;subst V X
    have⟨D,t⟩:=hr.freeze u q;have f:CJ C w ((cs.drop o).take (n*sz)) ((((g.toList.drop b).take cs.length).drop o).take (n*sz)):=(q.vals.unsel.drop o).take _;have ab:((cs.drop o).take (n*sz)).length=n*sz:=by
     have:n*sz<=(cs.drop o).length:=d;rw[E!];omega
    refine⟨_,_,C.fix R,j,.list p (λi=>((((g.toList.drop b).take cs.length).drop o).take (n*sz)).getD i undef) (λi hi=>.inr rfl) (λi hi=>?_) (λi hi=>?_),D,t⟩
    ·have hi:i<((cs.drop o).take (n*sz)).length:=hi;have x:i<n*sz:=by omega
     have A:o+i<cs.length:=by have:n*sz<=(cs.drop o).length:=d;simp at this;omega
     rw[lB,q.cell];rw[TV,D_,Dv x,qX,D_,Dv A,qX,l27];have hf:=q.fits;rw[l1p (by omega)];rfl
    ·have Z:=f.get i hi;have h5:dA 3 (((cs.drop o).take (n*sz))[i])=true:=G9.1 hc _ (Ql hi);rw[TV,KJ (by rw[f.1];exact hi)];exact(VRel.down (C:=C) (C':=C.bare) rfl rfl 3 _ _ h5 Z).mono t.bare
 ·exact⟨_,_,C,h,M,hr,.refl _ _ _⟩
def QU.ghost{t:Tm}(h:∀w0 b C a w,St G w0 b C N t H a w->∃d g f,St G w0 b d N g f a w/\Ext w0.own C w d w/\QU P G ro m N c Q g f):QU P G ro m N c Q t H:=λw0 b C a w s=>by
 have⟨d,g,f,h1,h2,q⟩:=h w0 b C a w s;exact wpIn_mono (q w0 b d a w h1) λe v x ⟨i,u,j,k,n,p⟩=>⟨i,u,j,k,h2.frm.trans n,p⟩
def A4I(g:∀t H,F t H=some r->QU P G ro m N c Q t H):∀(us:List (Nat×Nat))(t:Tm)(H:Hp),B5O F us t H=some r->QU P G ro m N c Q t H:=by
 intro us
 induction us with
 |nil=>intro t H h;exact g t H h
 |cons u us ih=>
  intro t H h;have h:(gtm t u.1 λa=>zE a H λf b=>B5O F us ((u.1,f)::t) b)=some r:=h;rw[Vb]at h;refine QU.ghost λw0 k C a w s=>?_;have⟨v,b,e,j,hv,d,he⟩:=A50 s.rel (s.tmps u.1) h;refine⟨e,(u.1,v)::t,b,⟨d,s.size,λi=>?_,s.defers.mono he.B he.keepB,s.le⟩,he,ih _ _ j⟩;show VRel e w (if i=u.1 then v else HR t i) _;by_cases hi:i=u.1
  ·subst hi;rw[Dv rfl];exact hv
  ·rw[CL hi];exact(s.tmps i).mono he
def A4J{id:Nat}(a:∀t H,F t H=some r->QU P G ro m N c Q t H):∀(rc:List (Nat×List (Nat×Nat)))(t:Tm)(H:Hp),C14 rc id F t H=some r->QU P G ro m N c Q t H:=by
 intro rc
 induction rc with
 |nil=>intro t H h;exact a t H h
 |cons p rc ih=>
  intro t H h;have h:@Bool.rec (λ_=>Tm->Ru) (C14 rc id F) (B5O F p.2) (Nat.beq p.1 (Nat.add id 1000000)) t H=some r:=h;cases hb:Nat.beq p.1 (Nat.add id 1000000)
  ·rw[hb]at h;exact ih t H h
  ·rw[hb]at h;exact A4I a _ t H h
end
end
section
variable{cf:Cf}{c:Code}{e:Exit}{Q:Exit->Tm->Hp->Prop}{H:Hp}{K:KQ}{N:Nat}{t t':Tm}
abbrev A6U:=Cf->Nat->List Oper->Tm->Hp->(Tm->Ru)->Af
def zX(e:Exit)(t:Tm)(H:Hp)(k:Tm->Ru)(K:KQ):Af:=(λ(_:Unit)=>match e with|.normal=>k t H|e=>K e t H) HW
def A5i(id:Nat)(e:Exit)(t:Tm)(H:Hp)(K:KQ):Af:=(λ(_:Unit)=>match e with|.exit i=>@Bool.rec (λ_=>Af) (K (.exit i) t H) (K .normal t H) (Nat.beq i id)|e=>K e t H) HW
def A2(v:AV)(x y:Af):Af:=match v with|.v (.bool true)=>x|.v (.bool false)=>y|_=>none
def eE(lv:Hb)(t:Tm):(Tm->Af)->Af:=@List.rec Nat (λ_=>(Tm->Af)->Af) (λK=>K []) (λu _ ih K=>gtm t u λv=>ih λl=>K ((u,v)::l)) lv
def Cur(lv:Hb):Type:=@List.rec Nat (λ_=>Type) Ru (λ_ _ ih=>AV->ih) lv
def B2J(lv:Hb):(Tm->Ru)->Cur lv:=
 @List.rec Nat (λlv=>(Tm->Ru)->Cur lv) (λF H=>F [] H) (λu _ ih F v=>ih λt H=>F ((u,v)::t) H) lv
def B2H(lv:Hb):Cur lv->Tm->Ru:=
 @List.rec Nat (λlv=>Cur lv->Tm->Ru) (λc _ H=>c H) (λu _ ih c t H=>gtm t u λv=>ih (c v) t H) lv
def jM(lv:Hb)(t:Tm):Tm:=lv.map λu=>(u,HR t u)
def L?(lv:Hb):∀(F:Tm->Ru)(t:Tm)(H:Hp),B2H lv (B2J lv F) t H=F (jM lv t) H:=by
 induction lv with
 |nil=>intro F t H;rfl
 |cons u lv ih=>
  intro F t H;have e:B2H (u::lv) (B2J (u::lv) F) t H=gtm t u λv=>B2H lv (B2J lv λt H=>F ((u,v)::t) H) t H:=rfl;rw[e,Vb,ih];rfl
def B7D(lv:Hb)(body:Tm->Hp->KQ->Af)(K:KQ)(n:Nat):Cur lv:=
 @Nat.rec (λ_=>Cur lv) (B2J lv λ_ _=>none) (λ_ ih=>B2J lv λt H=>body t H λe b a=>zX e b a (λt H=>B2H lv ih t H) K) n
def zK(lv:Hb)(body:Tm->Hp->KQ->Af)(K:KQ)(n:Nat)(t:Tm)(H:Hp):Af:=B2H lv (B7D lv body K n) t H
def A3l(lv:Hb)(body:Tm->Hp->KQ->Af)(K:KQ)(t:Tm)(H:Hp):zK lv body K 0 t H=none:=L? lv _ t H
def A3m(lv:Hb)(body:Tm->Hp->KQ->Af)(K:KQ)(n:Nat)(t:Tm)(H:Hp):zK lv body K (n+1) t H=body (jM lv t) H λe b a=>zX e b a (zK lv body K n) K:=L? lv _ t H
def A3Q(lv:Hb)(t:Tm)(u:Nat):HR (jM lv t) u=HR t u\/HR (jM lv t) u=.dk:=by
 induction lv with
 |nil=>exact .inr rfl
 |cons v lv ih=>
  have e:HR (jM (v::lv) t) u=if u=v then HR t v else HR (jM lv t) u:=rfl
  rw[e];split
  ·rename_i h;subst h;exact .inl rfl
  ·exact ih
def B73(p:Option (Option Code))(t:Tm)(H:Hp)(K:KQ):Af:=
 match p with
 |some none=>K .normal t H
 |some (some .ret)=>K .ret t H
 |some (some (.exit id))=>K (.exit id) t H
 |some (some (.goto l))=>K (.goto l) t H
 |_=>none
def A3i(E:XE)(R:Rt)(cf:Cf)(g:Operand)(ps:Array Tmp)(i j:Code)(t:Tm)(H:Hp)(K:KQ):Af:=
 @Bool.rec (λ_=>Af) (eE cf.lv t λt=>Ky E t g λf=>match f with
  |.fn (.func g) first cap=>HE H λs=>Zu first (.yl s::cap) λall=>R.call g all ((s,.loop cf.n t ps i j (some none))::H) λ_ d=>IP d s λx=>eH x λ_ _ _ _ _ a=>LJ d s .gone λh=>B73 a t h K
  |_=>none) none cf.b
def A2h(e:Exit)(t:Tm)(H:Hp)(k:Nat->Tm->Ru)(K:KQ):Af:=(λ(_:Unit)=>match e with|.goto l=>k l t H|e=>K e t H) HW
def A5x(run:A0A)(cf:Cf)(c:Code)(K:KQ)(n:Nat):Nat->Tm->Ru:=
 @Nat.rec (λ_=>Nat->Tm->Ru) (λ_ _ _=>none) (λ_ ih l t H=>match findLabel c l with
  |some rest=>run cf rest t H λe t H=>A2h e t H ih K
  |none=>none) n
def gY(E:XE)(R:Rt)(Z:A6U)(cf:Cf)(c:Code):Tm->Hp->KQ->Af:=
 @Code.rec (λ_=>Tm->Hp->KQ->Af)
  (λt H K=>K .normal t H)
  (λid f draw t H K=>C14 cf.rc id (λt H=>@Bool.rec (λ_=>Af) (A6X E R cf.fz cf.n f.toList f.toList t H λt H=>K .normal t H) (Z cf id f.toList t H λt H=>K .normal t H) draw) t H)
  (λ_ _ a d t H K=>a t H λe t H=>zX e t H (λt H=>d t H K) K)
  (λx _ _ a d t H K=>Ky E t x λv=>A2 v (a t H K) (d t H K))
  (λid _ ih t H K=>ih t H λe t H=>A5i id e t H K)
  (λ_ ih t H K=>zK cf.lv ih K E.lf t H)
  (λg ps h i _ _ t H K=>A3i E R cf g ps h i t H K)
  (λid t H K=>K (.exit id) t H)
  (λc ih t H K=>@Bool.rec (λ_=>Af) (ih t H λe t H=>A2h e t H (A5x R.run cf c K E.lf) K) none cf.b)
  (λ_ t H K=>K .normal t H)
  (λl t H K=>K (.goto l) t H)
  (λt H K=>K .ret t H)
  (λ_ _ _ _=>none) c
section
variable{D:XE->Cf->Nat->List Oper->Bool}{E:XE}{P:Program}{R:Rt}{Z:A6U}{r:AV×Hp}{ro:Option Nat}{m:Nat}
def A5t(D:XE->Cf->Nat->List Oper->Bool)(E:XE)(P:Program)(Z:A6U):Prop:=
 ∀(ro:Option Nat)(cf:Cf)(id:Nat)(a:List Oper)(t:Tm)(H:Hp)(K:Tm->Ru)(r:AV×Hp)(m:Nat),(cf.b=false->D E cf id a=true)->Z cf id a t H K=some r->
  QU P E.G ro m cf.n (.region id a.toArray true) (λe t' d=>e=.normal/\K t' d=some r) t H
def tK{k:Tm->Ru}(h:zX e t H k K=some r):(e=.normal/\k t H=some r)\/(e≠.normal/\K e t H=some r):=by
 unfold zX at h;split at h
 ·exact .inl ⟨rfl,h⟩
 ·rename_i a;exact .inr ⟨a,h⟩
def QU.congr{G:Gl}(hc:∀u,HR t' u=HR t u\/HR t' u=.dk)(h:QU P G ro m N c Q t' H):QU P G ro m N c Q t H:=
 λw0 b C a w s=>h w0 b C a w (s.congr hc)
def pD.congr{G:Gl}(hc:∀u,HR t' u=HR t u\/HR t' u=.dk)(h:pD P G ro m N c Q t' H):pD P G ro m N c Q t H:=
 λw0 b C a w s=>h w0 b C a w (s.congr hc)
def A3n:∀(lv:Hb)(K:Tm->Af),eE lv t K=some r->∃t',K t'=some r/\∀u,HR t' u=HR t u\/HR t' u=.dk:=by
 intro lv
 induction lv with
 |nil=>intro K h;exact⟨[],h,λu=>.inr rfl⟩
 |cons v lv ih=>
  intro K h;have h:(gtm t v λx=>eE lv t λl=>K ((v,x)::l))=some r:=h;rw[Vb]at h;have⟨t',h1,h2⟩:=ih _ h;refine⟨_,h1,λu=>?_⟩;simp only[HR];split
  ·rename_i a;rw[a];exact .inl rfl
  ·exact h2 u
def A0V{G:Gl}{lv:Hb}{body:Tm->Hp->KQ->Af}(hb:∀t H(K:KQ),body t H K=some r->QU P G ro m N c (λe t' a=>K e t' a=some r) t H):∀(n:Nat)(t:Tm)(H:Hp),zK lv body K n t H=some r->
 pD P G ro m N c (λe t' a=>K e t' a=some r) t H:=by
 intro n
 induction n with
 |zero=>intro t H h;rw[A3l]at h;cases h
 |succ n ih=>
  intro t H h;rw[A3m]at h;refine pD.congr (A3Q lv t) (A5r (QU.mono (hb _ _ _ h) λe f d hq=>?_));rcases tK hq with⟨rfl,h⟩|⟨b,h⟩
  ·exact ih _ _ h
  ·cases e with
   |normal=>exact absurd rfl b
   |_=>exact h
def O'(M:XE.Ok D E P)(O:RSound D E P R)(q:ro≠none->cf.b=true){g:Operand}{ps:Array Tmp}{s u:Code}(h:A3i E R cf g ps s u t H K=some r):QU P E.G ro m cf.n (.rangeFunc g ps s u) (λe t' j=>K e t' j=some r) t H:=by
 unfold A3i at h;cases hb:cf.b
 ·rw[hb]at h;have hn:ro=none:=by
   cases ro with
   |none=>rfl
   |some b=>have:=q (by simp);rw[hb]at this;cases this
  subst hn;have⟨t',h,hc⟩:=A3n _ _ h;refine QU.congr hc ?_;have h:=Bh M h;split at h
  ·rename_i f first cap X;rw[BS,Ni]at h;have⟨⟨fn,h1,h2,L⟩,d⟩:=O.call _ _ _ _ _ h;have e:first++AV.yl (Ar H)::cap=first++[.yl (Ar H)]++cap:=by simp
   rw[e]at d;refine A5n X h1 h2 L ?_;intro w0 C w ys hr V;refine(d w0 C w ys hr V).mono ?_;rintro e w' ⟨v,y,B,j,he,p,hv,hx,Y⟩;refine⟨v,y,B,j,he,p,hv,hx,?_⟩;have⟨x,i,k⟩:=Iz rfl Y;obtain⟨N',t2,aa,F,J,A,rfl,a⟩:=fO k;rw[Dh]at a;unfold B73 at a;split at a
   ·exact⟨_,_,_,_,_,_,i,a⟩
   ·exact⟨_,_,_,_,_,_,i,a⟩
   ·exact⟨_,_,_,_,_,_,i,a⟩
   ·exact⟨_,_,_,_,_,_,i,a⟩
   ·cases a
  ·cases h
 ·rw[hb]at h;cases h
def A8u{D:Nat->List Oper->Bool}:∀(c:Code)(l:Nat)(rest:Code),T2 D c=true->findLabel c l=some rest->T2 D rest=true:=by
 intro c
 induction c with
 |seq a b g i=>
  intro l rest d h;simp only[T2,KW]at d;unfold findLabel at h;split at h
  ·rename_i r0 f;injection h with h
   subst h;simp only[T2,KW];exact⟨g _ _ d.1 f,d.2⟩
  ·exact i _ _ d.2 h
 |label j=>
  intro l rest d h;unfold findLabel at h;split at h
  ·injection h with h;subst h;rfl
  ·cases h
 |_=>intro l rest d h;simp[findLabel]at h
def A2g{k:Nat->Tm->Ru}(a:∀l,e≠.goto l)(h:A2h e t H k K=some r):K e t H=some r:=by
 cases e with
 |goto l=>exact absurd rfl (a l)
 |_=>exact h
def A0X(f:RSound D E P R)(g:T2 (D E cf) c=true):∀(n l:Nat)(t:Tm)(H:Hp),A5x R.run cf c K n l t H=some r->
 ∃rest,findLabel c l=some rest/\A0D P E.G m cf.n c rest (λe t' d=>K e t' d=some r) t H:=by
 intro n
 induction n with
 |zero=>intro l t H h;cases h
 |succ n ih=>
  intro l t H h;have h:(match findLabel c l with
   |some rest=>R.run cf rest t H λe t H=>A2h e t H (A5x R.run cf c K n) K
   |none=>none)=some r:=h
  split at h
  ·rename_i rest b;refine⟨rest,b,L_ (λl t H hq=>ih l t H hq) (λe t H a hq=>A2g a hq) (f.run none cf rest t H _ r m (λh=>absurd rfl h) (λ_=>A8u _ _ _ g b) h)⟩
  ·cases h
def A0Z(q:XE.Ok D E P)(u:RSound D E P R)(M:A5t D E P Z)(p:ro≠none->cf.b=true):∀(c:Code)(t:Tm)(H:Hp)(K:KQ),(cf.b=false->T2 (D E cf) c=true)->gY E R Z cf c t H K=some r->
 QU P E.G ro m cf.n c (λe t' J=>K e t' J=some r) t H:=by
 intro c
 induction c with
 |skip=>intro t H K _ h;exact B2R h
 |region id k draw=>
  intro t H K d h;refine A4J (λt H h=>?_) cf.rc t H h;have e:k=k.toList.toArray:=by simp
  cases draw
  ·rw[e];exact QU.mono (A5m (A3k q u _ _ _ _ h)) (by rintro _ _ _ ⟨rfl,h⟩;exact h)
  ·rw[e];exact QU.mono (M ro cf id k.toList t H _ r m d h) (by rintro _ _ _ ⟨rfl,h⟩;exact h)
 |seq x y C F=>
  intro t H K d h;have h:(gY E R Z cf x t H λe t H=>zX e t H (λt H=>gY E R Z cf y t H K) K)=some r:=h;have f:cf.b=false->T2 (D E cf) x=true/\T2 (D E cf) y=true:=λhb=>by simpa [T2] using d hb
  refine B6q (QU.mono (C t H _ (λhb=>(f hb).1) h) λe O L hq=>?_);rcases tK hq with⟨rfl,h⟩|⟨j,h⟩
  ·exact F _ _ _ (λhb=>(f hb).2) h
  ·cases e with
   |normal=>exact absurd rfl j
   |_=>exact h
 |cond x a b A B=>
  intro t H K d h;have h:(Ky E t x λv=>A2 v (gY E R Z cf a t H K) (gY E R Z cf b t H K))=some r:=h;have f:cf.b=false->T2 (D E cf) a=true/\T2 (D E cf) b=true:=λhb=>by simpa [T2] using d hb
  have h:=Bh q h;unfold A2 at h;split at h
  ·rename_i hv;exact A2Z hv (λ_=>A _ _ _ (λhb=>(f hb).1) h) (λhb=>by cases hb)
  ·rename_i hv;exact A2Z hv (λhb=>by cases hb) (λ_=>B _ _ _ (λhb=>(f hb).2) h)
  ·cases h
 |block id x ih=>
  intro t H K d h;have h:(gY E R Z cf x t H λe t H=>A5i id e t H K)=some r:=h;refine A8D (QU.mono (ih t H _ d h) λe O L hq=>?_);unfold A5i at hq;cases e with
  |exit i=>
   simp only at hq;simp only[A4a];cases hi:Nat.beq i id
   ·rw[hi]at hq;rw[CL (λe=>by rw[e,oW]at hi;cases hi)];exact hq
   ·rw[hi]at hq;rw[Dv (ZR hi)];exact hq
  |_=>exact hq
 |loop x ih=>
  intro t H K d h;have h:zK cf.lv (λt H K=>gY E R Z cf x t H K) K E.lf t H=some r:=h;exact A2X (A0V (λt H K h=>ih t H K d h) _ _ _ h)
 |rangeFunc g ps V X _ _=>
  intro t H K _ h;exact O' q u p h
 |exit id=>intro t H K _ h;exact B2T h
 |scope x ih=>
  intro t H K d h;have h:@Bool.rec (λ_=>Af) (gY E R Z cf x t H λe t H=>A2h e t H (A5x R.run cf x K E.lf) K) none cf.b=some r:=h;cases hb:cf.b
  ·rw[hb]at h;have hn:ro=none:=by
    cases ro with
    |none=>rfl
    |some b=>have:=p (by simp);rw[hb]at this;cases this
   subst hn;have w:T2 (D E cf) x=true:=d hb;exact A8B (L_ (λl t H hq=>A0X u w _ _ _ _ hq) (λe t H j hq=>A2g j hq) (ih t H _ d h))
  ·rw[hb]at h;cases h
 |label l=>intro t H K _ h;exact A8C h
 |goto l=>intro t H K _ h;exact B2S h
 |ret=>intro t H K _ h;exact B6r h
 |refuse s=>intro t H K _ h;cases h
end
end
section
variable{v:AV}{a:Af}{cf:Cf}{bs:List (Nat×Nat)}{hs:List Hp}{efs ms:Hb}{ops:List Oper}{i:Nat}{ef:Oper->Bool}{K:Tm->Ru}{α:Type}{D:XE->Cf->Nat->List Oper->Bool}
def Rw(E:XE):Op->Bool
 |.move _=>true
 |.assign _=>true
 |.pick .. =>true
 |.nilCheck _=>true
 |.binOp .. =>true
 |.unOp .. =>true
 |.convert s _ _=>match E.ty.get s with
  |some i=>match i.d with
   |.slice .. =>false
   |.pointer _=>false
   |.other=>false
   |_=>true
  |none=>false
 |.makeFunc .. =>true
 |.fieldAddr .. =>true
 |.field .. =>true
 |.indexAddr .. =>true
 |.index .. =>true
 |.slice ty _ _ _ _=>match E.ty.get ty with
  |some i=>match i.d with
   |.array .. =>false
   |_=>true
  |none=>false
 |.extract .. =>true
 |.build .. =>true
 |.buildSlice .. =>true
 |.call c=>match c.callee with
  |.builtin .len=>match c.argTypes.toList with
   |[ty]=>(match E.ty.get ty with
    |some i=>match i.d with
     |.map .. =>false
     |_=>true
    |none=>false)
   |_=>false
  |.builtin .min=>true
  |.builtin .max=>true
  |_=>false
 |_=>false
def QL(E:XE)(fz:Bool):Op->Bool
 |.move _=>false
 |.assign _=>false
 |.pick .. =>false
 |.nilCheck _=>false
 |.binOp .. =>false
 |.unOp .. =>false
 |.convert s d _=>match E.ty.get s,E.ty.get d with
  |some i,some j=>match i.d,j.d with
   |.string,.slice .. =>true
   |_,_=>false
  |_,_=>true
 |.makeFunc .. =>false
 |.fieldAddr .. =>false
 |.field .. =>false
 |.indexAddr .. =>false
 |.index .. =>false
 |.slice .. =>false
 |.extract .. =>false
 |.build .. =>false
 |.buildSlice .. =>!fz
 |.load .. =>false
 |.lookup .. =>false
 |.makeInterface .. =>false
 |.call c=>match c.callee with
  |.value (.func f)=>E.imp f
  |.value (.tmp _)=>!fz
  |.builtin .len=>false
  |.builtin .min=>false
  |.builtin .max=>false
  |.builtin .cap=>false
  |.builtin .unsafeSliceData=>false
  |_=>true
 |_=>true
def A0T(E:XE)(R:Rt)(t:Tm)(H:Hp)(o:Op)(K:K2):Af:=
 (λ(_:Unit)=>match o with
  |.move x=>Ky E t x K
  |.assign x=>Ky E t x K
  |o=>Ax (Sa E R t H o λv=>some (v,[])) K) HW
def A6Y(E:XE)(R:Rt)(fz:Bool)(all:List Oper)(o:Oper)(t1:Tm)(H:Hp):Af:=
 gdK all t1 o.guard λg=>@Bool.rec (λ_=>Af) (some (.v undef,H)) (@Bool.rec (λ_=>Af) (Ax (Sa E R t1 H o.op λv=>some (v,[])) λv=>some (v,H)) (zop E R fz t1 H o.op λv b=>some (v,b)) (QL E fz o.op)) g
def zdr(E:XE)(R:Rt)(fz:Bool)(N:Nat)(all:List Oper)(l:List Oper):Tm->Hp->(Tm->Ru)->Af:=
 @List.rec Oper (λ_=>Tm->Hp->(Tm->Ru)->Af) (λt H K=>K t H)
  (λo _ ih t H K=>A2Q N o.dst (eE (OT all o) t λd=>A88 o.guard
   (@Bool.rec (λ_=>Af) (A0T E R d H o.op λv=>QZ t o.dst v λc=>ih c H K) (Ei (zop E R fz d H o.op λv b=>some (v,b)) λv b=>QZ t o.dst v λc=>ih c b K) (QL E fz o.op))
   (Ei (A6Y E R fz all o d H) λv b=>QZ t o.dst v λc=>ih c b K))) l
def sK(E:XE)(R:Rt)(fz:Bool)(N:Nat)(all:List Oper)(l:List Oper):Tm->Hp->(List Tm->Is->List Hp->Tm->Ru)->Af:=
 @List.rec Oper (λ_=>Tm->Hp->(List Tm->Is->List Hp->Tm->Ru)->Af) (λt H K=>K [] [] [H] t H)
  (λo _ ih t H K=>A2Q N o.dst (eE (OT all o) t λb=>A88 o.guard
   (@Bool.rec (λ_=>Af) (A0T E R b H o.op λv=>QZ t o.dst v λd=>ih d H λts vs hs=>K (b::ts) (v::vs) hs) (Ei (zop E R fz b H o.op λv c=>some (v,c)) λv c=>QZ t o.dst v λd=>ih d c λts vs hs=>K (b::ts) (v::vs) (H::hs)) (QL E fz o.op))
   (Ei (A6Y E R fz all o b H) λv c=>QZ t o.dst v λd=>ih d c λts vs hs=>K (b::ts) (v::vs) (@Bool.rec (λ_=>List Hp) hs (H::hs) (QL E fz o.op))))) l
def yE(l:List α)(n:Nat)(K:α->Af):Af:=
 (λ(_:Unit)=>@List.rec α (λ_=>Nat->Af) (λ_=>none) (λa _ ih n=>@Nat.rec (λ_=>Af) (K a) (λm _=>ih m) n) l n) HW
def gF:AV->AV->Bool
 |.v x,.v y=>iC x y
 |.ptr r p k,.ptr c h e=>Nat.beq r c&&(Nat.beq p h&&Nat.beq k e)
 |.sl z r o n,.sl j c g f=>Nat.beq z j&&(Nat.beq r c&&(Nat.beq o g&&Nat.beq n f))
 |.iptr cs,.iptr d=>xC (Vo 6) cs d
 |.mp r,.mp c=>Nat.beq r c
 |a,b=>Vo 6 a b
def B6w{a b:AV}(h:gF a b=true):a=b:=by
 unfold gF at h;split at h
 ·rw[rK h]
 ·simp only[KW]at h;rw[ZR h.1,ZR h.2.1,ZR h.2.2]
 ·simp only[KW]at h;rw[ZR h.1,ZR h.2.1,ZR h.2.2.1,ZR h.2.2.2]
 ·rw[sE (A5s 6) h]
 ·rw[ZR h]
 ·exact A5s 6 _ _ h
def Bj(a:Af)(v:AV):Af:=match a with
 |some (u,_)=>some (.v (.bool (gF u v)),[])
 |none=>none
def RQ(a:Af)(K:Af):Af:=match a with
 |some (.v (.bool true),_)=>K
 |_=>none
def B1a{K:Af}{r:AV×Hp}(h:RQ a K=some r):(∃b,a=some (.v (.bool true),b))/\K=some r:=by
 unfold RQ at h;split at h
 ·exact⟨⟨_,rfl⟩,h⟩
 ·cases h
def tR{H0:Hp}(h:Bj a v=some (.v (.bool true),H0)):∃b,a=some (v,b):=by
 unfold Bj at h;split at h
 ·injection h with h
  injection h with h _
  injection h with h
  injection h with h
  exact⟨_,by rw[B6w h]⟩
 ·cases h
def A75(E:XE)(R:Rt)(all:List Oper)(bs:List (Nat×Nat))(ts:List Tm)(vs:Is)(hs:List Hp)(K:Af):Af:=
 (λ(_:Unit)=>@List.rec (Nat×Nat) (λ_=>Af) K (λp _ ih=>@Prod.rec Nat Nat (λ_=>Af) (λi k=>yE all i λo=>yE ts i λb=>yE vs i λv=>yE hs k λH=>
  RQ (gdK all b o.guard λg=>@Bool.rec (λ_=>Af) (some (.v (.bool true),[])) (Bj (Sa E R b H o.op λu=>some (u,[])) v) g) ih) p) bs) HW
def FC(ef:Oper->Bool):Nat->List Oper->Hb
 |_,[]=>[]
 |i,o::l=>match ef o with
  |true=>i::FC ef (i+1) l
  |false=>FC ef (i+1) l
def A1A(E:XE)(ef:Oper->Bool)(ms efs:Hb):Nat->List Oper->Bool
 |_,[]=>true
 |i,o::l=>(ef o||(Rw E o.op||efs.all λe=>match Nat.blt e i with
  |true=>tb (ms.getD i 0) e
  |false=>tb (ms.getD e 0) i))&&A1A E ef ms efs (i+1) l
def JB(E:XE)(fz:Bool)(o:Oper):Bool:=QL E fz o.op
def A7I(ms:Hb)(i k:Nat):Nat->Hb->Bool
 |_,[]=>true
 |a,e::l=>(!tb (ms.getD i 0) e||Nat.blt a k)&&((!tb (ms.getD e 0) i||Nat.ble k a)&&A7I ms i k (a+1) l)
def A7z(E:XE)(ef:Oper->Bool)(ms efs:Hb)(bs:List (Nat×Nat)):Nat->Nat->List Oper->Bool
 |_,_,[]=>true
 |i,b,o::l=>(ef o||(Rw E o.op||(List.range (efs.length+1)).all λk=>Nat.beq k b||(!A7I ms i k 0 efs||bs.any λp=>Nat.beq p.1 i&&Nat.beq p.2 k)))&&
  A7z E ef ms efs bs (i+1) (match ef o with|true=>b+1|false=>b) l
def B0m(id:Nat):List (Nat×List (Nat×Nat))->Option (List (Nat×Nat))
 |[]=>none
 |p::l=>match Nat.beq p.1 id with|true=>some p.2|false=>B0m id l
def tT(E:XE)(cf:Cf)(id:Nat)(ops:List Oper):Bool:=
 B' ops (FC (JB E cf.fz) 0 ops)&&(match B0m id cf.rc with
  |none=>A1A E (JB E cf.fz) (TU ops) (FC (JB E cf.fz) 0 ops) 0 ops
  |some bs=>A7z E (JB E cf.fz) (TU ops) (FC (JB E cf.fz) 0 ops) bs 0 0 ops)
def B7B(E:XE)(ef:Oper->Bool)(ms efs:Hb):Nat->Nat->List Oper->List (Nat×Nat)
 |_,_,[]=>[]
 |i,b,o::l=>(match ef o||Rw E o.op with
  |true=>[]
  |false=>((List.range (efs.length+1)).filter λk=>!Nat.beq k b&&A7I ms i k 0 efs).map λk=>(i,k))++B7B E ef ms efs (i+1) (match ef o with|true=>b+1|false=>b) l
def C2c(E:XE)(R:Rt)(cf:Cf)(ops:List Oper)(bs:List (Nat×Nat))(t:Tm)(H:Hp)(K:Tm->Ru):Af:=
 ckS (B' ops (FC (JB E cf.fz) 0 ops)&&A7z E (JB E cf.fz) (TU ops) (FC (JB E cf.fz) 0 ops) bs 0 0 ops) (sK E R cf.fz cf.n ops ops t H λts vs hs c b=>A75 E R ops bs ts vs hs (K c b))
def C2d(E:XE)(R:Rt)(cf:Cf)(id:Nat)(ops:List Oper)(t:Tm)(H:Hp)(K:Tm->Ru):Af:=
 (λ(_:Unit)=>match B0m id cf.rc with
  |none=>zdr E R cf.fz cf.n ops ops t H K
  |some bs=>sK E R cf.fz cf.n ops ops t H λts vs hs c b=>A75 E R ops bs ts vs hs (K c b)) HW
def A5z(E:XE)(R:Rt):A6U:=λcf id ops t H K=>
 @Bool.rec (λ_=>Af) (C2d E R cf id ops t H K) (C2c E R cf ops (B7B E (JB E cf.fz) (TU ops) (FC (JB E cf.fz) 0 ops) 0 0 ops) t H K) cf.b
section
variable{E:XE}{P:Program}{R:Rt}{t:Tm}{H:Hp}{r:AV×Hp}{ro:Option Nat}{N m:Nat}{fz:Bool}
def A2d{o:Op}(h:Rw E o=true)(H H':Hp)(K:K2):Sa E R t H o K=Sa E R t H' o K:=by
 cases o with
 |move x=>rfl
 |assign x=>rfl
 |pick c a b=>rfl
 |nilCheck x=>rfl
 |binOp a b c d e=>rfl
 |unOp a b c=>rfl
 |convert a b c=>
  have key:∀v,(E.ty.getK a λi=>E.ty.getK b λj=>cvK E a b i j v H K)=(E.ty.getK a λi=>E.ty.getK b λj=>cvK E a b i j v H' K):=by
   intro v;have h:(match E.ty.get a with|some i=>(match i.d with|.slice .. =>false|.pointer _=>false|.other=>false|_=>true)|none=>false)=true:=h;rw[BT.getK_eq,BT.getK_eq];cases hs:E.ty.get a with
   |none=>rfl
   |some i=>
    rw[hs]at h;simp only at h;simp only
    congr 1
    funext j
    unfold cvK;cases g:i.d with
    |slice e z=>rw[g]at h;cases h
    |pointer e=>rw[g]at h;cases h
    |other=>rw[g]at h;cases h
    |_=>rfl
  show(Ky E t c λv=>E.ty.getK a λi=>E.ty.getK b λj=>cvK E a b i j v H K)=(Ky E t c λv=>E.ty.getK a λi=>E.ty.getK b λj=>cvK E a b i j v H' K)
  congr 1
  funext v
  exact key v
 |makeFunc a b c=>rfl
 |fieldAddr a b c=>rfl
 |field a b c=>rfl
 |indexAddr a b c=>rfl
 |index a b c=>rfl
 |slice a b c d e=>
  have h:(match E.ty.get a with|some i=>(match i.d with|.array .. =>false|_=>true)|none=>false)=true:=h;have key:∀v l p m,(E.ty.getK a λi=>A3g i v l p m H K)=(E.ty.getK a λi=>A3g i v l p m H' K):=by
   intro v l p m;rw[BT.getK_eq,BT.getK_eq];cases hs:E.ty.get a with
   |none=>rfl
   |some i=>
    rw[hs]at h;simp only at h;simp only;unfold A3g;cases g:i.d with
    |array n e z=>rw[g]at h;cases h
    |_=>rfl
  show(Ky E t b λv=>sI E t c λl=>sI E t d λh=>sI E t e λm=>E.ty.getK a λi=>A3g i v l h m H K)=(Ky E t b λv=>sI E t c λl=>sI E t d λh=>sI E t e λm=>E.ty.getK a λi=>A3g i v l h m H' K)
  congr 1
  funext v
  congr 1
  funext l
  congr 1
  funext p
  congr 1
  funext m
  exact key v l p m
 |extract a b=>rfl
 |build a b=>rfl
 |buildSlice a b c=>rfl
 |call c=>
  unfold Rw at h;obtain⟨callee,args,ts⟩:=c;cases callee with
  |value f=>cases h
  |invoke a b=>cases h
  |builtin b=>
   cases b with
   |len=>
    have h:(match ts.toList with|[ty]=>(match E.ty.get ty with|some i=>(match i.d with|.map .. =>false|_=>true)|none=>false)|_=>false)=true:=h;have u:∀s,Sa E R t s (.call ⟨.builtin .len,args,ts⟩) K=(match args.toList,ts.toList with|[x],[ty]=>Ky E t x λv=>E.ty.getK ty λi=>B3s i v s K|_,_=>none):=λ_=>rfl;rw[u,u];split
    ·rename_i x ty w q;rw[q]at h
     congr 1
     funext v
     rw[BT.getK_eq,BT.getK_eq];cases hs:E.ty.get ty with
     |none=>rfl
     |some i=>
      simp only[hs]at h;simp only;unfold B3s;cases g:i.d with
      |map k e=>rw[g]at h;cases h
      |_=>rfl
    ·rfl
   |min=>rfl
   |max=>rfl
   |_=>cases h
 |_=>cases h
inductive Trc(S:Oper->Tm->Hp->AV->Hp->Prop)(ef:Oper->Bool):List Oper->Tm->Hp->Is->List Hp->Tm->Hp->Prop
 |nil {t:Tm} {H:Hp}:Trc S ef [] t H [] [H] t H
 |rd {o:Oper} {l:List Oper} {t:Tm} {H:Hp} {v:AV} {vs:Is} {hs:List Hp} {t':Tm} {H':Hp} (he:ef o=false) (h:S o t H v H) (k:Trc S ef l (Sh t o.dst v) H vs hs t' H'):Trc S ef (o::l) t H (v::vs) hs t' H'
 |ef {o:Oper} {l:List Oper} {t:Tm} {H H1:Hp} {v:AV} {vs:Is} {hs:List Hp} {t':Tm} {H':Hp} (he:ef o=true) (h:S o t H v H1) (k:Trc S ef l (Sh t o.dst v) H1 vs hs t' H'):Trc S ef (o::l) t H (v::vs) (H::hs) t' H'
def Stp(E:XE)(R:Rt)(fz:Bool)(N:Nat)(all:List Oper)(o:Oper)(t:Tm)(H:Hp)(v:AV)(b:Hp):Prop:=
 dok N o.dst/\(((Hf all (IR all o t) o=.run\/Hf all (IR all o t) o=.dep true)/\
  ((JB E fz o=false/\(∃d,Sa E R (IR all o t) H o.op (λv=>some (v,[]))=some (v,d))/\b=H)\/(JB E fz o=true/\zop E R fz (IR all o t) H o.op (λv c=>some (v,c))=some (v,b))))\/
  ((Hf all (IR all o t) o=.skip\/Hf all (IR all o t) o=.dep false)/\v=.v undef/\b=H))
def A0W(lv:Hb)(t:Tm):∀K:Tm->Af,eE lv t K=K (jM lv t):=by
 induction lv with
 |nil=>intro K;rfl
 |cons u lv ih=>
  intro K;have e:eE (u::lv) t K=gtm t u λv=>eE lv t λl=>K ((u,v)::l):=rfl;rw[e,Vb,ih];rfl
def A5y{x:Operand}{K:K2}(h:Ky E t x K=some r):∃v b,Ky E t x (λv=>some (v,[]))=some (v,b)/\K v=some r:=by
 cases x with
 |tmp i=>
  have h:gtm t i K=some r:=h;rw[Vb]at h;exact⟨_,[],(Vb t i _).trans rfl,h⟩
 |const v=>exact⟨_,[],rfl,h⟩
 |global g=>
  have h:(E.gl.getK g λcs=>K (.iptr cs))=some r:=h;obtain⟨cs,h1,h2⟩:=Bk h;refine⟨_,[],?_,h2⟩;have:Ky E t (.global g) (λv=>some (v,[]))=E.gl.getK g λcs=>some (.iptr cs,[]):=rfl;rw[this,BT.getK_eq,h1]
 |func f=>exact⟨_,[],rfl,h⟩
def zJ{o:Op}{K:K2}(h:A0T E R t H o K=some r):∃v b,Sa E R t H o (λv=>some (v,[]))=some (v,b)/\K v=some r:=by
 unfold A0T at h;split at h
 ·exact A5y h
 ·exact A5y h
 ·exact RW h
def A71{all:List Oper}:∀(l:List Oper)(t:Tm)(H:Hp)(K:Tm->Ru),zdr E R fz N all l t H K=some r->
 ∃vs hs c b,Trc (Stp E R fz N all) (JB E fz) l t H vs hs c b/\K c b=some r:=by
 intro l
 induction l with
 |nil=>intro t H K h;exact⟨_,_,_,_,.nil,h⟩
 |cons o l ih=>
  intro t H K h;have h:A2Q N o.dst (eE (OT all o) t λu=>A88 o.guard
   (@Bool.rec (λ_=>Af) (A0T E R u H o.op λv=>QZ t o.dst v λc=>zdr E R fz N all l c H K) (Ei (zop E R fz u H o.op λv b=>some (v,b)) λv b=>QZ t o.dst v λc=>zdr E R fz N all l c b K) (QL E fz o.op))
   (Ei (A6Y E R fz all o u H) λv b=>QZ t o.dst v λc=>zdr E R fz N all l c b K))=some r:=h
  obtain⟨n,h⟩:=oH h;rw[A0W]at h;have s:jM (OT all o) t=IR all o t:=rfl;rw[s]at h;cases k:o.guard with
  |none=>
   have g:Hf all (IR all o t) o=.run:=by unfold Hf;rw[k]
   rw[k]at h;have h:@Bool.rec (λ_=>Af) (A0T E R (IR all o t) H o.op λv=>QZ t o.dst v λc=>zdr E R fz N all l c H K) (Ei (zop E R fz (IR all o t) H o.op λv b=>some (v,b)) λv b=>QZ t o.dst v λc=>zdr E R fz N all l c b K) (QL E fz o.op)=some r:=h;cases he:QL E fz o.op
   ·rw[he]at h;obtain⟨v,x,p,d⟩:=zJ h;rw[TS]at d;obtain⟨vs,hs,c,b,e,f⟩:=ih _ _ _ d;exact⟨_,_,_,_,.rd he ⟨n,.inl ⟨.inl g,.inl ⟨he,⟨_,p⟩,rfl⟩⟩⟩ e,f⟩
   ·rw[he]at h;obtain⟨v,w,p,d⟩:=Wb h;rw[TS]at d;obtain⟨vs,hs,c,b,e,f⟩:=ih _ _ _ d;exact⟨_,_,_,_,.ef he ⟨n,.inl ⟨.inl g,.inr ⟨he,p⟩⟩⟩ e,f⟩
  |some A=>
   rw[k]at h;have h:(Ei (A6Y E R fz all o (IR all o t) H) λv b=>QZ t o.dst v λc=>zdr E R fz N all l c b K)=some r:=h;obtain⟨v,w,p,d⟩:=Wb h;rw[TS]at d;obtain⟨vs,hs,c,b,e,f⟩:=ih _ _ _ d;rcases jQ p with⟨h1,h2⟩|⟨h1,h2⟩
   ·cases he:QL E fz o.op
    ·rw[he]at h1;obtain⟨B,x,q,j⟩:=RW h1;injection j with j;injection j with j y
     subst j y;exact⟨_,_,_,_,.rd he ⟨n,.inl ⟨h2,.inl ⟨he,⟨_,q⟩,rfl⟩⟩⟩ e,f⟩
    ·rw[he]at h1;exact⟨_,_,_,_,.ef he ⟨n,.inl ⟨h2,.inr ⟨he,h1⟩⟩⟩ e,f⟩
   ·have h1:some (AV.v undef,H)=some (v,w):=h1;injection h1 with h1;injection h1 with q j
    subst q j;cases he:JB E fz o
    ·exact⟨_,_,_,_,.rd he ⟨n,.inr ⟨h2,rfl,rfl⟩⟩ e,f⟩
    ·exact⟨_,_,_,_,.ef he ⟨n,.inr ⟨h2,rfl,rfl⟩⟩ e,f⟩
def Wi(ef:Oper->Bool)(l:List Oper)(i:Nat):Nat:=((l.take i).filter ef).length
def lM(o:Oper)(l:List Oper)(val:Nat->AV)(t:Tm):∀i,IN (o::l) val t (λ_=>true) (i+1)=IN l (λj=>val (j+1)) (Sh t o.dst (val 0)) (λ_=>true) i:=by
 intro i
 induction i with
 |zero=>rfl
 |succ i ih=>
  have c:IN (o::l) val t (λ_=>true) (i+1+1)=(match true,(o::l)[i+1]? with|true,some b=>Sh (IN (o::l) val t (λ_=>true) (i+1)) b.dst (val (i+1))|_,_=>IN (o::l) val t (λ_=>true) (i+1)):=rfl;have d:IN l (λj=>val (j+1)) (Sh t o.dst (val 0)) (λ_=>true) (i+1)=(match true,l[i]? with|true,some b=>Sh (IN l (λj=>val (j+1)) (Sh t o.dst (val 0)) (λ_=>true) i) b.dst (val (i+1))|_,_=>IN l (λj=>val (j+1)) (Sh t o.dst (val 0)) (λ_=>true) i):=rfl;rw[c,d,ih,l0r]
def Trc.at{S:Oper->Tm->Hp->AV->Hp->Prop}{l:List Oper}{vs:Is}{e:Tm}{H':Hp}(h:Trc S ef l t H vs hs e H'):
 hs.getD 0 []=H/\e=IN l (λj=>vs.getD j .dk) t (λ_=>true) l.length/\H'=hs.getD (Wi ef l l.length) []/\
 ∀(i:Nat)(o:Oper),l[i]?=some o->S o (IN l (λj=>vs.getD j .dk) t (λ_=>true) i) (hs.getD (Wi ef l i) []) (vs.getD i .dk) (hs.getD (Wi ef l (i+1)) []):=by
 induction h with
 |nil=>exact⟨rfl,rfl,rfl,λi o h=>by simp at h⟩
 |@rd o l t H v vs hs e H' he c k ih=>
  obtain⟨h1,h2,f,g⟩:=ih;have hc:∀i,Wi ef (o::l) (i+1)=Wi ef l i:=λi=>by simp[Wi,he]
  have d:∀i,IN (o::l) (λj=>(v::vs).getD j .dk) t (λ_=>true) (i+1)=IN l (λj=>vs.getD j .dk) (Sh t o.dst v) (λ_=>true) i:=λi=>by rw[lM];simp
  refine⟨h1,?_,?_,?_⟩
  ·rw[LI,d];exact h2
  ·rw[LI,hc];exact f
  ·intro i p b;cases i with
   |zero=>
    simp at b;subst b;rw[hc,show Wi ef (o::l) 0=0 from rfl,show Wi ef l 0=0 from rfl,h1];exact c
   |succ i=>
    rw[hc,hc,d];have:=g i p (by simpa using b);simpa using this
 |@ef o l t H n v vs hs e H' he c k ih=>
  obtain⟨h1,h2,f,g⟩:=ih;have hc:∀i,Wi ef (o::l) (i+1)=Wi ef l i+1:=λi=>by simp[Wi,he]
  have d:∀i,IN (o::l) (λj=>(v::vs).getD j .dk) t (λ_=>true) (i+1)=IN l (λj=>vs.getD j .dk) (Sh t o.dst v) (λ_=>true) i:=λi=>by rw[lM];simp
  refine⟨rfl,?_,?_,?_⟩
  ·rw[LI,d];exact h2
  ·rw[LI,hc];simpa using f
  ·intro i p b;cases i with
   |zero=>
    simp at b;subst b;rw[hc,show Wi ef (o::l) 0=0 from rfl,show Wi ef l 0=0 from rfl];have:(H::hs).getD (0+1) []=n:=by simpa using h1
    rw[this];exact c
   |succ i=>
    rw[hc,hc,d];have:=g i p (by simpa using b);simpa using this
def A0g:∀(l:List Oper)(n a e:Nat),(FC ef n l)[a]?=some e->∃j o,e=n+j/\l[j]?=some o/\ef o=true/\Wi ef l j=a:=by
 intro l
 induction l with
 |nil=>intro n a e h;simp[FC]at h
 |cons o l ih=>
  intro n a e h;unfold FC at h;cases he:ef o
  ·rw[he]at h;obtain⟨j,p,h1,h2,b,c⟩:=ih _ _ _ h;exact⟨j+1,p,by omega,by simpa using h2,b,by simpa [Wi,he] using c⟩
  ·rw[he]at h;cases a with
   |zero=>simp at h;exact⟨0,o,by omega,rfl,he,rfl⟩
   |succ a=>
    obtain⟨j,p,h1,h2,b,c⟩:=ih _ _ _ (by simpa using h);exact⟨j+1,p,by omega,by simpa using h2,b,by simpa [Wi,he] using c⟩
def B2U:∀(l:List Oper)(n j:Nat)(o:Oper),l[j]?=some o->ef o=true->(FC ef n l)[Wi ef l j]?=some (n+j):=by
 intro l
 induction l with
 |nil=>intro n j o h;simp at h
 |cons p l ih=>
  intro n j o h he;unfold FC;cases j with
  |zero=>simp at h;subst h;rw[he];rfl
  |succ j=>
   have:=ih (n+1) j o (by simpa using h) he;cases b:ef p
   ·simpa [Wi,b,lB,Nat.add_comm 1 j] using this
   ·simpa [Wi,b,lB,Nat.add_comm 1 j] using this
def A0f:∀(l:List Oper)(n:Nat),(FC ef n l).length=Wi ef l l.length:=by
 intro l
 induction l with
 |nil=>intro n;rfl
 |cons p l ih=>
  intro n;unfold FC;cases b:ef p
  ·simpa [Wi,b] using ih (n+1)
  ·simpa [Wi,b] using ih (n+1)
def wM(l:List Oper){i j:Nat}(h:i<=j):Wi ef l i<=Wi ef l j:=by
 unfold Wi;have:l.take i=(l.take j).take i:=by rw[List.take_take,l22 h]
 rw[this];exact((List.take_sublist i (l.take j)).filter ef).length_le
def Z9{l:List Oper}{o:Oper}(h:l[i]?=some o):Wi ef l (i+1)=Wi ef l i+(if ef o then 1 else 0):=by
 unfold Wi;rw[List.take_add_one,h,List.filter_append,EN];cases he:ef o<;>simp[he]
def B0l:∀(l:List Oper)(n:Nat),A1A E ef ms efs n l=true->∀(j:Nat)(o:Oper),l[j]?=some o->ef o=false->Rw E o.op=true\/∀e∈efs,(e<n+j->tb (ms.getD (n+j) 0) e=true)/\(n+j<=e->tb (ms.getD e 0) (n+j)=true):=by
 intro l
 induction l with
 |nil=>intro n _ j o h;simp at h
 |cons p l ih=>
  intro n h j o c he;simp only[A1A,KW]at h;cases j with
  |zero=>
   simp at c;subst c;have h1:=h.1;rw[he,Bool.false_or,l1i]at h1;rcases h1 with h1|h1
   ·exact .inl h1
   ·refine .inr λe hm=>?_;have:=G9.1 h1 e hm;cases hb:Nat.blt e n
    ·rw[hb]at this;have:¬e<n:=λb=>by rw[<-Wg,hb]at b;cases b
     exact⟨λb=>by omega,λ_=>by simpa using ‹_›⟩
    ·rw[hb]at this;have b:e<n:=by rw[<-Wg];exact hb
     exact⟨λ_=>this,λd=>by omega⟩
  |succ j=>
   have:=ih (n+1) h.2 j o (by simpa using c) he;rw[show n+(j+1)=n+1+j from by omega];exact this
def Stp.aopg(d:XE.Ok D E P)(e:RSound D E P R){all:List Oper}{o:Oper}{c:Hp}(h:Stp E R fz N all o t H v c):B6C P E.G ro N all o (IR all o t) H v c:=by
 obtain⟨_,⟨b,h⟩|⟨b,h1,h2⟩⟩:=h
 ·refine .inl ⟨b,?_⟩;rcases h with⟨_,⟨n,h⟩,rfl⟩|⟨_,h⟩
  ·refine Uf.mono (TP d e h) ?_;rintro k f ⟨j,h⟩;injection h with h;injection h with h
   exact⟨h,j⟩
  ·refine Uf.mono (lE d e h) ?_;intro k f h;injection h with h;injection h with h g
   exact⟨h,g⟩
 ·exact .inr ⟨b,h1,h2⟩
def A72(w:XE.Ok D E P)(C:RSound D E P R){id:Nat}(hD:B' ops (FC (JB E cf.fz) 0 ops)=true)(A:A1A E (JB E cf.fz) (TU ops) (FC (JB E cf.fz) 0 ops) 0 ops=true)(h:zdr E R cf.fz cf.n ops ops t H K=some r):
 QU P E.G ro m cf.n (.region id ops.toArray true) (λe t' x=>e=.normal/\K t' x=some r) t H:=by
 obtain⟨vs,hs,t',x,V,hK⟩:=A71 ops t H K h;obtain⟨h0,Q,B,q⟩:=V.at;have hk:=tS hD;have hr:=B0l ops 0 A;have e0:H=(λk=>hs.getD k []) 0:=h0.symm;rw[e0];refine A2Y (efs:=FC (JB E cf.fz) 0 ops) (val:=λj=>vs.getD j .dk) (Hs:=λk=>hs.getD k []) w.mix hk (λo c=>?_) ?_ ?_ ?_
 ·obtain⟨i,hi⟩:=List.getElem?_of_mem c;exact(q i o hi).1
 ·intro i o c O k ae Z;have he:JB E cf.fz o=false:=by
   cases he:JB E cf.fz o
   ·rfl
   ·exact absurd (B2U ops 0 i o c he) (by rw[JZ];exact O _)
  have g:=q i o c;have F:Wi (JB E cf.fz) ops (i+1)=Wi (JB E cf.fz) ops i:=by rw[Z9 c,he];simp
  rw[F]at g;rcases hr i o c he with hf|d
  ·refine Stp.aopg (fz:=cf.fz) w C ?_;obtain⟨Y,⟨J,h⟩|⟨J,h1,h2⟩⟩:=g
   ·rcases h with⟨_,⟨H0,h⟩,_⟩|⟨h,_⟩
    ·exact⟨Y,.inl ⟨J,.inl ⟨he,⟨H0,by rw[A2d hf _ (hs.getD (Wi (JB E cf.fz) ops i) [])];exact h⟩,rfl⟩⟩⟩
    ·rw[he]at h;cases h
   ·exact⟨Y,.inr ⟨J,h1,rfl⟩⟩
  ·have s:=A0f (ef:=JB E cf.fz) ops 0;have ac:i<ops.length:=(E'.1 c).1;have L:k=Wi (JB E cf.fz) ops i:=by
    rcases Nat.lt_trichotomy k (Wi (JB E cf.fz) ops i) with M|heq|aa
    ·exfalso;have b:k<(FC (JB E cf.fz) 0 ops).length:=by rw[s];exact l2r M (wM ops (by omega))
     obtain⟨j,p,h1,h2,u,y⟩:=A0g ops 0 k _ (KJ b);have ad:j<i:=by
      rcases Nat.lt_or_ge j i with h|h
      ·exact h
      ·exfalso;have:=wM (ef:=JB E cf.fz) ops h;omega
     have:=(d _ (Ql b)).1 (by omega);rw[JZ,zY]at this;have:=Z.1 k _ (KJ b) (Qi this);omega
    ·exact heq
    ·exfalso;have f:Wi (JB E cf.fz) ops i<(FC (JB E cf.fz) 0 ops).length:=by omega
     obtain⟨j,p,h1,h2,u,y⟩:=A0g ops 0 _ _ (KJ f);have ab:i<=j:=by
      rcases Nat.lt_or_ge j i with h|h
      ·exfalso;have X:=wM (ef:=JB E cf.fz) ops (show j+1<=i from h);rw[Z9 h2,u]at X;simp at X;omega
      ·exact h
     have:=(d _ (Ql f)).2 (by omega);rw[JZ,zY]at this;have:=Z.2 _ _ (KJ f) (Qi this);omega
   rw[L];exact Stp.aopg (fz:=cf.fz) w C g
 ·intro a i o c hi;obtain⟨j,p,h1,h2,u,y⟩:=A0g ops 0 a i hi;rw[JZ]at h1;subst h1;rw[c]at h2;injection h2 with h2;subst h2
  have:=q i o c;rw[Z9 c,u,y]at this;exact Stp.aopg (fz:=cf.fz) w C this
 ·refine⟨rfl,?_⟩;rw[<-Q];have:hs.getD (FC (JB E cf.fz) 0 ops).length []=x:=by rw[A0f];exact B.symm
  rw[this];exact hK
def A3p{all:List Oper}:∀(l:List Oper)(t:Tm)(H:Hp)(K:List Tm->Is->List Hp->Tm->Ru),sK E R fz N all l t H K=some r->
 ∃ts vs hs c b,Trc (Stp E R fz N all) (JB E fz) l t H vs hs c b/\K ts vs hs c b=some r/\vs.length=l.length/\∀(i:Nat)(o:Oper),l[i]?=some o->ts[i]?=some (IR all o (IN l (λj=>vs.getD j .dk) t (λ_=>true) i)):=by
 intro l
 induction l with
 |nil=>intro t H K h;exact⟨_,_,_,_,_,.nil,h,rfl,λi o h=>by simp at h⟩
 |cons o l ih=>
  intro t H K h;have h:A2Q N o.dst (eE (OT all o) t λx=>A88 o.guard
   (@Bool.rec (λ_=>Af) (A0T E R x H o.op λv=>QZ t o.dst v λc=>sK E R fz N all l c H λts vs hs=>K (x::ts) (v::vs) hs) (Ei (zop E R fz x H o.op λv b=>some (v,b)) λv b=>QZ t o.dst v λc=>sK E R fz N all l c b λts vs hs=>K (x::ts) (v::vs) (H::hs)) (QL E fz o.op))
   (Ei (A6Y E R fz all o x H) λv b=>QZ t o.dst v λc=>sK E R fz N all l c b λts vs hs=>K (x::ts) (v::vs) (@Bool.rec (λ_=>List Hp) hs (H::hs) (QL E fz o.op))))=some r:=h
  obtain⟨w,h⟩:=oH h;rw[A0W]at h;have F:jM (OT all o) t=IR all o t:=rfl;rw[F]at h;have key:∀(v:AV)(ts:List Tm)(vs:Is),(∀(i:Nat)(p:Oper),l[i]?=some p->ts[i]?=some (IR all p (IN l (λj=>vs.getD j .dk) (Sh t o.dst v) (λ_=>true) i)))->
   ∀(i:Nat)(p:Oper),(o::l)[i]?=some p->(IR all o t::ts)[i]?=some (IR all p (IN (o::l) (λj=>(v::vs).getD j .dk) t (λ_=>true) i)):=by
   intro v ts vs M i p C;cases i with
   |zero=>simp at C;subst C;rfl
   |succ i=>
    rw[lM];have:=M i p (by simpa using C);simpa using this
  cases u:o.guard with
  |none=>
   have q:Hf all (IR all o t) o=.run:=by unfold Hf;rw[u]
   rw[u]at h;have h:@Bool.rec (λ_=>Af) (A0T E R (IR all o t) H o.op λv=>QZ t o.dst v λc=>sK E R fz N all l c H λts vs hs=>K (IR all o t::ts) (v::vs) hs) (Ei (zop E R fz (IR all o t) H o.op λv b=>some (v,b)) λv b=>QZ t o.dst v λc=>sK E R fz N all l c b λts vs hs=>K (IR all o t::ts) (v::vs) (H::hs)) (QL E fz o.op)=some r:=h;cases he:QL E fz o.op
   ·rw[he]at h;obtain⟨v,L,y,f⟩:=zJ h;rw[TS]at f;obtain⟨ts,vs,hs,c,b,g,e,k,n⟩:=ih _ _ _ f;exact⟨_,_,_,_,_,.rd he ⟨w,.inl ⟨.inl q,.inl ⟨he,⟨_,y⟩,rfl⟩⟩⟩ g,e,by simp[k],key v ts vs n⟩
   ·rw[he]at h;obtain⟨v,J,y,f⟩:=Wb h;rw[TS]at f;obtain⟨ts,vs,hs,c,b,g,e,k,n⟩:=ih _ _ _ f;exact⟨_,_,_,_,_,.ef he ⟨w,.inl ⟨.inl q,.inr ⟨he,y⟩⟩⟩ g,e,by simp[k],key v ts vs n⟩
  |some Q=>
   rw[u]at h;have h:(Ei (A6Y E R fz all o (IR all o t) H) λv b=>QZ t o.dst v λc=>sK E R fz N all l c b λts vs hs=>K (IR all o t::ts) (v::vs) (@Bool.rec (λ_=>List Hp) hs (H::hs) (QL E fz o.op)))=some r:=h;obtain⟨v,J,y,f⟩:=Wb h;rw[TS]at f;obtain⟨ts,vs,hs,c,b,g,e,k,n⟩:=ih _ _ _ f;rcases jQ y with⟨h1,h2⟩|⟨h1,h2⟩
   ·cases he:QL E fz o.op
    ·rw[he]at h1 e;obtain⟨O,L,B,d⟩:=RW h1;injection d with d;injection d with d A
     subst d A;exact⟨_,_,_,_,_,.rd he ⟨w,.inl ⟨h2,.inl ⟨he,⟨_,B⟩,rfl⟩⟩⟩ g,e,by simp[k],key O ts vs n⟩
    ·rw[he]at h1 e;exact⟨_,_,_,_,_,.ef he ⟨w,.inl ⟨h2,.inr ⟨he,h1⟩⟩⟩ g,e,by simp[k],key v ts vs n⟩
   ·have h1:some (AV.v undef,H)=some (v,J):=h1;injection h1 with h1;injection h1 with B d
    subst B d;cases he:JB E fz o
    ·have s:QL E fz o.op=false:=he;rw[s]at e;exact⟨_,_,_,_,_,.rd he ⟨w,.inr ⟨h2,rfl,rfl⟩⟩ g,e,by simp[k],key _ ts vs n⟩
    ·have s:QL E fz o.op=true:=he;rw[s]at e;exact⟨_,_,_,_,_,.ef he ⟨w,.inr ⟨h2,rfl,rfl⟩⟩ g,e,by simp[k],key _ ts vs n⟩
def ZN:∀{l:List α}{n:Nat}{K:α->Af},yE l n K=some r->∃a,l[n]?=some a/\K a=some r:=by
 intro l
 induction l with
 |nil=>intro n K h;cases h
 |cons a l ih=>
  intro n K h;cases n with
  |zero=>exact⟨a,rfl,h⟩
  |succ n=>
   obtain⟨b,h1,h2⟩:=ih (show yE l n K=some r from h);exact⟨b,by simpa using h1,h2⟩
def A74{all:List Oper}{ts:List Tm}{vs:Is}{K:Af}:∀{bs:List (Nat×Nat)},A75 E R all bs ts vs hs K=some r->
 K=some r/\∀p∈bs,∃o b v e,all[p.1]?=some o/\ts[p.1]?=some b/\vs[p.1]?=some v/\hs[p.2]?=some e/\(((Hf all b o=.run\/Hf all b o=.dep true)/\∃f,Sa E R b e o.op (λu=>some (u,[]))=some (v,f))\/(Hf all b o=.skip\/Hf all b o=.dep false)):=by
 intro bs
 induction bs with
 |nil=>intro h;exact⟨h,λp d=>by simp at d⟩
 |cons p bs ih=>
  intro h;obtain⟨i,k⟩:=p;have h:(yE all i λo=>yE ts i λb=>yE vs i λv=>yE hs k λH=>RQ (gdK all b o.guard λg=>@Bool.rec (λ_=>Af) (some (.v (.bool true),[])) (Bj (Sa E R b H o.op λu=>some (u,[])) v) g) (A75 E R all bs ts vs hs K))=some r:=h;obtain⟨o,h1,h⟩:=ZN h;obtain⟨b,h2,h⟩:=ZN h;obtain⟨v,n,h⟩:=ZN h;obtain⟨e,q,h⟩:=ZN h;obtain⟨⟨f,s⟩,w⟩:=B1a h;obtain⟨x,y⟩:=ih w;refine⟨x,λp d=>?_⟩;simp only[Vp]at d;rcases d with rfl|d
  ·refine⟨o,b,v,e,h1,h2,n,q,?_⟩;rcases jQ s with⟨j,c⟩|⟨j,c⟩
   ·exact .inl ⟨c,tR j⟩
   ·exact .inr c
  ·exact y p d
def B5a{i k:Nat}(g:C3f ops efs i k):∀(l:Hb)(a:Nat),(∀b,l[b]?=efs[a+b]?)->A7I (TU ops) i k a l=true:=by
 intro l
 induction l with
 |nil=>intro a _;rfl
 |cons e l ih=>
  intro a f;have d:efs[a]?=some e:=by have:=f 0;simpa using this.symm
  simp only[A7I,KW,l1i,l19];refine⟨?_,?_,ih (a+1) λb=>?_⟩
  ·cases c:tb ((TU ops).getD i 0) e
   ·exact .inl rfl
   ·refine .inr ?_;rw[zY]at c;rw[Wg];exact g.1 a e d (Qi c)
  ·cases c:tb ((TU ops).getD e 0) i
   ·exact .inl rfl
   ·refine .inr ?_;rw[zY]at c;rw[kZ];exact g.2 a e d (Qi c)
  ·have:=f (b+1);rw[l0r]at this;rw[this];congr 1;omega
def A7y:∀(l:List Oper)(n c:Nat),A7z E ef ms efs bs n c l=true->∀(j:Nat)(o:Oper),l[j]?=some o->ef o=false->Rw E o.op=true\/∀k,k<=efs.length->A7I ms (n+j) k 0 efs=true->k=c+Wi ef l j\/(n+j,k)∈bs:=by
 intro l
 induction l with
 |nil=>intro n c _ j o h;simp at h
 |cons p l ih=>
  intro n c h j o f he;simp only[A7z,KW]at h;cases j with
  |zero=>
   simp at f;subst f;have h1:=h.1;rw[he,Bool.false_or,l1i]at h1;rcases h1 with h1|h1
   ·exact .inl h1
   ·refine .inr λk s e=>?_;have h2:=G9.1 h1 k (Lf.2 (by omega));rw[Nat.add_zero]at e;rw[e]at h2;simp only[l1i,Bool.not_true,D!,false_or,KW,List.any_eq_true]at h2;rcases h2 with h2|⟨q,hq,b,d⟩
    ·exact .inl (by rw[ZR h2];simp[Wi])
    ·refine .inr ?_;obtain⟨q1,q2⟩:=q;have b:=ZR b;have d:=ZR d;simp only at b d;subst b d;exact hq
  |succ j=>
   have:=ih (n+1) _ h.2 j o (by simpa using f) he;rw[show n+(j+1)=n+1+j from by omega];rcases this with b|b
   ·exact .inl b
   ·refine .inr λk s e=>?_;rcases b k s e with d|d
    ·refine .inl ?_;rw[d];cases g:ef p<;>simp[Wi,g]
     omega
    ·exact .inr d
def sJ(w:XE.Ok D E P)(F:RSound D E P R){id:Nat}(hD:B' ops (FC (JB E cf.fz) 0 ops)=true)(M:A7z E (JB E cf.fz) (TU ops) (FC (JB E cf.fz) 0 ops) bs 0 0 ops=true)(h:(sK E R cf.fz cf.n ops ops t H λts vs hs J u=>A75 E R ops bs ts vs hs (K J u))=some r):
 QU P E.G ro m cf.n (.region id ops.toArray true) (λe J u=>e=.normal/\K J u=some r) t H:=by
 obtain⟨ts,vs,hs,J,u,ac,Q,ae,ad⟩:=A3p ops t H _ h;obtain⟨Q,x⟩:=A74 Q;obtain⟨h0,ab,O,s⟩:=ac.at;have hk:=tS hD;have hr:=A7y ops 0 0 M;have e0:H=(λk=>hs.getD k []) 0:=h0.symm;rw[e0];refine A2Y (efs:=FC (JB E cf.fz) 0 ops) (val:=λj=>vs.getD j .dk) (Hs:=λk=>hs.getD k []) w.mix hk (λo c=>?_) ?_ ?_ ?_
 ·obtain⟨i,hi⟩:=List.getElem?_of_mem c;exact(s i o hi).1
 ·intro i o c aa k Z hp;have he:JB E cf.fz o=false:=by
   cases he:JB E cf.fz o
   ·rfl
   ·exact absurd (B2U ops 0 i o c he) (by rw[JZ];exact aa _)
  have g:=s i o c;have V:Wi (JB E cf.fz) ops (i+1)=Wi (JB E cf.fz) ops i:=by rw[Z9 c,he];simp
  rw[V]at g;rcases hr i o c he with hf|A
  ·refine Stp.aopg (fz:=cf.fz) w F ?_;obtain⟨y,⟨d,h⟩|⟨d,h1,h2⟩⟩:=g
   ·rcases h with⟨_,⟨L,h⟩,_⟩|⟨h,_⟩
    ·exact⟨y,.inl ⟨d,.inl ⟨he,⟨L,by rw[A2d hf _ (hs.getD (Wi (JB E cf.fz) ops i) [])];exact h⟩,rfl⟩⟩⟩
    ·rw[he]at h;cases h
   ·exact⟨y,.inr ⟨d,h1,rfl⟩⟩
  ·rcases A k Z (by rw[JZ];exact B5a hp _ 0 (λb=>by rw[JZ])) with Y|q
   ·rw[Y,JZ];exact Stp.aopg (fz:=cf.fz) w F g
   ·rw[JZ]at q;obtain⟨o',t1,v,Hk,h1,h2,B,C,f⟩:=x _ q;simp only at h1 h2 B C;rw[c]at h1;injection h1 with h1;subst h1
    rw[ad i o c]at h2;injection h2 with h2;subst h2
    have hv:vs.getD i .dk=v:=by rw[TV,B];rfl
    have X:hs.getD k []=Hk:=by rw[TV,C];rfl
    refine Stp.aopg (fz:=cf.fz) w F ?_;obtain⟨y,⟨d,h⟩|⟨d,h1,h2⟩⟩:=g
    ·rcases f with⟨_,L,f⟩|f
     ·refine⟨y,.inl ⟨d,.inl ⟨he,⟨L,?_⟩,rfl⟩⟩⟩;rw[hv,X];exact f
     ·exfalso;rcases d with d|d<;>rcases f with f|f<;>(rw[d]at f;cases f)
    ·exact⟨y,.inr ⟨d,h1,rfl⟩⟩
 ·intro a i o c hi;obtain⟨j,p,h1,h2,B,C⟩:=A0g ops 0 a i hi;rw[JZ]at h1;subst h1;rw[c]at h2;injection h2 with h2;subst h2
  have:=s i o c;rw[Z9 c,B,C]at this;exact Stp.aopg (fz:=cf.fz) w F this
 ·refine⟨rfl,?_⟩;rw[<-ab];have:hs.getD (FC (JB E cf.fz) 0 ops).length []=u:=by rw[A0f];exact O.symm
  rw[this];exact Q
def A3o(g:XE.Ok D E P)(j:RSound D E P R){id:Nat}(b:tT E cf id ops=true)(h:C2d E R cf id ops t H K=some r):
 QU P E.G ro m cf.n (.region id ops.toArray true) (λe f d=>e=.normal/\K f d=some r) t H:=by
 unfold tT at b;rw[KW]at b;have h:(match B0m id cf.rc with
  |none=>zdr E R cf.fz cf.n ops ops t H K
  |some bs=>sK E R cf.fz cf.n ops ops t H λts vs hs f d=>A75 E R ops bs ts vs hs (K f d))=some r:=h
 cases c:B0m id cf.rc with
 |none=>rw[c]at b h;exact A72 g j b.1 b.2 h
 |some bs=>rw[c]at b h;exact sJ g j b.1 b.2 h
def A0Y(f:∀E cf id ops,D E cf id ops=true->tT E cf id ops=true)(d:XE.Ok D E P)(e:RSound D E P R):A5t D E P (A5z E R):=by
 intro ro cf id ops t H K r m hb h;unfold A5z at h;cases c:cf.b
 ·rw[c]at h;exact A3o d e (f _ _ _ _ (hb c)) h
 ·rw[c]at h;unfold C2c at h;obtain⟨h1,h2⟩:=Mj h;rw[KW]at h1;exact sJ d e h1.1 h1.2 h2
end
end
def jn{α:Type}(k:α)(F:α->Af):Af:=(λ(_:Unit)=>F k) HW
def pH(R:Rt)(n:Nat)(f:AV)(t:Tm)(ps:Array Tmp)(d e:Code)(H:Hp)(K:Option (Option Code)->Ru):Af:=
 match f with
 |.fn (.func g) first cap=>HE H λs=>Zu first (.yl s::cap) λall=>R.call g all ((s,.loop n t ps d e (some none))::H) λ_ b=>IP b s λx=>eH x λ_ _ _ _ _ a=>LJ b s .gone λc=>K a c
 |_=>none
def oU(p:Option (Option Code))(x y:Af)(e g:Nat->Af):Af:=
 match p with
 |some none=>x
 |some (some .ret)=>y
 |some (some (.exit id))=>e id
 |some (some (.goto l))=>g l
 |_=>none
def rdK(run:A0A)(N:Nat)(t:Tm)(ps:Array Tmp)(args:Is)(f g:Code)(H:Hp)(P:Hp->Ru->Af)(Q:Exit->Ru):Af:=
 A3O t ps.toList args λa=>run ⟨true,a.map (·.1),false,N,[]⟩ f a H λe h b=>match e with
  |.normal=>P b λc=>run ⟨true,a.map (·.1),false,N,[]⟩ g h c λe _ d=>Q e d
  |_=>none
def A1w:Code->List (Operand×Array Tmp×Code×Code)
 |.seq x y=>A1w x++A1w y
 |.cond _ x y=>A1w x++A1w y
 |.block _ x=>A1w x
 |.loop x=>A1w x
 |.scope x=>A1w x
 |.rangeFunc g ps a b=>[(g,ps,a,b)]
 |_=>[]
def XW(c:Code)(k:Nat):Operand×Array Tmp×Code×Code:=(A1w c).getD k (.func 0,#[],.skip,.skip)
abbrev zI:AV:=.v (.int .i64 0)
abbrev zS:AV:=.v (.string ⟨⟨[]⟩⟩)
abbrev zL:AV:=.v (.slice none 0 0)
abbrev zB:AV:=.v (.bool false)
section
variable{s u:Ha}
abbrev I(n:Int):AV:=.v (.int .i64 n)
abbrev Bo(b:Bool):AV:=.v (.bool b)
abbrev S(l:Ha):AV:=.v (.string ⟨⟨l⟩⟩)
section
variable{K:K2}{i:TI}{k:IntKind}{a b:Int}
def Dp:Aq i .add (.v (.int k a)) (.v (.int k b)) K=K (.v (.int k (k.wrap (a+b)))):=by
 have:Aq i .add (.v (.int k a)) (.v (.int k b)) K=ck (decide (k=k)) (OX k (a+b) λz=>K (.v (.int k z))):=rfl;rw[this,Hu rfl];exact IX _ _ _
def Le:Aq i .sub (.v (.int k a)) (.v (.int k b)) K=K (.v (.int k (k.wrap (a-b)))):=by
 have:Aq i .sub (.v (.int k a)) (.v (.int k b)) K=ck (decide (k=k)) (OX k (a-b) λz=>K (.v (.int k z))):=rfl;rw[this,Hu rfl];exact IX _ _ _
def QS:Aq i .mul (.v (.int k a)) (.v (.int k b)) K=K (.v (.int k (k.wrap (a*b)))):=by
 have:Aq i .mul (.v (.int k a)) (.v (.int k b)) K=ck (decide (k=k)) (OX k (a*b) λz=>K (.v (.int k z))):=rfl;rw[this,Hu rfl];exact IX _ _ _
def A2N(h:b≠0):Aq i .quo (.v (.int k a)) (.v (.int k b)) K=K (.v (.int k (k.wrap (a.tdiv b)))):=by
 have:Aq i .quo (.v (.int k a)) (.v (.int k b)) K=ck (decide (k=k)) (ck (!ieq b 0) (OX k (a.tdiv b) λz=>K (.v (.int k z)))):=rfl;rw[this,Hu rfl,Rk,Ir h];exact IX _ _ _
def Tz(h:b≠0):Aq i .rem (.v (.int k a)) (.v (.int k b)) K=K (.v (.int k (a.tmod b))):=by
 have:Aq i .rem (.v (.int k a)) (.v (.int k b)) K=ck (decide (k=k)) (ck (!ieq b 0) (fI (a.tmod b) λz=>K (.v (.int k z)))):=rfl;rw[this,Hu rfl,Rk,Ir h];exact VW (a.tmod b) (λz=>K (.v (.int k z)))
def DO:Aq i .lss (.v (.int k a)) (.v (.int k b)) K=K (Bo (decide (a<b))):=by
 have:Aq i .lss (.v (.int k a)) (.v (.int k b)) K=ck (decide (k=k)) (bB (!qZ b a) K):=rfl;rw[this,Hu rfl,LZ];have e:(!decide (b<=a))=decide (a<b):=by rw[qW];simp
 rw[e];exact NY _ _
def kK:Aq i .leq (.v (.int k a)) (.v (.int k b)) K=K (Bo (decide (a<=b))):=by
 have:Aq i .leq (.v (.int k a)) (.v (.int k b)) K=ck (decide (k=k)) (bB (qZ a b) K):=rfl;rw[this,Hu rfl,LZ];exact NY _ _
def Eh:Aq i .gtr (.v (.int k a)) (.v (.int k b)) K=K (Bo (decide (b<a))):=by
 have:Aq i .gtr (.v (.int k a)) (.v (.int k b)) K=ck (decide (k=k)) (bB (!qZ a b) K):=rfl;rw[this,Hu rfl,LZ];have e:(!decide (a<=b))=decide (b<a):=by rw[qW];simp
 rw[e];exact NY _ _
def Mi:Aq i .geq (.v (.int k a)) (.v (.int k b)) K=K (Bo (decide (b<=a))):=by
 have:Aq i .geq (.v (.int k a)) (.v (.int k b)) K=ck (decide (k=k)) (bB (qZ b a) K):=rfl;rw[this,Hu rfl,LZ];exact NY _ _
def CV:Aq i .eql (.v (.int k a)) (.v (.int k b)) K=K (Bo (decide (a=b))):=by
 have:Aq i .eql (.v (.int k a)) (.v (.int k b)) K=ck (decide (k=k)) (bB (ieq a b) K):=rfl;rw[this,Hu rfl,Rk];exact NY _ _
def I2:Aq i .neq (.v (.int k a)) (.v (.int k b)) K=K (Bo (!decide (a=b))):=by
 have:Aq i .neq (.v (.int k a)) (.v (.int k b)) K=ck (decide (k=k)) (bB (!ieq a b) K):=rfl;rw[this,Hu rfl,Rk];exact NY _ _
def MA:Aq i .eql (S s) (S u) K=K (Bo (decide (s=u))):=by
 have:Aq i .eql (S s) (S u) K=bB (eqB s u) K:=rfl;rw[this,Rm,NY,show(s==u)=decide (s=u) from by by_cases h:s=u<;>simp[h]]
def RS:Aq i .neq (S s) (S u) K=K (Bo (!decide (s=u))):=by
 have:Aq i .neq (S s) (S u) K=bB (!eqB s u) K:=rfl;rw[this,Rm,NY,show(s==u)=decide (s=u) from by by_cases h:s=u<;>simp[h]]
def FD{q:Bool}{x y:Af}:A2 (Bo q) x y=if q=true then x else y:=by cases q<;>rfl
end
def BF{α:Type}(k:α)(F:α->Af):jn k F=F k:=rfl
def CX{x:Int}(h1: -9223372036854775808<=x)(h2:x<9223372036854775808):IntKind.i64.wrap x=x:=by
 simp only[IntKind.wrap,IntKind.bits,IntKind.signed];have c:(2^64:Int)=18446744073709551616:=by decide
 have d:(2^(64-1):Int)=9223372036854775808:=by decide
 simp only[c,d,l1b,decide_eq_true_eq];split<;>omega
end
def A3j{E:XE}{g:Nat}{R:Rt}{args:Is}{H:Hp}{K:K2}(h:∀s,args≠[.ptr s 0 0]):zpm E g R args H K=Ap R g args H K:=by
 show @Bool.rec (λ_=>Af) (Ap R g args H K) (I3 R g args H K) (E.lm g)=_;cases E.lm g
 ·rfl
 ·show I3 R g args H K=_;unfold I3;split
  ·rename_i s;exact absurd rfl (h s)
  ·rfl
section
variable{v:AV}{b q q':Bool}{H:Hp}{args:Is}{D n:Nat}{P:Program}{R:Rt}{F:Rt->AV->AV->AV->AV->Hp->KV->Af}{α:Type}{x:Value}
def BT.All(p:Nat->α->Prop):BT α->Prop
 |.leaf=>True
 |.node k v l r=>p k v/\l.All p/\r.All p
def A0x{p:Nat->α->Prop}:(BT.leaf:BT α).All p:=trivial
def A0w{p:Nat->α->Prop}{k:Nat}{v:α}{l r:BT α}(h:p k v)(a:l.All p)(hr:r.All p):(BT.node k v l r).All p:=⟨h,a,hr⟩
def BT.All.get{p:Nat->α->Prop}:∀{b:BT α},b.All p->∀{i:Nat}{v:α},b.get i=some v->p i v:=by
 intro b
 induction b with
 |leaf=>intro _ i v h;cases h
 |node k w l r a c=>
  intro e i v h;have⟨h1,h2,d⟩:=e;simp only[BT.get]at h;split at h
  ·rename_i g;injection h with h
   subst h;rw[ZR g];exact h1
  ·split at h
   ·exact a h2 h
   ·exact c d h
abbrev NF:=Rt->Is->Hp->KV->Af
def ar0(F:Hp->KV->Af)(l:Is):Hp->KV->Af:=match l with|[]=>F|_=>λ_ _=>none
def ar1(F:AV->Hp->KV->Af)(l:Is):Hp->KV->Af:=match l with|[a]=>F a|_=>λ_ _=>none
def ar2(F:AV->AV->Hp->KV->Af)(l:Is):Hp->KV->Af:=match l with|[a,b]=>F a b|_=>λ_ _=>none
def ar3(F:AV->AV->AV->Hp->KV->Af)(l:Is):Hp->KV->Af:=match l with|[a,b,c]=>F a b c|_=>λ_ _=>none
def ar4(F:AV->AV->AV->AV->Hp->KV->Af)(l:Is):Hp->KV->Af:=match l with|[a,b,c,d]=>F a b c d|_=>λ_ _=>none
def MD(E:XE)(R:Rt):A0A:=λa c t H K=>gY E R (A5z E R) a c t H K
def Lk(E:XE)(f:Nat)(F:NF):Prop:=∀(R:Rt)(args:Is)(H:Hp)(K:KV)(r:AV×Hp),F R args H K=some r->O! E (MD E R) f args H K=some r
def lk0{E:XE}{f:Nat}{F:Rt->Hp->KV->Af}(h:∀R H K,O! E (MD E R) f [] H K=F R H K):Lk E f λR=>ar0 (F R):=λR args H K r hr=>by
 match args,hr with
 |[],hr=>exact(h R H K).trans hr
def lk1{E:XE}{f:Nat}{F:Rt->AV->Hp->KV->Af}(h:∀R a H K,O! E (MD E R) f [a] H K=F R a H K):Lk E f λR=>ar1 (F R):=λR args H K r hr=>by
 match args,hr with
 |[a],hr=>exact(h R a H K).trans hr
def lk2{E:XE}{f:Nat}{F:Rt->AV->AV->Hp->KV->Af}(h:∀R a b H K,O! E (MD E R) f [a,b] H K=F R a b H K):Lk E f λR=>ar2 (F R):=λR args H K r hr=>by
 match args,hr with
 |[a,b],hr=>exact(h R a b H K).trans hr
def lk3{E:XE}{f:Nat}{F:Rt->AV->AV->AV->Hp->KV->Af}(h:∀R a b c H K,O! E (MD E R) f [a,b,c] H K=F R a b c H K):Lk E f λR=>ar3 (F R):=λR args H K r hr=>by
 match args,hr with
 |[a,b,c],hr=>exact(h R a b c H K).trans hr
def lk4{E:XE}{f:Nat}(h:∀R a b c d H K,O! E (MD E R) f [a,b,c,d] H K=F R a b c d H K):Lk E f λR=>ar4 (F R):=λR args H K r hr=>by
 match args,hr with
 |[a,b,c,d],hr=>exact(h R a b c d H K).trans hr
def ZA(E:XE)(nT:BT NF)(R:Rt):B38:=λf args H K=>match nT.get f with|some F=>F R args H K|none=>O! E (MD E R) f args H K
abbrev OF:=Is->Hp->KV->Af->Af
def N_(E:XE)(P:Program)(f:Nat)(F:OF):Prop:=∀(args:Is)(H:Hp)(K:KV)(alt:Af)(r:AV×Hp),F args H K alt=some r->
 alt=some r\/(eC P f/\Rr P E.G f args H (λc a=>K c a=some r))
def A2U(E:XE)(nT:BT NF)(oT:BT OF)(R:Rt):B38:=λf args H K=>match oT.get f with
 |some F=>F args H K (ZA E nT R f args H K)
 |none=>ZA E nT R f args H K
def Xx(E:XE)(nT:BT NF)(oT:BT OF)(n:Nat):Rt:=@Nat.rec (λ_=>Rt) ⟨λ_ _ _ _=>none,λ_ _ _ _ _=>none⟩ (λ_ R=>⟨A2U E nT oT R,MD E R⟩) n
section
variable{E:XE}{nT:BT NF}{oT:BT OF}{f:Nat}
def VP{F:NF}(h:nT.get f=some F)(a:oT.get f=none)(n:Nat)(args:Is)(H:Hp)(K:KV):(Xx E nT oT (n+1)).call f args H K=F (Xx E nT oT n) args H K:=by
 show A2U E nT oT (Xx E nT oT n) f args H K=_;unfold A2U;rw[a];unfold ZA;simp only[h]
def A4s{F:Rt->Hp->KV->Af}(h:nT.get f=some λR=>ar0 (F R))(a:oT.get f=none)(n:Nat)(H:Hp)(K:KV):(Xx E nT oT (n+1)).call f [] H K=F (Xx E nT oT n) H K:=VP h a n _ H K
def A4r{F:Rt->AV->Hp->KV->Af}(h:nT.get f=some λR=>ar1 (F R))(c:oT.get f=none)(n:Nat)(a:AV)(H:Hp)(K:KV):(Xx E nT oT (n+1)).call f [a] H K=F (Xx E nT oT n) a H K:=VP h c n _ H K
def A4q{F:Rt->AV->AV->Hp->KV->Af}(h:nT.get f=some λR=>ar2 (F R))(c:oT.get f=none)(n:Nat)(a b:AV)(H:Hp)(K:KV):(Xx E nT oT (n+1)).call f [a,b] H K=F (Xx E nT oT n) a b H K:=VP h c n _ H K
def A4p{F:Rt->AV->AV->AV->Hp->KV->Af}(h:nT.get f=some λR=>ar3 (F R))(d:oT.get f=none)(n:Nat)(a b c:AV)(H:Hp)(K:KV):(Xx E nT oT (n+1)).call f [a,b,c] H K=F (Xx E nT oT n) a b c H K:=VP h d n _ H K
def A4o(h:nT.get f=some λR=>ar4 (F R))(e:oT.get f=none)(n:Nat)(a b c d:AV)(H:Hp)(K:KV):(Xx E nT oT (n+1)).call f [a,b,c,d] H K=F (Xx E nT oT n) a b c d H K:=VP h e n _ H K
end
def A4n{E:XE}{nT:BT NF}{oT:BT OF}(e:XE.Ok tT E P)(s:nT.All (Lk E))(p:oT.All (N_ E P)):∀n,RSound tT E P (Xx E nT oT n):=by
 intro n
 induction n with
 |zero=>
  refine⟨?_,?_⟩
  ·intro ro k c t H K r m h1 h2 h;cases h
  ·intro f args H K r h;cases h
 |succ n ih=>
  have u:A5t tT E P (A5z E (Xx E nT oT n)):=A0Y (λ_ _ _ _ h=>h) e ih;have a:kV tT E P (MD E (Xx E nT oT n)):=λro k c t H K r m i w h=>A0Z e ih u i c t H K w h;have d:∀(f:Nat)(args:Is)(H:Hp)(K:KV)(r:AV×Hp),ZA E nT (Xx E nT oT n) f args H K=some r->eC P f/\Rr P E.G f args H (λv j=>K v j=some r):=λf args H K r h=>by
   unfold ZA at h;split at h
   ·rename_i F g;exact zM e a (s.get g _ _ _ _ _ h)
   ·exact zM e a h
  refine⟨a,λf args H K r h=>?_⟩;have h:A2U E nT oT (Xx E nT oT n) f args H K=some r:=h;unfold A2U at h;split at h
  ·rename_i F g;rcases p.get g _ _ _ _ _ h with h|h
   ·exact d f args H K r h
   ·exact h
  ·exact d f args H K r h
def gH{G:Gl}{f:Nat}{K:KV}{r:AV×Hp}(g:K (.v x) H=some r)(hc:∀w0 C w a,Rel G w0 C H w->CJ C w args a->Calls P f a.toArray w λe c=>e=.returned x/\Below w.heap.size w c):Rr P G f args H (λi d=>K i d=some r):=λw0 C w a hr h=>
 (hc w0 C w a hr h).mono λe c ⟨he,hb⟩=>⟨.v x,x,C,H,he,hr.of_below hb,.v _,(hr.ext_below hb).frm,g⟩
def PS(R:Rt)(f:Nat)(args:Is)(v:AV):Prop:=∀H K,Ap R f args H K=K v
def Fx(b:Bool)(D:Nat)(a c:AV)(H:Hp)(q:Bool):Prop:=∀K:Bool->K2,HU b H D a K=K q c
def C7:Fx b D (.v x) (.v x) H false:=λK=>by cases D<;>rfl
def OW{cs:Is}:Fx true D (.list n cs) (.list n cs) H false:=λK=>by cases D<;>rfl
def RA{cs:Is}:Fx true D (.iptr cs) (.iptr cs) H false:=λK=>by cases D<;>rfl
def jS{es:IH}:Fx true D (.imap es) (.imap es) H false:=λK=>by cases D<;>rfl
def RZ(b:Bool)(D:Nat)(l a:Is)(H:Hp)(q:Bool):Prop:=∀K:Bool->Is->Af,IG (HU b H D) l K=K q a
def AD:RZ b D [] [] H false:=λ_=>rfl
def Al{a c:AV}{l d:Is}(h:Fx b D a c H q)(k:RZ b D l d H q'):RZ b D (a::l) (c::d) H (q||q'):=λK=>by
 have e:IG (HU b H D) (a::l) K=HU b H D a λq c=>IG (HU b H D) l λq' d=>K (@Bool.rec (λ_=>Bool) q' true q) (c::d):=rfl;rw[e,h,k];cases q<;>rfl
def Lz(f:α->Value):∀(l:List α),RZ b D (l.map λx=>.v (f x)) (l.map λx=>.v (f x)) H false
 |[]=>AD
 |a::l=>Al (q:=false) (q':=false) C7 (Lz f l)
def L0{cs cs':Is}(h:RZ b D cs cs' H q):Fx b (D+1) (.agg cs) (.agg cs') H q:=λK=>h _
def Zo{cs cs':Is}(h:RZ b D cs cs' H q):Fx b (D+1) (.tup cs) (.tup cs') H q:=λK=>h _
def Bl{r:Nat}{x:Row}{K:Row->Af}(h:Ah H r=some x):IP H r K=K x:=by
 induction H with
 |nil=>simp[Ah]at h
 |cons p H ih=>
  have⟨k,y⟩:=p;simp only[Ah]at h;have e:IP ((k,y)::H) r K=@Bool.rec (λ_=>Af) (IP H r K) (K y) (Nat.beq r k):=rfl;rw[e];by_cases a:r=k
  ·rw[Dv a]at h;rw[a,oW,<-(jF h).1]
  ·rw[CL a]at h;have:Nat.beq r k=false:=by
    cases hb:Nat.beq r k
    ·rfl
    ·exact absurd (ZR hb) a
   rw[this];exact ih h
def Yb{sz s n:Nat}{e:TypeId}{cs cs':Is}(i:Ah H s=some (.cells q e cs))(hn:cs.length=n*sz)(h:RZ b D cs cs' H q'):Fx b (D+1) (.sl sz s 0 n) (.list n cs') H true:=λK=>by
 have d:HU b H (D+1) (.sl sz s 0 n) K=IP H s λx=>Kb x λ_ cs=>E9 (Nat.mul n sz) (Dn 0 cs) λc=>IG (HU b H D) c λ_ a=>K true (.list n a):=rfl;rw[d,Bl i];have g:(Kb (.cells q e cs) λ_ cs=>E9 (Nat.mul n sz) (Dn 0 cs) λc=>IG (HU b H D) c λ_ a=>K true (.list n a))=E9 (n*sz) cs λc=>IG (HU b H D) c λ_ a=>K true (.list n a):=rfl;rw[g,Km _ _ _ (by omega),l25 (by omega),h]
def CS(R:Rt)(f:Nat)(args:Is)(v:AV):Prop:=∀K:KV,(∀c a,(∀b,∃q,Fx b depth c v a q)->K c a=some (v,[]))->R.call f args [] K=some (v,[])
def AO{f:Nat}{args args':Is}{K:K2}(hc:CS R f args' v)(e:RZ true depth args args' H q):Ap R f args H K=K v:=by
 unfold Ap;rw[e];have:=hc (λa c=>HU (!q) c depth a λ_ g=>some (g,[])) (λa i h=>by
  have⟨q',d⟩:=h (!q);exact d _)
 rw[this];rfl
def CS.ps{f:Nat}(hc:CS R f args v)(a:∀H,RZ true depth args args H false):PS R f args v:=λH K=>AO hc (a H)
end
section
variable{v zi zj:AV}{H:Hp}{k q:IntKind}{a a' b b':Nat}
abbrev W(x:BitVec 32):AV:=.v (.int .u32 (x.toNat:Int))
abbrev By(b:UInt8):AV:=.v (.int .u8 (b.toNat:Int))
def MM(l:Ha):Is:=l.map λb=>By b
def Ej(l:List (BitVec 32)):Is:=l.map λx=>W x
def eP(h:k.signed=false)(z:Int):k.wrap z=z%(2^k.bits:Nat):=by
 simp only[IntKind.wrap,h,Bool.false_and];simp
def XA5(x:BitVec 32):BitVec.ofInt 32 (x.toNat:Int)=x:=by
 apply BitVec.eq_of_toNat_eq;simp
def hJ{n:Nat}(h:n<4294967296):IntKind.u32.wrap (n:Int)=(n:Int):=by
 rw[eP rfl];show(n:Int)%(4294967296:Nat)=n;omega
section
variable{K:K2}{i:TI}{x y:BitVec 32}
def A0m(op:BinOp)(f:IT)(d:Je op=false)(c:A4Z op=f):Aq i op (W x) (W y) K=f .u32 x.toNat y.toNat K:=by
 have:Aq i op (W x) (W y) K=@Bool.rec (λ_=>Af) (ck (decide (IntKind.u32=.u32)) (A4Z op .u32 x.toNat y.toNat K)) (A4Z op .u32 x.toNat y.toNat K) (Je op):=rfl;rw[this,d,c];rfl
def Qv:Aq i .add (W x) (W y) K=K (W (x+y)):=by
 rw[A0m .add B5F rfl rfl];unfold B5F;rw[IX,eP rfl];have:((x.toNat:Int)+(y.toNat:Int))%(2^IntKind.u32.bits:Nat)=((x+y).toNat:Int):=by
  rw[BitVec.toNat_add];show((x.toNat:Int)+(y.toNat:Int))%(4294967296:Nat)=_;simp only[Int.natCast_emod,Int.natCast_add]
 show K (.v (.int .u32 (((x.toNat:Int)+(y.toNat:Int))%(2^IntKind.u32.bits:Nat))))=_;rw[this]
def VZ:Aq i .xor (W x) (W y) K=K (W (x^^^y)):=by
 rw[A0m .xor B5D rfl rfl];unfold B5D;rw[VW];have e:(BitVec.ofInt IntKind.u32.bits (x.toNat:Int)^^^BitVec.ofInt IntKind.u32.bits (y.toNat:Int)).toNat=(x^^^y).toNat:=by
  show(BitVec.ofInt 32 (x.toNat:Int)^^^BitVec.ofInt 32 (y.toNat:Int)).toNat=_;rw[XA5,XA5]
 rw[e,hJ (x^^^y).isLt]
def J_:Aq i .and (W x) (W y) K=K (W (x&&&y)):=by
 rw[A0m .and B5E rfl rfl];unfold B5E;rw[VW];have e:(BitVec.ofInt IntKind.u32.bits (x.toNat:Int)&&&BitVec.ofInt IntKind.u32.bits (y.toNat:Int)).toNat=(x&&&y).toNat:=by
  show(BitVec.ofInt 32 (x.toNat:Int)&&&BitVec.ofInt 32 (y.toNat:Int)).toNat=_;rw[XA5,XA5]
 rw[e,hJ (x&&&y).isLt]
def kJ:Aq i .or (W x) (W y) K=K (W (x|||y)):=by
 rw[A0m .or iOr rfl rfl];unfold iOr;rw[VW];have e:(BitVec.ofInt IntKind.u32.bits (x.toNat:Int)|||BitVec.ofInt IntKind.u32.bits (y.toNat:Int)).toNat=(x|||y).toNat:=by
  show(BitVec.ofInt 32 (x.toNat:Int)|||BitVec.ofInt 32 (y.toNat:Int)).toNat=_;rw[XA5,XA5]
 rw[e,hJ (x|||y).isLt]
def B27:MJ .xor (W x) K=K (W (~~~x)):=by
 have c:MJ .xor (W x) K=fI (IntKind.u32.wrap ((BitVec.ofInt IntKind.u32.bits (if IntKind.u32.signed=true then-1 else IntKind.u32.max)^^^BitVec.ofInt IntKind.u32.bits (x.toNat:Int)).toNat)) λz=>K (.v (.int .u32 z)):=rfl;rw[c,VW];have e:(BitVec.ofInt IntKind.u32.bits (if IntKind.u32.signed=true then-1 else IntKind.u32.max)^^^BitVec.ofInt IntKind.u32.bits (x.toNat:Int)).toNat=(~~~x).toNat:=by
  show(BitVec.ofInt 32 4294967295^^^BitVec.ofInt 32 (x.toNat:Int)).toNat=_;rw[XA5];have:BitVec.ofInt 32 4294967295=BitVec.allOnes 32:=by decide
  rw[this,BitVec.allOnes_xor]
 rw[e,hJ (~~~x).isLt]
def JT{z:Int}{k:Nat}(hz:z=k)(c:k<=32):Aq i .shr (W x) (.v (.int q z)) K=K (W (x>>>k)):=by
 subst hz;have:Aq i .shr (W x) (.v (.int q (k:Int))) K=ck (qZ 0 (k:Int)) (fI ((x.toNat:Int).fdiv (2^(min (k:Int).toNat 32))) λz=>K (.v (.int .u32 z))):=rfl;rw[this,VW];have h1:qZ 0 (k:Int)=true:=by rw[LZ];simp
 have h2:(x.toNat:Int).fdiv (2^(min (k:Int).toNat 32))=((x>>>k).toNat:Int):=by
  rw[kY,l22 c,BitVec.toNat_ushiftRight,Nat.shiftRight_eq_div_pow];have:((2:Int)^k)=((2^k:Nat):Int):=by simp
  rw[this,Int.fdiv_eq_ediv_of_nonneg _ (Int.natCast_nonneg _)];exact(Int.natCast_ediv _ _).symm
 rw[h1,h2];rfl
def Mh{z:Int}{k:Nat}(hz:z=k)(c:k<=32):Aq i .shl (W x) (.v (.int q z)) K=K (W (x<<<k)):=by
 subst hz;have:Aq i .shl (W x) (.v (.int q (k:Int))) K=ck (qZ 0 (k:Int)) (OX .u32 ((x.toNat:Int)*2^(min (k:Int).toNat 32)) λz=>K (.v (.int .u32 z))):=rfl;rw[this,IX,eP rfl];have h1:qZ 0 (k:Int)=true:=by rw[LZ];simp
 have h2:((x.toNat:Int)*2^(min (k:Int).toNat 32))%(2^IntKind.u32.bits:Nat)=((x<<<k).toNat:Int):=by
  rw[kY,l22 c,BitVec.toNat_shiftLeft,Nat.shiftLeft_eq];have:((2:Int)^k)=((2^k:Nat):Int):=by simp
  rw[this,<-Int.natCast_mul];exact(Int.natCast_emod _ _).symm
 rw[h1,h2];rfl
def B2q:Jk ⟨a,b,.int k,zi⟩ ⟨a',b',.int .u8,zj⟩ (W x) K=K (By (UInt8.ofNat x.toNat)):=by
 have:Jk ⟨a,b,.int k,zi⟩ ⟨a',b',.int .u8,zj⟩ (W x) K=OX .u8 (x.toNat:Int) λz=>K (.v (.int .u8 z)):=rfl;rw[this,IX,eP rfl];have:(x.toNat:Int)%(2^IntKind.u8.bits:Nat)=((UInt8.ofNat x.toNat).toNat:Int):=by
  rw[UInt8.toNat_ofNat'];exact(Int.natCast_emod _ _).symm
 rw[this]
def B2r{c:UInt8}:Jk ⟨a,b,.int k,zi⟩ ⟨a',b',.int .u32,zj⟩ (By c) K=K (W (BitVec.ofNat 32 c.toNat)):=by
 have:Jk ⟨a,b,.int k,zi⟩ ⟨a',b',.int .u32,zj⟩ (By c) K=OX .u32 (c.toNat:Int) λz=>K (.v (.int .u32 z)):=rfl;rw[this,IX,eP rfl];have:(c.toNat:Int)%(2^IntKind.u32.bits:Nat)=((BitVec.ofNat 32 c.toNat).toNat:Int):=by
  rw[BitVec.toNat_ofNat];exact(Int.natCast_emod _ _).symm
 rw[this]
def B2z:Ax (some (v,H)) K=K v:=id rfl
def A5c{c:KV}:Ei (some (v,H)) c=c v H:=id rfl
end
end
section
variable{v:AV}{H H':Hp}{e n s sz:Nat}{K:Nat->Is->Af}{P:Nat->Prop}{x y:Row}{ie:TI}
def Wf(H:Hp):Prop:=∀k∈H.map (·.1),k<Ar H
def B1v(H:Hp)(r:Nat)(y:Row):(upd H r y).map (·.1)=H.map (·.1):=by
 induction H with
 |nil=>rfl
 |cons p H ih=>
  have⟨k,x⟩:=p;by_cases a:r=k
  ·subst a;simp[upd]
  ·simp[upd,a,ih]
def Ft:Wf []:=λk h=>by simp at h
def AG(h:Wf H):Wf ((Ar H,x)::H):=λk a=>by
 show k<Ar H+1;simp only[X0,Vp]at a;rcases a with rfl|a
 ·omega
 ·have:=h k a;omega
def Bm{r:Nat}(h:Wf H):Wf (upd H r y):=λk a=>by rw[B9];rw[B1v]at a;exact h k a
def B1g(h:Ah H s=some x):s∈H.map (·.1):=by
 induction H with
 |nil=>simp[Ah]at h
 |cons p H ih=>
  have⟨k,y⟩:=p;simp only[Ah]at h;split at h
  ·rename_i a;simp[a]
  ·simp[ih h]
def Wf.lt(h:Wf H)(a:Ah H s=some x):s<Ar H:=h s (B1g a)
def Ay(a:x≠.gone):Ah ((Ar H,x)::H) (Ar H)=some x:=by
 simp only[Ah,Dv];cases x<;>first|rfl|exact absurd rfl a
def A6(b:s<Ar H)(a:Ah H s=some y):Ah ((Ar H,x)::H) s=some y:=by
 simp only[Ah];rw[CL (by omega)];exact a
structure Lat(H H':Hp)(P:Nat->Prop):Prop where
 wf:Wf H->Wf H'
 nx:Ar H<=Ar H'
 keep:Wf H->∀s x,Ah H s=some x->¬P s->Ah H' s=some x
def Lat.refl(H:Hp)(P:Nat->Prop):Lat H H P:=⟨id,MC _,λ_ _ _ h _=>h⟩
def Lat.trans{H H' a:Hp}{P Q R:Nat->Prop}(h:Lat H H' P)(k:Lat H' a Q)(f:∀s,s<Ar H->P s->R s)(hq:∀s,s<Ar H->Q s->R s):Lat H a R:=
 ⟨λw=>k.wf (h.wf w),fR h.nx k.nx,λw s x b hn=>k.keep (h.wf w) s x (h.keep w s x b λc=>hn (f s (w.lt b) c)) λd=>hn (hq s (w.lt b) d)⟩
def Lat.cons(H:Hp)(x:Row)(P:Nat->Prop):Lat H ((Ar H,x)::H) P:=⟨AG,l1u _,λw s y a _=>A6 (w.lt a) a⟩
def Lat.upd(H:Hp)(r:Nat)(y:Row)(a:P r):Lat H (upd H r y) P:=⟨Bm,by rw[B9];exact MC _,λ_ s x b hn=>by rw[Ag (λe=>hn (by rw[e];exact a))];exact b⟩
def Bp(H:Hp)(e sz:Nat)(v:AV)(n:Nat)(cs:Is):Prop:=
 (v=.v (.slice none 0 0)/\n=0/\cs=[])\/∃r q,v=.sl sz r 0 n/\Ah H r=some (.cells q e cs)/\cs.length=n*sz
def A8(v:AV)(s:Nat):Prop:=∃sz o n,v=.sl sz s o n
def Bp.lat{cs:Is}(h:Bp H e sz v n cs)(w:Wf H)(k:Lat H H' P)(b:∀s,A8 v s->¬P s):Bp H' e sz v n cs:=by
 rcases h with h|⟨r,q,h1,h2,a⟩
 ·exact .inl h
 ·exact .inr ⟨r,q,h1,k.keep w r _ h2 (b r ⟨sz,0,n,h1⟩),a⟩
def Bp.lt{cs:Is}(h:Bp H e sz v n cs)(w:Wf H)(d:A8 v s):s<Ar H:=by
 obtain⟨a,b,c,rfl⟩:=d;rcases h with⟨h,_⟩|⟨r,q,h1,h2,f⟩
 ·cases h
 ·injection h1 with _ h1;subst h1;exact w.lt h2
def VX{cs:Is}:Tw H (.list n cs) K=K n cs:=rfl
def C1i{l:Ha}:Tw H (S l) K=K l.length (MM l):=by
 have:Tw H (S l) K=HN l 0 λm=>fZ l λc=>K m c:=rfl;rw[this,C4,ZT,JZ];rfl
def B2b:Tw H (.v (.slice none 0 0)) K=K 0 []:=rfl
def RL{cs:Is}(h:Bp H e sz v n cs):Tw H v K=K n cs:=by
 rcases h with⟨rfl,rfl,rfl⟩|⟨r,q,rfl,h2,a⟩
 ·rfl
 ·have:Tw H (.sl sz r 0 n) K=IP H r λx=>Kb x λ_ cs=>E9 (Nat.mul n sz) (Dn 0 cs) λc=>K n c:=rfl;rw[this,Bl h2];show E9 (n*sz) cs (λc=>K n c)=_;rw[Km _ _ _ (by omega),l25 (by omega)]
def apt{e sz n m:Nat}{ie i2:TI}{v src:AV}{cs ys:Is}(h:Bp H e sz v n cs)(Q:∀K:Nat->Is->Af,Tw H src K=K m ys)(k:ys.length=m*sz)(h1:ys.all AV.one=true)(hsz:sz≠0)(hz:(B4 ie.zero).length=sz)(R:(YD i2.d&&Sj sz src)=true)(hb:(n+m)*ie.bytes<=70368744177664)(j:n+m<=70368744177664):
 ∃A H',(∀K:KV,E0 e sz ie i2 v src H K=K A H')/\Bp H' e sz A (n+m) (cs++ys)/\(∀s,A8 A s->s=Ar H)/\Lat H H' (A8 v):=by
 have f:∀K:KV,Wa e sz ie i2 v src H K=(match(generalizing:=false) v with
  |.v (.slice none 0 0)=>ck (Nat.ble (Nat.mul m ie.bytes) 70368744177664&&Nat.ble m 70368744177664) (@Bool.rec (λ_=>Af) (HE H λr=>K (.sl sz r 0 m) ((r,.cells false e ys)::H)) (K (.v (.slice none 0 0)) H) (Nat.beq m 0))
  |.sl t r1 o n=>IP H r1 λx=>Kb x λE cs=>HN cs 0 λcl=>
   ck (Nat.beq E e&&(Nat.beq t sz&&(Nat.beq (Nat.add o (Nat.mul n sz)) cl&&(Nat.ble (Nat.mul (Nat.add n m) ie.bytes) 70368744177664&&Nat.ble (Nat.add n m) 70368744177664))))
    (Zu (Dn o cs) ys λi=>LJ H r1 .gone λH'=>HE H λr=>fN (Nat.add n m) λnm=>K (.sl sz r 0 nm) ((r,.cells false e i)::H'))
  |_=>none):=λK=>by
  unfold Wa;rw[Q,C4,CP,C4];have c:(Nat.beq (0+ys.length) (Nat.mul m sz)&&(Oe ys&&(!Nat.beq sz 0&&(Nat.beq (0+(B4 ie.zero).length) sz&&(YD i2.d&&Sj sz src)))))=true:=by
   have p:Nat.beq sz 0=false:=by
    cases hb:Nat.beq sz 0
    ·rfl
    ·exact absurd (ZR hb) hsz
   rw[FM,h1,R,hz,k,p];simp
  rw[c];rfl
 rcases h with⟨rfl,rfl,rfl⟩|⟨r,q,rfl,h2,D⟩
 ·have c:(Nat.ble (Nat.mul m ie.bytes) 70368744177664&&Nat.ble m 70368744177664)=true:=by
   simp only[JZ]at hb j;rw[KW,kZ,kZ];exact⟨hb,j⟩
  cases m with
  |zero=>
   refine⟨.v (.slice none 0 0),H,λK=>?_,.inl ⟨rfl,rfl,by rw[l3b];exact gM (by rw[k,Nat.zero_mul])⟩,λs ⟨a,b,c,g⟩=>by(cases g),⟨λw=>w,MC _,λ_ u y V _=>V⟩⟩;show Wa e sz ie i2 (.v (.slice none 0 0)) src H K=_;rw[f K];simp only[c];rfl
  |succ m=>
   refine⟨.sl sz (Ar H) 0 (m+1),(Ar H,.cells false e ys)::H,λK=>?_,.inr ⟨Ar H,false,by rw[JZ],by rw[l3b];exact Ay (by simp),by rw[l3b,JZ];exact k⟩,λs ⟨a,b,c,g⟩=>by injection g with _ g;exact g.symm,Lat.cons _ _ _⟩;show Wa e sz ie i2 (.v (.slice none 0 0)) src H K=_;rw[f K];have M:Nat.beq (m+1) 0=false:=rfl;simp only[c,M,BS];rfl
 ·refine⟨.sl sz (Ar H) 0 (n+m),(Ar H,.cells false e (cs++ys))::upd H r .gone,λK=>?_,.inr ⟨Ar H,false,rfl,?_,by rw[EN,D,k,l1e]⟩,λs ⟨a,b,c,g⟩=>by injection g with _ g;exact g.symm,?_⟩
  ·have N:E0 e sz ie i2 (.sl sz r 0 n) src H K=IP H r λx=>Kb x λE cs=>HN cs 0 λcl=>@Bool.rec (λ_=>Af) (To (Nat.add 0 (Nat.mul n sz)) cs λi=>LJ H r (.cells false E i) λL=>Wa e sz ie i2 (.sl sz r 0 n) src L K) (Wa e sz ie i2 (.sl sz r 0 n) src H K) (Nat.beq (Nat.add 0 (Nat.mul n sz)) cl):=rfl;rw[N,Bl h2];have C:∀F:TypeId->Is->Af,Kb (.cells q e cs) F=F e cs:=λ_=>rfl;rw[C,C4];have B:Nat.beq (Nat.add 0 (Nat.mul n sz)) (0+cs.length)=true:=by
    show Nat.beq (0+n*sz) (0+cs.length)=true;rw[D];exact oW _
   rw[B];show Wa e sz ie i2 (.sl sz r 0 n) src H K=_;rw[f K];simp only;rw[Bl h2,C,C4];have c:(Nat.beq e e&&(Nat.beq sz sz&&(Nat.beq (Nat.add 0 (Nat.mul n sz)) (0+cs.length)&&(Nat.ble (Nat.mul (Nat.add n m) ie.bytes) 70368744177664&&Nat.ble (Nat.add n m) 70368744177664))))=true:=by
    rw[B,oW,oW];simp only[l1b,KW,kZ];exact⟨hb,j⟩
   rw[c];show Zu (Dn 0 cs) ys _=_;rw[Ni,Dh,BS,DF,CA];rfl
  ·have:=Ay (H:=upd H r .gone) (x:=.cells false e (cs++ys)) (by simp);rw[B9]at this;exact this
  ·have O:Lat H (upd H r .gone) (A8 (.sl sz r 0 n)):=Lat.upd H r .gone ⟨sz,0,n,rfl⟩;have J:=Lat.cons (upd H r .gone) (.cells false e (cs++ys)) (A8 (.sl sz r 0 n));rw[B9]at J;exact O.trans J (λ_ _ h=>h) (λ_ _ h=>h)
def F_(a:AV):∀n(K:Is->Af),Zq n [a] K=K (List.replicate n a):=by
 intro n K;rw[Zp]
 congr 1
 induction n with
 |zero=>rfl
 |succ n ih=>simp[YG,ih,l1c]
def wU{a z:AV}(hz:∀K:Is->Af,He ie.zero K=K [z])(c:∀K:Is->Af,He a K=K [a])(h1:AV.one a=true)(K:KV):GF e 1 ie 1 [(0,1,a)] H K=K (.sl 1 (Ar H) 0 1) ((Ar H,.cells false e [a])::H):=by
 unfold GF;rw[hz];show Zq 1 [z] (λcs=>fY [(0,1,a)] cs λb=>HE H λs=>K (.sl 1 s 0 1) ((s,.cells false e b)::H))=_;rw[F_];show He a (λvs=>HN vs 0 λn=>ck (Nat.beq n 1) (ck (Oe vs) (Ey 0 vs [z] λb=>HE H λs=>K (.sl 1 s 0 1) ((s,.cells false e b)::H))))=_;rw[c];have:Oe [a]=true:=by rw[FM];simp[h1]
 show ck (Oe [a]) (HE H λs=>K (.sl 1 s 0 1) ((s,.cells false e [a])::H))=_;rw[this,BS];rfl
def Oo{cs:Is}(h:cs.length=n):Bp ((Ar H,.cells false e cs)::H) e 1 (.sl 1 (Ar H) 0 n) n cs:=.inr ⟨Ar H,false,rfl,Ay (by simp),by omega⟩
def A6L(l:Ha):(MM l).all AV.one=true:=by simp[MM,AV.one,Value.oneCell']
def Q8(l:Ha):(MM l).length=l.length:=by simp[MM]
def A0s(a b:Ha):MM a++MM b=MM (a++b):=by simp[MM]
end
section
variable{K:K2}{q:Bool}{aZ bd:Code}{H:Hp}{N e m p r s:Nat}{to:Option (Option Code)}{x:Row}{i t:TI}{α:Type}
def A3W:∀(l:List α)(k:Nat)(a:α),k<l.length->splice l k [a]=l.set k a:=by
 intro l
 induction l with
 |nil=>intro k a h;simp at h
 |cons b l ih=>
  intro k a h;cases k with
  |zero=>simp[splice]
  |succ k=>
   have:=ih k a (by simpa using h);simp only[splice,List.length_singleton]at this⊢;simp[this]
def Wr(l vs:List α)(h:vs.length=l.length):splice l 0 vs=vs:=by simp[splice,h]
def Bv{ty:Nat}{cs:Is}{K:KV}(hz:i.zero=.agg cs):Bx ty i H K=K (.ptr (Ar H) 0 0) ((Ar H,.cells true ty cs)::H):=by
 unfold Bx;rw[hz,CP,BS];rfl
def oG{ty:Nat}{v:Value}{K:KV}(h1:AV.one (.v v)=true):FV ty (.v v) H K=K (.ptr (Ar H) 0 0) ((Ar H,.cells true ty [.v v])::H):=by
 unfold FV;rw[CP,FM,BS];have:(B4 (.v v)).all AV.one=true:=by simp[B4,h1]
 rw[this];rfl
def C1p{ty n:Nat}{cs:Is}{K:KV}:FV ty (.list n cs) H K=K (.ptr (Ar H) 0 0) ((Ar H,.cells true ty [.list n cs])::H):=by
 unfold FV;rw[CP,FM,BS];rfl
def DZ{ty:Nat}{cs:Is}{K:KV}(h1:cs.all AV.one=true):FV ty (.agg cs) H K=K (.ptr (Ar H) 0 0) ((Ar H,.cells true ty cs)::H):=by
 unfold FV;rw[CP,FM,BS];have:(B4 (.agg cs)).all AV.one=true:=h1;rw[this];rfl
def AC{cs:Is}(h:Ah H r=some x):Ah (upd H r (.cells q e cs)) r=some (.cells q e cs):=by
 rw[BC h];rfl
def DT{cs:Is}{v:AV}{K:Ru}(c:Ah H s=some (.cells q e cs))(d:p<cs.length)(hz:i.size=1)(hv:B4 v=[v])(h1:AV.one v=true):DE i (.ptr s p 0) v H K=K (upd H s (.cells q e (cs.set p v))):=by
 have b:DE i (.ptr s p 0) v H K=IP H s λx=>iK x λq e cs=>He v λvs=>HN vs 0 λn=>ck (Nat.beq n i.size) (ck (Oe vs) (Ey (Nat.add p 0) vs cs λa=>LJ H s (.cells q e a) K)):=rfl;rw[b,Bl c];show He v _=_;rw[CP,hv,C4,hz,FM];have:[v].all AV.one=true:=by simp[h1]
 rw[this];show Ey p [v] cs _=_;rw[It _ _ _ _ (by simp;omega),A3W _ _ _ d,Dh]
def BO{cs vs:Is}{K:Ru}(d:Ah H s=some (.cells q e cs))(b:vs.length=cs.length)(hz:i.size=cs.length)(h1:vs.all AV.one=true):DE i (.ptr s 0 0) (.agg vs) H K=K (upd H s (.cells q e vs)):=by
 have c:DE i (.ptr s 0 0) (.agg vs) H K=IP H s λx=>iK x λq e cs=>He (.agg vs) λvs=>HN vs 0 λn=>ck (Nat.beq n i.size) (ck (Oe vs) (Ey 0 vs cs λa=>LJ H s (.cells q e a) K)):=rfl;rw[c,Bl d];show(He (.agg vs) λvs=>HN vs 0 λn=>ck (Nat.beq n i.size) (ck (Oe vs) (Ey 0 vs cs λa=>LJ H s (.cells q e a) K)))=_;have hc:B4 (.agg vs)=vs:=rfl;rw[CP,hc,C4,hz,FM,h1,b,JZ,oW];show Ey 0 vs cs _=_;rw[It _ _ _ _ (by omega),Wr _ _ b,Dh]
def Bu{cs:Is}(h:t.d.isAgg=true)(hz:t.size=cs.length)(a:Ah H r=some (.cells q e cs)):AE t (.ptr r 0 0) H K=K (.agg cs):=by
 have:AE t (.ptr r 0 0) H K=IP H r λx=>Kb x λ_ cs=>@Bool.rec (λ_=>Af) (hdK (Dn 0 cs) K) (E9 t.size (Dn 0 cs) λc=>K (.agg c)) t.d.isAgg:=rfl;rw[this,h,Bl a];show E9 t.size (Dn 0 cs) _=_;rw[CA,qV,hz,Km _ _ _ (by omega),rW]
def AL{cs:Is}(h:t.d.isAgg=false)(b:Ah H r=some (.cells q e cs))(a:p<cs.length):AE t (.ptr r p 0) H K=K (cs.getD p .dk):=by
 have:AE t (.ptr r p 0) H K=IP H r λx=>Kb x λ_ cs=>@Bool.rec (λ_=>Af) (hdK (Dn (Nat.add p 0) cs) K) (E9 t.size (Dn (Nat.add p 0) cs) λc=>K (.agg c)) t.d.isAgg:=rfl;rw[this,h,Bl b];show hdK (Dn p cs) K=_;rw[CA,rV a,TV,KJ a];rfl
def XA0{z:Int}(k:Nat)(c:t.d=.array m e 1)(hz:z=k)(h:k<m):D4 t (.ptr s 0 0) (.v (.int .i64 z)) K=K (.ptr s k 0):=by
 subst hz;have f:D4 t (.ptr s 0 0) (.v (.int .i64 (k:Int))) K=iN (k:Int) λn=>ck (Nat.blt n m) (fN (Nat.add 0 (Nat.mul n 1)) λq=>K (.ptr s q 0)):=by
  have⟨a,b,d,z⟩:=t;simp only at c;subst c;rfl
 rw[f,JU,DF];have h2:Nat.add 0 (Nat.mul k 1)=k:=by show 0+k*1=k;omega
 have g:Nat.blt k m=true:=by rw[Wg];exact h
 rw[h2,g];rfl
def A6F{t j:TI}{cs:Is}{z:Int}(k:Nat)(f:t.d=.array m e 1)(u:j.d.isAgg=false)(hz:z=k)(w:k<m)(hc:m<=cs.length):kG t j (.agg cs) (.v (.int .i64 z)) K=K (cs.getD k .dk):=by
 subst hz;have g:kG t j (.agg cs) (.v (.int .i64 (k:Int))) K=iN (k:Int) λn=>ck (Nat.blt n m) (pA j (Dn (Nat.mul n 1) cs) K):=by
  have⟨a,b,d,z⟩:=t;simp only at f;subst f;rfl
 rw[g,JU];have h2:Nat.mul k 1=k:=rT k;have h:Nat.blt k m=true:=by rw[Wg];exact w
 have c:k<cs.length:=by omega
 rw[h2,h,CA,rV c,TV,KJ c];show pA j (cs[k]::cs.drop (k+1)) K=_;unfold pA;rw[u];rfl
def Iy{r p k:Nat}:LG (.ptr r p k) K=K (.ptr r p k):=id rfl
def PG{R:Rt}{args:Is}{t:Tm}{ps:Array Tmp}{K:KV}(f:Ah H r=some (.loop N t ps aZ bd (some none)))(g:C_ N ps.toList=true):
 Oj R r args H K=rdK R.run N t ps args aZ bd H (λc d=>EC c r true none d) (λe b=>match e with
  |.normal=>EC b r false (some none) λa=>K (.v (.bool true)) a
  |.ret=>EC b r false (some (some .ret)) λa=>K (.v (.bool false)) a
  |.exit id=>EC b r false (some (some (.exit id))) λa=>K (.v (.bool false)) a
  |.goto l=>EC b r false (some (some (.goto l))) λa=>K (.v (.bool false)) a
  |_=>none):=by
 unfold Oj;rw[Bl f];show ck (C_ N ps.toList) _=_;rw[g];rfl
def PQ{t:Tm}{ps:Array Tmp}{K:Ru}(a:Ah H r=some (.loop N t ps aZ bd (some none))):EC H r true to K=K (upd H r (.loop N t ps aZ bd to)):=by
 unfold EC;rw[Bl a];show LJ H r _ K=_;rw[Dh]
def PN{t:Tm}{ps:Array Tmp}{K:Ru}(a:Ah H r=some (.loop N t ps aZ bd none)):EC H r false to K=K (upd H r (.loop N t ps aZ bd to)):=by
 unfold EC;rw[Bl a];show LJ H r _ K=_;rw[Dh]
def Fl{t:Tm}{ps:Array Tmp}(h:Ah H r=some x):Ah (upd H r (.loop N t ps aZ bd to)) r=some (.loop N t ps aZ bd to):=by
 rw[BC h];rfl
end
section
variable{a b:AV}{f:Nat}{P:Program}{α:Type}
def BT.allB(c:Nat->α->Bool):BT α->Bool
 |.leaf=>true
 |.node k v l r=>c k v&&(l.allB c&&r.allB c)
def B32{c:Nat->α->Bool}{p:Nat->α->Prop}(h:∀k v,c k v=true->p k v):∀{b:BT α},b.allB c=true->b.All p:=by
 intro b
 induction b with
 |leaf=>intro _;trivial
 |node k v l r d e=>
  intro hb;simp only[BT.allB,KW]at hb;exact⟨h k v hb.1,d hb.2.1,e hb.2.2⟩
def A4j:TD->Bool
 |.slice _ 0=>true
 |.array _ _ 0=>true
 |_=>false
def A5B:AV->AV->Bool
 |.v (.int k n),.v (.int d e)=>decide (k=d)&&decide (n=e)
 |.v (.bool b),.v (.bool c)=>b==c
 |.v (.string s),.v (.string g)=>s.data.toList.isEmpty&&g.data.toList.isEmpty
 |.v (.slice none 0 0),.v (.slice none 0 0)=>true
 |.v (.pointer none),.v (.pointer none)=>true
 |.v (.map none),.v (.map none)=>true
 |.v .nilFunc,.v .nilFunc=>true
 |.v .nilIface,.v .nilIface=>true
 |_,_=>false
def lG:Is->Is->Bool
 |[],[]=>true
 |a::c,b::d=>A5B a b&&lG c d
 |_,_=>false
def zeq:AV->AV->Bool
 |.agg cs,.agg ds=>lG cs ds
 |a,b=>A5B a b
def oN(h:A5B a b=true):a=b:=by
 unfold A5B at h;split at h<;>simp at h<;>try rfl
 ·rw[h.1,h.2]
 ·rw[h]
 ·rename_i s c;have⟨⟨l⟩⟩:=s;have⟨⟨d⟩⟩:=c;simp at h;rw[h.1,h.2]
def P':∀{c d:Is},lG c d=true->c=d:=by
 intro c
 induction c with
 |nil=>intro d h;cases d<;>simp[lG]at h⊢
 |cons a c ih=>
  intro d h;cases d with
  |nil=>simp[lG]at h
  |cons b d=>
   simp only[lG,KW]at h;rw[oN h.1,ih h.2]
def A70(h:zeq a b=true):a=b:=by
 unfold zeq at h;split at h
 ·rw[P' h]
 ·exact oN h
def B8f:TD->TD->Bool
 |.int k,.int g=>decide (k=g)
 |.bool,.bool=>true
 |.string,.string=>true
 |.pointer e,.pointer c=>decide (e=c)
 |.slice e n,.slice c h=>decide (e=c)&&decide (n=h)
 |.array m e n,.array j c h=>decide (m=j)&&decide (e=c)&&decide (n=h)
 |.struct i,.struct d=>decide (i=d)
 |.map k e,.map g c=>decide (k=g)&&decide (e=c)
 |.func,.func=>true
 |.iface,.iface=>true
 |.other,.other=>true
 |_,_=>false
def A3R{a b:TD}(h:B8f a b=true):a=b:=by
 unfold B8f at h;split at h<;>simp at h<;>try rfl
 ·rw[h]
 ·rw[h]
 ·rw[h.1,h.2]
 ·rw[h.1.1,h.1.2,h.2]
 ·rw[h]
 ·rw[h.1,h.2]
def tiB(P:Program)(t:Nat)(i:TI):Bool:=
 match P.info? t with
 |some x=>match P.underlying t,x.zero with
  |some u,some z=>Nat.beq x.size i.size&&(Nat.beq x.bytes i.bytes&&(B8f (td P u) i.d&&(zeq (uJ z) i.zero&& !A4j i.d)))
  |_,_=>false
 |none=>false
def TiR(P:Program)(t:Nat)(i:TI):Prop:=TOk1 P t i/\A4j i.d=false
def B8e(t:Nat)(i:TI)(h:tiB P t i=true):TiR P t i:=by
 unfold tiB at h;split at h
 ·rename_i x c;split at h
  ·rename_i u z j hz;simp only[KW,l19]at h;have⟨h1,h2,d,e,g⟩:=h;refine⟨⟨?_,?_,?_⟩,g⟩
   ·rw[c];simp[ZR h1,ZR h2]
   ·rw[c];simp[hz,A70 e]
   ·rw[j];simp[A3R d]
  ·cases h
 ·cases h
def FnR(P:Program)(f:Nat)(x:XFn):Prop:=(P.funcs[f]?).map (λfn=>(fn.body,fn.ntmps,fn.results.toList,fn.name== "runtime.NumGoroutine"))=some (some x.c,x.n,x.rs,false)
def FnR.ex{x:XFn}(h:FnR P f x):∃fn,P.funcs[f]?=some fn/\fn.body=some x.c/\fn.ntmps=x.n/\fn.results.toList=x.rs/\(fn.name== "runtime.NumGoroutine")=false:=by
 unfold FnR at h;cases d:P.funcs[f]? with
 |none=>rw[d]at h;simp at h
 |some fn=>
  rw[d]at h;simp only[D?,l0z,Prod.mk.injEq]at h;exact⟨fn,rfl,h.1,h.2.1,h.2.2.1,h.2.2.2⟩
def DrR(E:XE)(_:Nat)(x:XFn):Prop:=T2 (tT E ⟨false,x.lv,x.fz,x.n,x.rc⟩) x.c=true
def eqR(P:Program)(t:Nat)(ks:List LK):Prop:=leaves P 6 t=some (true,ks)/\P.eqGuardType P.depth t=false
def glR(_:Nat)(cs:Is):Prop:=cs.all isV=true
def C3B(P:Program)(l:Lie):Prop:=liesAt P P.depth l.1 (l.2.1/P.cellsOf l.1) l.2.2.1 l.2.2.2 1=true/\(P.info? l.2.2.2).isSome=true
def C2i{E:XE}(d:E.ty.All (TiR P))(m:E.T=E.ty.get)(c:P.follows .mixedOrders=true)(k:E.gl.All glR)(y:E.ft.All (FnR P))(w:E.ft.All (DrR E))(he:E.eqt.All (eqR P))(A:∀l∈E.lie,C3B P l)(B:P.underlying E.up=some .unsafePointer)(hn:∀f,E.ne f=true->kW P f):XE.Ok tT E P where
 ty:=λt i h=>(d.get (by rw[m]at h;exact h)).1
 pos:=λt i e p h j q=>by
  have:=(d.get (by rw[m]at h;exact h)).2;subst q;rcases j with j|⟨n,j⟩<;>(rw[j]at this;simp[A4j]at this)
 mix:=c
 gl:=λg cs h=>k.get h
 fn:=λf x h=>by
  have⟨fn,h1,h2,r,s,v⟩:=(y.get h).ex;exact⟨fn,h1,h2,r,s,v,w.get h⟩
 eq:=λt ks h=>⟨(he.get h).1,(he.get h).2⟩
 lie:=λe n o u h=>A _ h
 up:=λ_=>B
 ne:=hn
def A04{fn:Func}(g:P.funcs[f]?=some fn)(d:(fn.name== "runtime.NumGoroutine")=false)(hb:fn.body.isNone=true)(hn:Extern.findNext fn=none)(he:Extern.find fn=some Extern.AbiNoEscape.same):kW P f:=by
 intro x w;have:Extern.AbiNoEscape.same #[x]=pure x:=rfl;have c:¬fn.name= "runtime.NumGoroutine" :=by simpa using d
 have e:fn.body=none:=by simpa using hb
 simp[callFunc,g,c,e,hn,he,mark,this];rfl
end
end Go.Abs
end
