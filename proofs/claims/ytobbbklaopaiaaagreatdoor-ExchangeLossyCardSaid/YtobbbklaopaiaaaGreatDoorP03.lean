import Derived.Laws.IdiomRangeMap
import Derived.Lib.UnsafeStr
import Derived.Lib.Builder
import Derived.ScopeJumps
import Derived.Test.YtobbbklaopaiaaaGreatDoorP02
set_option linter.all false
set_option maxHeartbeats 100000000
noncomputable section
namespace Go.Abs
open Go.RowKit
section
variable{q:Bool}{C:Ctx}{es:IH}{ms:List MapEntry}{kt:TypeId}{a b k:Value}{p:Value×AV}{w:World}
def gQ:Value->Value->Option Bool
 |.string a,.string b=>some (eqB a.data.toList b.data.toList)
 |.int k a,.int c b=>match decide (k=c) with|true=>some (ieq a b)|false=>none
 |.bool a,.bool b=>some (a==b)
 |_,_=>none
def YK(xs:Hx):Hx->Option Bool:=
 @List.rec Value (λ_=>Hx->Option Bool) (λd=>match d with|[]=>some true|_=>none)
  (λx _ ih d=>match d with
   |[]=>none
   |y::d=>match gQ x y with
    |some b=>(match ih d with|some c=>some (b&&c)|none=>none)
    |none=>none) xs
def keq:Value->Value->Option Bool
 |.agg xs,.agg c=>YK xs.toList c.toList
 |a,b=>gQ a b
def gM(k:Value)(es:IH):Nat->Option (Option (Nat×AV)):=
 @List.rec (Value×AV) (λ_=>Nat->Option (Option (Nat×AV))) (λ_=>some none)
  (λp _ ih i=>match keq k p.1 with|some true=>some (some (i,p.2))|some false=>ih (Nat.succ i)|none=>none) es
def dO(k:Value)(p:Value×AV)(es:IH)(i:Nat):gM k (p::es) i=(match keq k p.1 with|some true=>some (some (i,p.2))|some false=>gM k es (i+1)|none=>none):=rfl
def I5(k:Value)(es:IH)(K:Option (Nat×AV)->Af):Af:=match gM k es 0 with|some x=>K x|none=>none
def mY(cs:Is):(Hx->Af)->Af:=
 @List.rec AV (λ_=>(Hx->Af)->Af) (λK=>K []) (λa _ ih K=>match a with|.v x=>ih λl=>K (x::l)|_=>none) cs
def LW(a:AV)(K:Value->Af):Af:=match a with|.v (.string s)=>K (.string s)|_=>none
def Ws(q:IntKind)(a:AV)(K:Value->Af):Af:=match a with|.v (.int c n)=>ck (decide (c=q)) (K (.int c n))|_=>none
def B4p(ks:List LK)(a:AV)(K:Value->Af):Af:=match a with|.agg cs=>mY cs λvs=>ck (fits ks vs) (K (.agg vs.toArray))|_=>none
def QO(P:Program)(kt:TypeId)(k:Value):Prop:=
 (P.underlying kt=some .string/\∃s,k=.string s)\/(∃q n,P.underlying kt=some (.int q)/\k=.int q n)\/(∃ks xs,EqFlat P kt ks/\fits ks xs=true/\k=.agg xs.toArray)
def yP(h:gQ a b=some q):(q=true↔a=b)/\∀c:LK,c.fit a=true->c.fit b=true:=by
 cases a<;>cases b<;>simp[gQ]at h
 ·subst h;exact⟨by simp,λc d=>by cases c<;>simp[LK.fit]at d⊢⟩
 ·split at h
  ·rename_i e;injection h with h
   have e:_=_:=l2z e;subst e;refine⟨by rw[<-h,QI];simp,λc d=>?_⟩;cases c<;>simp[LK.fit]at d⊢
   exact d
  ·cases h
 ·rw[QK]at h;refine⟨?_,λc d=>by cases c<;>simp[LK.fit]at d⊢⟩;rename_i x y;obtain⟨⟨x⟩⟩:=x;obtain⟨⟨y⟩⟩:=y;rw[<-h];simp
def A7I(x:Value)(xs:Hx)(ys:Hx):YK (x::xs) ys=(match ys with|[]=>none|y::ys=>(match gQ x y with|some b=>(match YK xs ys with|some c=>some (b&&c)|none=>none)|none=>none)):=rfl
def Vr:∀{xs ys:Hx}{q:Bool},YK xs ys=some q->(q=true↔xs=ys)/\∀ks,fits ks xs=true->fits ks ys=true:=by
 intro xs
 induction xs with
 |nil=>
  intro ys q h;cases ys with
  |nil=>injection h with h;subst h;exact⟨by simp,λ_ h=>h⟩
  |cons y ys=>cases h
 |cons x xs ih=>
  intro ys q h;rw[A7I]at h;cases ys with
  |nil=>cases h
  |cons y ys=>
   simp only at h;cases h1:gQ x y with
   |none=>rw[h1]at h;cases h
   |some b=>
    rw[h1]at h;simp only at h;cases h2:YK xs ys with
    |none=>rw[h2]at h;cases h
    |some c=>
     rw[h2]at h;injection h with h
     obtain⟨e,f1⟩:=yP h1;obtain⟨f,f2⟩:=ih h2;refine⟨by rw[<-h,K0,e,f,List.cons.injEq],λks d=>?_⟩;cases ks with
     |nil=>simp[fits]at d
     |cons k ks=>
      simp only[fits,K0]at d⊢;exact⟨f1 k d.1,f2 ks d.2⟩
def A1j(h:keq a b=some q):q=true↔a=b:=by
 unfold keq at h;split at h
 ·rename_i xs c;rw[(Vr h).1];constructor
  ·intro e;rw[Array.toList_inj.1 e]
  ·intro e;injection e with e;rw[e]
 ·exact(yP h).1
section
variable{P:Program}
def dS{r:AV×Hp}:∀(cs:Is)(K:Hx->Af),mY cs K=some r->∃vs:Hx,cs=vs.map AV.v/\K vs=some r:=by
 intro cs
 induction cs with
 |nil=>intro K h;exact⟨[],rfl,h⟩
 |cons a cs ih=>
  intro K h;have h:(match(generalizing:=false) a with|.v x=>mY cs λl=>K (x::l)|_=>none)=some r:=h;split at h
  ·obtain⟨vs,e,h2⟩:=ih _ h;exact⟨_::vs,by rw[e];rfl,h2⟩
  ·cases h
def rK{vs:Hx}{y:Value}(h:VRel C w (.agg (vs.map AV.v)) y):y=.agg vs.toArray:=by
 obtain⟨f,rfl,d⟩:=EO.1 h
 congr 1
 congr 1
 apply l0p;intro i;cases c:vs[i]? with
 |none=>
  have:=d.1;simp only[Qa]at this;have h1:vs.length<=i:=by simpa using List.getElem?_eq_none_iff.1 c
  exact l1j (by omega)
 |some v=>
  obtain⟨y,e,hv⟩:=d.2 i (.v v) (by rw[xE,c];rfl);rw[e,AM.1 hv]
def wD:∀{ks:List LK}{xs:Hx}(n:Nat),fits ks xs=true->((xs.zip xs).all λp=>Instr.sameBits n p.1 p.2)=true:=by
 intro ks
 induction ks with
 |nil=>intro xs n h;cases xs<;>simp[fits]at h;rfl
 |cons k ks ih=>
  intro xs n h;cases xs with
  |nil=>simp[fits]at h
  |cons x xs=>
   simp only[fits,K0]at h;simp only[List.zip_cons_cons,pY,K0];refine⟨?_,ih n h.2⟩;have h1:=h.1;cases k<;>cases x<;>simp[LK.fit]at h1<;>simp[Instr.sameBits,MapKept.bytes_beq]
def QO.stays(h:QO P kt k)(w:World):(Instr.keyThatStays k k).run P w=.ok k w:=by
 have:Instr.sameBits 10000 k k=true:=by
  rcases h with⟨_,s,rfl⟩|⟨q,n,_,rfl⟩|⟨ks,xs,_,h,rfl⟩
  ·simp[Instr.sameBits,MapKept.bytes_beq]
  ·simp[Instr.sameBits]
  ·have:=wD 9999 h;show(xs.toArray.size==xs.toArray.size&&(xs.toArray.toList.zip xs.toArray.toList).all λ(x,y)=>Instr.sameBits 9999 x y)=true;simp only[beq_self_eq_true,Z!];exact this
 simp[Instr.keyThatStays,this]
theorem QO.check(h:QO P kt k)(em:Bool)(w:World):(Instr.checkKey em 10000 kt k).run P w=.ok () w:=by
 rcases h with⟨c,s,rfl⟩|⟨q,n,c,rfl⟩|⟨ks,xs,he,h,rfl⟩
 ·exact MapKept.run_checkKey c (d:=.string) (by simp[MapKept.IsKey]) em 9999
 ·exact MapKept.run_checkKey c (d:=.int q) (by simp[MapKept.IsKey]) em 9999
 ·exact he.check h em w
def vI(k:Value)(es:IH)(ms:List MapEntry)(c:Nat):Option (Nat×AV)->Option (Nat×Value)->Prop
 |none,r=>r=none/\∀p∈es,p.1≠k
 |some (i,v),r=>∃(j:Nat)(m:MapEntry),i=c+j/\es[j]?=some (k,v)/\ms[j]?=some m/\m.key=k/\r=some (i,m.val)
def LH.cons_inv(h:LH C w (p::es) ms):∃m c,ms=m::c/\m.key=p.1/\VRel C w p.2 m.val/\LH C w es c:=by
 cases ms with
 |nil=>exact absurd h.1 (by simp)
 |cons m ms=>
  obtain⟨f,h1,h2,d⟩:=h.2 0 p rfl;simp at h1;subst h1;exact⟨m,ms,rfl,h2,d,by simpa using h.1,λi x e=>by simpa using h.2 (i+1) x (by simpa using e)⟩
def LH.nil_inv(h:LH C w [] ms):ms=[]:=gL (by simpa using h.1)
theorem vI.step{m:MapEntry}{d:Nat}(c:p.1≠k):∀{x:Option (Nat×AV)}{r:Option (Nat×Value)},vI k es ms (d+1) x r->vI k (p::es) (m::ms) d x r
 |none,r,⟨h1,h2⟩=>⟨h1,λq hq=>by
  rcases Tz.1 hq with rfl|hq
  ·exact c
  ·exact h2 q hq⟩
 |some (i,v),r,⟨j,h,h1,h2,e,f,g⟩=>⟨j+1,h,by omega,by simpa using h2,by simpa using e,f,g⟩
def ZN{d:TypeDesc}(t:∀v q,keq k v=some q->Instr.sameNow d k v=some q):∀(es:IH)(ms:List MapEntry)(i:Nat)(x:Option (Nat×AV)),LH C w es ms->gM k es i=some x->∃r,Instr.findNow d k ms i=some r/\vI k es ms i x r:=by
 intro es
 induction es with
 |nil=>
  intro ms i x he h;injection h with h
  subst h;rw[he.nil_inv];exact⟨none,rfl,rfl,by simp⟩
 |cons p es ih=>
  intro ms i x he h;obtain⟨m,n,rfl,g,hv,f⟩:=he.cons_inv;rw[dO]at h;cases hq:keq k p.1 with
  |none=>rw[hq]at h;cases h
  |some q=>
   rw[hq]at h;have s:=t _ _ hq;have c:=A1j hq;cases q with
   |true=>
    injection h with h
    subst h;have:k=p.1:=c.1 rfl;refine⟨some (i,m.val),by simp[Instr.findNow,g,s],0,m,rfl,by rw[this];rfl,rfl,by rw[g,this],rfl⟩
   |false=>
    obtain⟨r,h1,h2⟩:=ih n (i+1) x f h;have j:p.1≠k:=λe=>by have:=c.2 e.symm;cases this
    exact⟨r,by simp[Instr.findNow,g,s,h1],h2.step j⟩
def mA{ks:List LK}(B:EqFlat P kt ks){xs:Hx}(v:fits ks xs=true):∀(es:IH)(ms:List MapEntry)(i:Nat)(x:Option (Nat×AV)),LH C w es ms->gM (.agg xs.toArray) es i=some x->
 ∃r,(Instr.findAsking kt (.agg xs.toArray) ms i).run P w=.ok r w/\vI (.agg xs.toArray) es ms i x r:=by
 intro es
 induction es with
 |nil=>
  intro ms i x he h;injection h with h
  subst h;rw[he.nil_inv];exact⟨none,rfl,rfl,by simp⟩
 |cons p es ih=>
  intro ms i x he h;obtain⟨m,n,rfl,t,hv,f⟩:=he.cons_inv;rw[dO]at h;cases hq:keq (.agg xs.toArray) p.1 with
  |none=>rw[hq]at h;cases h
  |some q=>
   rw[hq]at h;have c:=A1j hq;have heq:(Op.equal kt (.agg xs.toArray) m.key).run P w=.ok q w:=by
    rw[t];unfold keq at hq;split at hq
    ·rename_i D s d y;injection d with d
     subst d;have g:=(Vr hq).2 ks (by simpa using v);have:=B.equal v g w;rw[y];have A:s.toList.toArray=s:=by simp
     rw[A]at this;rw[this]
     congr 1
     rw[tS,(Vr hq).1];simp
    ·rename_i h1;cases u:p.1 with
     |agg s=>exact absurd u (h1 _ _ rfl)
     |_=>rw[u]at hq;simp[gQ]at hq
   cases q with
   |true=>
    injection h with h
    subst h;have:_=p.1:=c.1 rfl;refine⟨some (i,m.val),by simp[Instr.findAsking,heq],0,m,rfl,by rw[this];rfl,rfl,by rw[t,this],rfl⟩
   |false=>
    obtain⟨r,h1,h2⟩:=ih n (i+1) x f h;have j:p.1≠_:=λe=>by have:=c.2 e.symm;cases this
    exact⟨r,by simp[Instr.findAsking,heq,h1],h2.step j⟩
def QO.find(t:QO P kt k){x:Option (Nat×AV)}(he:LH C w es ms)(h:gM k es 0=some x):∃r,(Instr.findKey kt k ms).run P w=.ok r w/\vI k es ms 0 x r:=by
 rcases t with⟨c,s,rfl⟩|⟨q,n,c,rfl⟩|⟨ks,xs,i,g,rfl⟩
 ·obtain⟨r,h1,h2⟩:=ZN (d:=.string) (λv q hq=>by
   cases v<;>simp[keq,gQ]at hq
   rename_i u;simp only[Instr.sameNow];rw[<-hq,QK]
   congr 1
   obtain⟨⟨s⟩⟩:=s;obtain⟨⟨u⟩⟩:=u;rw[tS,MapKept.bytes_beq];simp) es ms 0 x he h
  exact⟨r,MapKept.run_findKey c h1,h2⟩
 ·obtain⟨r,h1,h2⟩:=ZN (d:=.int q) (λv B hq=>by
   cases v<;>simp[keq,gQ]at hq
   rename_i A m;by_cases e:q=A
   ·subst e;simp at hq;simp only[Instr.sameNow,Dl];rw[<-hq,QI]
    congr 1
   ·simp[e]at hq) es ms 0 x he h
  exact⟨r,MapKept.run_findKey c h1,h2⟩
 ·obtain⟨r,h1,h2⟩:=mA i g es ms 0 x he h;refine⟨r,?_,h2⟩;have c:∃u,P.underlying kt=some u/\(∀b,Instr.sameNow u (.agg xs.toArray) b=none):=by
   have f:=i.leaves;unfold leaves at f;split at f
   ·simp at f
   ·simp at f
   ·simp at f
   ·rename_i c;exact⟨_,c,λb=>by cases b<;>rfl⟩
   ·rename_i c;exact⟨_,c,λb=>by cases b<;>rfl⟩
   ·cases f
  obtain⟨u,c,y⟩:=c;unfold Instr.findKey;rw[Dm,run_underlying c w];simp only[FX];cases ms with
  |nil=>
   have:=he.1;have e:es=[]:=gL (by simpa using this.symm);obtain⟨j,_⟩:r=none/\True:=by
    subst e;have g:x=none:=(l2c h).symm;subst g;exact⟨h2.1,trivial⟩
   rw[j];rfl
  |cons m ms=>
   have:Instr.findNow u (.agg xs.toArray) (m::ms) 0=none:=by simp[Instr.findNow,y]
   rw[this];exact h1
end
end
section
variable{m v:AV}{ms:Array MapEntry}{es es':IH}{f:MapEntry->MapEntry}{clock:Nat}{bo:Option (Hb×Nat)}{ie:TI}{k ym yv:Value}
def uZ:Option (Hb×Nat)->Option (Hb×Nat)
 |some (a,c)=>some (a++[c],c+1)
 |none=>none
def C0s:Option (Hb×Nat)->Nat->Option (Hb×Nat)
 |some (a,c),i=>some (a.eraseIdx i,c)
 |none,_=>none
def lJ:TD->Option (Hb×Nat)
 |.int _=>some ([],0)
 |.slice _ _=>some ([],0)
 |_=>none
def lL(x:Row)(K:IH->Option (Hb×Nat)->Af):Af:=match x with|.map false es bo=>K es bo|_=>none
def LC(ie:TI)(H:Hp)(K:KV):Af:=Ik H λs=>K (.mp s) ((s,.map false [] (lJ ie.d))::H)
def Mm(m:AV)(k:Value)(v:AV)(H:Hp)(K:Ru):Af:=
 match m with
 |.mp r=>I6 H r λx=>lL x λes bo=>I5 k es λf=>match f with
  |none=>Ll H r (.map false (es++[(k,v)]) (uZ bo)) K
  |some (i,_)=>Ll H r (.map false (es.set i (k,v)) bo) K
 |_=>none
def xJ(m:AV)(H:Hp)(K:IH->Af):Af:=
 match m with
 |.mp r=>I6 H r λx=>lL x λes _=>K es
 |.imap es=>K es
 |.v (.map none)=>K []
 |_=>none
def Zi(ie:TI)(ok:Bool)(m:AV)(k:Value)(H:Hp)(K:K2):Af:=
 xJ m H λes=>I5 k es λf=>match f,ok with
  |none,true=>K (.tup [ie.zero,.v (.bool false)])
  |none,false=>K ie.zero
  |some (_,v),true=>K (.tup [v,.v (.bool true)])
  |some (_,v),false=>K v
def iK(m:AV)(k:Value)(H:Hp)(K:Ru):Af:=
 match m with
 |.mp r=>I6 H r λx=>lL x λes bo=>I5 k es λf=>match f with
  |none=>K H
  |some (i,_)=>Ll H r (.map false (es.eraseIdx i) (C0s bo i)) K
 |_=>none
def YC(m:AV)(H:Hp)(K:K2):Af:=xJ m H λes=>G6 es 0 λn=>K (.v (.int .i64 (.ofNat n)))
def B1g(ie:TI)(m:AV)(k:Value)(H:Hp)(K:KV):Af:=
 match m with
 |.mp r=>I6 H r λx=>lL x λes bo=>match bo with
  |some (a,c)=>I5 k es λf=>match f with
   |none=>Ll H r (.map false (es++[(k,ie.zero)]) (some (a++[c],c+1))) λd=>K (.tup [ie.zero,.v (.int .i64 (.ofNat c))]) d
   |some (i,v)=>(match a[i]? with|some b=>K (.tup [v,.v (.int .i64 (.ofNat b))]) H|none=>none)
  |none=>none
 |_=>none
def B1f(m st v:AV)(H:Hp)(K:Ru):Af:=
 match m with
 |.mp r=>I6 H r λx=>lL x λes bo=>O? st λz=>match bo with
  |some (a,c)=>(match a.findIdx? (λb=>ieq (.ofNat b) z) with
   |some i=>(match es[i]? with|some p=>Ll H r (.map false (es.set i (p.1,v)) (some (a,c))) K|none=>none)
   |none=>none)
  |none=>none
 |_=>none
section
variable{P:Program}{G:Gl}{w0:Base}{C:Ctx}{H:Hp}{w:World}{r:AV×Hp}
def Ry{x:Row}{K:IH->Option (Hb×Nat)->Af}(h:lL x K=some r):∃es bo,x=.map false es bo/\K es bo=some r:=by
 unfold lL at h;split at h
 ·exact⟨_,_,rfl,h⟩
 ·cases h
def T2{K:Option (Nat×AV)->Af}(h:I5 k es K=some r):∃x,gM k es 0=some x/\K x=some r:=by
 unfold I5 at h;split at h
 ·exact⟨_,by assumption,h⟩
 ·cases h
def LH.append{ms ms':List MapEntry}(h:LH C w es ms)(k:LH C w es' ms'):LH C w (es++es') (ms++ms'):=
 ⟨by simp[h.1,k.1],λi p a=>by
  rw[List.getElem?_append]at a⊢;rw[h.1];split at a
  ·rename_i b;rw[Dl b];exact h.2 i p a
  ·rename_i b;rw[C5 b];exact k.2 _ p a⟩
def LH.one{m:MapEntry}(b:m.key=k)(hv:VRel C w v m.val):LH C w [(k,v)] [m]:=
 ⟨rfl,λi p a=>by
  cases i with
  |zero=>simp at a;subst a;exact⟨m,rfl,b,hv⟩
  |succ i=>simp at a⟩
theorem LH.modify{ms:List MapEntry}(h:LH C w es ms)(i:Nat)(d:∀m,ms[i]?=some m->(f m).key=k)(hv:∀m,ms[i]?=some m->VRel C w v (f m).val):LH C w (es.set i (k,v)) (ms.modify i f):=
 ⟨by simp[h.1],λj p a=>by
  rw[List.getElem?_set]at a;rw[List.getElem?_modify];split at a
  ·rename_i e;subst e;split at a
   ·rename_i g;injection a with a
    subst a;have b:i<ms.length:=by rw[h.1];exact g
    have hm:=K8 b;exact⟨f ms[i],by rw[hm];simp,d _ hm,hv _ hm⟩
   ·cases a
  ·rename_i e;obtain⟨m,h1,h2,c⟩:=h.2 j p a;exact⟨m,by rw[h1];simp[e],h2,c⟩⟩
theorem LH.eraseIdx{ms:List MapEntry}(h:LH C w es ms)(i:Nat):LH C w (es.eraseIdx i) (ms.eraseIdx i):=
 ⟨by rw[List.length_eraseIdx,List.length_eraseIdx,h.1],λj p a=>by
  rw[List.getElem?_eraseIdx]at a⊢;split at a
  ·rename_i b;rw[Dl b];exact h.2 j p a
  ·rename_i b;rw[C5 b];exact h.2 _ p a⟩
theorem MOk.push(h:MOk ms clock)(k v:Value):MOk (ms.push {key:=k,val:=v,born:=clock}) (clock+1):=
 ⟨by
  rw[l2t,List.pairwise_append];refine⟨h.born,by simp,λa c b hb=>?_⟩;simp at hb;subst hb;have:=h.lt a c;show a.born≠clock;omega,λm hm=>by
  rw[l2t,Yn]at hm;rcases hm with hm|hm
  ·have:=h.lt m hm;omega
  ·simp at hm;subst hm;exact Nat.lt_succ_self _⟩
def YJ{ms:List MapEntry}{i:Nat}(a:∀m,(f m).born=m.born):(ms.modify i f).map (·.born)=ms.map (·.born):=by
 apply l0p;intro j;rw[xE,xE,List.getElem?_modify];cases ms[j]? with
 |none=>rfl
 |some m=>by_cases e:i=j<;>simp[e,a]
def A5n:MOk ms clock↔(ms.toList.map (·.born)).Pairwise (λa b=>a≠b)/\∀b∈ms.toList.map (·.born),b<clock:=by
 constructor
 ·intro h;exact⟨by rw[List.pairwise_map];exact h.born,λb hb=>by obtain⟨m,hm,rfl⟩:=Mj.1 hb;exact h.lt m hm⟩
 ·rintro⟨h1,h2⟩;exact⟨by rw[List.pairwise_map]at h1;exact h1,λm hm=>h2 _ (Mj.2 ⟨m,hm,rfl⟩)⟩
theorem MOk.modify(h:MOk ms clock)(i:Nat)(a:∀m,(f m).born=m.born):MOk (ms.modify i f) clock:=by
 rw[A5n,l2u,YJ a];exact A5n.1 h
def Rn(ms:Array MapEntry)(i:Nat):(ms.eraseIdxIfInBounds i).toList=ms.toList.eraseIdx i:=by
 unfold Array.eraseIdxIfInBounds;split
 ·simp only[Array.toList_eraseIdx]
 ·rename_i h;rw[List.eraseIdx_of_length_le (by simpa using h)]
theorem gH{α β:Type}(f:α->β):∀(l:List α)(i:Nat),(l.eraseIdx i).map f=(l.map f).eraseIdx i
 |[],_=>rfl
 |_::_,0=>rfl
 |a::l,i+1=>by simp[gH f l i]
def MOk.erase(h:MOk ms clock)(i:Nat):MOk (ms.eraseIdxIfInBounds i) clock:=
 ⟨by rw[Rn];exact h.born.sublist (List.eraseIdx_sublist _ _),λm hm=>by rw[Rn]at hm;exact h.lt m ((List.eraseIdx_sublist _ _).subset hm)⟩
def YR{r:Nat}{bo bo':Option (Hb×Nat)}{b:Nat}{ms ms':Array MapEntry}{clock clock':Nat}{O:Nat->Prop}(hr:Rel G w0 C H w)(c:Aj H r=some (.map false es bo))(a:C.π r=some (some (b,0)))(hb:w.heap[b]?=some (.map ms clock))(he:LH C w es' ms'.toList)(hm:MOk ms' clock')(d:BOk bo' ms' clock'):(setObj b (.map ms' clock')).run P w=.ok () {w with heap:=w.heap.setIfInBounds b (.map ms' clock')}/\
  Rel G w0 C (upd H r (.map false es' bo')) {w with heap:=w.heap.setIfInBounds b (.map ms' clock')}/\Ext O C w C {w with heap:=w.heap.setIfInBounds b (.map ms' clock')}:=by
 obtain⟨h1,h2⟩:=MapKept.heap_set (w:=w) (o':=.map ms' clock') hb;have g:SameObj w {w with heap:=w.heap.setIfInBounds b (.map ms' clock')} b (.map ms' clock'):=⟨rfl,rfl,rfl,by simp,h1,h2⟩
 refine⟨MapKept.run_setObj_map _ hb,hr.set_obj (O:=O) c a g (λarr T fz hc=>by rw[hb]at hc;cases hc) (λe=>⟨b,ms',clock',a,h1,hm,he.mono e,d⟩)⟩
def dL{r:Nat}{y:Value}(hr:Rel G w0 C H w)(s:Aj H r=some (.map false es bo))(hv:VRel C w (.mp r) y):
 ∃b ms clock,y=.map (some b)/\C.π r=some (some (b,0))/\w.heap[b]?=some (.map ms clock)/\MOk ms clock/\LH C w es ms.toList/\BOk bo ms clock:=by
 cases hv with
 |@mp _ _ _ b c d=>
  obtain⟨e,ms,clock,i,j,n,p,q⟩:=hr.rows r _ s;have a:=i.symm.trans d;injection a with a;injection a with a;injection a with g h;subst g h
  exact⟨e,ms,clock,rfl,d,j,n,p,q⟩
def A1L{ty:TypeId}{K:KV}(hr:Rel G w0 C H w)(h:LC ie H K=some r):∃v a y c b,K v a=some r/\(Instr.makeMap ty none).run P w=.ok y b/\Kz G w0 C w v a y c b:=by
 unfold LC at h;rw[BW]at h;have hb:=Nw w (.map #[] 0);refine⟨_,_,.map (some w.heap.size),_,w.alloc (.map #[] 0),h,rfl,.mp (C.put_n _ _),hr.new_row hb ⟨w.heap.size,#[],0,C.put_n _ _,World.alloc_heap_new _ _,⟨by simp,by simp⟩,⟨rfl,λi p d=>by simp at d⟩,?_⟩,hr.new_ext hb⟩;unfold lJ;split
 ·exact⟨rfl,rfl⟩
 ·exact⟨rfl,rfl⟩
 ·trivial
def uK{mt Y Z:TypeId}{K:Ru}(X:P.underlying mt=some (.map Y Z))(A:QO P Y k)(hr:Rel G w0 C H w)(hm:VRel C w m ym)(hv:VRel C w v yv)(h:Mm m k v H K=some r):
 ∃N M,K N=some r/\(Instr.mapUpdate mt ym k yv).run P w=.ok () M/\Rel G w0 C N M/\Ext w0.own C w C M:=by
 unfold Mm at h;split at h
 ·rename_i s;obtain⟨x,J,h1⟩:=Iy rfl h;obtain⟨es,bo,rfl,h2⟩:=Ry h1;obtain⟨f,hf,a⟩:=T2 h2;obtain⟨b,ms,clock,rfl,V,hb,t,he,R⟩:=dL hr J hm;obtain⟨q,hq,d⟩:=A.find he hf;clear h h1 h2;cases f with
  |none=>
   simp only at a;rw[Dh]at a;obtain⟨c,_⟩:=d;subst c;obtain⟨B,D,F⟩:=YR (P:=P) (O:=w0.own) (es':=es++[(k,v)]) (bo':=uZ bo) (ms':=ms.push {key:=k,val:=yv,born:=clock}) (clock':=clock+1) hr J V hb (by rw[l2t];exact he.append (.one rfl hv)) (t.push _ _) (by
    cases bo with
    |none=>trivial
    |some p=>obtain⟨c,y⟩:=R;exact⟨by rw[l2t,Za,c,y];rfl,by rw[y]⟩)
   refine⟨_,_,a,?_,D,F⟩;unfold Instr.mapUpdate;rw[Dm,run_underlying X w];simp only[FX];rw[Dm,l2r hb];simp only[FX];rw[Dm,A.check];simp only[FX];rw[Dm,hq];simp only[FX];exact B
  |some p=>
   obtain⟨i,v0⟩:=p;simp only at a;rw[Dh]at a;obtain⟨j,m0,Q,aa,L,g,u⟩:=d;have Q:i=j:=by omega
   subst Q;subst u;have n:ms[i]?=some m0:=by simpa using L
   obtain⟨B,D,F⟩:=YR (P:=P) (O:=w0.own) (es':=es.set i (k,v)) (bo':=bo) (ms':=ms.modify i λe=>{e with key:=k,val:=yv}) (clock':=clock) hr J V hb (by rw[l2u];exact he.modify i (λ_ _=>rfl) (λ_ _=>hv)) (t.modify i (λ_=>rfl)) (by
    cases bo with
    |none=>trivial
    |some p=>obtain⟨c,y⟩:=R;exact⟨by rw[l2u,YJ (f:=λe=>{e with key:=k,val:=yv}) (λ_=>rfl)];exact c,y⟩)
   refine⟨_,_,a,?_,D,F⟩;unfold Instr.mapUpdate;rw[Dm,run_underlying X w];simp only[FX];rw[Dm,l2r hb];simp only[FX];rw[Dm,A.check];simp only[FX];rw[Dm,hq];simp only[FX,n,yN,l1q,g];rw[Dm,A.stays];simp only[FX];exact B
 ·cases h
def zD{K:IH->Af}(hr:Rel G w0 C H w)(hm:VRel C w m ym)(h:xJ m H K=some r):
 ∃es,K es=some r/\((ym=.map none/\es=[])\/∃b ms clock,ym=.map (some b)/\w.heap[b]?=some (.map ms clock)/\LH C w es ms.toList):=by
 unfold xJ at h;split at h
 ·obtain⟨x,c,h1⟩:=Iy rfl h;obtain⟨es,bo,rfl,h2⟩:=Ry h1;obtain⟨b,ms,clock,rfl,g,hb,n,he,s⟩:=dL hr c hm;exact⟨es,h2,.inr ⟨b,ms,clock,rfl,hb,he⟩⟩
 ·rename_i es;refine⟨es,h,?_⟩;cases hm with
  |@imap _ _ _ b clock ms q hb c j hn hc hv=>
   refine .inr ⟨b,ms,clock,rfl,hb,by simpa using c,λi p g=>?_⟩;obtain⟨d,rfl⟩:=yO.1 g;have a:i<ms.size:=by omega
   refine⟨ms[i],by simp[a],?_,?_⟩
   ·have:=j i d;simpa [eH,a] using this
   ·have:=hv i d;have e:(ms.getD i default)=ms[i]:=by simp[eH,a]
    rw[e]at this;exact this.up rfl rfl
 ·exact⟨[],h,.inl ⟨AM.1 hm,rfl⟩⟩
 ·cases h
def A7n{mt M F:TypeId}{ok:Bool}{K:K2}(s:P.underlying mt=some (.map M F))(x:TOk1 P F ie)(d:QO P M k)(hr:Rel G w0 C H w)(hm:VRel C w m ym)(h:Zi ie ok m k H K=some r):
 ∃v y,K v=some r/\(Instr.lookup mt ym k ok).run P w=.ok y w/\VRel C w v y:=by
 unfold Zi at h;obtain⟨es,h1,u⟩:=zD hr hm h;obtain⟨f,J,h2⟩:=T2 h1;obtain⟨z,hz,Q⟩:=x.run_zero w;have D:VRel C w ie.zero z:=by rw[<-Q];exact fR z
 clear h h1;have key:∀(ms:List MapEntry)(q:Option (Nat×Value)),vI k es ms 0 f q->LH C w es ms->
  ∃v y0 o,K (if ok=true then .tup [v,.v (.bool o)] else v)=some r/\VRel C w v y0/\((q=none/\y0=z/\o=false)\/∃i,q=some (i,y0)/\o=true):=by
  intro ms q a he;cases f with
  |none=>
   obtain⟨O,_⟩:=a;subst O;exact⟨ie.zero,z,false,by cases ok<;>exact h2,D,.inl ⟨rfl,rfl,rfl⟩⟩
  |some p=>
   obtain⟨i,N⟩:=p;obtain⟨j,m0,V,t,A,L,g⟩:=a;have B:VRel C w N m0.val:=by
    obtain⟨X,c,n,e⟩:=he.2 j _ t;rw[A]at c;injection c with c;subst c;exact e
   exact⟨N,m0.val,true,by cases ok<;>exact h2,B,.inr ⟨i,g,rfl⟩⟩
 have rel:∀{v:AV}{y0:Value}(o:Bool),VRel C w v y0->VRel C w (if ok=true then .tup [v,.v (.bool o)] else v) (if ok=true then .tuple #[y0,.bool o] else y0):=by
  intro v y0 o hv;cases ok with
  |true=>exact DG.2 ⟨[y0,.bool o],rfl,.cons hv (.cons (.v _) .nil)⟩
  |false=>exact hv
 rcases u with⟨rfl,rfl⟩|⟨b,ms,clock,rfl,hb,he⟩
 ·have he:LH C w [] []:=⟨rfl,λi p R=>by simp at R⟩
  obtain⟨q,hq,a⟩:=d.find he J;obtain⟨v,y0,o,c,n,e⟩:=key [] q a he;refine⟨_,_,c,?_,rel o n⟩;rcases e with⟨rfl,rfl,rfl⟩|⟨i,rfl,rfl⟩
  ·simp[Instr.lookup,run_underlying s,d.check,hq,hz,Result.andThen]
  ·simp[Instr.lookup,run_underlying s,d.check,hq,Result.andThen]
 ·obtain⟨q,hq,a⟩:=d.find he J;obtain⟨v,y0,o,c,n,e⟩:=key _ q a he;refine⟨_,_,c,?_,rel o n⟩;rcases e with⟨rfl,rfl,rfl⟩|⟨i,rfl,rfl⟩
  ·simp[Instr.lookup,run_underlying s,l2r hb,d.check,hq,hz,Result.andThen]
  ·simp[Instr.lookup,run_underlying s,l2r hb,d.check,hq,Result.andThen]
def A1Q{mt kt et:TypeId}{ts:Array TypeId}{ty:TypeId}{K:Ru}(t:ts[0]?=some mt)(Z:P.underlying mt=some (.map kt et))(D:QO P kt k)(hr:Rel G w0 C H w)(hm:VRel C w m ym)(h:iK m k H K=some r):
 ∃L c,K L=some r/\(Builtin.delete_ ts ty #[ym,k]).run P w=.ok (.tuple #[]) c/\Rel G w0 C L c/\Ext w0.own C w C c:=by
 unfold iK at h;split at h
 ·rename_i s;obtain⟨x,F,h1⟩:=Iy rfl h;obtain⟨es,bo,rfl,h2⟩:=Ry h1;obtain⟨f,hf,y⟩:=T2 h2;obtain⟨b,ms,clock,rfl,Y,hb,g,he,X⟩:=dL hr F hm;obtain⟨q,hq,d⟩:=D.find he hf;clear h h1 h2;have a:∀(c:World)(ms':Array MapEntry),(q=none/\ms'=ms\/∃i v,q=some (i,v)/\ms'=ms.eraseIdxIfInBounds i)->(setObj b (.map ms' clock)).run P w=.ok () c->(Builtin.delete_ ts ty #[.map (some b),k]).run P w=.ok (.tuple #[]) c:=by
   intro c ms' J A;rcases J with⟨rfl,rfl⟩|⟨i,v,rfl,rfl⟩
   ·simp[Builtin.delete_,t,run_underlying Z,l2r hb,D.check,hq,A,Result.andThen]
   ·simp[Builtin.delete_,t,run_underlying Z,l2r hb,D.check,hq,A,Result.andThen]
  cases f with
  |none=>
   obtain⟨B,_⟩:=d;subst B;obtain⟨u,N,Q⟩:=YR (P:=P) (O:=w0.own) (es':=es) (bo':=bo) (ms':=ms) (clock':=clock) hr F Y hb he g X;have A:({w with heap:=w.heap.setIfInBounds b (.map ms clock)}:World)=w:=by
    have:w.heap.setIfInBounds b (.map ms clock)=w.heap:=by
     apply Array.ext_getElem?;intro j;by_cases R:b=j
     ·subst R;rw[(MapKept.heap_set hb).1,hb]
     ·exact(MapKept.heap_set hb).2 j (λe=>R e.symm)
    rw[this]
   rw[A]at u;exact⟨H,w,y,a w ms (.inl ⟨rfl,rfl⟩) u,hr,.refl _ _ _⟩
  |some p=>
   obtain⟨i,v0⟩:=p;simp only at y;rw[Dh]at y;obtain⟨j,m0,M,aa,ab,V,n⟩:=d;have M:i=j:=by omega
   subst M;subst n;obtain⟨u,N,Q⟩:=YR (P:=P) (O:=w0.own) (es':=es.eraseIdx i) (bo':=C0s bo i) (ms':=ms.eraseIdxIfInBounds i) (clock':=clock) hr F Y hb (by rw[Rn];exact he.eraseIdx i) (g.erase i) (by
    cases bo with
    |none=>trivial
    |some p=>obtain⟨B,e2⟩:=X;exact⟨by rw[Rn,<-B,gH],e2⟩)
   exact⟨_,_,y,a _ _ (.inr ⟨i,_,rfl,rfl⟩) u,N,Q⟩
 ·cases h
def A1O{mt g e:TypeId}{ts:Array TypeId}{ty:TypeId}{K:K2}(a:ts[0]?=some mt)(d:P.underlying mt=some (.map g e))(hr:Rel G w0 C H w)(hm:VRel C w m ym)(h:YC m H K=some r):
 ∃v y,K v=some r/\(Builtin.len_ ts ty #[ym]).run P w=.ok y w/\VRel C w v y:=by
 unfold YC at h;obtain⟨es,h1,c⟩:=zD hr hm h;rw[Cl,Jt]at h1;refine⟨_,.int .i64 es.length,h1,?_,.v _⟩;rcases c with⟨rfl,rfl⟩|⟨b,ms,clock,rfl,hb,he⟩
 ·simp[Builtin.len_,a,run_underlying d,goInt]
 ·have:=he.1;simp only[Array.length_toList]at this;simp[Builtin.len_,a,run_underlying d,l2r hb,goInt,this]
def A1P{mt N et:TypeId}{K:KV}(hu:P.underlying mt=some (.map N et))(V:TOk1 P et ie)(D:QO P N k)(hr:Rel G w0 C H w)(hm:VRel C w m ym)(h:B1g ie m k H K=some r):
 ∃v Z y w',K v Z=some r/\(Instr.mapEntry mt ym k).run P w=.ok y w'/\Kz G w0 C w v Z y C w':=by
 unfold B1g at h;split at h
 ·rename_i s;obtain⟨x,hl,h1⟩:=Iy rfl h;obtain⟨es,bo,rfl,h2⟩:=Ry h1;clear h h1;split at h2
  ·rename_i bs c;obtain⟨f,hf,n⟩:=T2 h2;obtain⟨b,ms,clock,rfl,hp,hb,X,he,ho⟩:=dL hr hl hm;obtain⟨o1,o2⟩:=ho;subst o2;obtain⟨q,hq,A⟩:=D.find he hf;obtain⟨z,hz,ez⟩:=V.run_zero w;have L:VRel C w ie.zero z:=by rw[<-ez];exact fR z
   clear h2;have aa:∀(g:Option (Nat×Value)->Sem Value)(res:Result Value),(g q).run P w=res->(do
    Instr.checkKey false 10000 N k
    let x<-Instr.findKey N k ms.toList
    g x:Sem Value).run P w=res:=by
    intro g res hg;rw[Dm,D.check];simp only[FX];rw[Dm,hq];exact hg
   cases f with
   |none=>
    simp only at n;rw[Dh]at n;obtain⟨e1,_⟩:=A;subst e1;obtain⟨u,g2,M⟩:=YR (P:=P) (O:=w0.own) (es':=es++[(k,ie.zero)]) (bo':=some (bs++[clock],clock+1)) (ms':=ms.push {key:=k,val:=z,born:=clock}) (clock':=clock+1) hr hl hp hb (by rw[l2t];exact he.append (.one rfl L)) (X.push _ _) ⟨by rw[l2t,Za,o1];rfl,rfl⟩;refine⟨_,_,.tuple #[z,goInt clock],_,n,?_,DG.2 ⟨[z,goInt clock],rfl,.cons (L.mono M) (.cons (.v _) .nil)⟩,g2,M⟩;unfold Instr.mapEntry;rw[Dm,run_underlying hu w];simp only[FX];rw[Dm,l2r hb];simp only[FX];rw[Dm,D.check];simp only[FX];rw[Dm,hq];simp only[FX];rw[Dm,hz];simp only[FX];rw[Dm,u];rfl
   |some p=>
    obtain⟨i,v0⟩:=p;simp only at n;obtain⟨j,m0,e0,R,t,a,J⟩:=A;have e0:i=j:=by omega
    subst e0;subst J;have d:ms[i]?=some m0:=by simpa using t
    have Q:bs[i]?=some m0.born:=by rw[<-o1,xE,t];rfl
    rw[Q]at n;simp only at n;have Y:VRel C w v0 m0.val:=by
     obtain⟨m',u,g2,M⟩:=he.2 i _ R;rw[t]at u;injection u with u;subst u;exact M
    have F:ms.modify i (λe=>{e with key:=k})=ms:=by
     apply Array.ext_getElem?;intro j;rw[l0s];by_cases B:i=j
     ·subst B;rw[d];simp[<-a]
     ·rw[C5 B]
    have hw:({w with heap:=w.heap.setIfInBounds b (.map ms clock)}:World)=w:=by
     have:w.heap.setIfInBounds b (.map ms clock)=w.heap:=by
      apply Array.ext_getElem?;intro j;by_cases B:b=j
      ·subst B;rw[(MapKept.heap_set hb).1,hb]
      ·exact(MapKept.heap_set hb).2 j (λe=>B e.symm)
     rw[this]
    refine⟨_,H,.tuple #[m0.val,goInt m0.born],w,n,?_,DG.2 ⟨[m0.val,goInt m0.born],rfl,.cons Y (.cons (.v _) .nil)⟩,hr,.refl _ _ _⟩;unfold Instr.mapEntry;rw[Dm,run_underlying hu w];simp only[FX];rw[Dm,l2r hb];simp only[FX];rw[Dm,D.check];simp only[FX];rw[Dm,hq];simp only[FX,d,yN,l1q,a];rw[Dm,D.stays];simp only[FX,F];rw[Dm,MapKept.run_setObj_map _ hb,hw];rfl
  ·cases h2
 ·cases h
def A1K{mt:TypeId}{m st v:AV}{ym ys yv:Value}{K:Ru}(hr:Rel G w0 C H w)(hm:VRel C w m ym)(Y:VRel C w st ys)(hv:VRel C w v yv)(h:B1f m st v H K=some r):
 ∃A y,K A=some r/\(Instr.entryStore mt ym ys yv).run P w=.ok () y/\Rel G w0 C A y/\Ext w0.own C w C y:=by
 unfold B1f at h;split at h
 ·rename_i s;obtain⟨x,D,h1⟩:=Iy rfl h;obtain⟨es,bo,rfl,h2⟩:=Ry h1;obtain⟨q,z,rfl,a⟩:=PH h2;clear h h1 h2;split at a
  ·rename_i J c;split at a
   ·rename_i i B;split at a
    ·rename_i p X;rw[Dh]at a;obtain⟨b,ms,clock,rfl,t,hb,n,he,V⟩:=dL hr D hm;obtain⟨F,o2⟩:=V;subst o2;have u:=AM.1 Y;subst u;have d:ms.findIdx? (λe=>(e.born:Int)==z)=some i:=by
      have L:∀p:MapEntry->Bool,ms.findIdx? p=ms.toList.findIdx? p:=λp=>by cases ms;simp
      rw[L];rw[<-F,List.findIdx?_map]at B;rw[<-B]
      congr 1
      funext e
      simp only[Function.comp,QI];rw[tS];simp
     obtain⟨m1,j,g,Z⟩:=he.2 i p X;obtain⟨M,N,Q⟩:=YR (P:=P) (O:=w0.own) (es':=es.set i (p.1,v)) (bo':=some (J,clock)) (ms':=ms.modify i λe=>{e with val:=yv}) (clock':=clock) hr D t hb (by
      rw[l2u];refine he.modify i (λm hm=>?_) (λ_ _=>hv);rw[j]at hm;injection hm with hm;subst hm;exact g) (n.modify i (λ_=>rfl)) ⟨by rw[l2u,YJ (f:=λe=>{e with val:=yv}) (λ_=>rfl)];exact F,rfl⟩
     refine⟨_,_,a,?_,N,Q⟩;unfold Instr.entryStore;simp only;rw[Dm,l2r hb];simp only[FX];rw[Dm];have R:(asInt (.int q z)).run P w=.ok z w:=rfl;rw[R];simp only[FX,d];exact M
    ·cases a
   ·cases a
  ·cases a
 ·cases h
end
end
section
variable{f:AV->AV->Bool}{K:KV}{es:IH}{y ym:Value}
def eU:Value->Value->Bool
 |.string a,.string b=>eqbL a.data.toList b.data.toList
 |.int k a,.int c b=>decide (k=c)&&decide (a=b)
 |.bool a,.bool b=>a==b
 |.slice none 0 0,.slice none 0 0=>true
 |.pointer none,.pointer none=>true
 |.map none,.map none=>true
 |.nilFunc,.nilFunc=>true
 |_,_=>false
where eqbL:Ha->Ha->Bool
 |[],[]=>true
 |a::l,b::m=>Nat.beq a.toNat b.toNat&&eqbL l m
 |_,_=>false
def vF(f:AV->AV->Bool):Is->Is->Bool
 |[],[]=>true
 |a::l,b::m=>f a b&&vF f l m
 |_,_=>false
def fnB:AV->AV->Bool
 |.fn (.func f) [] [],.fn (.func g) [] []=>Nat.beq f g
 |_,_=>false
def B9J{a b:AV}(h:fnB a b=true):a=b:=by
 unfold fnB at h;split at h
 ·rw[Yo h]
 ·cases h
def A7L(f:AV->AV->Bool):IH->IH->Bool
 |[],[]=>true
 |a::l,b::m=>eU a.1 b.1&&(f a.2 b.2&&A7L f l m)
 |_,_=>false
def Vw:Nat->AV->AV->Bool
 |_,.v x,.v y=>eU x y
 |d+1,.list n cs,.list m es=>Nat.beq n m&&vF (Vw d) cs es
 |d+1,.agg cs,.agg es=>vF (Vw d) cs es
 |d+1,.tup cs,.tup es=>vF (Vw d) cs es
 |d+1,.imap es,.imap a=>A7L (Vw d) es a
 |_+1,.fn f b cs,.fn g a ds=>fnB (.fn f b cs) (.fn g a ds)
 |_,_,_=>false
def A54(a b:Af):Af:=
 match a with
 |some (v,[])=>(match b with
  |some (u,[])=>(match Vw 6 v u with|true=>some (v,[])|false=>none)
  |_=>none)
 |_=>none
def TX(F:Value×AV->IH->Af)(l:IH):IH->Af:=
 @List.rec (Value×AV) (λ_=>IH->Af) (λ_=>none)
  (λe rest ih pre=>@List.rec (Value×AV) (λ_=>Af) (F e pre) (λ_ _ _=>A54 (F e (pre++rest)) (ih (pre++[e]))) rest) l
def A5u(x:Row)(K:IH->Af):Af:=match x with|.iter l _=>K l|_=>none
def WN(m:AV)(H:Hp)(K:KV):Af:=
 match m with
 |.imap es=>Ik H λs=>K (.it s) ((s,.iter es none)::H)
 |.v (.map none)=>Ik H λs=>K (.it s) ((s,.iter [] none)::H)
 |.mp s=>I6 H s λx=>lL x λes _=>ck (es.all λp=>iT 3 p.2) (Ll H s .gone λa=>Ik a λt=>K (.it t) ((t,.iter es none)::a))
 |_=>none
def YB(it:AV)(H:Hp)(K:KV):Af:=
 match it with
 |.it s=>I6 H s λx=>A5u x λl=>@List.rec (Value×AV) (λ_=>Af) (K (.tup [.v (.bool false)]) H)
  (λ_ _ _=>TX (λe rest=>Ll H s (.iter rest (some e)) λa=>K (.tup [.v (.bool true),sQ e.1,e.2]) a) l []) l
 |_=>none
def B0p(x:Row)(K:Value×AV->Af):Af:=match x with|.iter _ (some p)=>K p|_=>none
def ZE(it:AV)(H:Hp)(K:K2):Af:=
 match it with
 |.it s=>I6 H s λx=>B0p x λp=>K (.tup [sQ p.1,p.2])
 |_=>none
def B4V:∀{a b:Ha},eU.eqbL a b=true->a=b:=by
 intro a
 induction a with
 |nil=>intro b h;cases b<;>simp[eU.eqbL]at h;rfl
 |cons x a ih=>
  intro b h;cases b with
  |nil=>simp[eU.eqbL]at h
  |cons y b=>
   simp only[eU.eqbL,K0]at h;rw[ih h.2,UInt8.toNat_inj.1 (Yo h.1)]
def pP{a b:Value}(h:eU a b=true):a=b:=by
 unfold eU at h;split at h
 ·rename_i x y;obtain⟨⟨x⟩⟩:=x;obtain⟨⟨y⟩⟩:=y;have:=B4V h;simp at this;rw[this]
 ·simp only[K0,decide_eq_true_eq]at h;rw[h.1,h.2]
 ·rw[eq_of_beq h]
 ·rfl
 ·rfl
 ·rfl
 ·rfl
 ·cases h
def qK(c:∀a b,f a b=true->a=b):∀{l m:Is},vF f l m=true->l=m:=by
 intro l
 induction l with
 |nil=>intro m h;cases m<;>simp[vF]at h;rfl
 |cons a l ih=>
  intro m h;cases m with
  |nil=>simp[vF]at h
  |cons b m=>
   simp only[vF,K0]at h;rw[c a b h.1,ih h.2]
def B5i(c:∀a b,f a b=true->a=b):∀{l m:IH},A7L f l m=true->l=m:=by
 intro l
 induction l with
 |nil=>intro m h;cases m<;>simp[A7L]at h;rfl
 |cons a l ih=>
  intro m h;cases m with
  |nil=>simp[A7L]at h
  |cons b m=>
   simp only[A7L,K0]at h;rw[show a=b from Prod.ext (pP h.1) (c _ _ h.2.1),ih h.2.2]
def A4A:∀(d:Nat)(a b:AV),Vw d a b=true->a=b:=by
 intro d
 induction d with
 |zero=>
  intro a b h;cases a<;>cases b<;>simp[Vw]at h
  rw[pP h]
 |succ d ih=>
  intro a b h;cases a<;>cases b<;>simp only[Vw]at h<;>first|(cases h;done)|skip
  ·rw[pP h]
  ·simp only[K0]at h;rw[Yo h.1,qK ih h.2]
  ·exact B9J h
  ·rw[qK ih h]
  ·rw[qK ih h]
  ·rw[B5i ih h]
def A3a{a b:Af}{r:AV×Hp}(h:A54 a b=some r):a=some r/\b=some r:=by
 unfold A54 at h;split at h
 ·split at h
  ·split at h
   ·rename_i hq;rw[<-A4A _ _ _ hq];exact⟨h,h⟩
   ·cases h
  ·cases h
 ·cases h
section
variable{r:AV×Hp}
def mV(F:Value×AV->IH->Af)(e a:Value×AV)(l pre:IH):TX F (e::a::l) pre=A54 (F e (pre++a::l)) (TX F (a::l) (pre++[e])):=rfl
def sN(F:Value×AV->IH->Af)(e:Value×AV)(pre:IH):TX F [e] pre=F e pre:=rfl
def A11{F:Value×AV->IH->Af}:∀(l pre:IH),TX F l pre=some r->∀(j:Nat)(e:Value×AV),l[j]?=some e->F e (pre++l.eraseIdx j)=some r:=by
 intro l
 induction l with
 |nil=>intro pre h;cases h
 |cons e l ih=>
  intro pre h j a he;cases l with
  |nil=>
   rw[sN]at h;cases j with
   |zero=>simp at he;subst he;simpa using h
   |succ j=>simp at he
  |cons b l=>
   rw[mV]at h;obtain⟨h1,h2⟩:=A3a h;cases j with
   |zero=>simp at he;subst he;simpa using h1
   |succ j=>
    have:=ih _ h2 j a (by simpa using he);simpa using this
variable{P:Program}{G:Gl}{w0:Base}{C:Ctx}{H:Hp}{w:World}
def Ext.weak{C':Ctx}{w':World}{O:Nat->Prop}(h:Ext (λ_=>False) C w C' w'):Ext O C w C' w':=
 ⟨h.π,h.F,h.keep,h.B,h.keepB,h.size,λb i a=>(h.new b i a).imp id False.elim,λb a=>(h.newB b a).imp id False.elim,h.grow⟩
def nJ{mt A t:TypeId}(N:P.underlying mt=some (.map A t))(hr:Rel G w0 C H w)(hm:VRel C w (.imap es) ym)(h:(Ik H λs=>K (.it s) ((s,.iter es none)::H))=some r):
 ∃v n y D B,K v n=some r/\(Instr.range mt ym).run P w=.ok y B/\Kz G w0 C w v n y D B:=by
 rw[BW]at h;cases hm with
 |@imap _ _ _ b clock ms u hb L J hn hc hv=>
  have c:=Nw w (.mapIter (some b) clock #[] clock);refine⟨_,_,.pointer (some ⟨w.heap.size,0,none⟩),_,w.alloc (.mapIter (some b) clock #[] clock),h,run_range_map w mt A t b ms clock N hb,.it (C.put_n _ _),hr.new_row c ⟨w.heap.size,some b,clock,#[],clock,C.put_n _ _,World.alloc_heap_new _ _,.inr ⟨b,ms,clock,rfl,rfl,rfl,u,(c.block b (hr.finB b u)).trans hb,?_,?_,trivial⟩⟩,hr.new_ext c⟩
  ·refine⟨?_,λm hm=>?_⟩
   ·rw[l26];intro i j d x g;have:=hn i j g (by simpa using x);have a:i<ms.size:=by simpa using d
    have k:j<ms.size:=by simpa using x
    simpa [eH,a,k] using this
   ·obtain⟨i,d,rfl⟩:=List.mem_iff_getElem.1 hm;have a:i<ms.size:=by simpa using d
    have:=hc i a;simpa [eH,a] using this
  ·have F:(ms.toList.filter λe=>!(#[]:Array Nat).contains e.born)=ms.toList:=by simp
   rw[F];refine⟨by simpa using L,λi p M=>?_⟩;obtain⟨d,rfl⟩:=yO.1 M;have a:i<ms.size:=by omega
   have q:(ms.getD i default)=ms[i]:=by simp[eH,a]
   refine⟨ms[i],by simp[a],?_,?_⟩
   ·have:=J i d;rwa[q]at this
   ·have:=hv i d;rw[q]at this;exact(this.mono (hr.new_ext (O:=λ_=>True) c).bare)
def Ctx.fixM(C:Ctx)(b:Nat):Ctx:={C with B:=λk=>C.B k\/k=b}
def Rel.freezeM{s b:Nat}{q:Bool}{F:Option (Hb×Nat)}(h:Rel G w0 C H w)(p:Aj H s=some (.map q es F))(u:C.π s=some (some (b,0))):Rel G w0 (C.fixM b) (cut H s) w/\Ext w0.own C w (C.fixM b) w:=by
 have m:=h.own s _ b 0 p u;have e:Ext w0.own C w (C.fixM b) w:=⟨λ_ _=>rfl,λ_ _ h=>h,λ_ _ _=>rfl,λ_ h=>.inl h,λ_ _=>rfl,λ_ a _ f h=>⟨a,f,h,rfl⟩,λ_ _ h=>.inl h,λk h=>by rcases h with h|h;exact .inl h;exact .inr (h▸m.1),Me _⟩
 have c:∀t x,Aj (cut H s) t=some x->t≠s/\Aj H t=some x:=λt x d=>by
  by_cases v:t=s
  ·subst v;rw[PZ]at d;cases d
  ·rw[Tw v]at d;exact⟨v,d⟩
 refine⟨⟨h.glob.mono e,h.below,λt x d=>h.lt t x (c t x d).2,λt x d=>(h.rows t x (c t x d).2).mono e (λ_ _ _=>rfl),?_,?_,h.fin,?_,?_⟩,e⟩
 ·intro t x k J d i;have j:=h.own t x k J (c t x d).2 i;refine⟨j.1,j.2.1,λg=>?_⟩;rcases g with g|g
  ·exact j.2.2 g
  ·subst g;exact(c t x d).1 (h.sep t s x _ _ _ _ (c t x d).2 p i u)
 ·intro t B x D k L M d A i n;exact h.sep t B x D k L M (c t x d).2 (c B D A).2 i n
 ·intro k g;rcases g with g|g
  ·exact h.finB k g
  ·subst g;exact(h.rows s _ p).block (λe=>by cases e) u
 ·intro k j;rw[cut,BB]at j;exact h.nx k j
def A43{mt O L:TypeId}{m:AV}(D:P.underlying mt=some (.map O L))(hr:Rel G w0 C H w)(hm:VRel C w m ym)(h:WN m H K=some r):
 ∃v n y C' p,K v n=some r/\(Instr.range mt ym).run P w=.ok y p/\Kz G w0 C w v n y C' p:=by
 unfold WN at h;split at h
 ·exact nJ D hr hm h
 ·rw[BW]at h;have F:=AM.1 hm;subst F;have d:=Nw w (.mapIter none 0 #[] 0);exact⟨_,_,.pointer (some ⟨w.heap.size,0,none⟩),_,w.alloc (.mapIter none 0 #[] 0),h,run_range_nilMap w mt O L D,.it (C.put_n _ _),hr.new_row d ⟨w.heap.size,none,0,#[],0,C.put_n _ _,World.alloc_heap_new _ _,.inl ⟨rfl,rfl,rfl⟩⟩,hr.new_ext d⟩
 ·rename_i s;obtain⟨x,N,h1⟩:=Iy rfl h;obtain⟨es,bo,rfl,h2⟩:=Ry h1;obtain⟨hc,M⟩:=B5 h2;obtain⟨b,ms,clock,rfl,hp,hb,k,he, -⟩:=dL hr N hm;rw[Dh]at M;obtain⟨B,J⟩:=hr.freezeM N hp;have A:VRel (C.fixM b) w (.imap es) (.map (some b)):=by
   refine .imap ms (.inr rfl) hb (by rw[<-he.1];simp) (λi e=>?_) (λi j u hj=>?_) (λi e=>?_) (λi e=>?_)
   ·obtain⟨m,t,V, -⟩:=he.2 i _ (K8 e);have c:ms[i]?=some m:=by simpa using t
    simp[eH,c,V]
   ·have g:j<ms.size:=by have:=he.1;simp at this;omega
    have a:i<ms.size:=by omega
    have:=(l26.1 k.born) i j (by simpa using a) (by simpa using g) u;simpa [eH,a,g] using this
   ·have a:i<ms.size:=by have:=he.1;simp at this;omega
    have:=k.lt ms[i] (by simp);simpa [eH,a] using this
   ·obtain⟨m,t, -,X⟩:=he.2 i _ (K8 e);have c:ms[i]?=some m:=by simpa using t
    have Y:(ms.getD i default)=m:=by simp[eH,c]
    rw[Y];have Z:=VRel.down (C:=C) (C':=C.bare) rfl rfl 3 _ _ (GE.1 hc _ (PD e)) X;exact Z.mono J.bare
  obtain⟨v,n,y,C',p,Q,R,q⟩:=nJ D B A M;exact⟨v,n,y,C',p,Q,R,q.1,q.2.1,J.trans q.2.2⟩
 ·cases h
def A7e{l:List MapEntry}(h:l.Pairwise λa b=>a.born≠b.born):∀(j:Nat)(e:MapEntry),l[j]?=some e->l.filter (λx=>decide (x.born≠e.born))=l.eraseIdx j:=by
 induction l with
 |nil=>intro j e he;simp at he
 |cons a l ih=>
  intro j e he;rw[l2q]at h;cases j with
  |zero=>
   simp at he;subst he;rw[l2n,C5 (by simp),List.eraseIdx_cons_zero,List.filter_eq_self];intro x c;have:=h.1 x c;simpa using λe=>this e.symm
  |succ j=>
   have he:l[j]?=some e:=by simpa using he
   rw[l2n,Dl (by have:=h.1 e (l1m he);simpa using this),List.eraseIdx_cons_succ,ih h.2 j e he]
def A0H(w:World)(n:Nat)(hn:0<n):∃(j:Nat)(w1:World),j<n/\w1.heap=w.heap/\w1.os=w.os/\w1.tape=w.tape/\w1.output=w.output/\(choose (.mapNext n)).run P w=.ok j w1:=by
 by_cases a:n<=1
 ·exact⟨0,w,hn,rfl,rfl,rfl,rfl,by simp[choose,Sem.run,Question.forced,a]⟩
 ·exact⟨_,w.drew,Nat.mod_lt _ hn,rfl,rfl,rfl,rfl,by
   simp only[choose,Sem.run,Question.forced,decide_eq_true_eq,a,if_false,Question.cut];rfl⟩
def Below.of_heap{w w1:World}(h:w1.heap=w.heap)(a:w1.os=w.os)(c:w1.tape=w.tape)(b:w1.output=w.output):Below w.heap.size w w1:=
 ⟨a,c,b,by rw[h];exact Me _,λ_ _=>by rw[h]⟩
def A45{ty:TypeId}{it:AV}(hr:Rel G w0 C H w)(hv:VRel C w it y)(h:YB it H K=some r):
 ∃v H' z w',K v H'=some r/\(Instr.next y false ty).run P w=.ok z w'/\Kz G w0 C w v H' z C w':=by
 unfold YB at h;split at h
 ·rename_i s;obtain⟨x,hl,h1⟩:=Iy rfl h;clear h;unfold A5u at h1;split at h1
  ·rename_i l ap;cases hv with
   |@it _ _ _ b ao hp=>
    obtain⟨c,mo,since,seen,last,g1,g2,g3⟩:=hr.rows s _ hl;have R:=g1.symm.trans hp;injection R with R;injection R with R;injection R with e1 e2;subst e1 e2
    have q:(getObj c).run P w=.ok (.mapIter mo since seen last) w:=by simp[getObj,Sem.run,g2]
    rcases g3 with⟨rfl,rfl,_⟩|⟨m,ms,clock,e4,e5,e6,hB,hm,J,he,ah⟩
    ·have h1:K (.tup [.v (.bool false)]) H=some r:=h1;refine⟨_,_,.tuple #[.bool false],w,h1,?_,DG.2 ⟨[.bool false],rfl,.cons (.v _) .nil⟩,hr,.refl _ _ _⟩;simp only[Instr.next];rw[Dm,q];rfl
    ·have e5:=e5.symm;have e6:=e6.symm;subst e4;subst e5;subst e6;have ag:(getObj m).run P w=.ok (.map ms clock) w:=l2r hm;have g:∀x∈ms.toList,x.born<clock:=J.lt;have N:=next_test_false seen ms clock clock g (Me _);have Y:((ms.filter λe=>!seen.contains e.born).filter λx=>decide (x.born<clock))=ms.filter λe=>!seen.contains e.born:=by
      rw[Array.filter_eq_self];intro x Q;have:=g x (by simp at Q⊢;exact Q.1);simpa using this
     have Z:((ms.filter λe=>!seen.contains e.born).filter λx=>decide (x.born≥clock))= #[]:=by
      rw[Array.filter_eq_empty_iff];intro x Q;have:=g x (by simp at Q⊢;exact Q.1);simp;omega
     obtain⟨L,hL⟩:∃L,L=ms.filter λe=>!seen.contains e.born:=⟨_,rfl⟩
     rw[<-hL]at Y Z;have n:L.toList=ms.toList.filter λe=>!seen.contains e.born:=by rw[hL,Array.toList_filter]
     rw[<-n]at he;have u:∀(res:Result Value),(do
      let x<-choose (.mapNext ((if L.isEmpty then #[none] else #[])++L.map some).size)
      match((if L.isEmpty then #[none] else #[])++L.map some)[x]? with
      |some (some e)=>do
       setObj c (.mapIter (some m) clock (seen.push e.born) clock)
       pure (.tuple #[.bool true,e.key,e.val])
      |some none=>pure (.tuple #[.bool false])
      |none=>stuck "Next: no such candidate" :Sem Value).run P w=res->(Instr.next (.pointer (some ⟨c,0,none⟩)) false ty).run P w=res:=by
      intro res ab;unfold Instr.next;simp only;rw[Dm,q];simp only[FX];rw[Dm,ag];simp only[FX,N,yM,if_false,<-hL,Y,Z,Array.append_empty];exact ab
     cases l with
     |nil=>
      have h1:K (.tup [.v (.bool false)]) H=some r:=h1;have ac:L= #[]:=by
       have:=he.nil_inv;exact Array.toList_inj.1 (by simpa using this)
      refine⟨_,_,.tuple #[.bool false],w,h1,u _ ?_,DG.2 ⟨[.bool false],rfl,.cons (.v _) .nil⟩,hr,.refl _ _ _⟩;subst ac;simp[choose,Sem.run,Question.forced]
     |cons V l0=>
      have h1:TX (λe rest=>Ll H s (.iter rest (some e)) λH'=>K (.tup [.v (.bool true),sQ e.1,e.2]) H') (V::l0) []=some r:=h1;have d:L.size=(V::l0).length:=by have:=he.1;simpa using this
      have ak:L.isEmpty=false:=by simp[Array.isEmpty,d]
      obtain⟨j,w1,hj,a1,a2,a3,a4,ae⟩:=A0H (P:=P) w L.size (by rw[d];simp);have aa:j<(V::l0).length:=by rw[<-d];exact hj
      have i:=A11 _ _ h1 j _ (K8 aa);simp only[l3d,Dh]at i;obtain⟨a,F,t,A⟩:=he.2 j _ (K8 aa);have ad:L[j]?=some a:=by simpa using F
      have D:w1.heap[c]?=some (.mapIter (some m) clock seen clock):=by rw[a1];exact g2
      have ai:c<w1.heap.size:=(l1v.1 D).1;have p:=Below.of_heap a1 a2 a3 a4;have am:=hr.of_below p;have k:Ext w0.own C w C w1:=hr.ext_below p;have M:SameObj w1 (w1.putObj c (.mapIter (some m) clock (seen.push a.born) clock)) c (.mapIter (some m) clock (seen.push a.born) clock):=SameObj.putObj ai _;have aj:m≠c:=λe=>by subst e;rw[hm]at g2;cases g2
      have af:(ms.toList.filter λx=>!(seen.push a.born).contains x.born)=L.toList.eraseIdx j:=by
       rw[<-A7e (l:=L.toList) (by rw[n];exact J.born.filter _) j a F,n,List.filter_filter];apply List.filter_congr;intro x _;rw[Array.contains_push];by_cases Q:x.born=a.born<;>simp[Q]
      obtain⟨an,X⟩:=am.set_obj (O:=w0.own) (y:=.iter ((V::l0).eraseIdx j) (some (V::l0)[j])) hl hp M (λarr T fz hc=>by rw[D]at hc;cases hc) (λex=>by
       refine⟨c,some m,clock,seen.push a.born,clock,hp,M.here,.inr ⟨m,ms,clock,rfl,rfl,rfl,hB,(M.others m aj).trans (by rw[a1];exact hm),J,?_,?_⟩⟩
       ·rw[af];exact(he.mono (k.trans ex.weak).bare).eraseIdx j
       ·refine⟨a,?_,Array.back?_push,t,A.mono (k.trans ex.weak).bare⟩;have:=l1m F;rw[n]at this;exact(N_.1 this).1)
      refine⟨_,_,.tuple #[.bool true,a.key,a.val],_,i,u _ ?_,DG.2 ⟨[.bool true,a.key,a.val],rfl,.cons (.v _) (.cons ?_ (.cons ?_ .nil))⟩,an,k.trans X⟩
      ·rw[ak];simp only[yM,if_false,Array.empty_append,Array.size_map];rw[Dm,ae];simp only[FX,Array.getElem?_map,ad,yN];rw[Dm];have:(setObj c (.mapIter (some m) clock (seen.push a.born) clock)).run P w1=.ok () (w1.putObj c (.mapIter (some m) clock (seen.push a.born) clock)):=by simp[setObj,Sem.run,D,World.putObj]
       rw[this];rfl
      ·rw[t];exact fR _
      ·exact((A.up rfl rfl).mono (k.trans X))
  ·cases h1
 ·cases h
def A4b{it:AV}{K:K2}(hr:Rel G w0 C H w)(hv:VRel C w it y)(h:ZE it H K=some r):
 ∃v z,K v=some r/\(Instr.entry y).run P w=.ok z w/\VRel C w v z:=by
 unfold ZE at h;split at h
 ·rename_i s;obtain⟨x,J,h1⟩:=Iy rfl h;clear h;unfold B0p at h1;split at h1
  ·rename_i left p;cases hv with
   |@it _ _ _ b i L=>
    obtain⟨j,O,since,seen,last,A,B,D⟩:=hr.rows s _ J;have c:=A.symm.trans L;injection c with c;injection c with c;injection c with k n;subst k n
    have d:(getObj j).run P w=.ok (.mapIter O since seen last) w:=by simp[getObj,Sem.run,B]
    rcases D with⟨_,_,u⟩|⟨m,ms,clock,q,Q,t,R,hm,g,he,a,k1,M,k3,N⟩
    ·cases u
    ·subst q;have e:(getObj m).run P w=.ok (.map ms clock) w:=l2r hm;have F:ms.find? (·.born==a.born)=some a:=by
      rw[<-Array.find?_toList];exact find_born a ms.toList (by rw[List.nodup_iff_pairwise_ne,List.pairwise_map];exact g.born) k1
     refine⟨_,.tuple #[a.key,a.val],h1,?_,DG.2 ⟨[a.key,a.val],rfl,.cons (by rw[k3];exact fR _) (.cons (N.up rfl rfl) .nil)⟩⟩;simp only[Instr.entry];rw[Dm,d];simp only[FX,M];rw[Dm,e];simp[t,F]
  ·cases h1
 ·cases h
end
end
section
variable{dst:AV}{K:K2}{op:BinOp}{q:Bool}{b base esz n s:Nat}{fz:Nat×Nat}{i ie:TI}{y:Value}
section
variable{P:Program}{G:Gl}{w0:Base}{C:Ctx}{H:Hp}{w:World}{r:AV×Hp}
def Rel.set_row(h:Rel G w0 C H w){x y:Row}(p:Aj H s=some x)(B:Td C w s y):Rel G w0 C (upd H s y) w:=by
 have key:∀t z,Aj (upd H s y) t=some z->(t=s/\z=y)\/(t≠s/\Aj H t=some z):=λt z hz=>by
  by_cases d:t=s
  ·subst d;rw[B8 p]at hz;exact .inl ⟨rfl,(gI hz).1.symm⟩
  ·rw[Ag d]at hz;exact .inr ⟨d,hz⟩
 have c:∀t z,Aj (upd H s y) t=some z->∃e,Aj H t=some e:=λt z hz=>by
  rcases key t z hz with⟨rfl,_⟩|⟨_,h⟩
  ·exact⟨x,p⟩
  ·exact⟨z,h⟩
 refine⟨h.glob,h.below,?_,?_,?_,?_,h.fin,h.finB,λk f=>h.nx k (by rw[BB]at f;exact f)⟩
 ·intro t z hz;obtain⟨e,a⟩:=c t z hz;exact h.lt t e a
 ·intro t z hz;rcases key t z hz with⟨rfl,rfl⟩|⟨_,hz⟩
  ·exact B
  ·exact h.rows t z hz
 ·intro t z k m hz f;obtain⟨e,a⟩:=c t z hz;exact h.own t e k m a f
 ·intro t v z e k m D hz a f g;obtain⟨u,A⟩:=c t z hz;obtain⟨F,j⟩:=c v e a;exact h.sep t v u F k m D A j f g
theorem Laid.take{T:TypeId}{cs:Is}{arr:Array Value}(h:Laid C w s q T cs b base arr fz)(n:Nat):Laid C w s false T (cs.take n) b base arr fz:=
 ⟨h.at_,h.block,h.free,by have:=h.fits;rw[vN];omega,by
  have:=h.vals.unsel.take n;rw[List.take_take]at this;rw[vN];exact this,λh=>by cases h⟩
theorem Td.take{T:TypeId}{cs:Is}(h:Td C w s (.cells q T cs))(n:Nat):Td C w s (.cells false T (cs.take n)):=by
 rcases h with⟨rfl,h⟩|⟨b,base,arr,fz,h⟩
 ·exact .inl ⟨by simp,h⟩
 ·exact .inr ⟨b,base,arr,fz,h.take n⟩
def eX(s:AV)(H:Hp)(K:Ru):Af:=
 match s with
 |.sl sz r o n=>I6 H r λx=>J6 x λE cs=>G6 cs 0 λcl=>@Bool.rec (λ_=>Af) (OW (Nat.add o (Nat.mul n sz)) cs λa=>Ll H r (.cells false E a) K) (K H) (Nat.beq (Nat.add o (Nat.mul n sz)) cl)
 |_=>K H
def rQ{s:AV}{K:Ru}(h:eX s H K=some r):∃a,K a=some r/\As a=As H/\∀{G:Gl}{w0:Base}{C:Ctx}{w:World},Rel G w0 C H w->Rel G w0 C a w:=by
 unfold eX at h;split at h
 ·rename_i sz r1 o n;obtain⟨q,E,cs,c,h1⟩:=K3 h;rw[Cl,Jt]at h1;cases hb:Nat.beq (Nat.add o (Nat.mul n sz)) cs.length
  ·rw[hb]at h1;simp only[MD,Dh]at h1;exact⟨_,h1,BB _ _ _,λhr=>hr.set_row c ((hr.rows _ _ c).take _)⟩
  ·rw[hb]at h1;exact⟨H,h1,rfl,λhr=>hr⟩
 ·exact⟨H,h,rfl,λhr=>hr⟩
def E5(e:TypeId)(esz:Nat)(ie i2:TI)(s x:AV)(H:Hp)(K:KV):Af:=eX s H λa=>Qw e esz ie i2 s x a K
def KD(e:TypeId)(esz:Nat)(ie i2:TI)(s x:AV)(H:Hp)(K:KV):Af:=match x with
 |.sl sz r o n=>SS H (.sl sz r o n) λm c=>eX s H λa=>Qw e esz ie i2 s (.list m c) a K
 |x=>E5 e esz ie i2 s x H K
def A1S(esz:Nat)(dst src:AV)(H:Hp)(K:KV):Af:=
 SS H src λm c=>G6 c 0 λk=>match dst with
  |.sl sz r o n=>ck (Nat.beq k (Nat.mul m esz)&&(Nat.beq sz esz&&(Nat.blt 0 n&&(Nat.ble m n&&(N0 c&&RH esz src))))) (I6 H r λx=>fD x λq E cs=>Er o c cs λa=>Ll H r (.cells q E a) λd=>K (.v (.int .i64 (.ofNat m))) d)
  |_=>none
def uN(esz:Nat)(ie:TI)(dst:AV)(H:Hp)(K:Ru):Af:=
 match dst with
 |.v (.slice none 0 0)=>K H
 |.sl _ _ _ 0=>K H
 |.sl sz r o n=>GX ie.zero λz=>G6 z 0 λk=>ck (Nat.beq k esz&&(Nat.beq sz esz&&N0 z)) (Yt n z λc=>I6 H r λx=>fD x λq E cs=>Er o c cs λa=>Ll H r (.cells q E a) K)
 |_=>none
def xK(n esz:Nat)(x:AV)(c a:Option AV)(H:Hp)(K:K2):Af:=
 match x with
 |.ptr s p k=>I6 H s λy=>J6 y λ_ cs=>G6 cs 0 λcl=>ck (Nat.ble (Nat.add (Nat.add p k) (Nat.mul n esz)) cl)
  (Xq c 0 λl=>Xq a n λh=>ck (Nat.ble l h&&Nat.ble h n) (fN (Nat.add (Nat.add p k) (Nat.mul l esz)) λd=>fN (Nat.sub h l) λm=>K (.sl esz s d m)))
 |_=>none
def Xp(ks:List LK)(op:BinOp)(a b:AV)(K:K2):Af:=
 match a,b with
 |.agg c,.agg d=>mY c λxs=>mY d λe=>ck (fits ks xs) (match YK xs e,op with
  |some q,.eql=>bB q K
  |some q,.neq=>bB (!q) K
  |_,_=>none)
 |_,_=>none
def Rs(i ie:TI)(op:BinOp)(a b:AV)(K:K2):Af:=
 match a,b with
 |.ptr r p k,.ptr e d c=>ck (Nat.beq r e&&(Nat.beq (Nat.add p k) (Nat.add d c)&& !Nat.beq ie.size 0)) (match op with|.eql=>K (.v (.bool true))|.neq=>K (.v (.bool false))|_=>none)
 |a,b=>Ap i op a b K
def xZ{s o:Nat}{E:TypeId}{cs ys:Is}{arr:Array Value}{vs:Hx}(hr:Rel G w0 C H w)(h:Aj H s=some (.cells q E cs))(f:Laid C w s q E cs b base arr fz)(a:o+ys.length<=cs.length)(hv:CI C w ys vs)(c:ys.all AV.one=true):
 ∃e,(storeCells ⟨b,base+o,none⟩ vs 0).run P w=.ok () e/\Rel G w0 C (upd H s (.cells q E (splice cs o ys))) e/\Ext w0.own C w C e:=by
 have k:=f.fits;have g:vs.length=ys.length:=hv.1;obtain⟨e,d,j⟩:=MQ (P:=P) vs w arr (base+o) 0 f.block f.free (by omega) (A1c hv c);have:=hr.store (O:=w0.own) h f a hv (by simpa using j);exact⟨e,d,this.1,this.2⟩
def A37{sz s o n:Nat}{E:TypeId}{cs:Is}(hr:Rel G w0 C H w)(A:Aj H s=some (.cells q E cs))(hv:VRel C w (.sl sz s o n) y)(hn:n≠0):∃b base arr fz cap,y=.slice (some ⟨b,base+o,none⟩) n cap/\n<=cap/\Laid C w s q E cs b base arr fz/\base+o+cap*sz<=arr.size:=by
 cases hv with
 |slz=>exact absurd rfl hn
 |@sl _ _ _ _ _ _ b base cap arr T fz j e hb hsz=>
  rcases hr.rows s _ A with⟨_,x⟩|⟨k,a,c,g,h⟩
  ·rw[x]at j;cases j
  ·have d:=h.at_.symm.trans j;injection d with d;injection d with d;injection d with m p;subst m p
   have f:=h.block.symm.trans hb;injection f with f;injection f with t u v
   subst t u v;exact⟨k,a,c,g,cap,rfl,e,h,hsz⟩
def A4c{T:Ty}(X:jD P T){B ty e:TypeId}{ts:Array TypeId}{dst src:AV}{y z:Value}{K:KV}(L:ts[0]?=some B)(Z:T B=some i)(Y:i.d=.slice e esz)(J:esz≠0)(hr:Rel G w0 C H w)(hv:VRel C w dst y)(hs:VRel C w src z)(h:A1S esz dst src H K=some r):
 ∃v N u A,K v N=some r/\(Builtin.copy_ ts ty #[y,z]).run P w=.ok u A/\Kz G w0 C w v N u C A:=by
 unfold A1S at h;obtain⟨m,ys,q0,x,h1⟩:=Zf h;rw[Cl,Jt]at h1;split at h1
 ·rename_i sz s o n;obtain⟨hc,h2⟩:=B5 h1;simp only[K0,qA,Wr,jJ,FK]at hc;obtain⟨c1,c2,c3,c4,c5,c6⟩:=hc;obtain⟨q,E,cs,R,V⟩:=UQ h2;obtain⟨g,O⟩:=Oq _ _ _ _ _ V;rw[Dh]at O;obtain⟨b,base,arr,fz,cap,rfl,Q,D,hsz⟩:=A37 hr R hv (by omega);obtain⟨j,vs,M,a⟩:=WT (P:=P) (esz:=esz) hr hs x c1 (λq hq=>by subst hq;exact Yo c6);obtain⟨A,t,p,F⟩:=xZ (P:=P) hr R D g M c5;obtain⟨hu,f⟩:=(X B i Z).elem_slice Y;have c:(sizeOf e).run P w=.ok esz w:=by rw[<-f];exact BV w (by rw[f];exact J)
  refine⟨_,_,goInt m,A,O,?_,.v _,p,F⟩;unfold Builtin.copy_;simp only[L,l15,l21,l0r];rw[Dm,run_underlying hu w];simp only[FX];rw[Dm,j];simp only[FX];rw[Dm,c];simp only[FX];have k:Nat.min m n=m:=l22 c4;rw[Dm,k,a w (λ_ _=>rfl)];simp only[FX];rw[Dm,t];rfl
 ·cases h1
def A4e{T:Ty}(Q:jD P T){v ty e:TypeId}{ts:Array TypeId}{K:Ru}(p:ts[0]?=some v)(hi:T v=some i)(hd:i.d=.slice e esz)(B:T e=some ie)(hr:Rel G w0 C H w)(hv:VRel C w dst y)(h:uN esz ie dst H K=some r):
 ∃N u,K N=some r/\(Builtin.clear_ ts ty #[y]).run P w=.ok (.tuple #[]) u/\Rel G w0 C N u/\Ext w0.own C w C u:=by
 obtain⟨X,aa⟩:=(Q v i hi).elem_slice hd;have hz:∀{a:Option Addr}{c:Nat},(Builtin.clear_ ts ty #[.slice a 0 c]).run P w=.ok (.tuple #[]) w:=by
  intro a c;unfold Builtin.clear_;simp only[p,l15,l21];rw[Dm,run_underlying X w];simp only[FX];cases a<;>rfl
 unfold uN at h;split at h
 ·obtain rfl:=AM.1 hv;exact⟨H,w,h,hz,hr,.refl _ _ _⟩
 ·cases hv with
  |slz=>exact⟨H,w,h,hz,hr,.refl _ _ _⟩
  |sl=>exact⟨H,w,h,hz,hr,.refl _ _ _⟩
 ·rename_i sz s o n D;rw[CK,Cl,Jt]at h;obtain⟨hc,h2⟩:=B5 h;simp only[K0,qA,FK]at hc;obtain⟨c1,c2,c3⟩:=hc;rw[Ys]at h2;obtain⟨q,E,cs,V,Z⟩:=UQ h2;obtain⟨f,O⟩:=Oq _ _ _ _ _ Z;rw[Dh]at O;have hn:n≠0:=λe=>D e;obtain⟨b,base,arr,fz,cap,rfl,R,x,hsz⟩:=A37 hr V hv hn;obtain⟨z,L,Y⟩:=(Q e ie B).run_zero w;have F:CI C w (Bw ie.zero) z.cells.toList:=OZ (t:=e) Y;have M:CI C w (XJ n (Bw ie.zero)) ((List.range n).flatMap λ_=>z.cells.toList):=by rw[fE];exact YZ F n
  have g:(XJ n (Bw ie.zero)).all AV.one=true:=by
   rw[fE,List.all_flatMap];simp[c3]
  obtain⟨u,m,j,A⟩:=xZ (P:=P) hr V x f M g;refine⟨_,u,O,?_,j,A⟩;obtain⟨n,rfl⟩:∃k,n=k+1:=⟨n-1,by omega⟩
  unfold Builtin.clear_;simp only[p,l15,l21];rw[Dm,run_underlying X w];simp only[FX];have J:(Builtin.zeroCells z.cells (n+1)).toList=(List.range (n+1)).flatMap λ_=>z.cells.toList:=congrArg Array.toList (eJ z.cells (n+1));rw[Dm,L];simp only[FX,J];rw[Dm,m];rfl
 ·cases h
def A40{T:Ty}(hT:jD P T){ty e:TypeId}{x:AV}{lo hi:Option AV}{yl Y:Option Value}(R:T ty=some i)(hd:i.d=.array n e esz)(X:esz≠0)(hr:Rel G w0 C H w)(hv:VRel C w x y)(V:X? C w lo yl)(Q:X? C w hi Y)(h:xK n esz x lo hi H K=some r):
 ∃v u,K v=some r/\(Instr.sliceAt ty y yl Y none).run P w=.ok u w/\VRel C w v u:=by
 unfold xK at h;split at h
 ·rename_i s p k;obtain⟨q,E,cs,hl,h1⟩:=K3 h;rw[Cl,Jt]at h1;obtain⟨hc,h2⟩:=B5 h1;obtain⟨l,M,h3⟩:=Jo h2;obtain⟨m,N,h4⟩:=Jo h3;obtain⟨hb,Z⟩:=B5 h4;rw[Dy,Dy]at Z;simp only[K0,jJ]at hb;rw[jJ]at hc;have hc:p+k+n*esz<=cs.length:=hc;obtain⟨hu,t⟩:=(hT ty i R).elem_array hd;have f:(sizeOf e).run P w=.ok esz w:=by rw[<-t];exact BV w (by rw[t];exact X)
  have O:=SY (P:=P) (isS:=false) V Q (mx:=none) (ym:=none) trivial (Me n) M N (x:=n) (by simp[Zn]) (by omega) (by simp);cases hv with
  |@ptr _ _ _ _ _ b base J=>
   rcases hr.rows s _ hl with⟨_,h6⟩|⟨L,a,g,aa,c⟩
   ·have:=h6.symm.trans J;cases this
   ·have j:=c.at_.symm.trans J;injection j with j;injection j with j;injection j with e1 e2;subst e1 e2
    have hf:=c.fits;have F:(Instr.sliceAt ty (.pointer (some ⟨L,a+(p+k),none⟩)) yl Y none).run P w=.ok (.slice (some (if n=l then⟨L,a+(p+k),none⟩ else⟨L,a+(p+k)+l*esz,none⟩)) (m-l) (n-l)) w:=by
     unfold Instr.sliceAt;rw[Dm,run_underlying hu w];simp only[FX,Instr.sureAddr];rw[Dm,lM];simp only[FX];rw[Dm,O];simp only[FX,jI];rw[Dm,f];simp only[FX,lM,JW]
    refine⟨_,_,Z,F,?_⟩;by_cases B:n=l
    ·have A:m-l=0:=by omega
     have D:n-l=0:=by omega
     rw[Dl B,A,D];have:Nat.sub m l=0:=A;rw[this];exact .slz (by rw[J];simp)
    ·rw[C5 B];have e4:a+(p+k)+l*esz=a+(Nat.add (Nat.add p k) (Nat.mul l esz)):=by show _=a+(p+k+l*esz);omega
     rw[e4];refine .sl J (Nat.sub_le_sub_right hb.2 l) c.block ?_;show a+(p+k+l*esz)+(n-l)*esz<=g.size;have:l*esz+(n-l)*esz=n*esz:=by rw[<-Z'];congr 1;omega
     omega
 ·cases h
def A4a{t:TypeId}{ks:List LK}{a b:AV}{y z:Value}(x A:Operand)(m:EqFlat P t ks)(B:VRel C w a y)(hb:VRel C w b z)(h:Xp ks op a b K=some r):
 ∃v u,K v=some r/\(do eqGuard op t x A y z;binOp op t y z).run P w=.ok u w/\VRel C w v u:=by
 unfold Xp at h;split at h
 ·rename_i F J;obtain⟨xs,rfl,h1⟩:=dS _ _ h;obtain⟨d,rfl,h2⟩:=dS _ _ h1;obtain⟨e,c⟩:=B5 h2;have D:=rK B;have hz:=rK hb;subst D hz;have p:=run_eqGuard_agg (P:=P) w op t x A xs.toArray d.toArray m.guard;split at c
  ·rename_i q hq;rw[OH]at c;obtain⟨f,g⟩:=Vr hq;refine⟨_,.bool q,c,?_,.v _⟩;rw[Dm,p];simp only[FX];rw[run_eql_struct];have:=m.equal e (g ks e) w;have j:decide (xs=d)=q:=by rw[tS,f];simp
   rw[j]at this;have k:(Op.equalIn 10000 t (.agg xs.toArray) (.agg d.toArray)).run P w=.ok q w:=this;rw[k];rfl
  ·rename_i q hq;rw[OH]at c;obtain⟨f,g⟩:=Vr hq;refine⟨_,.bool (!q),c,?_,.v _⟩;rw[Dm,p];simp only[FX];rw[run_neq_struct];have:=m.equal e (g ks e) w;have j:decide (xs=d)=q:=by rw[tS,f];simp
   rw[j]at this;have k:(Op.equalIn 10000 t (.agg xs.toArray) (.agg d.toArray)).run P w=.ok q w:=this;rw[k];rfl
  ·cases c
 ·cases h
def A49{T:Ty}(j:jD P T){ty e:TypeId}{a b:AV}{y z:Value}(D F:Operand)(M:T ty=some i)(R:i.d=.pointer e)(m:T e=some ie)(J:VRel C w a y)(hb:VRel C w b z)(h:Rs i ie op a b K=some r):
 ∃v u,K v=some r/\(do eqGuard op ty D F y z;binOp op ty y z).run P w=.ok u w/\VRel C w v u:=by
 unfold Rs at h;split at h
 ·rename_i s p k s' p' Z;obtain⟨hc,h1⟩:=B5 h;simp only[K0,qA,Z?]at hc;obtain⟨c1,c2,c3⟩:=hc;subst c1;have c2:p+k=p'+Z:=c2;have B:y=z/\∃c,y=.pointer (some c):=by
   cases J with
   |ptr V=>
    cases hb with
    |ptr t=>
     have f:=V.symm.trans t;injection f with f;injection f with f;injection f with g N;subst g N
     exact⟨by rw[c2],_,rfl⟩
  obtain⟨rfl,c,rfl⟩:=B;obtain⟨u,X,g⟩:=(j ty i M).under;rw[R]at g;have A:u=.pointer e:=by cases u<;>simp[td]at g;rw[g]
  subst A;obtain⟨x,z0,Y,hs,_⟩:=(j e ie m).info;have heq:(Op.equal ty (.pointer (some c)) (.pointer (some c))).run P w=.ok true w:=by
   show(Op.equalIn (9999+1) ty _ _).run P w=_;unfold Op.equalIn;rw[Dm,run_underlying X w];simp[sizeOf,typeInfo,Y,sameAddr]
  have L:=nH (P:=P) (op:=op) (ty:=ty) (x:=D) (y:=F) (a:=.pointer (some c)) (b:=.pointer (some c)) w ⟨by simp,by simp⟩;split at h1
  ·exact⟨_,.bool true,h1,by rw[Dm,L];simp[binOp,heq],.v _⟩
  ·exact⟨_,.bool false,h1,by rw[Dm,L];simp[binOp,heq],.v _⟩
  ·cases h1
 ·obtain⟨v,h1,h2⟩:=zN (T:=T) (ty:=ty) M h;obtain⟨v',u,O,Q,rfl⟩:=qZ j D F J hb h2;exact⟨v',u,h1,O,Q⟩
end
end
section
variable{v:AV}{K:K2}{d e s:TypeId}{y:Value}
def B4j(l:List Lie)(e n o u:Nat):Bool:=@List.rec Lie (λ_=>Bool) false (λp _ ih=>@Bool.rec (λ_=>Bool) ih true (Nat.beq p.1 e&&(Nat.beq p.2.1 n&&(Nat.beq p.2.2.1 o&&Nat.beq p.2.2.2 u)))) l
def A1J(ie:TI)(v:AV)(H:Hp)(K:K2):Af:=
 match v with
 |.ptr s p k=>I6 H s λx=>J6 x λ_ cs=>G6 cs 0 λcl=>ck (Nat.blt (Nat.add p k) cl&& !Nat.beq ie.size 0) (K (.ptr s p k))
 |_=>none
def A1E(l:List Lie)(u:TypeId)(v:AV)(H:Hp)(K:K2):Af:=
 match v with
 |.ptr s p k=>I6 H s λx=>fD x λq E cs=>G6 cs 0 λcl=>ck (q&&B4j l E cl (Nat.add p k) u) (K (.ptr s p k))
 |_=>none
def A7i(s:AV)(K:K2):Af:=
 match s with
 |.sl sz r o n=>ck (Nat.beq sz 1&&Nat.blt 0 n) (K (.ptr r o 0))
 |_=>none
def A3X(e:TypeId)(p n:AV)(H:Hp)(K:KV):Af:=
 match p with
 |.ptr s o k=>O? n λz=>iN z λn=>I6 H s λx=>J6 x λE cs=>ck (Nat.beq E e&&(Nat.blt 0 n&&Nat.blt n 9223372036854775807)) (Ek n (Dg (Nat.add o k) cs) λb=>fu8 b λl=>Ll H s .gone λa=>K (.v (.string ⟨⟨l⟩⟩)) a)
 |_=>none
def B0l{l:List Lie}{e n o u:Nat}(h:B4j l e n o u=true):(e,n,o,u)∈l:=by
 induction l with
 |nil=>cases h
 |cons p l ih=>
  have h:@Bool.rec (λ_=>Bool) (B4j l e n o u) true (Nat.beq p.1 e&&(Nat.beq p.2.1 n&&(Nat.beq p.2.2.1 o&&Nat.beq p.2.2.2 u)))=true:=h;cases hq:(Nat.beq p.1 e&&(Nat.beq p.2.1 n&&(Nat.beq p.2.2.1 o&&Nat.beq p.2.2.2 u)))
  ·rw[hq]at h;exact List.mem_cons_of_mem _ (ih h)
  ·simp only[K0,qA]at hq;obtain⟨h1,h2,f,g⟩:=hq;obtain⟨a,b,c,d⟩:=p;simp only at h1 h2 f g;subst h1 h2 f g;exact List.mem_cons_self
section
variable{P:Program}{G:Gl}{w0:Base}{C:Ctx}{H:Hp}{w w':World}{r:AV×Hp}
def A44{T:Ty}(F:jD P T){i ie:TI}(V:T s=some i)(R:i.d=.pointer e)(m:T e=some ie)(A:P.underlying d=some .unsafePointer)(hr:Rel G w0 C H w)(hv:VRel C w v y)(h:A1J ie v H K=some r):
 K v=some r/\(convert s d y).run P w=.ok y w:=by
 unfold A1J at h;split at h
 ·rename_i t p k;obtain⟨q,E,cs,X,h1⟩:=K3 h;rw[Cl,Jt]at h1;obtain⟨hc,h2⟩:=B5 h1;simp only[K0,Wr,Z?]at hc;obtain⟨c1,c2⟩:=hc;have c1:p+k<cs.length:=c1;refine⟨h2,?_⟩;cases hv with
  |@ptr _ _ _ _ _ b B J=>
   rcases hr.rows t _ X with⟨_,Q⟩|⟨L,a,c,O,f⟩
   ·have:=Q.symm.trans J;cases this
   ·have g:=f.at_.symm.trans J;injection g with g;injection g with g;injection g with M N;subst M N
    have hf:=f.fits;obtain⟨u,Z,j⟩:=(F s i V).under;rw[R]at j;have n:u=.pointer e:=by cases u<;>simp[td]at j;rw[j]
    subst n;obtain⟨x,z0,hx,Y,_⟩:=(F e ie m).info;have hsz:x.size≠0:=λD=>by rw[Y]at D;rw[D]at c2;simp at c2
    exact Lib.run_to_unsafe w ⟨L,a+(p+k),none⟩ Z A hx hsz (e:=E) (cells:=c.size) (by simp[World.shape?,f.block]) (by show a+(p+k)<c.size;omega)
 ·cases h
def A3Y{l:List Lie}(m:∀e n o u,(e,n,o,u)∈l->liesAt P P.depth e (n/P.cellsOf e) o u 1=true/\(P.info? u).isSome=true){s d u:TypeId}(A:P.underlying s=some .unsafePointer)(O:P.underlying d=some (.pointer u))(hr:Rel G w0 C H w)(hv:VRel C w v y)(h:A1E l u v H K=some r):
 K v=some r/\(convert s d y).run P w=.ok y w:=by
 unfold A1E at h;split at h
 ·rename_i t p k;obtain⟨q,E,cs,R,h1⟩:=UQ h;rw[Cl,Jt]at h1;obtain⟨hc,h2⟩:=B5 h1;simp only[K0]at hc;obtain⟨c1,c2⟩:=hc;obtain⟨c,f⟩:=m _ _ _ _ (B0l c2);refine⟨h2,?_⟩;cases hv with
  |@ptr _ _ _ _ _ b B D=>
   rcases hr.rows t _ R with⟨_,N⟩|⟨F,x,g,M,a⟩
   ·have:=N.symm.trans D;cases this
   ·have i:=a.at_.symm.trans D;injection i with i;injection i with i;injection i with J L;subst J L
    obtain⟨V,X⟩:=a.exact c1;subst V;obtain⟨j,Q⟩:=Option.isSome_iff_exists.1 f;refine Lib.run_from_unsafe w ⟨F,0+(p+k),none⟩ A O Q (e:=E) (cells:=g.size) (by simp[World.shape?,a.block]) ?_;rw[X,Jt];exact c
 ·cases h
def Rel.change(h:Rel G w0 C H w){s b base:Nat}{x:Row}(L:Aj H s=some x)(M:C.π s=some (some (b,base)))(q:w'.os=w.os)(X:w'.tape=w.tape)(B:w'.output=w.output)(hsz:w'.heap.size=w.heap.size)(g:∀k,k≠b->w'.heap[k]?=w.heap[k]?)(hb:∀arr T fz,w.heap[b]?=some (.cells arr T fz)->∃m A,w'.heap[b]?=some (.cells m T A)/\m.size=arr.size):Rel G w0 C (cut H s) w'/\Ext w0.own C w C w':=by
 have j:=h.own s x b base L M;have e:Ext w0.own C w C w':=by
  refine⟨λ_ _=>rfl,λ_ _ h=>h,λk i h=>?_,λ_ h=>h,λk h=>g k (λe=>j.2.2 (e▸h)),λk a t f h=>?_,λ_ _ h=>.inl h,λ_ h=>.inl h,Nat.le_of_eq hsz.symm⟩
  ·exact l0t (g k (λe=>j.2.1 i (e▸h)))
  ·by_cases n:k=b
   ·subst n;exact hb a t f h
   ·exact⟨a,f,(g k n).trans h,rfl⟩
 have c:∀t z,Aj (cut H s) t=some z->t≠s/\Aj H t=some z:=λt z hz=>by
  by_cases p:t=s
  ·subst p;rw[PZ]at hz;cases hz
  ·rw[Tw p]at hz;exact⟨p,hz⟩
 refine⟨⟨h.glob.mono e,⟨q.trans h.below.os,X.trans h.below.tape,B.trans h.below.output,by rw[hsz];exact h.below.size,λk n J=>(g k (λe=>?_)).trans (h.below.block k n J)⟩,λt z hz=>h.lt t z (c t z hz).2,λt z hz=>(h.rows t z (c t z hz).2).mono e (λk u D=>g k (λQ=>?_)),
  λt z k o hz=>h.own t z k o (c t z hz).2,λt N z O k Y Z hz F=>h.sep t N z O k Y Z (c t z hz).2 (c N O F).2,λk i V=>hsz▸h.fin k i V,λk R=>hsz▸h.finB k R,λk n=>h.nx k (by rw[cut,BB]at n;exact n)⟩,e⟩
 ·subst e;rcases j.1 with q|q
  ·omega
  ·exact J q
 ·subst Q;exact(c t z hz).1 (h.sep t s z x _ _ _ (c t z hz).2 L D M)
def xD(hc:P.cellsOf e=1)(count off n:Nat)(hn:off+n<=count):liesAt P P.depth e count off e n=true:=by
 have a:P.depth=(2*(P.types.size+Made.depth)+1)+1:=rfl;rw[a];simp only[liesAt,l1i];left;rw[a];simp[rowAt,hc,hn,sameLayout,Nat.mod_one]
def A3W{T:Ty}(hT:jD P T){e J it ty:TypeId}{F ie:TI}{p n:AV}{y z:Value}{K:KV}(ak:T J=some F)(hd:F.d=.pointer e)(ah:T e=some ie)(ad:ie.size=1)(hr:Rel G w0 C H w)(hv:VRel C w p y)(hn:VRel C w n z)(h:A3X e p n H K=some r):
 ∃v H' u w',K v H'=some r/\(Builtin.unsafeString_ #[J,it] ty #[y,z]).run P w=.ok u w'/\Kz G w0 C w v H' u C w':=by
 unfold A3X at h;split at h
 ·rename_i s o k;obtain⟨kk,zz,rfl,h1⟩:=PH h;obtain⟨m,rfl,h2⟩:=Wt h1;obtain⟨q,E,cs,hl,h3⟩:=K3 h2;obtain⟨hc,h4⟩:=B5 h3;simp only[K0,qA,Wr]at hc;obtain⟨c1,c2,c3⟩:=hc;subst c1;obtain⟨x,h5⟩:=Ns _ _ _ _ h4;rw[Cy]at x h5;obtain⟨f,Z,h6⟩:=A1s _ _ h5;rw[Dh]at h6;obtain rfl:=AM.1 hn;have ax:o+k+m<=cs.length:=by
   have:m<=(cs.drop (o+k)).length:=x;simp at this;omega
  cases hv with
  |@ptr _ _ _ _ _ b ap hp=>
   rcases hr.rows s _ hl with⟨_,h7⟩|⟨g,c,t,aq,i⟩
   ·have:=h7.symm.trans hp;cases this
   ·have L:=i.at_.symm.trans hp;injection L with L;injection L with L;injection L with e1 e2;subst e1 e2
    have hf:=i.fits;have aj:f.length=m:=by
     have:=congrArg List.length Z;simp at this;have:(cs.drop (o+k)).length=cs.length-(o+k):=by simp
     simp_all
    have A:∀j(R:j<f.length),w.cell? ⟨g,c+(o+k)+j,none⟩=some (.int .u8 (f[j]:Int)):=λj R=>by
     have ag:cs[o+k+j]?=some (.v (.int .u8 (f[j]:Int))):=by
      have:=congrArg (λl=>l[j]?) Z;simp only[l0n,tT,xE]at this;rw[Dl (by omega),K8 R]at this;simpa using this
     obtain⟨hi,af⟩:=yO.1 ag;obtain⟨y,hy,aa⟩:=i.get _ hi;rw[af]at aa;rw[<-AM.1 aa];rw[<-hy]
     congr 2
     omega
    obtain⟨hu,N⟩:P.underlying J=some (.pointer E)/\P.cellsOf E=1:=by
     obtain⟨u,hu,eu⟩:=(hT J F ak).under;rw[hd]at eu;have an:u=.pointer E:=by cases u<;>simp[td]at eu;rw[eu]
     subst an;exact⟨hu,by rw[(hT E ie ah).cellsOf,ad]⟩
    have D:∀(f:Hb)(off:Nat)(acc:ByteArray),(∀j(R:j<f.length),w.cell? ⟨g,off+j,none⟩=some (.int .u8 (f[j]:Int)))->
     (loadBytes ⟨g,off,none⟩ acc f.length).run P w=.ok ⟨acc.data++(f.map UInt8.ofNat).toArray⟩ w:=by
     intro f
     induction f with
     |nil=>intro off acc _;simp[loadBytes]
     |cons n f ih=>
      intro off acc hc;have h0:w.cell? ⟨g,off,none⟩=some (.int .u8 (n:Int)):=hc 0 (by simp);have ao:=ih (off+1) (acc.push (UInt8.ofNat n)) (λj R=>by
       have:=hc (j+1) (by simpa using R);simpa [lN,Nat.add_comm 1 j] using this)
      have hx:((n:Int).toNat).toUInt8=UInt8.ofNat n:=by simp
      simp only[LV,loadBytes,Dm,run_load,h0,Result.andThen,hx,JW];rw[ao]
      congr 1
      apply ByteArray.ext;simp[ByteArray.push]
    have V:=D f (c+(o+k)) .empty A;rw[aj]at V;have B:liesAt P P.depth E (t.size/P.cellsOf E) (c+(o+k)) E m=true:=xD N _ _ _ (by rw[N,Nat.div_one];omega);have O:=hr.change (w':=w.freeze ⟨g,c+(o+k),none⟩ m) hl hp (by unfold World.freeze;split<;>rfl) (by unfold World.freeze;split<;>rfl) (by unfold World.freeze;split<;>rfl) (by unfold World.freeze;split<;>simp) (λk' ai=>by
     unfold World.freeze;split
     ·rfl
     ·simp only[l0s];rw[C5 (λe=>ai e.symm)]) (λarr T0 ar ae=>by
     unfold World.freeze;rw[C5 (by omega)];simp only[l0s,if_true,ae,yN];exact⟨arr,_,rfl,rfl⟩)
    refine⟨_,_,.string ⟨⟨f.map UInt8.ofNat⟩⟩,_,h6,?_,.v _,O.1,O.2⟩;have X:IntKind.i64.max=9223372036854775807:=rfl;have Q:Builtin.unsafeString_ #[J,it] ty #[.pointer (some ⟨g,c+(o+k),none⟩),.int kk m]=
     (do
      let n<-asInt (.int kk m)
      if n<0 then runtimePanic (.error "unsafe.String: len out of range")
      if n>IntKind.i64.max then unsupported (.unsafePointer "String: a length above the largest int")
      if n=0 then pure (.string .empty)
      else if<-variablesAt ⟨g,c+(o+k),none⟩ (<-elemOf J) n.toNat then do
       let s<-loadBytes ⟨g,c+(o+k),none⟩ .empty n.toNat
       freeze ⟨g,c+(o+k),none⟩ n.toNat
       pure (.string s)
      else unsupported (.unsafePointer "String: not so many bytes at ptr")):=rfl
    rw[Q];have Y:¬(m:Int)<0:=by omega
    have M:¬(9223372036854775807:Int)<(m:Int):=by omega
    have hz:¬m=0:=by omega
    have am:w.shape? g=some (E,t.size):=by simp[World.shape?,i.block]
    simp[asInt,asIntOf,X,Y,M,hz,variablesAt,am,elemOf,run_underlying hu,B,V]
 ·cases h
def A5Z{t:Tm}{N:Nat}{ro:Option Nat}{o:Oper}{c:Call}{f:FuncId}{h:Operand}{first cap:Is}{K:AV->Hp->Prop}(B:jG P f)(p:o.op=.call c)(g:c.callee=.value h)(i:JL G t h=.fn (.func f) first cap)(A:first++c.args.toList.map (JL G t)++cap=[v])(x:K v H):TB P G ro N o t H K:=by
 refine UA (λc hc=>by rw[p]at hc;cases hc) λw0 L C N a w s=>?_;have hv:=AY s h;rw[i]at hv;obtain⟨D,J,he,m,n⟩:=Jr.1 hv;have b:=(m.append (vB s c.args.toList)).append n;rw[A]at b;obtain⟨y,F,q,k,j⟩:=b.cons_inv;have u:=j.nil_inv;subst u;refine⟨v,H,y,C,w,x,.inl ?_,k,s.rel,.refl _ _ _⟩;have:(D++c.args.toList.map a.eval++J).toArray= #[y]:=by rw[q]
 have hr:=B y w;simp only[execOp,p,resolve,g,he,Deferred.ofValue,Dm,lM,FX,invoke];rw[<-hr]
 congr 2
 rw[<-this];apply pF;simp
end
end
section
variable{a:Act}{c rest:Code}{w:World}
def qL(P:Program)(c rest:Code)(Q:Exit->Act->World->Prop)(a:Act)(w:World):Prop:=
 ∀(b:Frame)(k:List Item)(cs:List Frame),∃e d f,Q e d f/\Arrives P (lone (b.at a (.code rest:: .inScope c::k)) cs w) b k cs e d f
def A3O{P:Program}{Q s:Exit->Act->World->Prop}(x:∀l a w,s (.goto l) a w->∃i,findLabel c l=some i/\qL P c i Q a w)(hq:∀e a w,(∀l,e≠.goto l)->s e a w->Q e a w)(h:rest.wp P s a w):qL P c rest Q a w:=by
 intro b k cs;obtain⟨e,d,g,h1,f⟩:=h b (.inScope c::k) cs;cases e with
 |normal=>exact⟨.normal,d,g,hq _ _ _ (by simp) h1,Steps.trans f (.one step_inScope)⟩
 |exit id=>exact⟨.exit id,d,g,hq _ _ _ (by simp) h1,λB y=>f B (by simp[exitTo,y])⟩
 |goto l=>
  obtain⟨i,v,A⟩:=x l d g h1;have u:gotoIn l (.inScope c::k)=some (.code i:: .inScope c::k):=by simp[gotoIn,v]
  obtain⟨q,p,r,n,j⟩:=A b k cs;exact⟨q,p,r,n,.of_steps (f _ u) j⟩
 |ret=>exact⟨_,d,g,hq _ _ _ (by simp) h1,f⟩
 |panic C=>exact⟨_,d,g,hq _ _ _ (by simp) h1,f⟩
 |outgrown=>exact⟨_,d,g,hq _ _ _ (by simp) h1,f⟩
def A0i{P:Program}{Q:Exit->Act->World->Prop}(h:qL P c c Q a w):(Code.scope c).wp P Q a w:=by
 intro b k cs;obtain⟨e,d,g,hq,f⟩:=h b k cs;exact⟨e,d,g,hq,.of_steps (.one step_scope) f⟩
section
variable{P:Program}{G:Gl}{m N:Nat}{t:Tm}{H:Hp}{Q:Exit->Tm->Hp->Prop}
def X_(P:Program)(G:Gl)(m N:Nat)(c rest:Code)(Q:Exit->Tm->Hp->Prop)(t:Tm)(H:Hp):Prop:=
 ∀w0 b C a w,St G w0 b C N t H a w->qL P c rest (MG G w0 b m C N w Q) a w
def A7B(h:X_ P G m N c c Q t H):To P G none m N (.scope c) Q t H:=λw0 b C a w s=>wpIn_wide.2 (A0i (h w0 b C a w s))
def zU{n:Exit->Tm->Hp->Prop}(F:∀l t H,n (.goto l) t H->∃d,findLabel c l=some d/\X_ P G m N c d Q t H)(hq:∀e t H,(∀l,e≠.goto l)->n e t H->Q e t H)(h:To P G none m N rest n t H):X_ P G m N c rest Q t H:=by
 intro w0 y C a w s;refine A3O ?_ ?_ (wpIn_wide.1 (h w0 y C a w s))
 ·rintro l x A ⟨j,i,g,v,u,p⟩;obtain⟨d,D,J⟩:=F l i g p;refine⟨d,D,?_⟩;intro b k cs;obtain⟨B,a2,K,r,f⟩:=J w0 y j x A v b k cs;exact⟨B,a2,K,r.later u,f⟩
 ·rintro e x A q ⟨j,i,g,v,u,p⟩;exact⟨j,i,g,v,u,hq e i g q p⟩
end
end
section
variable{K:K2}
def SM(a:AV):Bool:=match a with
 |.v (.map _)=>false
 |.v _=>true
 |_=>false
def SF(f:AV->K2->Af)(l:Is):(Is->Af)->Af:=
 @List.rec AV (λ_=>(Is->Af)->Af) (λK=>K []) (λa _ ih K=>f a λb=>ih λc=>K (b::c)) l
def A3H(a:AV)(K:K2):Af:=
 match a with
 |.v x=>K (.v x)
 |.list n cs=>ck (cs.all SM) (K (.list n cs))
 |_=>none
def A3G(H:Hp)(ih:AV->K2->Af)(a:AV)(K:K2):Af:=
 match a with
 |.v x=>K (.v x)
 |.list n cs=>ck (cs.all SM) (K (.list n cs))
 |.agg cs=>SF ih cs λb=>K (.agg b)
 |.tup cs=>SF ih cs λb=>K (.tup b)
 |.sl sz r o n=>I6 H r λx=>J6 x λ_ cs=>Ek (Nat.mul n sz) (Dg o cs) λc=>SF ih c λd=>K (.list n d)
 |_=>none
def Nr(H:Hp)(D:Nat):AV->K2->Af:=@Nat.rec (λ_=>AV->K2->Af) A3H (λ_ ih=>A3G H ih) D
def J4(R:Rt)(f:Nat)(args:Is)(H:Hp)(K:K2):Af:=
 match args with
 |[.ptr s 0 0]=>I6 H s λx=>fD x λq _ cs=>match q,cs with
  |true,[.mp m]=>I6 H m λy=>oZ y λa=>ck (a.all λp=>iT 3 p.2) (Ar (R.call f [.iptr [.imap a]] [] λv b=>Nr b depth v λc=>some (c,[])) K)
  |_,_=>none
 |_=>Ao R f args H K
section
variable{G:Gl}{w0:Base}{C C2:Ctx}{H:Hp}{w:World}{r:AV×Hp}
def M_{f:AV->K2->Af}(m:∀a y K,VRel C w a y->f a K=some r->∃b,VRel C2 w b y/\K b=some r):
 ∀(l:Is)(ys:Hx)(K:Is->Af),CI C w l ys->SF f l K=some r->∃c,CI C2 w c ys/\K c=some r:=by
 intro l
 induction l with
 |nil=>intro ys K d h;exact⟨[],by rw[d.nil_inv];exact .nil,h⟩
 |cons a l ih=>
  intro ys K d h;obtain⟨y,e,rfl,h1,h2⟩:=d.cons_inv;have h:(f a λb=>SF f l λc=>K (b::c))=some r:=h;obtain⟨b,g,i⟩:=m a y _ h1 h;obtain⟨c,j,k⟩:=ih e _ h2 i;exact⟨_,.cons g j,k⟩
def A1e(hr:Rel G w0 C H w)(h2:C2.bare=C2)(u:∀s x k o,Aj H s=some x->C.π s=some (some (k,o))->∀i,C2.F k i)(q:∀n cs y,cs.all SM=true->VRel C w (.list n cs) y->VRel C2 w (.list n cs) y):∀(D:Nat)(a:AV)(y:Value)(K:K2),VRel C w a y->Nr H D a K=some r->∃X,VRel C2 w X y/\K X=some r:=by
 intro D
 induction D with
 |zero=>
  intro a y K hv h;change A3H a K=some r at h;unfold A3H at h;split at h
  ·exact⟨_,by rw[AM.1 hv];exact .v _,h⟩
  ·obtain⟨h1,h⟩:=B5 h;exact⟨_,q _ _ _ h1 hv,h⟩
  ·cases h
 |succ D ih=>
  intro a y K hv h;have M:=λl A K=>M_ (f:=Nr H D) (C:=C) (C2:=C2) (w:=w) (r:=r) ih l A K;change A3G H (Nr H D) a K=some r at h;unfold A3G at h;split at h
  ·exact⟨_,by rw[AM.1 hv];exact .v _,h⟩
  ·obtain⟨h1,h⟩:=B5 h;exact⟨_,q _ _ _ h1 hv,h⟩
  ·obtain⟨A,rfl,Q⟩:=EO.1 hv;obtain⟨V,h1,h2⟩:=M _ _ _ Q h;exact⟨_,EO.2 ⟨A,rfl,h1⟩,h2⟩
  ·obtain⟨A,rfl,Q⟩:=DG.1 hv;obtain⟨V,h1,h2⟩:=M _ _ _ Q h;exact⟨_,DG.2 ⟨A,rfl,h1⟩,h2⟩
  ·rename_i sz s o n;obtain⟨q0,e,cs,t,h1⟩:=K3 h;obtain⟨c,g⟩:=Ns _ _ _ _ h1;rw[Cy]at c g;cases hv with
   |slz ad=>
    have g:SF (Nr H D) ((cs.drop o).take (0*sz)) (λc'=>K (.list 0 c'))=some r:=g;rw[Nat.zero_mul,List.take_zero]at g;exact⟨_,.list0,g⟩
   |@sl _ _ _ _ _ _ bk Y cap arr T fz L p ab Z=>
    rcases hr.rows s _ t with⟨_,h6⟩|⟨b',b,j,aa,B⟩
    ·rw[h6]at L;cases L
    ·have m:=B.at_.symm.trans L;injection m with m;injection m with m;injection m with e1 e2;subst e1 e2
     have d:CI C w ((cs.drop o).take (n*sz)) ((((j.toList.drop b).take cs.length).drop o).take (n*sz)):=(B.vals.unsel.drop o).take _;obtain⟨V,g,h4⟩:=M _ _ _ d g;have ac:V.length=n*sz:=by
      rw[<-g.1,d.1,vN];have:n*sz<=(cs.drop o).length:=c;omega
     refine⟨_,.list p (λi=>((((j.toList.drop b).take cs.length).drop o).take (n*sz)).getD i undef) (λi J=>u s _ _ _ t L _) (λi J=>?_) (λi J=>?_),h4⟩
     ·have N:i<n*sz:=by omega
      have O:o+i<cs.length:=by have:n*sz<=(cs.drop o).length:=c;simp at this;omega
      rw[lN,B.cell];rw[Vf,l0n,Dl N,tT,l0n,Dl O,tT,l27];have hf:=B.fits;rw[l1p (by omega)];rfl
     ·have:=g.get i J;rw[h2,Vf,K8 (by rw[g.1];exact J)];exact this
  ·cases h
variable{D:XE->Cf->Nat->List Oper->Bool}{E:XE}{P:Program}{R:Rt}{f:Nat}{args:Is}
def X'(hR:RSound D E P R)(h:J4 R f args H K=some r):ZF P f/\QP P E.G f args H (λv H'=>H'=H/\K v=some r):=by
 unfold J4 at h;split at h
 rotate_left
 ·exact YL hR h
 rename_i s;obtain⟨q,T,cs,a3,h⟩:=UQ h;split at h
 rotate_left
 ·cases h
 rename_i _ _ m;obtain⟨x,az,h⟩:=Iy rfl h;unfold oZ at h;split at h
 rotate_left
 ·cases h
 rename_i _ es bo;obtain⟨ar,h⟩:=B5 h;obtain⟨v0,H0,V,am⟩:=Rz h;have hc:=(hR.call _ _ _ _ _ V).2;refine⟨(hR.call _ _ _ _ _ V).1,?_⟩;intro w0 C w ys hr ha;obtain⟨y,ba,rfl,ao,ap⟩:=ha.cons_inv;have:=ap.nil_inv;subst this;cases ao with
 |@ptr _ _ _ _ _ b ac L=>
 rcases hr.rows s _ a3 with⟨h1,_⟩|⟨b',ak,arr,fz,hd⟩
 ·cases h1
 have e':=hd.at_.symm.trans L;injection e' with e';injection e' with e';injection e' with e1 e2;subst e1 e2
 obtain⟨aq,hsz⟩:=hd.exact rfl;subst aq;have hsz:arr.size=1:=hsz;obtain⟨vm,ab,Z⟩:=hd.vals.2 0 _ (by rfl:([AV.mp m])[0]?=some (.mp m));have Z:VRel C w (.mp m) vm:=Z;have ab:arr[0]?=some vm:=by simpa using ab
 obtain⟨bm,ms,clock,rfl,a9,ad,ah,he, -⟩:=dL hr az Z;have A:w.cell? ⟨b',0,none⟩=some (.map (some bm)):=by rw[hd.cell];exact ab
 have aa:∀i,i≠0->w.cell? ⟨b',i,none⟩=none:=λi c=>by rw[hd.cell];exact Array.getElem?_eq_none (by omega)
 let X:Ctx:={π:=λ_=>none,F:=λk i=>C.F k i\/k=b',B:=λk=>C.B k\/k=bm}
 have ag:bm<w.heap.size:=(l1v.1 ad).1;have J:(∀k i,X.F k i->k<w.heap.size)/\∀k,X.B k->k<w.heap.size:=
  ⟨λk i d=>d.elim (hr.fin k i) λe=>e▸hd.lt,λk hB=>hB.elim (hr.finB k) λe=>e▸ag⟩
 have eb:Ext (λ_=>True) C.bare w X.bare w:=⟨λ_ h=>absurd rfl h,λ_ _ h=>.inl h,λ_ _ _=>rfl,λ_ h=>.inl h,λ_ _=>rfl,λ_ a _ f h=>⟨a,f,h,rfl⟩,λ_ _ _=>.inr trivial,λ_ _=>.inr trivial,Me _⟩
 have a5:VRel X w (.imap es) (.map (some bm)):=by
  refine .imap ms (.inr rfl) ad (by rw[<-he.1];simp) (λi c=>?_) (λi j ay hj=>?_) (λi c=>?_) (λi c=>?_)
  ·obtain⟨mm,u,N, -⟩:=he.2 i _ (K8 c);have Y:ms[i]?=some mm:=by simpa using u
   simp[eH,Y,N]
  ·have af:j<ms.size:=by have:=he.1;simp at this;omega
   have O:i<ms.size:=by omega
   have:=(l26.1 ah.born) i j (by simpa using O) (by simpa using af) ay;simpa [eH,O,af] using this
  ·have O:i<ms.size:=by have:=he.1;simp at this;omega
   have:=ah.lt ms[i] (by simp);simpa [eH,O] using this
  ·obtain⟨mm,u, -,h6⟩:=he.2 i _ (K8 c);have Y:ms[i]?=some mm:=by simpa using u
   have h7:(ms.getD i default)=mm:=by simp[eH,Y]
   rw[h7];have h8:=VRel.down (C:=C) (C':=C.bare) rfl rfl 3 _ _ (GE.1 ar _ (PD c)) h6;exact h8.mono eb
 have a6:VRel X w (.iptr [.imap es]) (.pointer (some ⟨b',0+(0+0),none⟩)):=
  .iptr (λ_=>.map (some bm)) (λ_ _=>.inr rfl) (λi c=>by
   have:i=0:=by simpa using c
   subst this;exact A) (λi c=>by
   have:i=0:=by simpa using c
   subst this;exact a5)
 have an:Rel E.G ⟨w,λ_=>False⟩ X [] w:=
  ⟨λg cs hg i v hv=>⟨.inl (hr.glob g cs hg i v hv).1,(hr.glob g cs hg i v hv).2⟩,.refl _ _,λ_ _ h=>by simp[Aj]at h,λ_ _ h=>by simp[Aj]at h,λ_ _ _ _ h=>by simp[Aj]at h,λ_ _ _ _ _ _ _ h=>by simp[Aj]at h,J.1,J.2,λ_ _=>rfl⟩
 refine(hc _ X w _ an (.cons a6 .nil)).mono ?_;rintro e w' ⟨v,y,C',H',rfl,M,hv,hx,t⟩;have hb:Below w.heap.size w w':=M.below.toBelow;have Q:∀k,Base.own ⟨w,λ_=>False⟩ k->w.heap.size<=k:=λk h=>h.elim id (λh=>h.elim)
 let C2:Ctx:={π:=C.π,F:=λk i=>C.F k i\/(w.heap.size<=k/\(C'.F k i\/∃s x o,Aj H' s=some x/\C'.π s=some (some (k,o)))),B:=C.B}
 have e:Ext w0.own C w C2 w':=⟨λ_ _=>rfl,λ_ _ h=>.inl h,λk i h=>hb.cell (p:=⟨k,i,none⟩) (hr.fin k i h),λ_ h=>h,λk h=>hb.block k (hr.finB k h),
  λk arr T fz h=>⟨arr,fz,(hb.block k (l1v.1 h).1).trans h,rfl⟩,λk i h=>h.imp id (λh=>.inl (ZK hr.below.size h.1)),λk h=>.inl h,hb.size⟩
 have ai:Rel E.G w0 C2 H w':=by
  refine⟨hr.glob.mono e,hr.below.below hb,hr.lt,λs x t=>(hr.rows s x t).mono e (λk ac L=>hb.block k ((hr.rows s x t).block (E8 t) L)),λs x k o t L=>?_,hr.sep,λk i d=>?_,λk hB=>l2s (hr.finB k hB) hb.size,hr.nx⟩
  ·have h1:=hr.own s x k o t L;have h2:=(hr.rows s x t).block (E8 t) L;refine⟨h1.1,λi d=>?_,h1.2.2⟩;rcases d with d|d
   ·exact h1.2.1 i d
   ·have:=d.1;omega
  ·rcases d with d|⟨_,d|⟨s,x,o,t,L⟩⟩
   ·exact l2s (hr.fin k i d) hb.size
   ·exact M.fin k i d
   ·exact(M.rows s x t).block (E8 t) L
 obtain⟨v',a4,hK⟩:=A1e (C2:=C2.bare) M rfl (λs x k o t L i=>.inr ⟨Q k (M.own s x k o t L).1,.inr ⟨s,x,o,t,L⟩⟩) (λn cs y ax hy=>by
  cases hy with
  |list0=>exact .list0
  |@list _ _ _ cap _ bb o h vs d ae a7=>
   have aj:∀i(c:i<cs.length),∃z:Value,cs[i]=.v z/\vs i=z/\∀k,z≠.map k:=λi c=>by
    have h1:=GE.1 ax _ (PD c);have h2:=a7 i c;cases hq:cs[i] with
    |v z=>
     rw[hq]at h1 h2;refine⟨z,rfl,AM.1 h2,λk e=>?_⟩;subst e;simp[SM]at h1
    |_=>rw[hq]at h1;simp[SM]at h1
   refine .list h vs (λi c=>?_) ae (λi c=>?_)
   ·obtain⟨z,_,h2,h3⟩:=aj i c;rcases hx.new _ _ (d i c) with u|u
    ·rcases u with u|u
     ·exact .inl u
     ·exfalso;have N:=hx.keep bb (o+i) (.inr u);rw[ae i c]at N;subst u;by_cases ho:o+i=0
      ·rw[ho,A]at N;injection N with N
       exact h3 _ (h2.symm.trans N)
      ·rw[aa _ ho]at N;cases N
    ·exact .inr ⟨Q _ u,.inl (d i c)⟩
   ·obtain⟨z,h1,h2,_⟩:=aj i c;rw[h1,<-h2];exact .v _) depth v y _ hv t
 injection hK with hK
 injection hK with hK a8
 subst hK;exact⟨v',y,C2,H,rfl,ai,a4.up rfl rfl,e.frm,rfl,am⟩
def zpm(E:XE)(g:Nat)(R:Rt)(all:Is)(H:Hp)(K:K2):Af:=(λ(_:Unit)=>@Bool.rec (λ_=>Af) (Ao R g all H K) (J4 R g all H K) (E.lm g)) Iv
def eA{X:XE}(a:RSound D E P R)(h:zpm X f R args H K=some r):ZF P f/\QP P E.G f args H (λv b=>b=H/\K v=some r):=by
 change @Bool.rec (λ_=>Af) (Ao R f args H K) (J4 R f args H K) (X.lm f)=some r at h;cases hq:X.lm f
 ·rw[hq]at h;exact YL a h
 ·rw[hq]at h;exact X' a h
end
end
section
variable{K:K2}{x:Operand}{i:TI}{kt:TypeId}
def Kd(E:XE)(t:Tm)(x:Operand)(K:K2):Af:=
 match x with
 |.tmp i=>gtm t i K
 |.const v=>K (sQ v)
 |.global g=>E.gl.getK g λcs=>K (.iptr cs)
 |.func f=>K (.fn (.func f) [] [])
def qR(E:XE)(t:Tm)(l:List Operand):(Is->Af)->Af:=
 @List.rec Operand (λ_=>(Is->Af)->Af) (λK=>K []) (λx _ ih K=>Kd E t x λv=>ih λvs=>K (v::vs)) l
def qN(E:XE)(t:Tm)(x:Option Operand)(K:Option AV->Af):Af:=
 match x with
 |none=>K none
 |some x=>Kd E t x λv=>K (some v)
def plK(i:TI)(j:Nat)(K:Nat->Nat->Af):Af:=(λ(_:Unit)=>match QY i j with|some (o,s)=>fNS o λo=>K o s|none=>none) Iv
def jM(E:XE)(t:Tm)(i:TI)(l:List (Nat×Operand)):(List (Nat×Nat×AV)->Af)->Af:=
 @List.rec (Nat×Operand) (λ_=>(List (Nat×Nat×AV)->Af)->Af) (λK=>K []) (λp _ ih K=>plK i p.1 λo s=>Kd E t p.2 λv=>ih λa=>K ((o,s,v)::a)) l
def B4M(i:TI)(f:Nat)(K:Nat->Nat->TypeId->Af):Af:=(λ(_:Unit)=>match i.d with|.struct a=>(match a[f]? with|some (o,s,ft)=>K o s ft|none=>none)|_=>none) Iv
def G!(i:TI)(K:TypeId->Nat->Af):Af:=(λ(_:Unit)=>match i.d with|.slice e a=>K e a|_=>none) Iv
def A5K(i:TI):TypeId:=match i.d with|.slice e _=>e|_=>0
def elK(E:XE)(i:TI)(K:TI->Af):Af:=(λ(_:Unit)=>match iI i with|some e=>E.ty.getK e K|none=>K i) Iv
def Lh(v:AV)(K:K2):Af:=match v with|.ptr r p k=>K (.ptr r p k)|.iptr cs=>K (.iptr cs)|.fn (.func f) a b=>K (.fn (.func f) a b)|_=>none
def Ck(q a b:AV)(K:K2):Af:=match q with|.v (.bool true)=>K a|.v (.bool false)=>K b|_=>none
def A3M:TD->Bool
 |.int .u8=>true
 |_=>false
def cvK(E:XE)(s d:TypeId)(i j:TI)(a:AV)(H:Hp)(K:K2):Af:=
 (λ(_:Unit)=>match i.d with
  |.slice e _=>(match j.d with
   |.string=>E.ty.getK e λb=>ckS (A3M b.d) (xL a H K)
   |_=>none)
  |.pointer e=>ckS (Nat.beq d E.up&& !E.lie.isEmpty) (E.ty.getK e λb=>A1J b a H K)
  |.other=>(match j.d with
   |.pointer u=>ckS (Nat.beq s E.up&& !E.lie.isEmpty) (A1E E.lie u a H K)
   |_=>none)
  |_=>Jc i j a K) Iv
def M!(i:TI)(K:TypeId->TypeId->Af):Af:=(λ(_:Unit)=>match i.d with|.map k e=>K k e|_=>none) Iv
def A75(E:XE)(kt:TypeId)(a:AV)(K:Value->Af):Af:=
 E.ty.getK kt λb=>(λ(_:Unit)=>match b.d with
  |.string=>LW a K
  |.int q=>Ws q a K
  |.struct _=>E.eqt.getK kt λks=>B4p ks a K
  |.array .. =>E.eqt.getK kt λks=>B4p ks a K
  |_=>none) Iv
def A3N:Operand->Bool
 |.const .nilIface=>true
 |_=>false
def B66(op:BinOp)(a:AV)(K:K2):Af:=
 match a,op with
 |.v .nilIface,.eql=>K (.v (.bool true))
 |.v .nilIface,.neq=>K (.v (.bool false))
 |_,_=>none
def C0S(E:XE)(op:BinOp)(ty:TypeId)(f:Bool)(a b:AV)(K:K2):Af:=
 E.ty.getK ty λi=>(λ(_:Unit)=>match i.d with
  |.struct _=>E.eqt.getK ty λks=>Xp ks op a b K
  |.array .. =>E.eqt.getK ty λks=>Xp ks op a b K
  |.pointer e=>E.ty.getK e λc=>Rs i c op a b K
  |.iface=>ckS f (B66 op a K)
  |_=>Ap i op a b K) Iv
def A2q(i:TI)(v:AV)(l h m:Option AV)(H:Hp)(K:K2):Af:=
 (λ(_:Unit)=>match i.d with
  |.array n _ a=>(match m with|none=>xK n a v l h H K|some _=>none)
  |_=>C8 i v l h m K) Iv
def B2r(i:TI)(v:AV)(H:Hp)(K:K2):Af:=
 (λ(_:Unit)=>match i.d with
  |.map .. =>YC v H K
  |_=>Bm i v K) Iv
def A8b(E:XE)(R:Rt)(f:AV)(b:Is)(H:Hp)(K:K2):Af:=
 match f with
 |.fn (.func g) first cap=>ckS (!E.imp g) (SN b cap λa=>SN first a λall=>zpm E g R all H K)
 |_=>none
def B?(E:XE)(R:Rt)(t:Tm)(H:Hp)(c:Call)(K:K2):Af:=
 match c.callee with
 |.value e=>Kd E t e λf=>qR E t c.args.toList λd=>A8b E R f d H K
 |.builtin .len=>match c.args.toList,c.argTypes.toList with
  |[x],[ty]=>Kd E t x λv=>E.ty.getK ty λi=>B2r i v H K
  |_,_=>none
 |.builtin .unsafeSliceData=>match c.args.toList with
  |[x]=>Kd E t x λv=>A7i v K
  |_=>none
 |.builtin .min=>match c.args.toList with
  |[x,y]=>Kd E t x λa=>Kd E t y λb=>eMM true a b K
  |_=>none
 |.builtin .max=>match c.args.toList with
  |[x,y]=>Kd E t x λa=>Kd E t y λb=>eMM false a b K
  |_=>none
 |_=>none
def R6(E:XE)(R:Rt)(t:Tm)(H:Hp)(o:Op)(K:K2):Af:=
 match o with
 |.move x=>Kd E t x K
 |.assign x=>Kd E t x K
 |.pick c a b=>Kd E t c λq=>Kd E t a λa=>Kd E t b λb=>Ck q a b K
 |.load ty x=>Kd E t x λv=>E.ty.getK ty λi=>AD i v H K
 |.nilCheck x=>Kd E t x λv=>Lh v K
 |.binOp op ty x y _=>Kd E t x λa=>Kd E t y λb=>C0S E op ty (A3N y) a b K
 |.unOp op _ x=>Kd E t x λa=>Mv op a K
 |.convert s d x=>Kd E t x λa=>E.ty.getK s λi=>E.ty.getK d λj=>cvK E s d i j a H K
 |.makeFunc fn first cap=>qR E t first.toList λw=>qR E t cap.toList λcs=>K (.fn fn w cs)
 |.fieldAddr ty x f=>Kd E t x λv=>E.ty.getK ty λi=>B4M i f λoff sz _=>ckS (!Nat.beq sz 0) (CY off v K)
 |.field ty x f=>Kd E t x λv=>E.ty.getK ty λi=>B4M i f λoff _ ft=>E.ty.getK ft λj=>B1p off j v K
 |.indexAddr ty x e=>Kd E t x λv=>Kd E t e λn=>E.ty.getK ty λi=>Ds i v n K
 |.index ty x e=>Kd E t x λv=>Kd E t e λn=>E.ty.getK ty λi=>elK E i λj=>iO i j v n K
 |.slice ty x C A mx=>Kd E t x λv=>qN E t C λl=>qN E t A λh=>qN E t mx λm=>E.ty.getK ty λi=>A2q i v l h m H K
 |.extract x k=>Kd E t x λv=>C9 v k K
 |.build ty parts=>E.ty.getK ty λi=>ckS (V' i) (jM E t i parts.toList λl=>Ca i l K)
 |.call c=>B? E R t H c K
 |.buildSlice ty n parts=>E.ty.getK ty λi=>G! i λ_ g=>E.ty.getK (A5K i) λp=>jM E t i parts.toList λl=>YE g p n l K
 |.lookup ty x e ok=>Kd E t x λm=>Kd E t e λk=>E.ty.getK ty λi=>M! i λkt u=>A75 E kt k λB=>E.ty.getK u λp=>Zi p ok m B H K
 |.entry it=>Kd E t it λv=>ZE v H K
 |_=>none
section
variable{D:XE->Cf->Nat->List Oper->Bool}{E:XE}{P:Program}{R:Rt}{t:Tm}{H:Hp}{r:AV×Hp}{ro:Option Nat}{N:Nat}
def A60{cs:Is}(h:cs.all isV=true):(cs.map unV).map AV.v=cs:=by
 induction cs with
 |nil=>rfl
 |cons c cs ih=>
  simp only[pY,K0]at h;simp only[Xa,ih h.2];cases c<;>simp[isV]at h
  rfl
def Bb(a:XE.Ok D E P)(h:Kd E t x K=some r):K (JL E.G t x)=some r:=by
 unfold Kd at h;split at h
 ·rwa[Wv]at h
 ·exact h
 ·obtain⟨cs,h1,h2⟩:=Bf h;have:=a.gl _ _ h1;simp only[JL,XE.G,h1,yN,A60 this];exact h2
 ·exact h
def R8(a:XE.Ok D E P):∀(l:List Operand)(K:Is->Af),qR E t l K=some r->K (l.map (JL E.G t))=some r:=by
 intro l
 induction l with
 |nil=>intro K h;exact h
 |cons x l ih=>
  intro K h;have h:(Kd E t x λv=>qR E t l λvs=>K (v::vs))=some r:=h;exact ih _ (Bb a h)
def jN(a:XE.Ok D E P){x:Option Operand}{K:Option AV->Af}(h:qN E t x K=some r):K (x.map (JL E.G t))=some r:=by
 unfold qN at h;split at h
 ·exact h
 ·exact Bb a h
def Xu(b:XE.Ok D E P):∀(l:List (Nat×Operand))(K:List (Nat×Nat×AV)->Af),jM E t i l K=some r->
 ∃a,K a=some r/\((l.map λp=>(p.1,JL E.G t p.2)).map λp=>(QY i p.1).map λq=>(q.1,q.2,p.2))=a.map some:=by
 intro l
 induction l with
 |nil=>intro K h;exact⟨[],h,rfl⟩
 |cons p l ih=>
  intro K h;have h:(plK i p.1 λo s=>Kd E t p.2 λv=>jM E t i l λa=>K ((o,s,v)::a))=some r:=h;unfold plK at h;split at h
  ·rename_i o s c;simp only[B11]at h;obtain⟨a,h1,h2⟩:=ih _ (Bb b h);refine⟨_,h1,?_⟩;simp only[Xa,c,yN,h2]
  ·cases h
def rd(b:XE.Ok D E P){o:Oper}{v:AV}{K:K2}(e:∀c,o.op≠.defer c)(f:qU (E.env P) o.op t H (λg a=>g=v/\a=H))(d:K v=some r):TB P E.G ro N o t H (λv a=>a=H/\K v=some r):=
 TB.mono (UA e (xQ (E:=E.env P) b.env f)) (by rintro _ _ ⟨rfl,rfl⟩;exact⟨rfl,d⟩)
def PB{K:TypeId->TypeId->Af}(h:M! i K=some r):∃k e,i.d=.map k e/\K k e=some r:=by
 unfold M! at h;split at h
 ·rename_i a;exact⟨_,_,a,h⟩
 ·cases h
def PA(b:XE.Ok D E P){mt kt a:TypeId}(f:E.ty.get mt=some i)(c:i.d=.map kt a):P.underlying mt=some (.map kt a):=by
 obtain⟨u,g,e⟩:=(b.ty mt i f).under;rw[c]at e;cases u<;>simp[td]at e
 rw[g,e.1,e.2]
def Vg(j:XE.Ok D E P){a:AV}{K:Value->Af}(h:A75 E kt a K=some r):∃k,QO P kt k/\K k=some r/\∀{C:Ctx}{w:World}{y:Value},VRel C w a y->y=k:=by
 obtain⟨p,f,h⟩:=Bf h;obtain⟨u,m,e⟩:=(j.ty kt p f).under;have g:∀ks,E.eqt.get kt=some ks->B4p ks a K=some r->∃k,QO P kt k/\K k=some r/\∀{C:Ctx}{w:World}{y:Value},VRel C w a y->y=k:=λks b h=>by
  unfold B4p at h;split at h
  ·obtain⟨vs,rfl,h1⟩:=dS _ _ h;obtain⟨h2,n⟩:=LG h1;exact⟨_,.inr (.inr ⟨ks,vs,j.eq kt ks b,h2,rfl⟩),n,λhv=>rK hv⟩
  ·cases h
 simp only at h;split at h
 ·rename_i d;rw[d]at e;have c:u=.string:=by cases u<;>simp[td]at e;rfl
  subst c;unfold LW at h;split at h
  ·exact⟨_,.inl ⟨m,_,rfl⟩,h,λhv=>AM.1 hv⟩
  ·cases h
 ·rename_i q d;rw[d]at e;have c:u=.int q:=by cases u<;>simp[td]at e;rw[e]
  subst c;unfold Ws at h;split at h
  ·obtain⟨h1,h2⟩:=LG h;have h1:_=q:=l2z h1;subst h1;exact⟨_,.inr (.inl ⟨_,_,m,rfl⟩),h2,λhv=>AM.1 hv⟩
  ·cases h
 ·obtain⟨ks,b,h⟩:=Bf h;exact g ks b h
 ·obtain⟨ks,b,h⟩:=Bf h;exact g ks b h
 ·cases h
def PX{o:Oper}(e:∀c,o.op≠.defer c)(h:∀(w0:Base)(s0:Nat)(C:Ctx)(N:Nat)(a:Act)(w:World),St E.G w0 s0 C N t H a w->∃v y,K v=some r/\(execOp a.eval o).run P w=.ok (.value y) w/\VRel C w v y):TB P E.G ro N o t H (λv b=>b=H/\K v=some r):=
 UA e λw0 s0 C N a w s=>let⟨v,y,h1,h2,d⟩:=h w0 s0 C N a w s;⟨v,H,y,C,w,⟨rfl,h1⟩,.inl h2,d,s.rel,.refl _ _ _⟩
def A2C(f:XE.Ok D E P){o:Oper}{op:BinOp}{ty L:TypeId}{x y:Operand}(d:o.op=.binOp op ty x y L)(h:C0S E op ty (A3N y) (JL E.G t x) (JL E.G t y) K=some r):TB P E.G ro N o t H (λv g=>g=H/\K v=some r):=by
 obtain⟨i,m,h⟩:=Bf h;have nd:∀c,o.op≠.defer c:=λc hc=>by rw[d]at hc;cases hc
 have q:∀ks,E.eqt.get ty=some ks->Xp ks op (JL E.G t x) (JL E.G t y) K=some r->TB P E.G ro N o t H (λv g=>g=H/\K v=some r):=λks b h=>by
  refine PX nd λw0 B C N a w s=>?_;obtain⟨v,u,h1,h2,j⟩:=A4a (P:=P) x y (f.eq ty ks b) (AY s x) (AY s y) h;refine⟨v,u,h1,?_,j⟩;simp only[execOp,d];rw[Dm,h2];rfl
 simp only at h;split at h
 ·obtain⟨ks,b,h⟩:=Bf h;exact q ks b h
 ·obtain⟨ks,b,h⟩:=Bf h;exact q ks b h
 ·rename_i e k;obtain⟨M,n,h⟩:=Bf h;refine PX nd λw0 B C N a w s=>?_;obtain⟨v,u,h1,h2,j⟩:=A49 (P:=P) (T:=E.T) f.ty x y m k n (AY s x) (AY s y) h;refine⟨v,u,h1,?_,j⟩;simp only[execOp,d];rw[Dm,h2];rfl
 ·rename_i k;obtain⟨hc,h⟩:=LG h;have J:y=.const .nilIface:=by
   unfold A3N at hc;split at hc
   ·rfl
   ·cases hc
  subst J;obtain⟨u,p,e⟩:=(f.ty ty i m).under;rw[k]at e;obtain⟨ms,rfl⟩:∃ms,u=.interface ms:=by cases u<;>simp[td]at e;exact⟨_,rfl⟩
  have he:∀w,(Op.equal ty .nilIface .nilIface).run P w=.ok true w:=λw=>by
   show(Op.equalIn (9999+1) ty _ _).run P w=_;unfold Op.equalIn;rw[Dm,run_underlying p w];rfl
  have A:∀(op:BinOp)(z:Operand)(w:World),(eqGuard op ty z (.const .nilIface) .nilIface .nilIface).run P w=.ok () w:=λop z w=>by
   unfold eqGuard;rw[Sem.run_ite];refine B0B (by simp) ?_;simp
  refine PX nd λw0 B C N a w s=>?_;have hv:=AY s x;have hz:a.eval (.const .nilIface)=.nilIface:=rfl;unfold B66 at h;split at h
  ·rename_i hq _ _;rw[hq]at hv;have hv:=AM.1 hv;refine⟨_,.bool true,h,?_,.v _⟩;simp only[execOp,d];rw[hv,hz,Dm,Dm,A];simp[binOp,he]
  ·rename_i hq _ _;rw[hq]at hv;have hv:=AM.1 hv;refine⟨_,.bool false,h,?_,.v _⟩;simp only[execOp,d];rw[hv,hz,Dm,Dm,A];simp[binOp,he]
  ·cases h
 ·obtain⟨u,p,F⟩:=zN (T:=E.T) (ty:=ty) m h;exact rd f nd (by rw[d];simpa [qU,XE.env] using F) p
def Rx{K:TypeId->Nat->Af}(h:G! i K=some r):∃e a,i.d=.slice e a/\K e a=some r:=by
 unfold G! at h;split at h
 ·rename_i b;exact⟨_,_,b,h⟩
 ·cases h
def A7x(j:XE.Ok D E P){o:Oper}{ty:TypeId}{n:Nat}{parts:Array (Nat×Operand)}(k:o.op=.buildSlice ty n parts)(h:(E.ty.getK ty λi=>G! i λ_ b=>E.ty.getK (A5K i) λm=>jM E t i parts.toList λl=>YE b m n l K)=some r):TB P E.G ro N o t H (λv u=>u=H/\K v=some r):=by
 obtain⟨i,B,h⟩:=Bf h;obtain⟨e,b,f,h⟩:=Rx h;have he:A5K i=e:=by simp[A5K,f]
 rw[he]at h;obtain⟨m,g,h⟩:=Bf h;obtain⟨l,h1,h2⟩:=Xu j _ _ h;refine UA (λc hc=>by rw[k]at hc;cases hc) λw0 M C N a w s=>?_;obtain⟨F,hq⟩:=kU s parts;obtain⟨v,y,q,L,A,d,hv,hr,J⟩:=A7t (P:=P) (T:=E.T) j.ty B f g (by rw[<-h2];simp[QY,f]) h1 F hq s.rel;refine⟨v,H,y,q,L,⟨rfl,A⟩,.inl ?_,hv,hr,J⟩;have:(parts.map λ(i,x)=>(i,a.eval x))=(parts.toList.map λp=>(p.1,a.eval p.2)).toArray:=by apply pF;simp
 simp only[execOp,k];rw[this,Dm,d];rfl
def A7A(q:XE.Ok D E P){o:Oper}{s d:TypeId}(O:o.op=.convert s d x){i j ie:TI}{e z:Nat}(Z:E.ty.get s=some i)(hj:E.ty.get d=some j)(Y:i.d=.slice e z)(A:j.d=.string)(B:E.ty.get e=some ie)(f:A3M ie.d=true)(h:xL (JL E.G t x) H K=some r):TB P E.G ro N o t H (λv V=>V=H/\K v=some r):=by
 refine UA (λc hc=>by rw[O]at hc;cases hc) λw0 s0 C N a w st=>?_;obtain⟨h1,l,X,b⟩:=A4h (P:=P) st.rel (AY st x) h;refine⟨.v (.string ⟨⟨l⟩⟩),H,.string ⟨⟨l⟩⟩,C,w,⟨rfl,X⟩,.inl ?_,.v _,st.rel,.refl _ _ _⟩;have u:(convert s d (a.eval x)).run P w=.ok (.string ⟨⟨l⟩⟩) w:=by
  obtain⟨F,_⟩:=(q.ty s i Z).elem_slice Y;obtain⟨Q,J,M⟩:=(q.ty d j hj).under;obtain⟨u3,L,p⟩:=(q.ty e ie B).under;rw[A]at M;have g:Q=.string:=by cases Q<;>simp[td]at M;rfl
  subst g;have m:u3=.int .u8:=by
   cases hq:ie.d with
   |int k=>
    rw[hq]at f p;cases k<;>simp[A3M]at f
    cases u3<;>simp[td]at p
    rw[p]
   |_=>rw[hq]at f;simp[A3M]at f
  subst m;unfold convert;rw[Dm,run_underlying F w];simp only[FX];rw[Dm,run_underlying J w];simp only[FX];generalize a.eval x=y at h1 b;cases y with
  |slice ad n cap=>
   simp only;rw[Dm,run_underlying L w];simp only[FX];exact b
  |string s=>exact absurd rfl (h1 s)
  |_=>simp[Conv.bytesToString]at b
 simp only[execOp,O];rw[Dm,u];rfl
def yV{f:Nat}{K:Nat->Nat->TypeId->Af}(h:B4M i f K=some r):∃a o s ft,i.d=.struct a/\a[f]?=some (o,s,ft)/\K o s ft=some r:=by
 unfold B4M at h;split at h
 ·rename_i a b;split at h
  ·rename_i c;exact⟨a,_,_,_,b,c,h⟩
  ·cases h
 ·cases h
def eO(f:XE.Ok D E P)(M:RSound D E P R){o:Oper}{c:Call}(p:o.op=.call c)(h:B? E R t H c K=some r):TB P E.G ro N o t H (λv L=>L=H/\K v=some r):=by
 have nd:∀c,o.op≠.defer c:=λc hc=>by rw[p]at hc;cases hc
 unfold B? at h;split at h
 ·rename_i Z d;have h:=R8 f _ _ (Bb f h);unfold A8b at h;split at h
  ·rename_i g first cap Q;obtain⟨_,h⟩:=B5 h;rw[Jv,Jv,<-ZL]at h;obtain⟨⟨fn,h1,h2,B⟩,hc⟩:=eA M h;exact TB.mono (SZ p d Q h1 h2 B hc) (λ_ _ h=>h)
  ·cases h
 ·rename_i d;split at h
  ·rename_i x ty m q;obtain⟨i,J,h⟩:=Bf (Bb f h);unfold B2r at h;split at h
   ·rename_i kt Y O;refine PX nd λw0 X C N a w s=>?_;obtain⟨v,y,h1,h2,B⟩:=A1O (P:=P) (ty:=o.type) (ts:=c.argTypes) (by rw[<-l27,q];rfl) (PA f J O) s.rel (AY s x) h;refine⟨v,y,h1,?_,B⟩;have e:c.args.map a.eval= #[a.eval x]:=by apply pF;simp[m]
    rw[I9 p _ d,e];show(do pure (Next.value (<-Builtin.len_ c.argTypes o.type #[a.eval x]))).run P w=_;rw[Dm,h2];rfl
   ·obtain⟨u,A,j⟩:=A7o (T:=E.T) J h;exact rd f nd (by rw[p];simp only[qU,d,m,q];simpa [XE.env] using j) A
  ·cases h
 ·rename_i d;split at h
  ·rename_i x m;have h:=Bb f h;unfold A7i at h;split at h
   ·rename_i sz rr oo n hq;obtain⟨hc,h1⟩:=B5 h;simp only[K0,qA,Wr]at hc;refine PX nd λw0 X C N a w s=>?_;have hv:=AY s x;rw[hq]at hv;have e:c.args.map a.eval= #[a.eval x]:=by apply pF;simp[m]
    rw[I9 p _ d,e];generalize a.eval x=y at hv;cases hv with
    |slz=>exact absurd hc.2 (by simp)
    |@sl _ _ _ _ _ _ b k cap arr T fz V F hb hsz=>
     refine⟨_,.pointer (some ⟨b,k+oo,none⟩),h1,?_,.ptr V⟩;show(do pure (Next.value (<-Builtin.unsafeSliceData_ c.argTypes o.type #[.slice (some ⟨b,k+oo,none⟩) n cap]))).run P w=_;rw[Dm,Lib.run_unsafeSliceData_row _ _ _ _ _ _ (by omega)];rfl
   ·cases h
  ·cases h
 ·rename_i d;split at h
  ·rename_i x y m;obtain⟨u,A,j⟩:=A1M (Bb f (Bb f h));exact rd f nd (by rw[p];simp only[qU,d,m];simpa [XE.env] using j) A
  ·cases h
 ·rename_i d;split at h
  ·rename_i x y m;obtain⟨u,A,j⟩:=A1M (Bb f (Bb f h));exact rd f nd (by rw[p];simp only[qU,d,m];simpa [XE.env] using j) A
  ·cases h
 ·cases h
def Tp(m:XE.Ok D E P)(hR:RSound D E P R){o:Oper}(h:R6 E R t H o.op K=some r):TB P E.G ro N o t H (λv Z=>Z=H/\K v=some r):=by
 unfold R6 at h;split at h
 all_goals try (cases h;done)
 case h_1 x g=>exact rd m (λc hc=>by rw[g]at hc;cases hc) (by rw[g];exact⟨rfl,rfl⟩) (Bb m h)
 case h_2 x g=>exact rd m (λc hc=>by rw[g]at hc;cases hc) (by rw[g];exact⟨rfl,rfl⟩) (Bb m h)
 case h_3 c a b g=>
  have h:=Bb m (Bb m (Bb m h));unfold Ck at h;split at h
  ·rename_i hq;exact rd m (λc hc=>by rw[g]at hc;cases hc) (by rw[g];simp[qU,XE.env,hq]) h
  ·rename_i hq;exact rd m (λc hc=>by rw[g]at hc;cases hc) (by rw[g];simp[qU,XE.env,hq]) h
  ·cases h
 case h_4 ty x g=>
  obtain⟨i,p,h⟩:=Bf (Bb m h);obtain⟨u,q,A⟩:=A1R (T:=E.T) (ty:=ty) p h;exact rd m (λc hc=>by rw[g]at hc;cases hc) (by rw[g];simpa [qU,XE.env] using A) q
 case h_5 x g=>
  have h:=Bb m h;unfold Lh at h;split at h
  ·rename_i hq;exact rd m (λc hc=>by rw[g]at hc;cases hc) (by rw[g];simp[qU,XE.env,hq,A8f]) h
  ·rename_i hq;exact rd m (λc hc=>by rw[g]at hc;cases hc) (by rw[g];simp[qU,XE.env,hq,A8f]) h
  ·rename_i hq;exact rd m (λc hc=>by rw[g]at hc;cases hc) (by rw[g];simp[qU,XE.env,hq,A8f]) h
  ·cases h
 case h_6 op ty x y yt g=>exact A2C m g (Bb m (Bb m h))
 case h_7 op ty x g=>
  obtain⟨u,q,A⟩:=B19 (Bb m h);exact rd m (λc hc=>by rw[g]at hc;cases hc) (by rw[g];simpa [qU,XE.env] using A) q
 case h_8 s d x g=>
  obtain⟨i,p,h⟩:=Bf (Bb m h);obtain⟨j,L,h⟩:=Bf h;unfold cvK at h;simp only at h;split at h
  ·rename_i e z J;split at h
   ·rename_i O;obtain⟨ie,F,h⟩:=Bf h;obtain⟨q,h⟩:=LG h;exact A7A m g p L J O F q h
   ·cases h
  ·rename_i e J;obtain⟨hc,h⟩:=LG h;simp only[K0,qA,Z?]at hc;obtain⟨ie,F,h⟩:=Bf h;refine PX (λc hc=>by rw[g]at hc;cases hc) λw0 Y C N a w st=>?_;obtain⟨h1,h2⟩:=A44 (P:=P) (T:=E.T) m.ty p J F (d:=d) (by rw[hc.1];exact m.up hc.2) st.rel (AY st x) h;refine⟨_,_,h1,?_,AY st x⟩;simp only[execOp,g];rw[Dm,h2];rfl
  ·rename_i J;split at h
   ·rename_i u O;obtain⟨hc,h⟩:=LG h;simp only[K0,qA,Z?]at hc;have ab:P.underlying d=some (.pointer u):=by
     obtain⟨u',ae,V⟩:=(m.ty d j L).under;rw[O]at V;cases u'<;>simp[td]at V
     rw[ae,V]
    refine PX (λc hc=>by rw[g]at hc;cases hc) λw0 Y C N a w st=>?_;obtain⟨h1,h2⟩:=A3Y (P:=P) m.lie (s:=s) (by rw[hc.1];exact m.up hc.2) ab st.rel (AY st x) h;refine⟨_,_,h1,?_,AY st x⟩;simp only[execOp,g];rw[Dm,h2];rfl
   ·cases h
  ·obtain⟨u,q,A⟩:=A4d (T:=E.T) p L h;exact rd m (λc hc=>by rw[g]at hc;cases hc) (by rw[g];simpa [qU,XE.env] using A) q
 case h_9 fn first cap g=>
  have h:=R8 m _ _ (R8 m _ _ h);exact rd m (λc hc=>by rw[g]at hc;cases hc) (by rw[g];exact⟨rfl,rfl⟩) h
 case h_10 ty x f g=>
  obtain⟨i,p,h⟩:=Bf (Bb m h);obtain⟨fs,off,s,ft,h1,h2,h⟩:=yV h;obtain⟨hz,h⟩:=B5 h;obtain⟨u,q,A⟩:=B1q (T:=E.T) (ty:=ty) p h1 h2 (λe=>by rw[e]at hz;simp at hz) h;exact rd m (λc hc=>by rw[g]at hc;cases hc) (by rw[g];simpa [qU,XE.env] using A) q
 case h_11 ty x f g=>
  obtain⟨i,p,h⟩:=Bf (Bb m h);obtain⟨fs,off,s,ft,h1,h2,h⟩:=yV h;obtain⟨j,L,h⟩:=Bf h;obtain⟨u,q,A⟩:=A7q (T:=E.T) (ty:=ty) p h1 h2 L h;exact rd m (λc hc=>by rw[g]at hc;cases hc) (by rw[g];simpa [qU,XE.env] using A) q
 case h_12 ty x X g=>
  obtain⟨i,p,h⟩:=Bf (Bb m (Bb m h));obtain⟨u,q,A⟩:=B1k (T:=E.T) (ty:=ty) p h;exact rd m (λc hc=>by rw[g]at hc;cases hc) (by rw[g];simpa [qU,XE.env] using A) q
 case h_13 ty x X g=>
  obtain⟨i,p,h⟩:=Bf (Bb m (Bb m h));unfold elK at h;have fin:∀j,(∀e,iI i=some e->E.T e=some j)->iO i j (JL E.G t x) (JL E.G t X) K=some r->TB P E.G ro N o t H (λv Z=>Z=H/\K v=some r):=λj L h=>by
   obtain⟨u,q,A⟩:=A7p (T:=E.T) (ty:=ty) p L h;exact rd m (λc hc=>by rw[g]at hc;cases hc) (by rw[g];simpa [qU,XE.env] using A) q
  split at h
  ·rename_i e he;obtain⟨j,L,h⟩:=Bf h;exact fin j (λV B=>by rw[he]at B;injection B with B;subst B;exact L) h
  ·rename_i he;exact fin i (λV B=>by rw[he]at B;cases B) h
 case h_14 ty x lo p mx g=>
  have h0:=Bf (jN m (jN m (jN m (Bb m h))));clear h;obtain⟨i,Q,h⟩:=h0;unfold A2q at h;split at h
  ·rename_i n e aa J;split at h
   ·rename_i hm;have ad:mx=none:=by cases mx with
     |none=>rfl
     |some _=>cases hm
    subst ad;refine PX (λc hc=>by rw[g]at hc;cases hc) λw0 Y C N a w st=>?_;obtain⟨v,u,h1,h2,M⟩:=A40 (P:=P) (T:=E.T) m.ty Q J (m.pos ty i e aa Q (.inr ⟨n,J⟩)) st.rel (AY st x) (XU st lo) (XU st p) h;refine⟨v,u,h1,?_,M⟩;simp only[execOp,g];rw[Dm];have:(Instr.sliceAt ty (a.eval x) (lo.map a.eval) (p.map a.eval) (Option.map a.eval none)).run P w=.ok u w:=h2;rw[this];rfl
   ·cases h
  ·obtain⟨u,q,A⟩:=A1G (T:=E.T) (ty:=ty) Q h;exact rd m (λc hc=>by rw[g]at hc;cases hc) (by rw[g];simpa [qU,XE.env] using A) q
 case h_15 x k g=>
  obtain⟨vs,u,h1,h2,M⟩:=A7r (Bb m h);exact rd m (λc hc=>by rw[g]at hc;cases hc) (by rw[g];simp only[qU,XE.env,h1,h2,LQ];exact⟨trivial,trivial⟩) M
 case h_16 ty parts g=>
  obtain⟨i,p,h⟩:=Bf h;obtain⟨hb,h⟩:=B5 h;obtain⟨l,h1,h2⟩:=Xu m _ _ h;obtain⟨u,q,A⟩:=A1U (T:=E.T) (ty:=ty) p hb h2 h1;exact rd m (λc hc=>by rw[g]at hc;cases hc) (by rw[g];simpa [qU,XE.env] using A) q
 case h_17 c g=>exact eO m hR g h
 case h_18 ty n parts g=>exact A7x m g h
 case h_19 ty x X ok g=>
  obtain⟨i,p,h⟩:=Bf (Bb m (Bb m h));obtain⟨kt,et,J,h⟩:=PB h;obtain⟨kv,hk,h,ac⟩:=Vg m h;obtain⟨ie,F,h⟩:=Bf h;refine PX (λc hc=>by rw[g]at hc;cases hc) λw0 Y C N a w st=>?_;obtain⟨v,y,h1,h2,M⟩:=A7n (P:=P) (PA m p J) (m.ty et ie F) hk st.rel (AY st x) h;refine⟨v,y,h1,?_,M⟩;simp only[execOp,g];rw[Dm,ac (AY st X),h2];rfl
 case h_20 it g=>
  have h:=Bb m h;refine PX (λc hc=>by rw[g]at hc;cases hc) λw0 Y C N a w st=>?_;obtain⟨v,y,h1,h2,M⟩:=A4b (P:=P) st.rel (AY st it) h;refine⟨v,y,h1,?_,M⟩;simp only[execOp,g];rw[Dm,h2];rfl
end
end
end Go.Abs
end
