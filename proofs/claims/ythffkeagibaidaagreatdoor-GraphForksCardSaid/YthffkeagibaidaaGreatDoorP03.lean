import Derived.Laws.IdiomRangeMap
import Derived.Lib.UnsafeStr
import Derived.Lib.Builder
import Derived.ScopeJumps
import Derived.Test.YthffkeagibaidaaGreatDoorP02
set_option linter.all false
set_option maxHeartbeats 0
noncomputable section
namespace Go.Abs
open Go.RowKit
section
variable{m v:AV}{ms:Array MapEntry}{es es':IH}{f:MapEntry->MapEntry}{clock:Nat}{bo:Option (Hb×Nat)}{ie:TI}{k ym yv:Value}
def A6N:Option (Hb×Nat)->Option (Hb×Nat)
 |some (a,c)=>some (a++[c],c+1)
 |none=>none
def B8v:Option (Hb×Nat)->Nat->Option (Hb×Nat)
 |some (a,c),i=>some (a.eraseIdx i,c)
 |none,_=>none
def sQ:TD->Option (Hb×Nat)
 |.int _=>some ([],0)
 |.slice _ _=>some ([],0)
 |_=>none
def XQ(x:Row)(K:IH->Option (Hb×Nat)->Af):Af:=match x with|.map false es bo=>K es bo|_=>none
def KR(ie:TI)(H:Hp)(K:KV):Af:=GP H λs=>K (.mp s) ((s,.map false [] (sQ ie.d))::H)
def VT(m:AV)(k:Value)(v:AV)(H:Hp)(K:Ru):Af:=
 match m with
 |.mp r=>IZ H r λx=>XQ x λes bo=>HN k es λf=>match f with
  |none=>XA5 H r (.map false (es++[(k,v)]) (A6N bo)) K
  |some (i,_)=>XA5 H r (.map false (es.set i (k,v)) bo) K
 |_=>none
def Z_(m:AV)(H:Hp)(K:IH->Af):Af:=
 match m with
 |.mp r=>IZ H r λx=>XQ x λes _=>K es
 |.imap es=>K es
 |.v (.map none)=>K []
 |_=>none
def VU(ie:TI)(ok:Bool)(m:AV)(k:Value)(H:Hp)(K:K2):Af:=
 Z_ m H λes=>HN k es λf=>match f,ok with
  |none,true=>K (.tup [ie.zero,.v (.bool false)])
  |none,false=>K ie.zero
  |some (_,v),true=>K (.tup [v,.v (.bool true)])
  |some (_,v),false=>K v
def zA(m:AV)(k:Value)(H:Hp)(K:Ru):Af:=
 match m with
 |.mp r=>IZ H r λx=>XQ x λes bo=>HN k es λf=>match f with
  |none=>K H
  |some (i,_)=>XA5 H r (.map false (es.eraseIdx i) (B8v bo i)) K
 |_=>none
def qK(m:AV)(H:Hp)(K:K2):Af:=Z_ m H λes=>HB es 0 λn=>K (.v (.int .i64 (.ofNat n)))
def Ym(ie:TI)(m:AV)(k:Value)(H:Hp)(K:KV):Af:=
 match m with
 |.mp r=>IZ H r λx=>XQ x λes bo=>match bo with
  |some (a,c)=>HN k es λf=>match f with
   |none=>XA5 H r (.map false (es++[(k,ie.zero)]) (some (a++[c],c+1))) λd=>K (.tup [ie.zero,.v (.int .i64 (.ofNat c))]) d
   |some (i,v)=>(match a[i]? with|some b=>K (.tup [v,.v (.int .i64 (.ofNat b))]) H|none=>none)
  |none=>none
 |_=>none
def lQ(m st v:AV)(H:Hp)(K:Ru):Af:=
 match m with
 |.mp r=>IZ H r λx=>XQ x λes bo=>tG st λz=>match bo with
  |some (a,c)=>(match a.findIdx? (λb=>tH (.ofNat b) z) with
   |some i=>(match es[i]? with|some p=>XA5 H r (.map false (es.set i (p.1,v)) (some (a,c))) K|none=>none)
   |none=>none)
  |none=>none
 |_=>none
section
variable{P:Program}{G:Gl}{w0:Base}{C:Ctx}{H:Hp}{w:World}{r:AV×Hp}
def O8{x:Row}{K:IH->Option (Hb×Nat)->Af}(h:XQ x K=some r):∃es bo,x=.map false es bo/\K es bo=some r:=by
 unfold XQ at h;split at h
 ·exact⟨_,_,rfl,h⟩
 ·cases h
def Qp{K:Option (Nat×AV)->Af}(h:HN k es K=some r):∃x,UU k es 0=some x/\K x=some r:=by
 unfold HN at h;split at h
 ·exact⟨_,by assumption,h⟩
 ·cases h
def Ju.append{ms ms':List MapEntry}(h:Ju C w es ms)(k:Ju C w es' ms'):Ju C w (es++es') (ms++ms'):=
 ⟨by simp[h.1,k.1],λi p a=>by
  rw[List.getElem?_append]at a⊢;rw[h.1];split at a
  ·rename_i c;rw[CJ c];exact h.2 i p a
  ·rename_i c;rw[Co c];exact k.2 _ p a⟩
def Ju.one{m:MapEntry}(hk:m.key=k)(hv:VRel C w v m.val):Ju C w [(k,v)] [m]:=
 ⟨rfl,λi p a=>by
  cases i with
  |zero=>simp at a;subst a;exact⟨m,rfl,hk,hv⟩
  |succ i=>simp at a⟩
theorem Ju.modify{ms:List MapEntry}(h:Ju C w es ms)(i:Nat)(hk:∀m,ms[i]?=some m->(f m).key=k)(hv:∀m,ms[i]?=some m->VRel C w v (f m).val):Ju C w (es.set i (k,v)) (ms.modify i f):=
 ⟨by simp[h.1],λj p a=>by
  rw[List.getElem?_set]at a;rw[List.getElem?_modify];split at a
  ·rename_i e;subst e;split at a
   ·rename_i g;injection a with a
    subst a;have c:i<ms.length:=by rw[h.1];exact g
    have hm:=II c;exact⟨f ms[i],by rw[hm];simp,hk _ hm,hv _ hm⟩
   ·cases a
  ·rename_i e;obtain⟨m,h1,h2,d⟩:=h.2 j p a;exact⟨m,by rw[h1];simp[e],h2,d⟩⟩
theorem Ju.eraseIdx{ms:List MapEntry}(h:Ju C w es ms)(i:Nat):Ju C w (es.eraseIdx i) (ms.eraseIdx i):=
 ⟨by rw[List.length_eraseIdx,List.length_eraseIdx,h.1],λj p a=>by
  rw[List.getElem?_eraseIdx]at a⊢;split at a
  ·rename_i c;rw[CJ c];exact h.2 j p a
  ·rename_i c;rw[Co c];exact h.2 _ p a⟩
theorem MOk.push(h:MOk ms clock)(k v:Value):MOk (ms.push {key:=k,val:=v,born:=clock}) (clock+1):=
 ⟨by
  rw[l2n,List.pairwise_append];refine⟨h.born,by simp,λa c b hb=>?_⟩;simp at hb;subst hb;have:=h.lt a c;show a.born≠clock;omega,λm hm=>by
  rw[l2n,VP]at hm;rcases hm with hm|hm
  ·have:=h.lt m hm;omega
  ·simp at hm;subst hm;exact Nat.lt_succ_self _⟩
def Vj{ms:List MapEntry}{i:Nat}(a:∀m,(f m).born=m.born):(ms.modify i f).map (·.born)=ms.map (·.born):=by
 apply l0o;intro j;rw[pS,pS,List.getElem?_modify];cases ms[j]? with
 |none=>rfl
 |some m=>by_cases e:i=j<;>simp[e,a]
def A18:MOk ms clock↔(ms.toList.map (·.born)).Pairwise (λa b=>a≠b)/\∀b∈ms.toList.map (·.born),b<clock:=by
 constructor
 ·intro h;exact⟨by rw[List.pairwise_map];exact h.born,λb hb=>by obtain⟨m,hm,rfl⟩:=US.1 hb;exact h.lt m hm⟩
 ·rintro⟨h1,h2⟩;exact⟨by rw[List.pairwise_map]at h1;exact h1,λm hm=>h2 _ (US.2 ⟨m,hm,rfl⟩)⟩
theorem MOk.modify(h:MOk ms clock)(i:Nat)(a:∀m,(f m).born=m.born):MOk (ms.modify i f) clock:=by
 rw[A18,l2o,Vj a];exact A18.1 h
def Ow(ms:Array MapEntry)(i:Nat):(ms.eraseIdxIfInBounds i).toList=ms.toList.eraseIdx i:=by
 unfold Array.eraseIdxIfInBounds;split
 ·simp only[Array.toList_eraseIdx]
 ·rename_i h;rw[List.eraseIdx_of_length_le (by simpa using h)]
theorem XP{α β:Type}(f:α->β):∀(l:List α)(i:Nat),(l.eraseIdx i).map f=(l.map f).eraseIdx i
 |[],_=>rfl
 |_::_,0=>rfl
 |a::l,i+1=>by simp[XP f l i]
def MOk.erase(h:MOk ms clock)(i:Nat):MOk (ms.eraseIdxIfInBounds i) clock:=
 ⟨by rw[Ow];exact h.born.sublist (List.eraseIdx_sublist _ _),λm hm=>by rw[Ow]at hm;exact h.lt m ((List.eraseIdx_sublist _ _).subset hm)⟩
def Vr{r:Nat}{bo bo':Option (Hb×Nat)}{b:Nat}{ms ms':Array MapEntry}{clock clock':Nat}{O:Nat->Prop}(hr:Rel G w0 C H w)(c:Ao H r=some (.map false es bo))(a:C.π r=some (some (b,0)))(hb:w.heap[b]?=some (.map ms clock))(he:Ju C w es' ms'.toList)(hm:MOk ms' clock')(d:BOk bo' ms' clock'):(setObj b (.map ms' clock')).run P w=.ok () {w with heap:=w.heap.setIfInBounds b (.map ms' clock')}/\
  Rel G w0 C (upd H r (.map false es' bo')) {w with heap:=w.heap.setIfInBounds b (.map ms' clock')}/\Ext O C w C {w with heap:=w.heap.setIfInBounds b (.map ms' clock')}:=by
 obtain⟨h1,h2⟩:=MapKept.heap_set (w:=w) (o':=.map ms' clock') hb;have g:SameObj w {w with heap:=w.heap.setIfInBounds b (.map ms' clock')} b (.map ms' clock'):=⟨rfl,rfl,rfl,by simp,h1,h2⟩
 refine⟨MapKept.run_setObj_map _ hb,hr.set_obj (O:=O) c a g (λarr T fz hc=>by rw[hb]at hc;cases hc) (λe=>⟨b,ms',clock',a,h1,hm,he.mono e,d⟩)⟩
def WA{r:Nat}{y:Value}(hr:Rel G w0 C H w)(s:Ao H r=some (.map false es bo))(hv:VRel C w (.mp r) y):
 ∃b ms clock,y=.map (some b)/\C.π r=some (some (b,0))/\w.heap[b]?=some (.map ms clock)/\MOk ms clock/\Ju C w es ms.toList/\BOk bo ms clock:=by
 cases hv with
 |@mp _ _ _ b c d=>
  obtain⟨e,ms,clock,i,j,n,p,q⟩:=hr.rows r _ s;have a:=i.symm.trans d;injection a with a;injection a with a;injection a with g h;subst g h
  exact⟨e,ms,clock,rfl,d,j,n,p,q⟩
def yV{ty:TypeId}{K:KV}(hr:Rel G w0 C H w)(h:KR ie H K=some r):∃v a y d c,K v a=some r/\(Instr.makeMap ty none).run P w=.ok y c/\It G w0 C w v a y d c:=by
 unfold KR at h;rw[BQ]at h;have hb:=KT w (.map #[] 0);refine⟨_,_,.map (some w.heap.size),_,w.alloc (.map #[] 0),h,rfl,.mp (C.put_n _ _),hr.new_row hb ⟨w.heap.size,#[],0,C.put_n _ _,World.alloc_heap_new _ _,⟨by simp,by simp⟩,⟨rfl,λi p e=>by simp at e⟩,?_⟩,hr.new_ext hb⟩;unfold sQ;split
 ·exact⟨rfl,rfl⟩
 ·exact⟨rfl,rfl⟩
 ·trivial
def lP{mt X Y:TypeId}{K:Ru}(V:P.underlying mt=some (.map X Y))(hk:NZ P X k)(hr:Rel G w0 C H w)(hm:VRel C w m ym)(hv:VRel C w v yv)(h:VT m k v H K=some r):
 ∃M L,K M=some r/\(Instr.mapUpdate mt ym k yv).run P w=.ok () L/\Rel G w0 C M L/\Ext w0.own C w C L:=by
 unfold VT at h;split at h
 ·rename_i s;obtain⟨x,F,h1⟩:=FR rfl h;obtain⟨es,bo,rfl,h2⟩:=O8 h1;obtain⟨f,hf,a⟩:=Qp h2;obtain⟨b,ms,clock,rfl,R,hb,t,he,Q⟩:=WA hr F hm;obtain⟨q,hq,d⟩:=hk.find he hf;clear h h1 h2;cases f with
  |none=>
   simp only at a;rw[CX]at a;obtain⟨c,_⟩:=d;subst c;obtain⟨A,B,D⟩:=Vr (P:=P) (O:=w0.own) (es':=es++[(k,v)]) (bo':=A6N bo) (ms':=ms.push {key:=k,val:=yv,born:=clock}) (clock':=clock+1) hr F R hb (by rw[l2n];exact he.append (.one rfl hv)) (t.push _ _) (by
    cases bo with
    |none=>trivial
    |some p=>obtain⟨c,y⟩:=Q;exact⟨by rw[l2n,UT,c,y];rfl,by rw[y]⟩)
   refine⟨_,_,a,?_,B,D⟩;unfold Instr.mapUpdate;rw[Cr,run_underlying V w];simp only[Eu];rw[Cr,l2l hb];simp only[Eu];rw[Cr,hk.check];simp only[Eu];rw[Cr,hq];simp only[Eu];exact A
  |some p=>
   obtain⟨i,v0⟩:=p;simp only at a;rw[CX]at a;obtain⟨j,m0,N,Z,J,g,u⟩:=d;have N:i=j:=by omega
   subst N;subst u;have n:ms[i]?=some m0:=by simpa using J
   obtain⟨A,B,D⟩:=Vr (P:=P) (O:=w0.own) (es':=es.set i (k,v)) (bo':=bo) (ms':=ms.modify i λe=>{e with key:=k,val:=yv}) (clock':=clock) hr F R hb (by rw[l2o];exact he.modify i (λ_ _=>rfl) (λ_ _=>hv)) (t.modify i (λ_=>rfl)) (by
    cases bo with
    |none=>trivial
    |some p=>obtain⟨c,y⟩:=Q;exact⟨by rw[l2o,Vj (f:=λe=>{e with key:=k,val:=yv}) (λ_=>rfl)];exact c,y⟩)
   refine⟨_,_,a,?_,B,D⟩;unfold Instr.mapUpdate;rw[Cr,run_underlying V w];simp only[Eu];rw[Cr,l2l hb];simp only[Eu];rw[Cr,hk.check];simp only[Eu];rw[Cr,hq];simp only[Eu,n,oH,l1l,g];rw[Cr,hk.stays];simp only[Eu];exact A
 ·cases h
def qE{K:IH->Af}(hr:Rel G w0 C H w)(hm:VRel C w m ym)(h:Z_ m H K=some r):
 ∃es,K es=some r/\((ym=.map none/\es=[])\/∃b ms clock,ym=.map (some b)/\w.heap[b]?=some (.map ms clock)/\Ju C w es ms.toList):=by
 unfold Z_ at h;split at h
 ·obtain⟨x,c,h1⟩:=FR rfl h;obtain⟨es,bo,rfl,h2⟩:=O8 h1;obtain⟨b,ms,clock,rfl,g,hb,j,he,q⟩:=WA hr c hm;exact⟨es,h2,.inr ⟨b,ms,clock,rfl,hb,he⟩⟩
 ·rename_i es;refine⟨es,h,?_⟩;cases hm with
  |@imap _ _ _ b clock ms n hb c hk hn hc hv=>
   refine .inr ⟨b,ms,clock,rfl,hb,by simpa using c,λi p g=>?_⟩;obtain⟨d,rfl⟩:=pR.1 g;have a:i<ms.size:=by omega
   refine⟨ms[i],by simp[a],?_,?_⟩
   ·have:=hk i d;simpa [WX,a] using this
   ·have:=hv i d;have e:(ms.getD i default)=ms[i]:=by simp[WX,a]
    rw[e]at this;exact this.up rfl rfl
 ·exact⟨[],h,.inl ⟨A6.1 hm,rfl⟩⟩
 ·cases h
def A2Y{mt L D:TypeId}{ok:Bool}{K:K2}(n:P.underlying mt=some (.map L D))(u:TOk1 P D ie)(hk:NZ P L k)(hr:Rel G w0 C H w)(hm:VRel C w m ym)(h:VU ie ok m k H K=some r):
 ∃v y,K v=some r/\(Instr.lookup mt ym k ok).run P w=.ok y w/\VRel C w v y:=by
 unfold VU at h;obtain⟨es,h1,t⟩:=qE hr hm h;obtain⟨f,F,h2⟩:=Qp h1;obtain⟨z,hz,O⟩:=u.run_zero w;have B:VRel C w ie.zero z:=by rw[<-O];exact XB z
 clear h h1;have key:∀(ms:List MapEntry)(q:Option (Nat×Value)),mI k es ms 0 f q->Ju C w es ms->
  ∃v y0 o,K (if ok=true then .tup [v,.v (.bool o)] else v)=some r/\VRel C w v y0/\((q=none/\y0=z/\o=false)\/∃i,q=some (i,y0)/\o=true):=by
  intro ms q a he;cases f with
  |none=>
   obtain⟨N,_⟩:=a;subst N;exact⟨ie.zero,z,false,by cases ok<;>exact h2,B,.inl ⟨rfl,rfl,rfl⟩⟩
  |some p=>
   obtain⟨i,M⟩:=p;obtain⟨j,m0,R,s,x,J,e⟩:=a;have A:VRel C w M m0.val:=by
    obtain⟨V,c,g,d⟩:=he.2 j _ s;rw[x]at c;injection c with c;subst c;exact d
   exact⟨M,m0.val,true,by cases ok<;>exact h2,A,.inr ⟨i,e,rfl⟩⟩
 have rel:∀{v:AV}{y0:Value}(o:Bool),VRel C w v y0->VRel C w (if ok=true then .tup [v,.v (.bool o)] else v) (if ok=true then .tuple #[y0,.bool o] else y0):=by
  intro v y0 o hv;cases ok with
  |true=>exact CD.2 ⟨[y0,.bool o],rfl,.cons hv (.cons (.v _) .nil)⟩
  |false=>exact hv
 rcases t with⟨rfl,rfl⟩|⟨b,ms,clock,rfl,hb,he⟩
 ·have he:Ju C w [] []:=⟨rfl,λi p Q=>by simp at Q⟩
  obtain⟨q,hq,a⟩:=hk.find he F;obtain⟨v,y0,o,c,g,d⟩:=key [] q a he;refine⟨_,_,c,?_,rel o g⟩;rcases d with⟨rfl,rfl,rfl⟩|⟨i,rfl,rfl⟩
  ·simp[Instr.lookup,run_underlying n,hk.check,hq,hz,Result.andThen]
  ·simp[Instr.lookup,run_underlying n,hk.check,hq,Result.andThen]
 ·obtain⟨q,hq,a⟩:=hk.find he F;obtain⟨v,y0,o,c,g,d⟩:=key _ q a he;refine⟨_,_,c,?_,rel o g⟩;rcases d with⟨rfl,rfl,rfl⟩|⟨i,rfl,rfl⟩
  ·simp[Instr.lookup,run_underlying n,l2l hb,hk.check,hq,hz,Result.andThen]
  ·simp[Instr.lookup,run_underlying n,l2l hb,hk.check,hq,Result.andThen]
def yZ{mt Z et:TypeId}{ts:Array TypeId}{ty:TypeId}{K:Ru}(t:ts[0]?=some mt)(Y:P.underlying mt=some (.map Z et))(hk:NZ P Z k)(hr:Rel G w0 C H w)(hm:VRel C w m ym)(h:zA m k H K=some r):
 ∃J c,K J=some r/\(Builtin.delete_ ts ty #[ym,k]).run P w=.ok (.tuple #[]) c/\Rel G w0 C J c/\Ext w0.own C w C c:=by
 unfold zA at h;split at h
 ·rename_i s;obtain⟨x,D,h1⟩:=FR rfl h;obtain⟨es,bo,rfl,h2⟩:=O8 h1;obtain⟨f,hf,y⟩:=Qp h2;obtain⟨b,ms,clock,rfl,X,hb,g,he,V⟩:=WA hr D hm;obtain⟨q,hq,d⟩:=hk.find he hf;clear h h1 h2;have a:∀(c:World)(ms':Array MapEntry),(q=none/\ms'=ms\/∃i v,q=some (i,v)/\ms'=ms.eraseIdxIfInBounds i)->(setObj b (.map ms' clock)).run P w=.ok () c->(Builtin.delete_ ts ty #[.map (some b),k]).run P w=.ok (.tuple #[]) c:=by
   intro c ms' F A;rcases F with⟨rfl,rfl⟩|⟨i,v,rfl,rfl⟩
   ·simp[Builtin.delete_,t,run_underlying Y,l2l hb,hk.check,hq,A,Result.andThen]
   ·simp[Builtin.delete_,t,run_underlying Y,l2l hb,hk.check,hq,A,Result.andThen]
  cases f with
  |none=>
   obtain⟨B,_⟩:=d;subst B;obtain⟨u,M,N⟩:=Vr (P:=P) (O:=w0.own) (es':=es) (bo':=bo) (ms':=ms) (clock':=clock) hr D X hb he g V;have A:({w with heap:=w.heap.setIfInBounds b (.map ms clock)}:World)=w:=by
    have:w.heap.setIfInBounds b (.map ms clock)=w.heap:=by
     apply Array.ext_getElem?;intro j;by_cases Q:b=j
     ·subst Q;rw[(MapKept.heap_set hb).1,hb]
     ·exact(MapKept.heap_set hb).2 j (λe=>Q e.symm)
    rw[this]
   rw[A]at u;exact⟨H,w,y,a w ms (.inl ⟨rfl,rfl⟩) u,hr,.refl _ _ _⟩
  |some p=>
   obtain⟨i,v0⟩:=p;simp only at y;rw[CX]at y;obtain⟨j,m0,L,aa,ab,R,n⟩:=d;have L:i=j:=by omega
   subst L;subst n;obtain⟨u,M,N⟩:=Vr (P:=P) (O:=w0.own) (es':=es.eraseIdx i) (bo':=B8v bo i) (ms':=ms.eraseIdxIfInBounds i) (clock':=clock) hr D X hb (by rw[Ow];exact he.eraseIdx i) (g.erase i) (by
    cases bo with
    |none=>trivial
    |some p=>obtain⟨B,e2⟩:=V;exact⟨by rw[Ow,<-B,XP],e2⟩)
   exact⟨_,_,y,a _ _ (.inr ⟨i,_,rfl,rfl⟩) u,M,N⟩
 ·cases h
def yX{mt g e:TypeId}{ts:Array TypeId}{ty:TypeId}{K:K2}(a:ts[0]?=some mt)(d:P.underlying mt=some (.map g e))(hr:Rel G w0 C H w)(hm:VRel C w m ym)(h:qK m H K=some r):
 ∃v y,K v=some r/\(Builtin.len_ ts ty #[ym]).run P w=.ok y w/\VRel C w v y:=by
 unfold qK at h;obtain⟨es,h1,c⟩:=qE hr hm h;rw[Cz,Le]at h1;refine⟨_,.int .i64 es.length,h1,?_,.v _⟩;rcases c with⟨rfl,rfl⟩|⟨b,ms,clock,rfl,hb,he⟩
 ·simp[Builtin.len_,a,run_underlying d,goInt]
 ·have:=he.1;simp only[Array.length_toList]at this;simp[Builtin.len_,a,run_underlying d,l2l hb,goInt,this]
def yY{mt M et:TypeId}{K:KV}(hu:P.underlying mt=some (.map M et))(R:TOk1 P et ie)(hk:NZ P M k)(hr:Rel G w0 C H w)(hm:VRel C w m ym)(h:Ym ie m k H K=some r):
 ∃v Y y w',K v Y=some r/\(Instr.mapEntry mt ym k).run P w=.ok y w'/\It G w0 C w v Y y C w':=by
 unfold Ym at h;split at h
 ·rename_i s;obtain⟨x,hl,h1⟩:=FR rfl h;obtain⟨es,bo,rfl,h2⟩:=O8 h1;clear h h1;split at h2
  ·rename_i Z c;obtain⟨f,hf,n⟩:=Qp h2;obtain⟨b,ms,clock,rfl,hp,hb,V,he,ho⟩:=WA hr hl hm;obtain⟨o1,o2⟩:=ho;subst o2;obtain⟨q,hq,A⟩:=hk.find he hf;obtain⟨z,hz,ez⟩:=R.run_zero w;have J:VRel C w ie.zero z:=by rw[<-ez];exact XB z
   clear h2;have aa:∀(g:Option (Nat×Value)->Sem Value)(res:Result Value),(g q).run P w=res->(do
    Instr.checkKey false 10000 M k
    let x<-Instr.findKey M k ms.toList
    g x:Sem Value).run P w=res:=by
    intro g res hg;rw[Cr,hk.check];simp only[Eu];rw[Cr,hq];exact hg
   cases f with
   |none=>
    simp only at n;rw[CX]at n;obtain⟨e1,_⟩:=A;subst e1;obtain⟨u,g2,L⟩:=Vr (P:=P) (O:=w0.own) (es':=es++[(k,ie.zero)]) (bo':=some (Z++[clock],clock+1)) (ms':=ms.push {key:=k,val:=z,born:=clock}) (clock':=clock+1) hr hl hp hb (by rw[l2n];exact he.append (.one rfl J)) (V.push _ _) ⟨by rw[l2n,UT,o1];rfl,rfl⟩;refine⟨_,_,.tuple #[z,goInt clock],_,n,?_,CD.2 ⟨[z,goInt clock],rfl,.cons (J.mono L) (.cons (.v _) .nil)⟩,g2,L⟩;unfold Instr.mapEntry;rw[Cr,run_underlying hu w];simp only[Eu];rw[Cr,l2l hb];simp only[Eu];rw[Cr,hk.check];simp only[Eu];rw[Cr,hq];simp only[Eu];rw[Cr,hz];simp only[Eu];rw[Cr,u];rfl
   |some p=>
    obtain⟨i,v0⟩:=p;simp only at n;obtain⟨j,m0,e0,Q,t,a,F⟩:=A;have e0:i=j:=by omega
    subst e0;subst F;have d:ms[i]?=some m0:=by simpa using t
    have N:Z[i]?=some m0.born:=by rw[<-o1,pS,t];rfl
    rw[N]at n;simp only at n;have X:VRel C w v0 m0.val:=by
     obtain⟨m',u,g2,L⟩:=he.2 i _ Q;rw[t]at u;injection u with u;subst u;exact L
    have D:ms.modify i (λe=>{e with key:=k})=ms:=by
     apply Array.ext_getElem?;intro j;rw[l0r];by_cases B:i=j
     ·subst B;rw[d];simp[<-a]
     ·rw[Co B]
    have hw:({w with heap:=w.heap.setIfInBounds b (.map ms clock)}:World)=w:=by
     have:w.heap.setIfInBounds b (.map ms clock)=w.heap:=by
      apply Array.ext_getElem?;intro j;by_cases B:b=j
      ·subst B;rw[(MapKept.heap_set hb).1,hb]
      ·exact(MapKept.heap_set hb).2 j (λe=>B e.symm)
     rw[this]
    refine⟨_,H,.tuple #[m0.val,goInt m0.born],w,n,?_,CD.2 ⟨[m0.val,goInt m0.born],rfl,.cons X (.cons (.v _) .nil)⟩,hr,.refl _ _ _⟩;unfold Instr.mapEntry;rw[Cr,run_underlying hu w];simp only[Eu];rw[Cr,l2l hb];simp only[Eu];rw[Cr,hk.check];simp only[Eu];rw[Cr,hq];simp only[Eu,d,oH,l1l,a];rw[Cr,hk.stays];simp only[Eu,D];rw[Cr,MapKept.run_setObj_map _ hb,hw];rfl
  ·cases h2
 ·cases h
def yU{mt:TypeId}{m st v:AV}{ym ys yv:Value}{K:Ru}(hr:Rel G w0 C H w)(hm:VRel C w m ym)(Y:VRel C w st ys)(hv:VRel C w v yv)(h:lQ m st v H K=some r):
 ∃A y,K A=some r/\(Instr.entryStore mt ym ys yv).run P w=.ok () y/\Rel G w0 C A y/\Ext w0.own C w C y:=by
 unfold lQ at h;split at h
 ·rename_i s;obtain⟨x,D,h1⟩:=FR rfl h;obtain⟨es,bo,rfl,h2⟩:=O8 h1;obtain⟨q,z,rfl,a⟩:=MJ h2;clear h h1 h2;split at a
  ·rename_i J c;split at a
   ·rename_i i B;split at a
    ·rename_i p X;rw[CX]at a;obtain⟨b,ms,clock,rfl,t,hb,n,he,V⟩:=WA hr D hm;obtain⟨F,o2⟩:=V;subst o2;have u:=A6.1 Y;subst u;have d:ms.findIdx? (λe=>(e.born:Int)==z)=some i:=by
      have L:∀p:MapEntry->Bool,ms.findIdx? p=ms.toList.findIdx? p:=λp=>by cases ms;simp
      rw[L];rw[<-F,List.findIdx?_map]at B;rw[<-B]
      congr 1
      funext e
      simp only[Function.comp,JN];rw[eZ];simp
     obtain⟨m1,j,g,Z⟩:=he.2 i p X;obtain⟨M,N,Q⟩:=Vr (P:=P) (O:=w0.own) (es':=es.set i (p.1,v)) (bo':=some (J,clock)) (ms':=ms.modify i λe=>{e with val:=yv}) (clock':=clock) hr D t hb (by
      rw[l2o];refine he.modify i (λm hm=>?_) (λ_ _=>hv);rw[j]at hm;injection hm with hm;subst hm;exact g) (n.modify i (λ_=>rfl)) ⟨by rw[l2o,Vj (f:=λe=>{e with val:=yv}) (λ_=>rfl)];exact F,rfl⟩
     refine⟨_,_,a,?_,N,Q⟩;unfold Instr.entryStore;simp only;rw[Cr,l2l hb];simp only[Eu];rw[Cr];have R:(asInt (.int q z)).run P w=.ok z w:=rfl;rw[R];simp only[Eu,d];exact M
    ·cases a
   ·cases a
  ·cases a
 ·cases h
end
end
section
variable{f:AV->AV->Bool}{K:KV}{es:IH}{y ym:Value}
def Xi:Value->Value->Bool
 |.string a,.string b=>eqbL a.data.toList b.data.toList
 |.int k a,.int c b=>decide (k=c)&&decide (a=b)
 |.bool a,.bool b=>a==b
 |.slice none 0 0,.slice none 0 0=>true
 |.pointer none,.pointer none=>true
 |.map none,.map none=>true
 |.nilFunc,.nilFunc=>true
 |_,_=>false
where eqbL:Ha->Ha->Bool
 |[],[]=>true
 |a::l,b::m=>Nat.beq a.toNat b.toNat&&eqbL l m
 |_,_=>false
def mG(f:AV->AV->Bool):Is->Is->Bool
 |[],[]=>true
 |a::l,b::m=>f a b&&mG f l m
 |_,_=>false
def fnB:AV->AV->Bool
 |.fn (.func f) [] [],.fn (.func g) [] []=>Nat.beq f g
 |_,_=>false
def B4C{a b:AV}(h:fnB a b=true):a=b:=by
 unfold fnB at h;split at h
 ·rw[VQ h]
 ·cases h
def A3n(f:AV->AV->Bool):IH->IH->Bool
 |[],[]=>true
 |a::l,b::m=>Xi a.1 b.1&&(f a.2 b.2&&A3n f l m)
 |_,_=>false
def oN:Nat->AV->AV->Bool
 |_,.v x,.v y=>Xi x y
 |d+1,.list n cs,.list m es=>Nat.beq n m&&mG (oN d) cs es
 |d+1,.agg cs,.agg es=>mG (oN d) cs es
 |d+1,.tup cs,.tup es=>mG (oN d) cs es
 |d+1,.imap es,.imap a=>A3n (oN d) es a
 |_+1,.fn f c cs,.fn g a ds=>fnB (.fn f c cs) (.fn g a ds)
 |_,_,_=>false
def ZS(a b:Af):Af:=
 match a with
 |some (v,[])=>(match b with
  |some (u,[])=>(match oN 6 v u with|true=>some (v,[])|false=>none)
  |_=>none)
 |_=>none
def NO(F:Value×AV->IH->Af)(l:IH):IH->Af:=
 @List.rec (Value×AV) (λ_=>IH->Af) (λ_=>none)
  (λe rest ih pre=>@List.rec (Value×AV) (λ_=>Af) (F e pre) (λ_ _ _=>ZS (F e (pre++rest)) (ih (pre++[e]))) rest) l
def A1h(x:Row)(K:IH->Af):Af:=match x with|.iter l _=>K l|_=>none
def lO(m:AV)(H:Hp)(K:KV):Af:=
 match m with
 |.imap es=>GP H λs=>K (.it s) ((s,.iter es none)::H)
 |.v (.map none)=>GP H λs=>K (.it s) ((s,.iter [] none)::H)
 |.mp s=>IZ H s λx=>XQ x λes _=>ck (es.all λp=>tZ 3 p.2) (XA5 H s .gone λa=>GP a λt=>K (.it t) ((t,.iter es none)::a))
 |_=>none
def Yk(it:AV)(H:Hp)(K:KV):Af:=
 match it with
 |.it s=>IZ H s λx=>A1h x λl=>@List.rec (Value×AV) (λ_=>Af) (K (.tup [.v (.bool false)]) H)
  (λ_ _ _=>NO (λe rest=>XA5 H s (.iter rest (some e)) λa=>K (.tup [.v (.bool true),pN e.1,e.2]) a) l []) l
 |_=>none
def A5C(x:Row)(K:Value×AV->Af):Af:=match x with|.iter _ (some p)=>K p|_=>none
def lV(it:AV)(H:Hp)(K:K2):Af:=
 match it with
 |.it s=>IZ H s λx=>A5C x λp=>K (.tup [pN p.1,p.2])
 |_=>none
def B01:∀{a b:Ha},Xi.eqbL a b=true->a=b:=by
 intro a
 induction a with
 |nil=>intro b h;cases b<;>simp[Xi.eqbL]at h;rfl
 |cons x a ih=>
  intro b h;cases b with
  |nil=>simp[Xi.eqbL]at h
  |cons y b=>
   simp only[Xi.eqbL,I0]at h;rw[ih h.2,UInt8.toNat_inj.1 (VQ h.1)]
def fM{a b:Value}(h:Xi a b=true):a=b:=by
 unfold Xi at h;split at h
 ·rename_i x y;obtain⟨⟨x⟩⟩:=x;obtain⟨⟨y⟩⟩:=y;have:=B01 h;simp at this;rw[this]
 ·simp only[I0,decide_eq_true_eq]at h;rw[h.1,h.2]
 ·rw[eq_of_beq h]
 ·rfl
 ·rfl
 ·rfl
 ·rfl
 ·cases h
def gL(c:∀a b,f a b=true->a=b):∀{l m:Is},mG f l m=true->l=m:=by
 intro l
 induction l with
 |nil=>intro m h;cases m<;>simp[mG]at h;rfl
 |cons a l ih=>
  intro m h;cases m with
  |nil=>simp[mG]at h
  |cons b m=>
   simp only[mG,I0]at h;rw[c a b h.1,ih h.2]
def B0m(c:∀a b,f a b=true->a=b):∀{l m:IH},A3n f l m=true->l=m:=by
 intro l
 induction l with
 |nil=>intro m h;cases m<;>simp[A3n]at h;rfl
 |cons a l ih=>
  intro m h;cases m with
  |nil=>simp[A3n]at h
  |cons b m=>
   simp only[A3n,I0]at h;rw[show a=b from Prod.ext (fM h.1) (c _ _ h.2.1),ih h.2.2]
def A0A:∀(d:Nat)(a b:AV),oN d a b=true->a=b:=by
 intro d
 induction d with
 |zero=>
  intro a b h;cases a<;>cases b<;>simp[oN]at h
  rw[fM h]
 |succ d ih=>
  intro a b h;cases a<;>cases b<;>simp only[oN]at h<;>first|(cases h;done)|skip
  ·rw[fM h]
  ·simp only[I0]at h;rw[VQ h.1,gL ih h.2]
  ·exact B4C h
  ·rw[gL ih h]
  ·rw[gL ih h]
  ·rw[B0m ih h]
def N?{a b:Af}{r:AV×Hp}(h:ZS a b=some r):a=some r/\b=some r:=by
 unfold ZS at h;split at h
 ·split at h
  ·split at h
   ·rename_i hq;rw[<-A0A _ _ _ hq];exact⟨h,h⟩
   ·cases h
  ·cases h
 ·cases h
section
variable{r:AV×Hp}
def ZU(F:Value×AV->IH->Af)(e a:Value×AV)(l pre:IH):NO F (e::a::l) pre=ZS (F e (pre++a::l)) (NO F (a::l) (pre++[e])):=rfl
def jK(F:Value×AV->IH->Af)(e:Value×AV)(pre:IH):NO F [e] pre=F e pre:=rfl
def wX{F:Value×AV->IH->Af}:∀(l pre:IH),NO F l pre=some r->∀(j:Nat)(e:Value×AV),l[j]?=some e->F e (pre++l.eraseIdx j)=some r:=by
 intro l
 induction l with
 |nil=>intro pre h;cases h
 |cons e l ih=>
  intro pre h j a he;cases l with
  |nil=>
   rw[jK]at h;cases j with
   |zero=>simp at he;subst he;simpa using h
   |succ j=>simp at he
  |cons c l=>
   rw[ZU]at h;obtain⟨h1,h2⟩:=N? h;cases j with
   |zero=>simp at he;subst he;simpa using h1
   |succ j=>
    have:=ih _ h2 j a (by simpa using he);simpa using this
variable{P:Program}{G:Gl}{w0:Base}{C:Ctx}{H:Hp}{w:World}
def Ext.weak{C':Ctx}{w':World}{O:Nat->Prop}(h:Ext (λ_=>False) C w C' w'):Ext O C w C' w':=
 ⟨h.π,h.F,h.keep,h.B,h.keepB,h.size,λb i a=>(h.new b i a).imp id False.elim,λb a=>(h.newB b a).imp id False.elim,h.grow⟩
def dG{mt A t:TypeId}(M:P.underlying mt=some (.map A t))(hr:Rel G w0 C H w)(hm:VRel C w (.imap es) ym)(h:(GP H λs=>K (.it s) ((s,.iter es none)::H))=some r):
 ∃v n y D B,K v n=some r/\(Instr.range mt ym).run P w=.ok y B/\It G w0 C w v n y D B:=by
 rw[BQ]at h;cases hm with
 |@imap _ _ _ b clock ms u hb J hk hn hc hv=>
  have c:=KT w (.mapIter (some b) clock #[] clock);refine⟨_,_,.pointer (some ⟨w.heap.size,0,none⟩),_,w.alloc (.mapIter (some b) clock #[] clock),h,run_range_map w mt A t b ms clock M hb,.it (C.put_n _ _),hr.new_row c ⟨w.heap.size,some b,clock,#[],clock,C.put_n _ _,World.alloc_heap_new _ _,.inr ⟨b,ms,clock,rfl,rfl,rfl,u,(c.block b (hr.finB b u)).trans hb,?_,?_,trivial⟩⟩,hr.new_ext c⟩
  ·refine⟨?_,λm hm=>?_⟩
   ·rw[l20];intro i j d x g;have:=hn i j g (by simpa using x);have a:i<ms.size:=by simpa using d
    have k:j<ms.size:=by simpa using x
    simpa [WX,a,k] using this
   ·obtain⟨i,d,rfl⟩:=List.mem_iff_getElem.1 hm;have a:i<ms.size:=by simpa using d
    have:=hc i a;simpa [WX,a] using this
  ·have F:(ms.toList.filter λe=>!(#[]:Array Nat).contains e.born)=ms.toList:=by simp
   rw[F];refine⟨by simpa using J,λi p L=>?_⟩;obtain⟨d,rfl⟩:=pR.1 L;have a:i<ms.size:=by omega
   have q:(ms.getD i default)=ms[i]:=by simp[WX,a]
   refine⟨ms[i],by simp[a],?_,?_⟩
   ·have:=hk i d;rwa[q]at this
   ·have:=hv i d;rw[q]at this;exact(this.mono (hr.new_ext (O:=λ_=>True) c).bare)
def Ctx.fixM(C:Ctx)(b:Nat):Ctx:={C with B:=λk=>C.B k\/k=b}
def Rel.freezeM{s b:Nat}{q:Bool}{D:Option (Hb×Nat)}(h:Rel G w0 C H w)(n:Ao H s=some (.map q es D))(p:C.π s=some (some (b,0))):Rel G w0 (C.fixM b) (cut H s) w/\Ext w0.own C w (C.fixM b) w:=by
 have j:=h.own s _ b 0 n p;have e:Ext w0.own C w (C.fixM b) w:=⟨λ_ _=>rfl,λ_ _ h=>h,λ_ _ _=>rfl,λ_ h=>.inl h,λ_ _=>rfl,λ_ a _ f h=>⟨a,f,h,rfl⟩,λ_ _ h=>.inl h,λk h=>by rcases h with h|h;exact .inl h;exact .inr (h▸j.1),MZ _⟩
 have c:∀t x,Ao (cut H s) t=some x->t≠s/\Ao H t=some x:=λt x d=>by
  by_cases u:t=s
  ·subst u;rw[Kf]at d;cases d
  ·rw[Ns u]at d;exact⟨u,d⟩
 refine⟨⟨h.glob.mono e,h.below,λt x d=>h.lt t x (c t x d).2,λt x d=>(h.rows t x (c t x d).2).mono e (λ_ _ _=>rfl),?_,?_,h.fin,?_,?_⟩,e⟩
 ·intro t x k F d i;have hk:=h.own t x k F (c t x d).2 i;refine⟨hk.1,hk.2.1,λg=>?_⟩;rcases g with g|g
  ·exact hk.2.2 g
  ·subst g;exact(c t x d).1 (h.sep t s x _ _ _ _ (c t x d).2 n i p)
 ·intro t A x B k J L d v i m;exact h.sep t A x B k J L (c t x d).2 (c A B v).2 i m
 ·intro k g;rcases g with g|g
  ·exact h.finB k g
  ·subst g;exact(h.rows s _ n).block (λe=>by cases e) p
 ·intro k hk;rw[cut,CU]at hk;exact h.nx k hk
def A07{mt O L:TypeId}{m:AV}(D:P.underlying mt=some (.map O L))(hr:Rel G w0 C H w)(hm:VRel C w m ym)(h:lO m H K=some r):
 ∃v n y C' p,K v n=some r/\(Instr.range mt ym).run P w=.ok y p/\It G w0 C w v n y C' p:=by
 unfold lO at h;split at h
 ·exact dG D hr hm h
 ·rw[BQ]at h;have F:=A6.1 hm;subst F;have d:=KT w (.mapIter none 0 #[] 0);exact⟨_,_,.pointer (some ⟨w.heap.size,0,none⟩),_,w.alloc (.mapIter none 0 #[] 0),h,run_range_nilMap w mt O L D,.it (C.put_n _ _),hr.new_row d ⟨w.heap.size,none,0,#[],0,C.put_n _ _,World.alloc_heap_new _ _,.inl ⟨rfl,rfl,rfl⟩⟩,hr.new_ext d⟩
 ·rename_i s;obtain⟨x,N,h1⟩:=FR rfl h;obtain⟨es,bo,rfl,h2⟩:=O8 h1;obtain⟨hc,M⟩:=Bb h2;obtain⟨b,ms,clock,rfl,hp,hb,k,he, -⟩:=WA hr N hm;rw[CX]at M;obtain⟨B,J⟩:=hr.freezeM N hp;have A:VRel (C.fixM b) w (.imap es) (.map (some b)):=by
   refine .imap ms (.inr rfl) hb (by rw[<-he.1];simp) (λi e=>?_) (λi j u hj=>?_) (λi e=>?_) (λi e=>?_)
   ·obtain⟨m,t,V, -⟩:=he.2 i _ (II e);have c:ms[i]?=some m:=by simpa using t
    simp[WX,c,V]
   ·have g:j<ms.size:=by have:=he.1;simp at this;omega
    have a:i<ms.size:=by omega
    have:=(l20.1 k.born) i j (by simpa using a) (by simpa using g) u;simpa [WX,a,g] using this
   ·have a:i<ms.size:=by have:=he.1;simp at this;omega
    have:=k.lt ms[i] (by simp);simpa [WX,a] using this
   ·obtain⟨m,t, -,X⟩:=he.2 i _ (II e);have c:ms[i]?=some m:=by simpa using t
    have Y:(ms.getD i default)=m:=by simp[WX,c]
    rw[Y];have Z:=VRel.down (C:=C) (C':=C.bare) rfl rfl 3 _ _ (Gb.1 hc _ (Na e)) X;exact Z.mono J.bare
  obtain⟨v,n,y,C',p,Q,R,q⟩:=dG D B A M;exact⟨v,n,y,C',p,Q,R,q.1,q.2.1,J.trans q.2.2⟩
 ·cases h
def A2P{l:List MapEntry}(h:l.Pairwise λa b=>a.born≠b.born):∀(j:Nat)(e:MapEntry),l[j]?=some e->l.filter (λx=>decide (x.born≠e.born))=l.eraseIdx j:=by
 induction l with
 |nil=>intro j e he;simp at he
 |cons a l ih=>
  intro j e he;rw[l2k]at h;cases j with
  |zero=>
   simp at he;subst he;rw[l2h,Co (by simp),List.eraseIdx_cons_zero,List.filter_eq_self];intro x c;have:=h.1 x c;simpa using λe=>this e.symm
  |succ j=>
   have he:l[j]?=some e:=by simpa using he
   rw[l2h,CJ (by have:=h.1 e (l1h he);simpa using this),List.eraseIdx_cons_succ,ih h.2 j e he]
def wD(w:World)(n:Nat)(hn:0<n):∃(j:Nat)(w1:World),j<n/\w1.heap=w.heap/\w1.os=w.os/\w1.tape=w.tape/\w1.output=w.output/\(choose (.mapNext n)).run P w=.ok j w1:=by
 by_cases a:n<=1
 ·exact⟨0,w,hn,rfl,rfl,rfl,rfl,by simp[choose,Sem.run,Question.forced,a]⟩
 ·exact⟨_,w.drew,Nat.mod_lt _ hn,rfl,rfl,rfl,rfl,by
   simp only[choose,Sem.run,Question.forced,decide_eq_true_eq,a,if_false,Question.cut];rfl⟩
def Below.of_heap{w w1:World}(h:w1.heap=w.heap)(a:w1.os=w.os)(d:w1.tape=w.tape)(c:w1.output=w.output):Below w.heap.size w w1:=
 ⟨a,d,c,by rw[h];exact MZ _,λ_ _=>by rw[h]⟩
def A09{ty:TypeId}{it:AV}(hr:Rel G w0 C H w)(hv:VRel C w it y)(h:Yk it H K=some r):
 ∃v H' z w',K v H'=some r/\(Instr.next y false ty).run P w=.ok z w'/\It G w0 C w v H' z C w':=by
 unfold Yk at h;split at h
 ·rename_i s;obtain⟨x,hl,h1⟩:=FR rfl h;clear h;unfold A1h at h1;split at h1
  ·rename_i l aq;cases hv with
   |@it _ _ _ b ap hp=>
    obtain⟨c,mo,since,seen,last,g1,g2,g3⟩:=hr.rows s _ hl;have R:=g1.symm.trans hp;injection R with R;injection R with R;injection R with e1 e2;subst e1 e2
    have q:(getObj c).run P w=.ok (.mapIter mo since seen last) w:=by simp[getObj,Sem.run,g2]
    rcases g3 with⟨rfl,rfl,_⟩|⟨m,ms,clock,e4,e5,e6,hB,hm,J,he,ah⟩
    ·have h1:K (.tup [.v (.bool false)]) H=some r:=h1;refine⟨_,_,.tuple #[.bool false],w,h1,?_,CD.2 ⟨[.bool false],rfl,.cons (.v _) .nil⟩,hr,.refl _ _ _⟩;simp only[Instr.next];rw[Cr,q];rfl
    ·have e5:=e5.symm;have e6:=e6.symm;subst e4;subst e5;subst e6;have ag:(getObj m).run P w=.ok (.map ms clock) w:=l2l hm;have g:∀x∈ms.toList,x.born<clock:=J.lt;have N:=next_test_false seen ms clock clock g (MZ _);have Y:((ms.filter λe=>!seen.contains e.born).filter λx=>decide (x.born<clock))=ms.filter λe=>!seen.contains e.born:=by
      rw[Array.filter_eq_self];intro x Q;have:=g x (by simp at Q⊢;exact Q.1);simpa using this
     have Z:((ms.filter λe=>!seen.contains e.born).filter λx=>decide (x.born≥clock))= #[]:=by
      rw[Array.filter_eq_empty_iff];intro x Q;have:=g x (by simp at Q⊢;exact Q.1);simp;omega
     obtain⟨L,hL⟩:∃L,L=ms.filter λe=>!seen.contains e.born:=⟨_,rfl⟩
     rw[<-hL]at Y Z;have n:L.toList=ms.toList.filter λe=>!seen.contains e.born:=by rw[hL,Array.toList_filter]
     rw[<-n]at he;have u:∀(res:Result Value),(do
      let x<-choose (.mapNext ((if L.isEmpty then #[none] else #[])++L.map some).size)
      match((if L.isEmpty then #[none] else #[])++L.map some)[x]? with
      |some (some e)=>do
       setObj c (.mapIter (some m) clock (seen.push e.born) clock)
       pure (.tuple #[.bool true,e.key,e.val])
      |some none=>pure (.tuple #[.bool false])
      |none=>stuck "Next: no such candidate" :Sem Value).run P w=res->(Instr.next (.pointer (some ⟨c,0,none⟩)) false ty).run P w=res:=by
      intro res ab;unfold Instr.next;simp only;rw[Cr,q];simp only[Eu];rw[Cr,ag];simp only[Eu,N,mL,if_false,<-hL,Y,Z,Array.append_empty];exact ab
     cases l with
     |nil=>
      have h1:K (.tup [.v (.bool false)]) H=some r:=h1;have ac:L= #[]:=by
       have:=he.nil_inv;exact Array.toList_inj.1 (by simpa using this)
      refine⟨_,_,.tuple #[.bool false],w,h1,u _ ?_,CD.2 ⟨[.bool false],rfl,.cons (.v _) .nil⟩,hr,.refl _ _ _⟩;subst ac;simp[choose,Sem.run,Question.forced]
     |cons V l0=>
      have h1:NO (λe rest=>XA5 H s (.iter rest (some e)) λH'=>K (.tup [.v (.bool true),pN e.1,e.2]) H') (V::l0) []=some r:=h1;have d:L.size=(V::l0).length:=by have:=he.1;simpa using this
      have ak:L.isEmpty=false:=by simp[Array.isEmpty,d]
      obtain⟨j,w1,hj,a1,a2,a3,a4,ae⟩:=wD (P:=P) w L.size (by rw[d];simp);have aa:j<(V::l0).length:=by rw[<-d];exact hj
      have i:=wX _ _ h1 j _ (II aa);simp only[l30,CX]at i;obtain⟨a,F,t,A⟩:=he.2 j _ (II aa);have ad:L[j]?=some a:=by simpa using F
      have D:w1.heap[c]?=some (.mapIter (some m) clock seen clock):=by rw[a1];exact g2
      have ai:c<w1.heap.size:=(l1q.1 D).1;have p:=Below.of_heap a1 a2 a3 a4;have am:=hr.of_below p;have k:Ext w0.own C w C w1:=hr.ext_below p;have M:SameObj w1 (w1.putObj c (.mapIter (some m) clock (seen.push a.born) clock)) c (.mapIter (some m) clock (seen.push a.born) clock):=SameObj.putObj ai _;have aj:m≠c:=λe=>by subst e;rw[hm]at g2;cases g2
      have af:(ms.toList.filter λx=>!(seen.push a.born).contains x.born)=L.toList.eraseIdx j:=by
       rw[<-A2P (l:=L.toList) (by rw[n];exact J.born.filter _) j a F,n,List.filter_filter];apply List.filter_congr;intro x _;rw[Array.contains_push];by_cases Q:x.born=a.born<;>simp[Q]
      obtain⟨ao,X⟩:=am.set_obj (O:=w0.own) (y:=.iter ((V::l0).eraseIdx j) (some (V::l0)[j])) hl hp M (λarr T fz hc=>by rw[D]at hc;cases hc) (λex=>by
       refine⟨c,some m,clock,seen.push a.born,clock,hp,M.here,.inr ⟨m,ms,clock,rfl,rfl,rfl,hB,(M.others m aj).trans (by rw[a1];exact hm),J,?_,?_⟩⟩
       ·rw[af];exact(he.mono (k.trans ex.weak).bare).eraseIdx j
       ·refine⟨a,?_,Array.back?_push,t,A.mono (k.trans ex.weak).bare⟩;have:=l1h F;rw[n]at this;exact(l2u.1 this).1)
      refine⟨_,_,.tuple #[.bool true,a.key,a.val],_,i,u _ ?_,CD.2 ⟨[.bool true,a.key,a.val],rfl,.cons (.v _) (.cons ?_ (.cons ?_ .nil))⟩,ao,k.trans X⟩
      ·rw[ak];simp only[mL,if_false,Array.empty_append,Array.size_map];rw[Cr,ae];simp only[Eu,Array.getElem?_map,ad,oH];rw[Cr];have:(setObj c (.mapIter (some m) clock (seen.push a.born) clock)).run P w1=.ok () (w1.putObj c (.mapIter (some m) clock (seen.push a.born) clock)):=by simp[setObj,Sem.run,D,World.putObj]
       rw[this];rfl
      ·rw[t];exact XB _
      ·exact((A.up rfl rfl).mono (k.trans X))
  ·cases h1
 ·cases h
def A0f{it:AV}{K:K2}(hr:Rel G w0 C H w)(hv:VRel C w it y)(h:lV it H K=some r):
 ∃v z,K v=some r/\(Instr.entry y).run P w=.ok z w/\VRel C w v z:=by
 unfold lV at h;split at h
 ·rename_i s;obtain⟨x,J,h1⟩:=FR rfl h;clear h;unfold A5C at h1;split at h1
  ·rename_i left p;cases hv with
   |@it _ _ _ b i L=>
    obtain⟨j,O,since,seen,last,A,B,D⟩:=hr.rows s _ J;have c:=A.symm.trans L;injection c with c;injection c with c;injection c with k n;subst k n
    have d:(getObj j).run P w=.ok (.mapIter O since seen last) w:=by simp[getObj,Sem.run,B]
    rcases D with⟨_,_,u⟩|⟨m,ms,clock,q,Q,t,R,hm,g,he,a,k1,M,k3,N⟩
    ·cases u
    ·subst q;have e:(getObj m).run P w=.ok (.map ms clock) w:=l2l hm;have F:ms.find? (·.born==a.born)=some a:=by
      rw[<-Array.find?_toList];exact find_born a ms.toList (by rw[List.nodup_iff_pairwise_ne,List.pairwise_map];exact g.born) k1
     refine⟨_,.tuple #[a.key,a.val],h1,?_,CD.2 ⟨[a.key,a.val],rfl,.cons (by rw[k3];exact XB _) (.cons (N.up rfl rfl) .nil)⟩⟩;simp only[Instr.entry];rw[Cr,d];simp only[Eu,M];rw[Cr,e];simp[t,F]
  ·cases h1
 ·cases h
end
end
section
variable{dst:AV}{K:K2}{op:BinOp}{q:Bool}{esz n s:Nat}{fz:Nat×Nat}{i ie:TI}{y:Value}
section
variable{P:Program}{G:Gl}{w0:Base}{C:Ctx}{H:Hp}{w:World}{r:AV×Hp}
def Rel.set_row(h:Rel G w0 C H w){x y:Row}(m:Ao H s=some x)(A:PZ C w s y):Rel G w0 C (upd H s y) w:=by
 have key:∀t z,Ao (upd H s y) t=some z->(t=s/\z=y)\/(t≠s/\Ao H t=some z):=λt z hz=>by
  by_cases d:t=s
  ·subst d;rw[Et m]at hz;exact .inl ⟨rfl,(XR hz).1.symm⟩
  ·rw[Aj d]at hz;exact .inr ⟨d,hz⟩
 have c:∀t z,Ao (upd H s y) t=some z->∃e,Ao H t=some e:=λt z hz=>by
  rcases key t z hz with⟨rfl,_⟩|⟨_,h⟩
  ·exact⟨x,m⟩
  ·exact⟨z,h⟩
 refine⟨h.glob,h.below,?_,?_,?_,?_,h.fin,h.finB,λk hk=>h.nx k (by rw[CU]at hk;exact hk)⟩
 ·intro t z hz;obtain⟨e,a⟩:=c t z hz;exact h.lt t e a
 ·intro t z hz;rcases key t z hz with⟨rfl,rfl⟩|⟨_,hz⟩
  ·exact A
  ·exact h.rows t z hz
 ·intro t z k j hz hk;obtain⟨e,a⟩:=c t z hz;exact h.own t e k j a hk
 ·intro t p z e k j B hz a hk f;obtain⟨u,v⟩:=c t z hz;obtain⟨D,g⟩:=c p e a;exact h.sep t p u D k j B v g hk f
theorem Laid.take{T:TypeId}{cs:Is}{b base:Nat}{arr:Array Value}(h:Laid C w s q T cs b base arr fz)(n:Nat):Laid C w s false T (cs.take n) b base arr fz:=
 ⟨h.at_,h.block,h.free,by have:=h.fits;rw[xS];omega,by
  have:=h.vals.unsel.take n;rw[List.take_take]at this;rw[xS];exact this,λh=>by cases h⟩
theorem PZ.take{T:TypeId}{cs:Is}(h:PZ C w s (.cells q T cs))(n:Nat):PZ C w s (.cells false T (cs.take n)):=by
 rcases h with⟨rfl,h⟩|⟨b,a,arr,fz,h⟩
 ·exact .inl ⟨by simp,h⟩
 ·exact .inr ⟨b,a,arr,fz,h.take n⟩
def A0N(s:AV)(H:Hp)(K:Ru):Af:=
 match s with
 |.sl sz r o n=>IZ H r λx=>KY x λE cs=>HB cs 0 λcl=>@Bool.rec (λ_=>Af) (UX (Nat.add o (Nat.mul n sz)) cs λa=>XA5 H r (.cells false E a) K) (K H) (Nat.beq (Nat.add o (Nat.mul n sz)) cl)
 |_=>K H
def iK{s:AV}{K:Ru}(h:A0N s H K=some r):∃a,K a=some r/\Ay a=Ay H/\∀{G:Gl}{w0:Base}{C:Ctx}{w:World},Rel G w0 C H w->Rel G w0 C a w:=by
 unfold A0N at h;split at h
 ·rename_i sz r1 o n;obtain⟨q,E,cs,c,h1⟩:=HG h;rw[Cz,Le]at h1;cases hb:Nat.beq (Nat.add o (Nat.mul n sz)) cs.length
  ·rw[hb]at h1;simp only[Nw,CX]at h1;exact⟨_,h1,CU _ _ _,λhr=>hr.set_row c ((hr.rows _ _ c).take _)⟩
  ·rw[hb]at h1;exact⟨H,h1,rfl,λhr=>hr⟩
 ·exact⟨H,h,rfl,λhr=>hr⟩
def DJ(e:TypeId)(esz:Nat)(ie i2:TI)(s x:AV)(H:Hp)(K:KV):Af:=A0N s H λa=>lX e esz ie i2 s x a K
def qT(e:TypeId)(esz:Nat)(ie i2:TI)(s x:AV)(H:Hp)(K:KV):Af:=match x with
 |.sl sz r o n=>TU H (.sl sz r o n) λm c=>A0N s H λa=>lX e esz ie i2 s (.list m c) a K
 |x=>DJ e esz ie i2 s x H K
def zD(esz:Nat)(dst src:AV)(H:Hp)(K:KV):Af:=
 TU H src λm c=>HB c 0 λk=>match dst with
  |.sl sz r o n=>ck (Nat.beq k (Nat.mul m esz)&&(Nat.beq sz esz&&(Nat.blt 0 n&&(Nat.ble m n&&(Qb c&&Xp esz src))))) (IZ H r λx=>iV x λq E cs=>D8 o c cs λa=>XA5 H r (.cells q E a) λd=>K (.v (.int .i64 (.ofNat m))) d)
  |_=>none
def A0j(esz:Nat)(ie:TI)(dst:AV)(H:Hp)(K:Ru):Af:=
 match dst with
 |.v (.slice none 0 0)=>K H
 |.sl _ _ _ 0=>K H
 |.sl sz r o n=>Gy ie.zero λz=>HB z 0 λk=>ck (Nat.beq k esz&&(Nat.beq sz esz&&Qb z)) (Yc n z λc=>IZ H r λx=>iV x λq E cs=>D8 o c cs λa=>XA5 H r (.cells q E a) K)
 |_=>none
def oM(n esz:Nat)(x:AV)(c a:Option AV)(H:Hp)(K:K2):Af:=
 match x with
 |.ptr s p k=>IZ H s λy=>KY y λ_ cs=>HB cs 0 λcl=>ck (Nat.ble (Nat.add (Nat.add p k) (Nat.mul n esz)) cl)
  (TV c 0 λl=>TV a n λh=>ck (Nat.ble l h&&Nat.ble h n) (fN (Nat.add (Nat.add p k) (Nat.mul l esz)) λd=>fN (Nat.sub h l) λm=>K (.sl esz s d m)))
 |_=>none
def Ts(ks:List LK)(op:BinOp)(a b:AV)(K:K2):Af:=
 match a,b with
 |.agg c,.agg d=>ZZ c λxs=>ZZ d λe=>ck (fits ks xs) (match Vk xs e,op with
  |some q,.eql=>bB q K
  |some q,.neq=>bB (!q) K
  |_,_=>none)
 |_,_=>none
def Yr(i ie:TI)(op:BinOp)(a b:AV)(K:K2):Af:=
 match a,b with
 |.ptr r p k,.ptr e d c=>ck (Nat.beq r e&&(Nat.beq (Nat.add p k) (Nat.add d c)&& !Nat.beq ie.size 0)) (match op with|.eql=>K (.v (.bool true))|.neq=>K (.v (.bool false))|_=>none)
 |a,b=>Al i op a b K
def pF{s o:Nat}{E:TypeId}{cs ys:Is}{b base:Nat}{arr:Array Value}{vs:Hx}(hr:Rel G w0 C H w)(h:Ao H s=some (.cells q E cs))(f:Laid C w s q E cs b base arr fz)(a:o+ys.length<=cs.length)(hv:BU C w ys vs)(c:ys.all AV.one=true):
 ∃e,(storeCells ⟨b,base+o,none⟩ vs 0).run P w=.ok () e/\Rel G w0 C (upd H s (.cells q E (splice cs o ys))) e/\Ext w0.own C w C e:=by
 have k:=f.fits;have g:vs.length=ys.length:=hv.1;obtain⟨e,d,j⟩:=K0 (P:=P) vs w arr (base+o) 0 f.block f.free (by omega) (xK hv c);have:=hr.store (O:=w0.own) h f a hv (by simpa using j);exact⟨e,d,this.1,this.2⟩
def rV{sz s o n:Nat}{E:TypeId}{cs:Is}(hr:Rel G w0 C H w)(B:Ao H s=some (.cells q E cs))(hv:VRel C w (.sl sz s o n) y)(hn:n≠0):∃b a arr fz cap,y=.slice (some ⟨b,a+o,none⟩) n cap/\n<=cap/\Laid C w s q E cs b a arr fz/\a+o+cap*sz<=arr.size:=by
 cases hv with
 |slz=>exact absurd rfl hn
 |@sl _ _ _ _ _ _ b a cap arr T fz k f hb hsz=>
  rcases hr.rows s _ B with⟨_,A⟩|⟨m,c,d,h,j⟩
  ·rw[A]at k;cases k
  ·have e:=j.at_.symm.trans k;injection e with e;injection e with e;injection e with p t;subst p t
   have g:=j.block.symm.trans hb;injection g with g;injection g with u v x
   subst u v x;exact⟨m,c,d,h,cap,rfl,f,j,hsz⟩
def A0g{T:Ty}(Y:Y8 P T){B ty e:TypeId}{ts:Array TypeId}{dst src:AV}{y z:Value}{K:KV}(L:ts[0]?=some B)(hi:T B=some i)(Z:i.d=.slice e esz)(J:esz≠0)(hr:Rel G w0 C H w)(hv:VRel C w dst y)(hs:VRel C w src z)(h:zD esz dst src H K=some r):
 ∃v N u A,K v N=some r/\(Builtin.copy_ ts ty #[y,z]).run P w=.ok u A/\It G w0 C w v N u C A:=by
 unfold zD at h;obtain⟨m,ys,q0,x,h1⟩:=V3 h;rw[Cz,Le]at h1;split at h1
 ·rename_i sz s o n;obtain⟨hc,h2⟩:=Bb h1;simp only[I0,eY,Ua,Zl,FV]at hc;obtain⟨c1,c2,c3,c4,c5,c6⟩:=hc;obtain⟨q,E,cs,V,X⟩:=RG h2;obtain⟨g,Q⟩:=J5 _ _ _ _ _ X;rw[CX]at Q;obtain⟨b,O,arr,fz,cap,rfl,R,D,hsz⟩:=rV hr V hv (by omega);obtain⟨j,vs,M,a⟩:=Tw (P:=P) (esz:=esz) hr hs x c1 (λq hq=>by subst hq;exact VQ c6);obtain⟨A,t,p,F⟩:=pF (P:=P) hr V D g M c5;obtain⟨hu,f⟩:=(Y B i hi).elem_slice Z;have c:(sizeOf e).run P w=.ok esz w:=by rw[<-f];exact B2 w (by rw[f];exact J)
  refine⟨_,_,goInt m,A,Q,?_,.v _,p,F⟩;unfold Builtin.copy_;simp only[L,l10,l1w,l0q];rw[Cr,run_underlying hu w];simp only[Eu];rw[Cr,j];simp only[Eu];rw[Cr,c];simp only[Eu];have k:Nat.min m n=m:=l1x c4;rw[Cr,k,a w (λ_ _=>rfl)];simp only[Eu];rw[Cr,t];rfl
 ·cases h1
def A0i{T:Ty}(R:Y8 P T){v ty e:TypeId}{ts:Array TypeId}{K:Ru}(p:ts[0]?=some v)(hi:T v=some i)(hd:i.d=.slice e esz)(B:T e=some ie)(hr:Rel G w0 C H w)(hv:VRel C w dst y)(h:A0j esz ie dst H K=some r):
 ∃N u,K N=some r/\(Builtin.clear_ ts ty #[y]).run P w=.ok (.tuple #[]) u/\Rel G w0 C N u/\Ext w0.own C w C u:=by
 obtain⟨Y,aa⟩:=(R v i hi).elem_slice hd;have hz:∀{a:Option Addr}{c:Nat},(Builtin.clear_ ts ty #[.slice a 0 c]).run P w=.ok (.tuple #[]) w:=by
  intro a c;unfold Builtin.clear_;simp only[p,l10,l1w];rw[Cr,run_underlying Y w];simp only[Eu];cases a<;>rfl
 unfold A0j at h;split at h
 ·obtain rfl:=A6.1 hv;exact⟨H,w,h,hz,hr,.refl _ _ _⟩
 ·cases hv with
  |slz=>exact⟨H,w,h,hz,hr,.refl _ _ _⟩
  |sl=>exact⟨H,w,h,hz,hr,.refl _ _ _⟩
 ·rename_i sz s o n D;rw[CH,Cz,Le]at h;obtain⟨hc,h2⟩:=Bb h;simp only[I0,eY,FV]at hc;obtain⟨c1,c2,c3⟩:=hc;rw[UY]at h2;obtain⟨q,E,cs,X,h3⟩:=RG h2;obtain⟨f,Q⟩:=J5 _ _ _ _ _ h3;rw[CX]at Q;have hn:n≠0:=λe=>D e;obtain⟨b,O,arr,fz,cap,rfl,V,x,hsz⟩:=rV hr X hv hn;obtain⟨z,L,Z⟩:=(R e ie B).run_zero w;have F:BU C w (Br ie.zero) z.cells.toList:=Mj (t:=e) Z;have M:BU C w (Ur n (Br ie.zero)) ((List.range n).flatMap λ_=>z.cells.toList):=by rw[Xt];exact V0 F n
  have g:(Ur n (Br ie.zero)).all AV.one=true:=by
   rw[Xt,List.all_flatMap];simp[c3]
  obtain⟨u,m,j,A⟩:=pF (P:=P) hr X x f M g;refine⟨_,u,Q,?_,j,A⟩;obtain⟨n,rfl⟩:∃k,n=k+1:=⟨n-1,by omega⟩
  unfold Builtin.clear_;simp only[p,l10,l1w];rw[Cr,run_underlying Y w];simp only[Eu];have J:(Builtin.zeroCells z.cells (n+1)).toList=(List.range (n+1)).flatMap λ_=>z.cells.toList:=congrArg Array.toList (WZ z.cells (n+1));rw[Cr,L];simp only[Eu,J];rw[Cr,m];rfl
 ·cases h
def A04{T:Ty}(hT:Y8 P T){ty e:TypeId}{x:AV}{lo hi:Option AV}{yl Y:Option Value}(R:T ty=some i)(hd:i.d=.array n e esz)(X:esz≠0)(hr:Rel G w0 C H w)(hv:VRel C w x y)(V:uK C w lo yl)(Q:uK C w hi Y)(h:oM n esz x lo hi H K=some r):
 ∃v u,K v=some r/\(Instr.sliceAt ty y yl Y none).run P w=.ok u w/\VRel C w v u:=by
 unfold oM at h;split at h
 ·rename_i s p k;obtain⟨q,E,cs,hl,h1⟩:=HG h;rw[Cz,Le]at h1;obtain⟨hc,h2⟩:=Bb h1;obtain⟨l,M,h3⟩:=GJ h2;obtain⟨m,N,h4⟩:=GJ h3;obtain⟨hb,h5⟩:=Bb h4;rw[Ep,Ep]at h5;simp only[I0,Zl]at hb;rw[Zl]at hc;have hc:p+k+n*esz<=cs.length:=hc;obtain⟨hu,t⟩:=(hT ty i R).elem_array hd;have f:(sizeOf e).run P w=.ok esz w:=by rw[<-t];exact B2 w (by rw[t];exact X)
  have O:=PV (P:=P) (isS:=false) V Q (mx:=none) (ym:=none) trivial (MZ n) M N (x:=n) (by simp[V7]) (by omega) (by simp);cases hv with
  |@ptr _ _ _ _ _ b Z J=>
   rcases hr.rows s _ hl with⟨_,h6⟩|⟨L,a,g,aa,c⟩
   ·have:=h6.symm.trans J;cases this
   ·have j:=c.at_.symm.trans J;injection j with j;injection j with j;injection j with e1 e2;subst e1 e2
    have hf:=c.fits;have F:(Instr.sliceAt ty (.pointer (some ⟨L,a+(p+k),none⟩)) yl Y none).run P w=.ok (.slice (some (if n=l then⟨L,a+(p+k),none⟩ else⟨L,a+(p+k)+l*esz,none⟩)) (m-l) (n-l)) w:=by
     unfold Instr.sliceAt;rw[Cr,run_underlying hu w];simp only[Eu,Instr.sureAddr];rw[Cr,Zn];simp only[Eu];rw[Cr,O];simp only[Eu,XV];rw[Cr,f];simp only[Eu,Zn,HQ]
    refine⟨_,_,h5,F,?_⟩;by_cases B:n=l
    ·have A:m-l=0:=by omega
     have D:n-l=0:=by omega
     rw[CJ B,A,D];have:Nat.sub m l=0:=A;rw[this];exact .slz (by rw[J];simp)
    ·rw[Co B];have e4:a+(p+k)+l*esz=a+(Nat.add (Nat.add p k) (Nat.mul l esz)):=by show _=a+(p+k+l*esz);omega
     rw[e4];refine .sl J (Nat.sub_le_sub_right hb.2 l) c.block ?_;show a+(p+k+l*esz)+(n-l)*esz<=g.size;have:l*esz+(n-l)*esz=n*esz:=by rw[<-B!];congr 1;omega
     omega
 ·cases h
def A0e{t:TypeId}{ks:List LK}{a b:AV}{y z:Value}(x A:Operand)(m:EqFlat P t ks)(B:VRel C w a y)(hb:VRel C w b z)(h:Ts ks op a b K=some r):
 ∃v u,K v=some r/\(do eqGuard op t x A y z;binOp op t y z).run P w=.ok u w/\VRel C w v u:=by
 unfold Ts at h;split at h
 ·rename_i F J;obtain⟨xs,rfl,h1⟩:=WH _ _ h;obtain⟨d,rfl,h2⟩:=WH _ _ h1;obtain⟨e,c⟩:=Bb h2;have D:=iE B;have hz:=iE hb;subst D hz;have p:=run_eqGuard_agg (P:=P) w op t x A xs.toArray d.toArray m.guard;split at c
  ·rename_i q hq;rw[JB]at c;obtain⟨f,g⟩:=Sc hq;refine⟨_,.bool q,c,?_,.v _⟩;rw[Cr,p];simp only[Eu];rw[run_eql_struct];have:=m.equal e (g ks e) w;have j:decide (xs=d)=q:=by rw[eZ,f];simp
   rw[j]at this;have k:(Op.equalIn 10000 t (.agg xs.toArray) (.agg d.toArray)).run P w=.ok q w:=this;rw[k];rfl
  ·rename_i q hq;rw[JB]at c;obtain⟨f,g⟩:=Sc hq;refine⟨_,.bool (!q),c,?_,.v _⟩;rw[Cr,p];simp only[Eu];rw[run_neq_struct];have:=m.equal e (g ks e) w;have j:decide (xs=d)=q:=by rw[eZ,f];simp
   rw[j]at this;have k:(Op.equalIn 10000 t (.agg xs.toArray) (.agg d.toArray)).run P w=.ok q w:=this;rw[k];rfl
  ·cases c
 ·cases h
def A0d{T:Ty}(j:Y8 P T){ty e:TypeId}{a b:AV}{y z:Value}(D F:Operand)(M:T ty=some i)(R:i.d=.pointer e)(m:T e=some ie)(J:VRel C w a y)(hb:VRel C w b z)(h:Yr i ie op a b K=some r):
 ∃v u,K v=some r/\(do eqGuard op ty D F y z;binOp op ty y z).run P w=.ok u w/\VRel C w v u:=by
 unfold Yr at h;split at h
 ·rename_i s p k s' p' Z;obtain⟨hc,h1⟩:=Bb h;simp only[I0,eY,tD]at hc;obtain⟨c1,c2,c3⟩:=hc;subst c1;have c2:p+k=p'+Z:=c2;have B:y=z/\∃c,y=.pointer (some c):=by
   cases J with
   |ptr V=>
    cases hb with
    |ptr t=>
     have f:=V.symm.trans t;injection f with f;injection f with f;injection f with g N;subst g N
     exact⟨by rw[c2],_,rfl⟩
  obtain⟨rfl,c,rfl⟩:=B;obtain⟨u,X,g⟩:=(j ty i M).under;rw[R]at g;have A:u=.pointer e:=by cases u<;>simp[td]at g;rw[g]
  subst A;obtain⟨x,z0,Y,hs,_⟩:=(j e ie m).info;have heq:(Op.equal ty (.pointer (some c)) (.pointer (some c))).run P w=.ok true w:=by
   show(Op.equalIn (9999+1) ty _ _).run P w=_;unfold Op.equalIn;rw[Cr,run_underlying X w];simp[sizeOf,typeInfo,Y,sameAddr]
  have L:=dD (P:=P) (op:=op) (ty:=ty) (x:=D) (y:=F) (a:=.pointer (some c)) (b:=.pointer (some c)) w ⟨by simp,by simp⟩;split at h1
  ·exact⟨_,.bool true,h1,by rw[Cr,L];simp[binOp,heq],.v _⟩
  ·exact⟨_,.bool false,h1,by rw[Cr,L];simp[binOp,heq],.v _⟩
  ·cases h1
 ·obtain⟨v,h1,h2⟩:=qQ (T:=T) (ty:=ty) M h;obtain⟨v',u,O,Q,rfl⟩:=hM j D F J hb h2;exact⟨v',u,h1,O,Q⟩
end
end
section
variable{v:AV}{K:K2}{d e s:TypeId}{y:Value}
def A9m(l:List Lie)(e n o u:Nat):Bool:=@List.rec Lie (λ_=>Bool) false (λp _ ih=>@Bool.rec (λ_=>Bool) ih true (Nat.beq p.1 e&&(Nat.beq p.2.1 n&&(Nat.beq p.2.2.1 o&&Nat.beq p.2.2.2 u)))) l
def yT(ie:TI)(v:AV)(H:Hp)(K:K2):Af:=
 match v with
 |.ptr s p k=>IZ H s λx=>KY x λ_ cs=>HB cs 0 λcl=>ck (Nat.blt (Nat.add p k) cl&& !Nat.beq ie.size 0) (K (.ptr s p k))
 |_=>none
def yP(l:List Lie)(u:TypeId)(v:AV)(H:Hp)(K:K2):Af:=
 match v with
 |.ptr s p k=>IZ H s λx=>iV x λq E cs=>HB cs 0 λcl=>ck (q&&A9m l E cl (Nat.add p k) u) (K (.ptr s p k))
 |_=>none
def A2T(s:AV)(K:K2):Af:=
 match s with
 |.sl sz r o n=>ck (Nat.beq sz 1&&Nat.blt 0 n) (K (.ptr r o 0))
 |_=>none
def A01(e:TypeId)(p n:AV)(H:Hp)(K:KV):Af:=
 match p with
 |.ptr s o k=>tG n λz=>iN z λn=>IZ H s λx=>KY x λE cs=>ck (Nat.beq E e&&(Nat.blt 0 n&&Nat.blt n 9223372036854775807)) (Fb n (CL (Nat.add o k) cs) λc=>fu8 c λl=>XA5 H s .gone λa=>K (.v (.string ⟨⟨l⟩⟩)) a)
 |_=>none
def A5A{l:List Lie}{e n o u:Nat}(h:A9m l e n o u=true):(e,n,o,u)∈l:=by
 induction l with
 |nil=>cases h
 |cons p l ih=>
  have h:@Bool.rec (λ_=>Bool) (A9m l e n o u) true (Nat.beq p.1 e&&(Nat.beq p.2.1 n&&(Nat.beq p.2.2.1 o&&Nat.beq p.2.2.2 u)))=true:=h;cases hq:(Nat.beq p.1 e&&(Nat.beq p.2.1 n&&(Nat.beq p.2.2.1 o&&Nat.beq p.2.2.2 u)))
  ·rw[hq]at h;exact List.mem_cons_of_mem _ (ih h)
  ·simp only[I0,eY]at hq;obtain⟨h1,h2,f,g⟩:=hq;obtain⟨a,b,c,d⟩:=p;simp only at h1 h2 f g;subst h1 h2 f g;exact List.mem_cons_self
section
variable{P:Program}{G:Gl}{w0:Base}{C:Ctx}{H:Hp}{w w':World}{r:AV×Hp}
def A08{T:Ty}(F:Y8 P T){i ie:TI}(V:T s=some i)(R:i.d=.pointer e)(m:T e=some ie)(A:P.underlying d=some .unsafePointer)(hr:Rel G w0 C H w)(hv:VRel C w v y)(h:yT ie v H K=some r):
 K v=some r/\(convert s d y).run P w=.ok y w:=by
 unfold yT at h;split at h
 ·rename_i t p k;obtain⟨q,E,cs,X,h1⟩:=HG h;rw[Cz,Le]at h1;obtain⟨hc,h2⟩:=Bb h1;simp only[I0,Ua,tD]at hc;obtain⟨c1,c2⟩:=hc;have c1:p+k<cs.length:=c1;refine⟨h2,?_⟩;cases hv with
  |@ptr _ _ _ _ _ b B J=>
   rcases hr.rows t _ X with⟨_,Q⟩|⟨L,a,c,O,f⟩
   ·have:=Q.symm.trans J;cases this
   ·have g:=f.at_.symm.trans J;injection g with g;injection g with g;injection g with M N;subst M N
    have hf:=f.fits;obtain⟨u,Z,j⟩:=(F s i V).under;rw[R]at j;have n:u=.pointer e:=by cases u<;>simp[td]at j;rw[j]
    subst n;obtain⟨x,z0,hx,Y,_⟩:=(F e ie m).info;have hsz:x.size≠0:=λD=>by rw[Y]at D;rw[D]at c2;simp at c2
    exact Lib.run_to_unsafe w ⟨L,a+(p+k),none⟩ Z A hx hsz (e:=E) (cells:=c.size) (by simp[World.shape?,f.block]) (by show a+(p+k)<c.size;omega)
 ·cases h
def A02{l:List Lie}(m:∀e n o u,(e,n,o,u)∈l->liesAt P P.depth e (n/P.cellsOf e) o u 1=true/\(P.info? u).isSome=true){s d u:TypeId}(A:P.underlying s=some .unsafePointer)(O:P.underlying d=some (.pointer u))(hr:Rel G w0 C H w)(hv:VRel C w v y)(h:yP l u v H K=some r):
 K v=some r/\(convert s d y).run P w=.ok y w:=by
 unfold yP at h;split at h
 ·rename_i t p k;obtain⟨q,E,cs,R,h1⟩:=RG h;rw[Cz,Le]at h1;obtain⟨hc,h2⟩:=Bb h1;simp only[I0]at hc;obtain⟨c1,c2⟩:=hc;obtain⟨c,f⟩:=m _ _ _ _ (A5A c2);refine⟨h2,?_⟩;cases hv with
  |@ptr _ _ _ _ _ b B D=>
   rcases hr.rows t _ R with⟨_,N⟩|⟨F,x,g,M,a⟩
   ·have:=N.symm.trans D;cases this
   ·have i:=a.at_.symm.trans D;injection i with i;injection i with i;injection i with J L;subst J L
    obtain⟨V,X⟩:=a.exact c1;subst V;obtain⟨j,Q⟩:=Option.isSome_iff_exists.1 f;refine Lib.run_from_unsafe w ⟨F,0+(p+k),none⟩ A O Q (e:=E) (cells:=g.size) (by simp[World.shape?,a.block]) ?_;rw[X,Le];exact c
 ·cases h
def Rel.change(h:Rel G w0 C H w){s b base:Nat}{x:Row}(J:Ao H s=some x)(L:C.π s=some (some (b,base)))(p:w'.os=w.os)(V:w'.tape=w.tape)(A:w'.output=w.output)(hsz:w'.heap.size=w.heap.size)(g:∀k,k≠b->w'.heap[k]?=w.heap[k]?)(hb:∀arr T fz,w.heap[b]?=some (.cells arr T fz)->∃m u,w'.heap[b]?=some (.cells m T u)/\m.size=arr.size):Rel G w0 C (cut H s) w'/\Ext w0.own C w C w':=by
 have j:=h.own s x b base J L;have e:Ext w0.own C w C w':=by
  refine⟨λ_ _=>rfl,λ_ _ h=>h,λk i h=>?_,λ_ h=>h,λk h=>g k (λe=>j.2.2 (e▸h)),λk a t f h=>?_,λ_ _ h=>.inl h,λ_ h=>.inl h,Nat.le_of_eq hsz.symm⟩
  ·exact l0s (g k (λe=>j.2.1 i (e▸h)))
  ·by_cases hk:k=b
   ·subst hk;exact hb a t f h
   ·exact⟨a,f,(g k hk).trans h,rfl⟩
 have c:∀t z,Ao (cut H s) t=some z->t≠s/\Ao H t=some z:=λt z hz=>by
  by_cases n:t=s
  ·subst n;rw[Kf]at hz;cases hz
  ·rw[Ns n]at hz;exact⟨n,hz⟩
 refine⟨⟨h.glob.mono e,⟨p.trans h.below.os,V.trans h.below.tape,A.trans h.below.output,by rw[hsz];exact h.below.size,λk hk F=>(g k (λe=>?_)).trans (h.below.block k hk F)⟩,λt z hz=>h.lt t z (c t z hz).2,λt z hz=>(h.rows t z (c t z hz).2).mono e (λk q B=>g k (λO=>?_)),
  λt z k o hz=>h.own t z k o (c t z hz).2,λt M z N k X Y hz D=>h.sep t M z N k X Y (c t z hz).2 (c M N D).2,λk i R=>hsz▸h.fin k i R,λk Q=>hsz▸h.finB k Q,λk hk=>h.nx k (by rw[cut,CU]at hk;exact hk)⟩,e⟩
 ·subst e;rcases j.1 with p|p
  ·omega
  ·exact F p
 ·subst O;exact(c t z hz).1 (h.sep t s z x _ _ _ (c t z hz).2 J B L)
def oG(hc:P.cellsOf e=1)(count off n:Nat)(hn:off+n<=count):liesAt P P.depth e count off e n=true:=by
 have a:P.depth=(2*(P.types.size+Made.depth)+1)+1:=rfl;rw[a];simp only[liesAt,l1d];left;rw[a];simp[rowAt,hc,hn,sameLayout,Nat.mod_one]
def A00{T:Ty}(hT:Y8 P T){e J it ty:TypeId}{F ie:TI}{p n:AV}{y z:Value}{K:KV}(ak:T J=some F)(hd:F.d=.pointer e)(ah:T e=some ie)(ad:ie.size=1)(hr:Rel G w0 C H w)(hv:VRel C w p y)(hn:VRel C w n z)(h:A01 e p n H K=some r):
 ∃v H' u w',K v H'=some r/\(Builtin.unsafeString_ #[J,it] ty #[y,z]).run P w=.ok u w'/\It G w0 C w v H' u C w':=by
 unfold A01 at h;split at h
 ·rename_i s o k;obtain⟨kk,zz,rfl,h1⟩:=MJ h;obtain⟨m,rfl,h2⟩:=Tf h1;obtain⟨q,E,cs,hl,h3⟩:=HG h2;obtain⟨hc,h4⟩:=Bb h3;simp only[I0,eY,Ua]at hc;obtain⟨c1,c2,c3⟩:=hc;subst c1;obtain⟨x,h5⟩:=Jl _ _ _ _ h4;rw[Cs]at x h5;obtain⟨f,Z,h6⟩:=yD _ _ h5;rw[CX]at h6;obtain rfl:=A6.1 hn;have ay:o+k+m<=cs.length:=by
   have:m<=(cs.drop (o+k)).length:=x;simp at this;omega
  cases hv with
  |@ptr _ _ _ _ _ b aq hp=>
   rcases hr.rows s _ hl with⟨_,h7⟩|⟨g,c,t,ar,i⟩
   ·have:=h7.symm.trans hp;cases this
   ·have L:=i.at_.symm.trans hp;injection L with L;injection L with L;injection L with e1 e2;subst e1 e2
    have hf:=i.fits;have aj:f.length=m:=by
     have:=congrArg List.length Z;simp at this;have:(cs.drop (o+k)).length=cs.length-(o+k):=by simp
     simp_all
    have A:∀j(R:j<f.length),w.cell? ⟨g,c+(o+k)+j,none⟩=some (.int .u8 (f[j]:Int)):=λj R=>by
     have ag:cs[o+k+j]?=some (.v (.int .u8 (f[j]:Int))):=by
      have:=congrArg (λl=>l[j]?) Z;simp only[oI,fX,pS]at this;rw[CJ (by omega),II R]at this;simpa using this
     obtain⟨hi,af⟩:=pR.1 ag;obtain⟨y,hy,aa⟩:=i.get _ hi;rw[af]at aa;rw[<-A6.1 aa];rw[<-hy]
     congr 2
     omega
    obtain⟨hu,N⟩:P.underlying J=some (.pointer E)/\P.cellsOf E=1:=by
     obtain⟨u,hu,eu⟩:=(hT J F ak).under;rw[hd]at eu;have ao:u=.pointer E:=by cases u<;>simp[td]at eu;rw[eu]
     subst ao;exact⟨hu,by rw[(hT E ie ah).cellsOf,ad]⟩
    have D:∀(f:Hb)(off:Nat)(acc:ByteArray),(∀j(R:j<f.length),w.cell? ⟨g,off+j,none⟩=some (.int .u8 (f[j]:Int)))->
     (loadBytes ⟨g,off,none⟩ acc f.length).run P w=.ok ⟨acc.data++(f.map UInt8.ofNat).toArray⟩ w:=by
     intro f
     induction f with
     |nil=>intro off acc _;simp[loadBytes]
     |cons n f ih=>
      intro off acc hc;have h0:w.cell? ⟨g,off,none⟩=some (.int .u8 (n:Int)):=hc 0 (by simp);have ap:=ih (off+1) (acc.push (UInt8.ofNat n)) (λj R=>by
       have:=hc (j+1) (by simpa using R);simpa [WE,Nat.add_comm 1 j] using this)
      have hx:((n:Int).toNat).toUInt8=UInt8.ofNat n:=by simp
      simp only[Kg,loadBytes,Cr,run_load,h0,Result.andThen,hx,HQ];rw[ap]
      congr 1
      apply ByteArray.ext;simp[ByteArray.push]
    have V:=D f (c+(o+k)) .empty A;rw[aj]at V;have B:liesAt P P.depth E (t.size/P.cellsOf E) (c+(o+k)) E m=true:=oG N _ _ _ (by rw[N,Nat.div_one];omega);have O:=hr.change (w':=w.freeze ⟨g,c+(o+k),none⟩ m) hl hp (by unfold World.freeze;split<;>rfl) (by unfold World.freeze;split<;>rfl) (by unfold World.freeze;split<;>rfl) (by unfold World.freeze;split<;>simp) (λk' ai=>by
     unfold World.freeze;split
     ·rfl
     ·simp only[l0r];rw[Co (λe=>ai e.symm)]) (λarr T0 ax ae=>by
     unfold World.freeze;rw[Co (by omega)];simp only[l0r,if_true,ae,oH];exact⟨arr,_,rfl,rfl⟩)
    refine⟨_,_,.string ⟨⟨f.map UInt8.ofNat⟩⟩,_,h6,?_,.v _,O.1,O.2⟩;have X:IntKind.i64.max=9223372036854775807:=rfl;have Q:Builtin.unsafeString_ #[J,it] ty #[.pointer (some ⟨g,c+(o+k),none⟩),.int kk m]=
     (do
      let n<-asInt (.int kk m)
      if n<0 then runtimePanic (.error "unsafe.String: len out of range")
      if n>IntKind.i64.max then unsupported (.unsafePointer "String: a length above the largest int")
      if n=0 then pure (.string .empty)
      else if<-variablesAt ⟨g,c+(o+k),none⟩ (<-elemOf J) n.toNat then do
       let s<-loadBytes ⟨g,c+(o+k),none⟩ .empty n.toNat
       freeze ⟨g,c+(o+k),none⟩ n.toNat
       pure (.string s)
      else unsupported (.unsafePointer "String: not so many bytes at ptr")):=rfl
    rw[Q];have Y:¬(m:Int)<0:=by omega
    have M:¬(9223372036854775807:Int)<(m:Int):=by omega
    have hz:¬m=0:=by omega
    have am:w.shape? g=some (E,t.size):=by simp[World.shape?,i.block]
    simp[asInt,asIntOf,X,Y,M,hz,variablesAt,am,elemOf,run_underlying hu,B,V]
 ·cases h
def A1H{t:Tm}{N:Nat}{ro:Option Nat}{o:Oper}{c:Call}{f:FuncId}{i:Operand}{first cap:Is}{K:AV->Hp->Prop}(D:YB P f)(q:o.op=.call c)(h:c.callee=.value i)(j:HC G t i=.fn (.func f) first cap)(B:first++c.args.toList.map (HC G t)++cap=[v])(A:K v H):Qx P G ro N o t H K:=by
 refine Rv (λc hc=>by rw[q]at hc;cases hc) λw0 M C N a w s=>?_;have hv:=AJ s i;rw[j]at hv;obtain⟨F,L,he,n,p⟩:=GL.1 hv;have g:=(n.append (mE s c.args.toList)).append p;rw[B]at g;obtain⟨y,J,u,m,k⟩:=g.cons_inv;have x:=k.nil_inv;subst x;refine⟨v,H,y,C,w,A,.inl ?_,m,s.rel,.refl _ _ _⟩;have:(F++c.args.toList.map a.eval++L).toArray= #[y]:=by rw[u]
 have hr:=D y w;simp only[execOp,q,resolve,h,he,Deferred.ofValue,Cr,Zn,Eu,invoke];rw[<-hr]
 congr 2
 rw[<-this];apply fB;simp
end
end
section
variable{a:Act}{c rest:Code}{w:World}
def gM(P:Program)(c rest:Code)(Q:Exit->Act->World->Prop)(a:Act)(w:World):Prop:=
 ∀(b:Frame)(k:List Item)(cs:List Frame),∃e d f,Q e d f/\Arrives P (lone (b.at a (.code rest:: .inScope c::k)) cs w) b k cs e d f
def Y!{P:Program}{Q s:Exit->Act->World->Prop}(x:∀l a w,s (.goto l) a w->∃i,findLabel c l=some i/\gM P c i Q a w)(hq:∀e a w,(∀l,e≠.goto l)->s e a w->Q e a w)(h:rest.wp P s a w):gM P c rest Q a w:=by
 intro b k cs;obtain⟨e,d,g,h1,f⟩:=h b (.inScope c::k) cs;cases e with
 |normal=>exact⟨.normal,d,g,hq _ _ _ (by simp) h1,Steps.trans f (.one step_inScope)⟩
 |exit id=>exact⟨.exit id,d,g,hq _ _ _ (by simp) h1,λA hk=>f A (by simp[exitTo,hk])⟩
 |goto l=>
  obtain⟨i,v,y⟩:=x l d g h1;have u:gotoIn l (.inScope c::k)=some (.code i:: .inScope c::k):=by simp[gotoIn,v]
  obtain⟨q,p,r,n,j⟩:=y b k cs;exact⟨q,p,r,n,.of_steps (f _ u) j⟩
 |ret=>exact⟨_,d,g,hq _ _ _ (by simp) h1,f⟩
 |panic B=>exact⟨_,d,g,hq _ _ _ (by simp) h1,f⟩
 |outgrown=>exact⟨_,d,g,hq _ _ _ (by simp) h1,f⟩
def vH{P:Program}{Q:Exit->Act->World->Prop}(h:gM P c c Q a w):(Code.scope c).wp P Q a w:=by
 intro b k cs;obtain⟨e,d,g,hq,f⟩:=h b k cs;exact⟨e,d,g,hq,.of_steps (.one step_scope) f⟩
section
variable{P:Program}{G:Gl}{m N:Nat}{t:Tm}{H:Hp}{Q:Exit->Tm->Hp->Prop}
def uN(P:Program)(G:Gl)(m N:Nat)(c rest:Code)(Q:Exit->Tm->Hp->Prop)(t:Tm)(H:Hp):Prop:=
 ∀w0 d C a w,St G w0 d C N t H a w->gM P c rest (Ko G w0 d m C N w Q) a w
def A3f(h:uN P G m N c c Q t H):NC P G none m N (.scope c) Q t H:=λw0 d C a w s=>wpIn_wide.2 (vH (h w0 d C a w s))
def qY{n:Exit->Tm->Hp->Prop}(D:∀l t H,n (.goto l) t H->∃d,findLabel c l=some d/\uN P G m N c d Q t H)(hq:∀e t H,(∀l,e≠.goto l)->n e t H->Q e t H)(h:NC P G none m N rest n t H):uN P G m N c rest Q t H:=by
 intro w0 x C a w s;refine Y! ?_ ?_ (wpIn_wide.1 (h w0 x C a w s))
 ·rintro l v y ⟨j,i,g,u,r,hk⟩;obtain⟨d,B,F⟩:=D l i g hk;refine⟨d,B,?_⟩;intro b k cs;obtain⟨A,a2,J,q,f⟩:=F w0 x j v y u b k cs;exact⟨A,a2,J,q.later r,f⟩
 ·rintro e v y p ⟨j,i,g,u,r,hk⟩;exact⟨j,i,g,u,r,hq e i g p hk⟩
end
end
section
variable{K:K2}
def Wc(a:AV):Bool:=match a with
 |.v (.map _)=>false
 |.v _=>true
 |_=>false
def Zk(f:AV->K2->Af)(l:Is):(Is->Af)->Af:=
 @List.rec AV (λ_=>(Is->Af)->Af) (λK=>K []) (λa _ ih K=>f a λc=>ih λd=>K (c::d)) l
def V_(a:AV)(K:K2):Af:=
 match a with
 |.v x=>K (.v x)
 |.list n cs=>ck (cs.all Wc) (K (.list n cs))
 |_=>none
def V?(H:Hp)(ih:AV->K2->Af)(a:AV)(K:K2):Af:=
 match a with
 |.v x=>K (.v x)
 |.list n cs=>ck (cs.all Wc) (K (.list n cs))
 |.agg cs=>Zk ih cs λd=>K (.agg d)
 |.tup cs=>Zk ih cs λd=>K (.tup d)
 |.sl sz r o n=>IZ H r λx=>KY x λ_ cs=>Fb (Nat.mul n sz) (CL o cs) λc=>Zk ih c λe=>K (.list n e)
 |_=>none
def xM(H:Hp)(D:Nat):AV->K2->Af:=@Nat.rec (λ_=>AV->K2->Af) V_ (λ_ ih=>V? H ih) D
def Sk(R:Rt)(f:Nat)(args:Is)(H:Hp)(K:K2):Af:=
 match args with
 |[.ptr s 0 0]=>IZ H s λx=>iV x λq _ cs=>match q,cs with
  |true,[.mp m]=>IZ H m λy=>A2x y λa=>ck (a.all λp=>tZ 3 p.2) (Ai (R.call f [.iptr [.imap a]] [] λv c=>xM c depth v λd=>some (d,[])) K)
  |_,_=>none
 |_=>Ak R f args H K
section
variable{G:Gl}{w0:Base}{C C2:Ctx}{H:Hp}{w:World}{r:AV×Hp}
def sY{f:AV->K2->Af}(n:∀a y K,VRel C w a y->f a K=some r->∃c,VRel C2 w c y/\K c=some r):
 ∀(l:Is)(ys:Hx)(K:Is->Af),BU C w l ys->Zk f l K=some r->∃d,BU C2 w d ys/\K d=some r:=by
 intro l
 induction l with
 |nil=>intro ys K e h;exact⟨[],by rw[e.nil_inv];exact .nil,h⟩
 |cons a l ih=>
  intro ys K e h;obtain⟨y,g,rfl,h1,h2⟩:=e.cons_inv;have h:(f a λc=>Zk f l λd=>K (c::d))=some r:=h;obtain⟨c,i,j⟩:=n a y _ h1 h;obtain⟨d,k,m⟩:=ih g _ h2 j;exact⟨_,.cons i k,m⟩
def xL(hr:Rel G w0 C H w)(h2:C2.bare=C2)(A:∀s x k o,Ao H s=some x->C.π s=some (some (k,o))->∀i,C2.F k i)(t:∀n cs y,cs.all Wc=true->VRel C w (.list n cs) y->VRel C2 w (.list n cs) y):∀(D:Nat)(a:AV)(y:Value)(K:K2),VRel C w a y->xM H D a K=some r->∃Y,VRel C2 w Y y/\K Y=some r:=by
 intro D
 induction D with
 |zero=>
  intro a y K hv h;change V_ a K=some r at h;unfold V_ at h;split at h
  ·exact⟨_,by rw[A6.1 hv];exact .v _,h⟩
  ·obtain⟨h1,h⟩:=Bb h;exact⟨_,t _ _ _ h1 hv,h⟩
  ·cases h
 |succ D ih=>
  intro a y K hv h;have N:=λl B K=>sY (f:=xM H D) (C:=C) (C2:=C2) (w:=w) (r:=r) ih l B K;change V? H (xM H D) a K=some r at h;unfold V? at h;split at h
  ·exact⟨_,by rw[A6.1 hv];exact .v _,h⟩
  ·obtain⟨h1,h⟩:=Bb h;exact⟨_,t _ _ _ h1 hv,h⟩
  ·obtain⟨B,rfl,V⟩:=D5.1 hv;obtain⟨X,h1,h2⟩:=N _ _ _ V h;exact⟨_,D5.2 ⟨B,rfl,h1⟩,h2⟩
  ·obtain⟨B,rfl,V⟩:=CD.1 hv;obtain⟨X,h1,h2⟩:=N _ _ _ V h;exact⟨_,CD.2 ⟨B,rfl,h1⟩,h2⟩
  ·rename_i sz s o n;obtain⟨q0,e,cs,u,h1⟩:=HG h;obtain⟨d,j⟩:=Jl _ _ _ _ h1;rw[Cs]at d j;cases hv with
   |slz ae=>
    have j:Zk (xM H D) ((cs.drop o).take (0*sz)) (λc'=>K (.list 0 c'))=some r:=j;rw[Nat.zero_mul,List.take_zero]at j;exact⟨_,.list0,j⟩
   |@sl _ _ _ _ _ _ bk Z cap arr T fz M q ac aa=>
    rcases hr.rows s _ u with⟨_,h6⟩|⟨b',c,m,ab,J⟩
    ·rw[h6]at M;cases M
    ·have p:=J.at_.symm.trans M;injection p with p;injection p with p;injection p with e1 e2;subst e1 e2
     have g:BU C w ((cs.drop o).take (n*sz)) ((((m.toList.drop c).take cs.length).drop o).take (n*sz)):=(J.vals.unsel.drop o).take _;obtain⟨X,j,h4⟩:=N _ _ _ g j;have ad:X.length=n*sz:=by
      rw[<-j.1,g.1,xS];have:n*sz<=(cs.drop o).length:=d;omega
     refine⟨_,.list q (λi=>((((m.toList.drop c).take cs.length).drop o).take (n*sz)).getD i undef) (λi L=>A s _ _ _ u M _) (λi L=>?_) (λi L=>?_),h4⟩
     ·have O:i<n*sz:=by omega
      have Q:o+i<cs.length:=by have:n*sz<=(cs.drop o).length:=d;simp at this;omega
      rw[WE,J.cell];rw[Tc,oI,CJ O,fX,oI,CJ Q,fX,B'];have hf:=J.fits;rw[l1k (by omega)];rfl
     ·have:=j.get i L;rw[h2,Tc,II (by rw[j.1];exact L)];exact this
  ·cases h
variable{D:XE->Cf->Nat->List Oper->Bool}{E:XE}{P:Program}{R:Rt}{f:Nat}{args:Is}
def uI(hR:RSound D E P R)(h:Sk R f args H K=some r):TY P f/\Oa P E.G f args H (λv H'=>H'=H/\K v=some r):=by
 unfold Sk at h;split at h
 rotate_left
 ·exact Vl hR h
 rename_i s;obtain⟨q,T,cs,a4,h⟩:=RG h;split at h
 rotate_left
 ·cases h
 rename_i _ _ m;obtain⟨x,a3,h⟩:=FR rfl h;unfold A2x at h;split at h
 rotate_left
 ·cases h
 rename_i _ es bo;obtain⟨ax,h⟩:=Bb h;obtain⟨v0,H0,V,am⟩:=O9 h;have hc:=(hR.call _ _ _ _ _ V).2;refine⟨(hR.call _ _ _ _ _ V).1,?_⟩;intro w0 C w ys hr ha;obtain⟨y,bc,rfl,ap,aq⟩:=ha.cons_inv;have:=aq.nil_inv;subst this;cases ap with
 |@ptr _ _ _ _ _ b ac L=>
 rcases hr.rows s _ a4 with⟨h1,_⟩|⟨b',ak,arr,fz,hd⟩
 ·cases h1
 have e':=hd.at_.symm.trans L;injection e' with e';injection e' with e';injection e' with e1 e2;subst e1 e2
 obtain⟨ar,hsz⟩:=hd.exact rfl;subst ar;have hsz:arr.size=1:=hsz;obtain⟨vm,ab,Z⟩:=hd.vals.2 0 _ (by rfl:([AV.mp m])[0]?=some (.mp m));have Z:VRel C w (.mp m) vm:=Z;have ab:arr[0]?=some vm:=by simpa using ab
 obtain⟨bm,ms,clock,rfl,ba,ad,ah,he, -⟩:=WA hr a3 Z;have A:w.cell? ⟨b',0,none⟩=some (.map (some bm)):=by rw[hd.cell];exact ab
 have aa:∀i,i≠0->w.cell? ⟨b',i,none⟩=none:=λi c=>by rw[hd.cell];exact Array.getElem?_eq_none (by omega)
 let X:Ctx:={π:=λ_=>none,F:=λk i=>C.F k i\/k=b',B:=λk=>C.B k\/k=bm}
 have ag:bm<w.heap.size:=(l1q.1 ad).1;have J:(∀k i,X.F k i->k<w.heap.size)/\∀k,X.B k->k<w.heap.size:=
  ⟨λk i d=>d.elim (hr.fin k i) λe=>e▸hd.lt,λk hB=>hB.elim (hr.finB k) λe=>e▸ag⟩
 have eb:Ext (λ_=>True) C.bare w X.bare w:=⟨λ_ h=>absurd rfl h,λ_ _ h=>.inl h,λ_ _ _=>rfl,λ_ h=>.inl h,λ_ _=>rfl,λ_ a _ f h=>⟨a,f,h,rfl⟩,λ_ _ _=>.inr trivial,λ_ _=>.inr trivial,MZ _⟩
 have a6:VRel X w (.imap es) (.map (some bm)):=by
  refine .imap ms (.inr rfl) ad (by rw[<-he.1];simp) (λi c=>?_) (λi j az hj=>?_) (λi c=>?_) (λi c=>?_)
  ·obtain⟨mm,u,N, -⟩:=he.2 i _ (II c);have Y:ms[i]?=some mm:=by simpa using u
   simp[WX,Y,N]
  ·have af:j<ms.size:=by have:=he.1;simp at this;omega
   have O:i<ms.size:=by omega
   have:=(l20.1 ah.born) i j (by simpa using O) (by simpa using af) az;simpa [WX,O,af] using this
  ·have O:i<ms.size:=by have:=he.1;simp at this;omega
   have:=ah.lt ms[i] (by simp);simpa [WX,O] using this
  ·obtain⟨mm,u, -,h6⟩:=he.2 i _ (II c);have Y:ms[i]?=some mm:=by simpa using u
   have h7:(ms.getD i default)=mm:=by simp[WX,Y]
   rw[h7];have h8:=VRel.down (C:=C) (C':=C.bare) rfl rfl 3 _ _ (Gb.1 ax _ (Na c)) h6;exact h8.mono eb
 have a7:VRel X w (.iptr [.imap es]) (.pointer (some ⟨b',0+(0+0),none⟩)):=
  .iptr (λ_=>.map (some bm)) (λ_ _=>.inr rfl) (λi c=>by
   have:i=0:=by simpa using c
   subst this;exact A) (λi c=>by
   have:i=0:=by simpa using c
   subst this;exact a6)
 have ao:Rel E.G ⟨w,λ_=>False⟩ X [] w:=
  ⟨λg cs hg i v hv=>⟨.inl (hr.glob g cs hg i v hv).1,(hr.glob g cs hg i v hv).2⟩,.refl _ _,λ_ _ h=>by simp[Ao]at h,λ_ _ h=>by simp[Ao]at h,λ_ _ _ _ h=>by simp[Ao]at h,λ_ _ _ _ _ _ _ h=>by simp[Ao]at h,J.1,J.2,λ_ _=>rfl⟩
 refine(hc _ X w _ ao (.cons a7 .nil)).mono ?_;rintro e w' ⟨v,y,C',H',rfl,M,hv,hx,t⟩;have hb:Below w.heap.size w w':=M.below.toBelow;have Q:∀k,Base.own ⟨w,λ_=>False⟩ k->w.heap.size<=k:=λk h=>h.elim id (λh=>h.elim)
 let C2:Ctx:={π:=C.π,F:=λk i=>C.F k i\/(w.heap.size<=k/\(C'.F k i\/∃s x o,Ao H' s=some x/\C'.π s=some (some (k,o)))),B:=C.B}
 have e:Ext w0.own C w C2 w':=⟨λ_ _=>rfl,λ_ _ h=>.inl h,λk i h=>hb.cell (p:=⟨k,i,none⟩) (hr.fin k i h),λ_ h=>h,λk h=>hb.block k (hr.finB k h),
  λk arr T fz h=>⟨arr,fz,(hb.block k (l1q.1 h).1).trans h,rfl⟩,λk i h=>h.imp id (λh=>.inl (WW hr.below.size h.1)),λk h=>.inl h,hb.size⟩
 have ai:Rel E.G w0 C2 H w':=by
  refine⟨hr.glob.mono e,hr.below.below hb,hr.lt,λs x t=>(hr.rows s x t).mono e (λk ac L=>hb.block k ((hr.rows s x t).block (Dr t) L)),λs x k o t L=>?_,hr.sep,λk i d=>?_,λk hB=>l2m (hr.finB k hB) hb.size,hr.nx⟩
  ·have h1:=hr.own s x k o t L;have h2:=(hr.rows s x t).block (Dr t) L;refine⟨h1.1,λi d=>?_,h1.2.2⟩;rcases d with d|d
   ·exact h1.2.1 i d
   ·have:=d.1;omega
  ·rcases d with d|⟨_,d|⟨s,x,o,t,L⟩⟩
   ·exact l2m (hr.fin k i d) hb.size
   ·exact M.fin k i d
   ·exact(M.rows s x t).block (Dr t) L
 obtain⟨v',a5,hK⟩:=xL (C2:=C2.bare) M rfl (λs x k o t L i=>.inr ⟨Q k (M.own s x k o t L).1,.inr ⟨s,x,o,t,L⟩⟩) (λn cs y ay hy=>by
  cases hy with
  |list0=>exact .list0
  |@list _ _ _ cap _ bb o h vs d ae a8=>
   have aj:∀i(c:i<cs.length),∃z:Value,cs[i]=.v z/\vs i=z/\∀k,z≠.map k:=λi c=>by
    have h1:=Gb.1 ay _ (Na c);have h2:=a8 i c;cases hq:cs[i] with
    |v z=>
     rw[hq]at h1 h2;refine⟨z,rfl,A6.1 h2,λk e=>?_⟩;subst e;simp[Wc]at h1
    |_=>rw[hq]at h1;simp[Wc]at h1
   refine .list h vs (λi c=>?_) ae (λi c=>?_)
   ·obtain⟨z,_,h2,h3⟩:=aj i c;rcases hx.new _ _ (d i c) with u|u
    ·rcases u with u|u
     ·exact .inl u
     ·exfalso;have N:=hx.keep bb (o+i) (.inr u);rw[ae i c]at N;subst u;by_cases ho:o+i=0
      ·rw[ho,A]at N;injection N with N
       exact h3 _ (h2.symm.trans N)
      ·rw[aa _ ho]at N;cases N
    ·exact .inr ⟨Q _ u,.inl (d i c)⟩
   ·obtain⟨z,h1,h2,_⟩:=aj i c;rw[h1,<-h2];exact .v _) depth v y _ hv t
 injection hK with hK
 injection hK with hK a9
 subst hK;exact⟨v',y,C2,H,rfl,ai,a5.up rfl rfl,e.frm,rfl,am⟩
def zpm(E:XE)(g:Nat)(R:Rt)(all:Is)(H:Hp)(K:K2):Af:=(λ(_:Unit)=>@Bool.rec (λ_=>Af) (Ak R g all H K) (Sk R g all H K) (E.lm g)) FA
def XB0{X:XE}(a:RSound D E P R)(h:zpm X f R args H K=some r):TY P f/\Oa P E.G f args H (λv c=>c=H/\K v=some r):=by
 change @Bool.rec (λ_=>Af) (Ak R f args H K) (Sk R f args H K) (X.lm f)=some r at h;cases hq:X.lm f
 ·rw[hq]at h;exact Vl a h
 ·rw[hq]at h;exact uI a h
end
end
section
variable{K:K2}{x:Operand}{i:TI}{kt:TypeId}
def HX(E:XE)(t:Tm)(x:Operand)(K:K2):Af:=
 match x with
 |.tmp i=>B? t i K
 |.const v=>K (pN v)
 |.global g=>E.gl.getK g λcs=>K (.iptr cs)
 |.func f=>K (.fn (.func f) [] [])
def gR(E:XE)(t:Tm)(l:List Operand):(Is->Af)->Af:=
 @List.rec Operand (λ_=>(Is->Af)->Af) (λK=>K []) (λx _ ih K=>HX E t x λv=>ih λvs=>K (v::vs)) l
def gO(E:XE)(t:Tm)(x:Option Operand)(K:Option AV->Af):Af:=
 match x with
 |none=>K none
 |some x=>HX E t x λv=>K (some v)
def plK(i:TI)(j:Nat)(K:Nat->Nat->Af):Af:=(λ(_:Unit)=>match Oi i j with|some (o,s)=>fNS o λo=>K o s|none=>none) FA
def YC(E:XE)(t:Tm)(i:TI)(l:List (Nat×Operand)):(List (Nat×Nat×AV)->Af)->Af:=
 @List.rec (Nat×Operand) (λ_=>(List (Nat×Nat×AV)->Af)->Af) (λK=>K []) (λp _ ih K=>plK i p.1 λo s=>HX E t p.2 λv=>ih λa=>K ((o,s,v)::a)) l
def A9P(i:TI)(f:Nat)(K:Nat->Nat->TypeId->Af):Af:=(λ(_:Unit)=>match i.d with|.struct a=>(match a[f]? with|some (o,s,ft)=>K o s ft|none=>none)|_=>none) FA
def rU(i:TI)(K:TypeId->Nat->Af):Af:=(λ(_:Unit)=>match i.d with|.slice e a=>K e a|_=>none) FA
def A1v(i:TI):TypeId:=match i.d with|.slice e _=>e|_=>0
def elK(E:XE)(i:TI)(K:TI->Af):Af:=(λ(_:Unit)=>match Yj i with|some e=>E.ty.getK e K|none=>K i) FA
def Mv(v:AV)(K:K2):Af:=match v with|.ptr r p k=>K (.ptr r p k)|.iptr cs=>K (.iptr cs)|.fn (.func f) a b=>K (.fn (.func f) a b)|_=>none
def B0(q a b:AV)(K:K2):Af:=match q with|.v (.bool true)=>K a|.v (.bool false)=>K b|_=>none
def X?:TD->Bool
 |.int .u8=>true
 |_=>false
def cvK(E:XE)(s d:TypeId)(i j:TI)(a:AV)(H:Hp)(K:K2):Af:=
 (λ(_:Unit)=>match i.d with
  |.slice e _=>(match j.d with
   |.string=>E.ty.getK e λc=>ckS (X? c.d) (fE a H K)
   |_=>none)
  |.pointer e=>ckS (Nat.beq d E.up&& !E.lie.isEmpty) (E.ty.getK e λc=>yT c a H K)
  |.other=>(match j.d with
   |.pointer u=>ckS (Nat.beq s E.up&& !E.lie.isEmpty) (yP E.lie u a H K)
   |_=>none)
  |_=>EE i j a K) FA
def sU(i:TI)(K:TypeId->TypeId->Af):Af:=(λ(_:Unit)=>match i.d with|.map k e=>K k e|_=>none) FA
def A2F(E:XE)(kt:TypeId)(a:AV)(K:Value->Af):Af:=
 E.ty.getK kt λc=>(λ(_:Unit)=>match c.d with
  |.string=>Nt a K
  |.int q=>oJ q a K
  |.struct _=>E.eqt.getK kt λks=>X! ks a K
  |.array .. =>E.eqt.getK kt λks=>X! ks a K
  |_=>none) FA
def X_:Operand->Bool
 |.const .nilIface=>true
 |_=>false
def B14(op:BinOp)(a:AV)(K:K2):Af:=
 match a,op with
 |.v .nilIface,.eql=>K (.v (.bool true))
 |.v .nilIface,.neq=>K (.v (.bool false))
 |_,_=>none
def B5N(E:XE)(op:BinOp)(ty:TypeId)(f:Bool)(a b:AV)(K:K2):Af:=
 E.ty.getK ty λi=>(λ(_:Unit)=>match i.d with
  |.struct _=>E.eqt.getK ty λks=>Ts ks op a b K
  |.array .. =>E.eqt.getK ty λks=>Ts ks op a b K
  |.pointer e=>E.ty.getK e λc=>Yr i c op a b K
  |.iface=>ckS f (B14 op a K)
  |_=>Al i op a b K) FA
def D_(i:TI)(v:AV)(l h m:Option AV)(H:Hp)(K:K2):Af:=
 (λ(_:Unit)=>match i.d with
  |.array n _ a=>(match m with|none=>oM n a v l h H K|some _=>none)
  |_=>GF i v l h m K) FA
def A7y(i:TI)(v:AV)(H:Hp)(K:K2):Af:=
 (λ(_:Unit)=>match i.d with
  |.map .. =>qK v H K
  |_=>Bi i v K) FA
def A3N(E:XE)(R:Rt)(f:AV)(c:Is)(H:Hp)(K:K2):Af:=
 match f with
 |.fn (.func g) first cap=>ckS (!E.imp g) (Vb c cap λa=>Vb first a λall=>zpm E g R all H K)
 |_=>none
def rG(E:XE)(R:Rt)(t:Tm)(H:Hp)(c:Call)(K:K2):Af:=
 match c.callee with
 |.value e=>HX E t e λf=>gR E t c.args.toList λd=>A3N E R f d H K
 |.builtin .len=>match c.args.toList,c.argTypes.toList with
  |[x],[ty]=>HX E t x λv=>E.ty.getK ty λi=>A7y i v H K
  |_,_=>none
 |.builtin .unsafeSliceData=>match c.args.toList with
  |[x]=>HX E t x λv=>A2T v K
  |_=>none
 |.builtin .min=>match c.args.toList with
  |[x,y]=>HX E t x λa=>HX E t y λb=>C! true a b K
  |_=>none
 |.builtin .max=>match c.args.toList with
  |[x,y]=>HX E t x λa=>HX E t y λb=>C! false a b K
  |_=>none
 |_=>none
def OC(E:XE)(R:Rt)(t:Tm)(H:Hp)(o:Op)(K:K2):Af:=
 match o with
 |.move x=>HX E t x K
 |.assign x=>HX E t x K
 |.pick c a b=>HX E t c λq=>HX E t a λa=>HX E t b λb=>B0 q a b K
 |.load ty x=>HX E t x λv=>E.ty.getK ty λi=>A9 i v H K
 |.nilCheck x=>HX E t x λv=>Mv v K
 |.binOp op ty x y _=>HX E t x λa=>HX E t y λb=>B5N E op ty (X_ y) a b K
 |.unOp op _ x=>HX E t x λa=>Nh op a K
 |.convert s d x=>HX E t x λa=>E.ty.getK s λi=>E.ty.getK d λj=>cvK E s d i j a H K
 |.makeFunc fn first cap=>gR E t first.toList λw=>gR E t cap.toList λcs=>K (.fn fn w cs)
 |.fieldAddr ty x f=>HX E t x λv=>E.ty.getK ty λi=>A9P i f λoff sz _=>ckS (!Nat.beq sz 0) (CC off v K)
 |.field ty x f=>HX E t x λv=>E.ty.getK ty λi=>A9P i f λoff _ ft=>E.ty.getK ft λj=>lT off j v K
 |.indexAddr ty x e=>HX E t x λv=>HX E t e λn=>E.ty.getK ty λi=>Cy i v n K
 |.index ty x e=>HX E t x λv=>HX E t e λn=>E.ty.getK ty λi=>elK E i λj=>Yp i j v n K
 |.slice ty x C A mx=>HX E t x λv=>gO E t C λl=>gO E t A λh=>gO E t mx λm=>E.ty.getK ty λi=>D_ i v l h m H K
 |.extract x k=>HX E t x λv=>Cg v k K
 |.build ty parts=>E.ty.getK ty λi=>ckS (uB i) (YC E t i parts.toList λl=>Ch i l K)
 |.call c=>rG E R t H c K
 |.buildSlice ty n parts=>E.ty.getK ty λi=>rU i λ_ g=>E.ty.getK (A1v i) λp=>YC E t i parts.toList λl=>Qa g p n l K
 |.lookup ty x e ok=>HX E t x λm=>HX E t e λk=>E.ty.getK ty λi=>sU i λkt u=>A2F E kt k λB=>E.ty.getK u λp=>VU p ok m B H K
 |.entry it=>HX E t it λv=>lV v H K
 |_=>none
section
variable{D:XE->Cf->Nat->List Oper->Bool}{E:XE}{P:Program}{R:Rt}{t:Tm}{H:Hp}{r:AV×Hp}{ro:Option Nat}{N:Nat}
def B0k{cs:Is}(h:cs.all isV=true):(cs.map unV).map AV.v=cs:=by
 induction cs with
 |nil=>rfl
 |cons c cs ih=>
  simp only[W?,I0]at h;simp only[Zm,ih h.2];cases c<;>simp[isV]at h
  rfl
def AK(a:XE.Ok D E P)(h:HX E t x K=some r):K (HC E.G t x)=some r:=by
 unfold HX at h;split at h
 ·rwa[Rf]at h
 ·exact h
 ·obtain⟨cs,h1,h2⟩:=AL h;have:=a.gl _ _ h1;simp only[HC,XE.G,h1,oH,B0k this];exact h2
 ·exact h
def OD(a:XE.Ok D E P):∀(l:List Operand)(K:Is->Af),gR E t l K=some r->K (l.map (HC E.G t))=some r:=by
 intro l
 induction l with
 |nil=>intro K h;exact h
 |cons x l ih=>
  intro K h;have h:(HX E t x λv=>gR E t l λvs=>K (v::vs))=some r:=h;exact ih _ (AK a h)
def YD(a:XE.Ok D E P){x:Option Operand}{K:Option AV->Af}(h:gO E t x K=some r):K (x.map (HC E.G t))=some r:=by
 unfold gO at h;split at h
 ·exact h
 ·exact AK a h
def Uc(c:XE.Ok D E P):∀(l:List (Nat×Operand))(K:List (Nat×Nat×AV)->Af),YC E t i l K=some r->
 ∃a,K a=some r/\((l.map λp=>(p.1,HC E.G t p.2)).map λp=>(Oi i p.1).map λq=>(q.1,q.2,p.2))=a.map some:=by
 intro l
 induction l with
 |nil=>intro K h;exact⟨[],h,rfl⟩
 |cons p l ih=>
  intro K h;have h:(plK i p.1 λo s=>HX E t p.2 λv=>YC E t i l λa=>K ((o,s,v)::a))=some r:=h;unfold plK at h;split at h
  ·rename_i o s d;simp only[A6b]at h;obtain⟨a,h1,h2⟩:=ih _ (AK c h);refine⟨_,h1,?_⟩;simp only[Zm,d,oH,h2]
  ·cases h
def rd(d:XE.Ok D E P){o:Oper}{v:AV}{K:K2}(f:∀c,o.op≠.defer c)(g:gX (E.env P) o.op t H (λh a=>h=v/\a=H))(e:K v=some r):Qx P E.G ro N o t H (λv a=>a=H/\K v=some r):=
 Qx.mono (Rv f (oU (E:=E.env P) d.env g)) (by rintro _ _ ⟨rfl,rfl⟩;exact⟨rfl,e⟩)
def MG{K:TypeId->TypeId->Af}(h:sU i K=some r):∃k e,i.d=.map k e/\K k e=some r:=by
 unfold sU at h;split at h
 ·rename_i a;exact⟨_,_,a,h⟩
 ·cases h
def MF(c:XE.Ok D E P){mt kt a:TypeId}(g:E.ty.get mt=some i)(f:i.d=.map kt a):P.underlying mt=some (.map kt a):=by
 obtain⟨u,h,e⟩:=(c.ty mt i g).under;rw[f]at e;cases u<;>simp[td]at e
 rw[h,e.1,e.2]
def RR(m:XE.Ok D E P){a:AV}{K:Value->Af}(h:A2F E kt a K=some r):∃k,NZ P kt k/\K k=some r/\∀{C:Ctx}{w:World}{y:Value},VRel C w a y->y=k:=by
 obtain⟨s,g,h⟩:=AL h;obtain⟨u,n,e⟩:=(m.ty kt s g).under;have j:∀ks,E.eqt.get kt=some ks->X! ks a K=some r->∃k,NZ P kt k/\K k=some r/\∀{C:Ctx}{w:World}{y:Value},VRel C w a y->y=k:=λks c h=>by
  unfold X! at h;split at h
  ·obtain⟨vs,rfl,h1⟩:=WH _ _ h;obtain⟨h2,p⟩:=Jt h1;exact⟨_,.inr (.inr ⟨ks,vs,m.eq kt ks c,h2,rfl⟩),p,λhv=>iE hv⟩
  ·cases h
 simp only at h;split at h
 ·rename_i f;rw[f]at e;have d:u=.string:=by cases u<;>simp[td]at e;rfl
  subst d;unfold Nt at h;split at h
  ·exact⟨_,.inl ⟨n,_,rfl⟩,h,λhv=>A6.1 hv⟩
  ·cases h
 ·rename_i q f;rw[f]at e;have d:u=.int q:=by cases u<;>simp[td]at e;rw[e]
  subst d;unfold oJ at h;split at h
  ·obtain⟨h1,h2⟩:=Jt h;have h1:_=q:=l2t h1;subst h1;exact⟨_,.inr (.inl ⟨_,_,n,rfl⟩),h2,λhv=>A6.1 hv⟩
  ·cases h
 ·obtain⟨ks,c,h⟩:=AL h;exact j ks c h
 ·obtain⟨ks,c,h⟩:=AL h;exact j ks c h
 ·cases h
def MV{o:Oper}(f:∀c,o.op≠.defer c)(h:∀(w0:Base)(s0:Nat)(C:Ctx)(N:Nat)(a:Act)(w:World),St E.G w0 s0 C N t H a w->∃v y,K v=some r/\(execOp a.eval o).run P w=.ok (.value y) w/\VRel C w v y):Qx P E.G ro N o t H (λv d=>d=H/\K v=some r):=
 Rv f λw0 s0 C N a w s=>let⟨v,y,h1,h2,e⟩:=h w0 s0 C N a w s;⟨v,H,y,C,w,⟨rfl,h1⟩,.inl h2,e,s.rel,.refl _ _ _⟩
def G!(g:XE.Ok D E P){o:Oper}{op:BinOp}{ty M:TypeId}{x y:Operand}(f:o.op=.binOp op ty x y M)(h:B5N E op ty (X_ y) (HC E.G t x) (HC E.G t y) K=some r):Qx P E.G ro N o t H (λv j=>j=H/\K v=some r):=by
 obtain⟨i,n,h⟩:=AL h;have nd:∀c,o.op≠.defer c:=λc hc=>by rw[f]at hc;cases hc
 have A:∀ks,E.eqt.get ty=some ks->Ts ks op (HC E.G t x) (HC E.G t y) K=some r->Qx P E.G ro N o t H (λv j=>j=H/\K v=some r):=λks d h=>by
  refine MV nd λw0 F C N a w s=>?_;obtain⟨v,u,h1,h2,k⟩:=A0e (P:=P) x y (g.eq ty ks d) (AJ s x) (AJ s y) h;refine⟨v,u,h1,?_,k⟩;simp only[execOp,f];rw[Cr,h2];rfl
 simp only at h;split at h
 ·obtain⟨ks,d,h⟩:=AL h;exact A ks d h
 ·obtain⟨ks,d,h⟩:=AL h;exact A ks d h
 ·rename_i e m;obtain⟨O,p,h⟩:=AL h;refine MV nd λw0 F C N a w s=>?_;obtain⟨v,u,h1,h2,k⟩:=A0d (P:=P) (T:=E.T) g.ty x y n m p (AJ s x) (AJ s y) h;refine⟨v,u,h1,?_,k⟩;simp only[execOp,f];rw[Cr,h2];rfl
 ·rename_i m;obtain⟨hc,h⟩:=Jt h;have L:y=.const .nilIface:=by
   unfold X_ at hc;split at hc
   ·rfl
   ·cases hc
  subst L;obtain⟨u,q,e⟩:=(g.ty ty i n).under;rw[m]at e;obtain⟨ms,rfl⟩:∃ms,u=.interface ms:=by cases u<;>simp[td]at e;exact⟨_,rfl⟩
  have he:∀w,(Op.equal ty .nilIface .nilIface).run P w=.ok true w:=λw=>by
   show(Op.equalIn (9999+1) ty _ _).run P w=_;unfold Op.equalIn;rw[Cr,run_underlying q w];rfl
  have B:∀(op:BinOp)(z:Operand)(w:World),(eqGuard op ty z (.const .nilIface) .nilIface .nilIface).run P w=.ok () w:=λop z w=>by
   unfold eqGuard;rw[Sem.run_ite];refine A5L (by simp) ?_;simp
  refine MV nd λw0 F C N a w s=>?_;have hv:=AJ s x;have hz:a.eval (.const .nilIface)=.nilIface:=rfl;unfold B14 at h;split at h
  ·rename_i hq _ _;rw[hq]at hv;have hv:=A6.1 hv;refine⟨_,.bool true,h,?_,.v _⟩;simp only[execOp,f];rw[hv,hz,Cr,Cr,B];simp[binOp,he]
  ·rename_i hq _ _;rw[hq]at hv;have hv:=A6.1 hv;refine⟨_,.bool false,h,?_,.v _⟩;simp only[execOp,f];rw[hv,hz,Cr,Cr,B];simp[binOp,he]
  ·cases h
 ·obtain⟨u,q,J⟩:=qQ (T:=E.T) (ty:=ty) n h;exact rd g nd (by rw[f];simpa [gX,XE.env] using J) q
def O0{K:TypeId->Nat->Af}(h:rU i K=some r):∃e a,i.d=.slice e a/\K e a=some r:=by
 unfold rU at h;split at h
 ·rename_i c;exact⟨_,_,c,h⟩
 ·cases h
def A3c(k:XE.Ok D E P){o:Oper}{ty:TypeId}{n:Nat}{parts:Array (Nat×Operand)}(m:o.op=.buildSlice ty n parts)(h:(E.ty.getK ty λi=>rU i λ_ d=>E.ty.getK (A1v i) λq=>YC E t i parts.toList λl=>Qa d q n l K)=some r):Qx P E.G ro N o t H (λv A=>A=H/\K v=some r):=by
 obtain⟨i,F,h⟩:=AL h;obtain⟨e,d,g,h⟩:=O0 h;have he:A1v i=e:=by simp[A1v,g]
 rw[he]at h;obtain⟨q,j,h⟩:=AL h;obtain⟨l,h1,h2⟩:=Uc k _ _ h;refine Rv (λc hc=>by rw[m]at hc;cases hc) λw0 O C N a w s=>?_;obtain⟨J,hq⟩:=YY s parts;obtain⟨v,y,u,M,B,f,hv,hr,L⟩:=A35 (P:=P) (T:=E.T) k.ty F g j (by rw[<-h2];simp[Oi,g]) h1 J hq s.rel;refine⟨v,H,y,u,M,⟨rfl,B⟩,.inl ?_,hv,hr,L⟩;have:(parts.map λ(i,x)=>(i,a.eval x))=(parts.toList.map λp=>(p.1,a.eval p.2)).toArray:=by apply fB;simp
 simp only[execOp,m];rw[this,Cr,f];rfl
def A3e(u:XE.Ok D E P){o:Oper}{s d:TypeId}(Q:o.op=.convert s d x){i j ie:TI}{e z:Nat}(hi:E.ty.get s=some i)(hj:E.ty.get d=some j)(Z:i.d=.slice e z)(B:j.d=.string)(F:E.ty.get e=some ie)(g:X? ie.d=true)(h:fE (HC E.G t x) H K=some r):Qx P E.G ro N o t H (λv X=>X=H/\K v=some r):=by
 refine Rv (λc hc=>by rw[Q]at hc;cases hc) λw0 s0 C N a w st=>?_;obtain⟨h1,l,Y,f⟩:=A0k (P:=P) st.rel (AJ st x) h;refine⟨.v (.string ⟨⟨l⟩⟩),H,.string ⟨⟨l⟩⟩,C,w,⟨rfl,Y⟩,.inl ?_,.v _,st.rel,.refl _ _ _⟩;have A:(convert s d (a.eval x)).run P w=.ok (.string ⟨⟨l⟩⟩) w:=by
  obtain⟨J,_⟩:=(u.ty s i hi).elem_slice Z;obtain⟨V,L,O⟩:=(u.ty d j hj).under;obtain⟨u3,M,q⟩:=(u.ty e ie F).under;rw[B]at O;have m:V=.string:=by cases V<;>simp[td]at O;rfl
  subst m;have p:u3=.int .u8:=by
   cases hq:ie.d with
   |int k=>
    rw[hq]at g q;cases k<;>simp[X?]at g
    cases u3<;>simp[td]at q
    rw[q]
   |_=>rw[hq]at g;simp[X?]at g
  subst p;unfold convert;rw[Cr,run_underlying J w];simp only[Eu];rw[Cr,run_underlying L w];simp only[Eu];generalize a.eval x=y at h1 f;cases y with
  |slice ad n cap=>
   simp only;rw[Cr,run_underlying M w];simp only[Eu];exact f
  |string s=>exact absurd rfl (h1 s)
  |_=>simp[Conv.bytesToString]at f
 simp only[execOp,Q];rw[Cr,A];rfl
def pX{f:Nat}{K:Nat->Nat->TypeId->Af}(h:A9P i f K=some r):∃a o s ft,i.d=.struct a/\a[f]?=some (o,s,ft)/\K o s ft=some r:=by
 unfold A9P at h;split at h
 ·rename_i a c;split at h
  ·rename_i e;exact⟨a,_,_,_,c,e,h⟩
  ·cases h
 ·cases h
def Xd(f:XE.Ok D E P)(O:RSound D E P R){o:Oper}{c:Call}(p:o.op=.call c)(h:rG E R t H c K=some r):Qx P E.G ro N o t H (λv M=>M=H/\K v=some r):=by
 have nd:∀c,o.op≠.defer c:=λc hc=>by rw[p]at hc;cases hc
 unfold rG at h;split at h
 ·rename_i fv d;have h:=OD f _ _ (AK f h);unfold A3N at h;split at h
  ·rename_i g first cap V;obtain⟨_,h⟩:=Bb h;rw[Ki,Ki,<-fW]at h;obtain⟨⟨fn,h1,h2,B⟩,hc⟩:=XB0 O h;exact Qx.mono (PW p d V h1 h2 B hc) (λ_ _ h=>h)
  ·cases h
 ·rename_i d;split at h
  ·rename_i x ty m q;obtain⟨i,J,h⟩:=AL (AK f h);unfold A7y at h;split at h
   ·rename_i kt Z Q;refine MV nd λw0 Y C N a w s=>?_;obtain⟨v,y,h1,h2,B⟩:=yX (P:=P) (ty:=o.type) (ts:=c.argTypes) (by rw[<-B',q];rfl) (MF f J Q) s.rel (AJ s x) h;refine⟨v,y,h1,?_,B⟩;have e:c.args.map a.eval= #[a.eval x]:=by apply fB;simp[m]
    rw[Gf p _ d,e];show(do pure (Next.value (<-Builtin.len_ c.argTypes o.type #[a.eval x]))).run P w=_;rw[Cr,h2];rfl
   ·obtain⟨u,A,j⟩:=A2Z (T:=E.T) J h;exact rd f nd (by rw[p];simp only[gX,d,m,q];simpa [XE.env] using j) A
  ·cases h
 ·rename_i d;split at h
  ·rename_i x m;have h:=AK f h;unfold A2T at h;split at h
   ·rename_i sz rr L n hq;obtain⟨hc,h1⟩:=Bb h;simp only[I0,eY,Ua]at hc;refine MV nd λw0 Y C N a w s=>?_;have hv:=AJ s x;rw[hq]at hv;have e:c.args.map a.eval= #[a.eval x]:=by apply fB;simp[m]
    rw[Gf p _ d,e];generalize a.eval x=y at hv;cases hv with
    |slz=>exact absurd hc.2 (by simp)
    |@sl _ _ _ _ _ _ b k cap arr T fz X F hb hsz=>
     refine⟨_,.pointer (some ⟨b,k+L,none⟩),h1,?_,.ptr X⟩;show(do pure (Next.value (<-Builtin.unsafeSliceData_ c.argTypes o.type #[.slice (some ⟨b,k+L,none⟩) n cap]))).run P w=_;rw[Cr,Lib.run_unsafeSliceData_row _ _ _ _ _ _ (by omega)];rfl
   ·cases h
  ·cases h
 ·rename_i d;split at h
  ·rename_i x y m;obtain⟨u,A,j⟩:=yW (AK f (AK f h));exact rd f nd (by rw[p];simp only[gX,d,m];simpa [XE.env] using j) A
  ·cases h
 ·rename_i d;split at h
  ·rename_i x y m;obtain⟨u,A,j⟩:=yW (AK f (AK f h));exact rd f nd (by rw[p];simp only[gX,d,m];simpa [XE.env] using j) A
  ·cases h
 ·cases h
def Qj(m:XE.Ok D E P)(hR:RSound D E P R){o:Oper}(h:OC E R t H o.op K=some r):Qx P E.G ro N o t H (λv Z=>Z=H/\K v=some r):=by
 unfold OC at h;split at h
 all_goals try (cases h;done)
 case h_1 x g=>exact rd m (λc hc=>by rw[g]at hc;cases hc) (by rw[g];exact⟨rfl,rfl⟩) (AK m h)
 case h_2 x g=>exact rd m (λc hc=>by rw[g]at hc;cases hc) (by rw[g];exact⟨rfl,rfl⟩) (AK m h)
 case h_3 c a b g=>
  have h:=AK m (AK m (AK m h));unfold B0 at h;split at h
  ·rename_i hq;exact rd m (λc hc=>by rw[g]at hc;cases hc) (by rw[g];simp[gX,XE.env,hq]) h
  ·rename_i hq;exact rd m (λc hc=>by rw[g]at hc;cases hc) (by rw[g];simp[gX,XE.env,hq]) h
  ·cases h
 case h_4 ty x g=>
  obtain⟨i,p,h⟩:=AL (AK m h);obtain⟨u,q,A⟩:=zC (T:=E.T) (ty:=ty) p h;exact rd m (λc hc=>by rw[g]at hc;cases hc) (by rw[g];simpa [gX,XE.env] using A) q
 case h_5 x g=>
  have h:=AK m h;unfold Mv at h;split at h
  ·rename_i hq;exact rd m (λc hc=>by rw[g]at hc;cases hc) (by rw[g];simp[gX,XE.env,hq,A3P]) h
  ·rename_i hq;exact rd m (λc hc=>by rw[g]at hc;cases hc) (by rw[g];simp[gX,XE.env,hq,A3P]) h
  ·rename_i hq;exact rd m (λc hc=>by rw[g]at hc;cases hc) (by rw[g];simp[gX,XE.env,hq,A3P]) h
  ·cases h
 case h_6 op ty x y yt g=>exact G! m g (AK m (AK m h))
 case h_7 op ty x g=>
  obtain⟨u,q,A⟩:=A6h (AK m h);exact rd m (λc hc=>by rw[g]at hc;cases hc) (by rw[g];simpa [gX,XE.env] using A) q
 case h_8 s d x g=>
  obtain⟨i,p,h⟩:=AL (AK m h);obtain⟨j,L,h⟩:=AL h;unfold cvK at h;simp only at h;split at h
  ·rename_i e z J;split at h
   ·rename_i O;obtain⟨ie,F,h⟩:=AL h;obtain⟨q,h⟩:=Jt h;exact A3e m g p L J O F q h
   ·cases h
  ·rename_i e J;obtain⟨hc,h⟩:=Jt h;simp only[I0,eY,tD]at hc;obtain⟨ie,F,h⟩:=AL h;refine MV (λc hc=>by rw[g]at hc;cases hc) λw0 Y C N a w st=>?_;obtain⟨h1,h2⟩:=A08 (P:=P) (T:=E.T) m.ty p J F (d:=d) (by rw[hc.1];exact m.up hc.2) st.rel (AJ st x) h;refine⟨_,_,h1,?_,AJ st x⟩;simp only[execOp,g];rw[Cr,h2];rfl
  ·rename_i J;split at h
   ·rename_i u O;obtain⟨hc,h⟩:=Jt h;simp only[I0,eY,tD]at hc;have ab:P.underlying d=some (.pointer u):=by
     obtain⟨u',ae,V⟩:=(m.ty d j L).under;rw[O]at V;cases u'<;>simp[td]at V
     rw[ae,V]
    refine MV (λc hc=>by rw[g]at hc;cases hc) λw0 Y C N a w st=>?_;obtain⟨h1,h2⟩:=A02 (P:=P) m.lie (s:=s) (by rw[hc.1];exact m.up hc.2) ab st.rel (AJ st x) h;refine⟨_,_,h1,?_,AJ st x⟩;simp only[execOp,g];rw[Cr,h2];rfl
   ·cases h
  ·obtain⟨u,q,A⟩:=A0h (T:=E.T) p L h;exact rd m (λc hc=>by rw[g]at hc;cases hc) (by rw[g];simpa [gX,XE.env] using A) q
 case h_9 fn first cap g=>
  have h:=OD m _ _ (OD m _ _ h);exact rd m (λc hc=>by rw[g]at hc;cases hc) (by rw[g];exact⟨rfl,rfl⟩) h
 case h_10 ty x f g=>
  obtain⟨i,p,h⟩:=AL (AK m h);obtain⟨fs,off,s,ft,h1,h2,h⟩:=pX h;obtain⟨hz,h⟩:=Bb h;obtain⟨u,q,A⟩:=A6t (T:=E.T) (ty:=ty) p h1 h2 (λe=>by rw[e]at hz;simp at hz) h;exact rd m (λc hc=>by rw[g]at hc;cases hc) (by rw[g];simpa [gX,XE.env] using A) q
 case h_11 ty x f g=>
  obtain⟨i,p,h⟩:=AL (AK m h);obtain⟨fs,off,s,ft,h1,h2,h⟩:=pX h;obtain⟨j,L,h⟩:=AL h;obtain⟨u,q,A⟩:=A31 (T:=E.T) (ty:=ty) p h1 h2 L h;exact rd m (λc hc=>by rw[g]at hc;cases hc) (by rw[g];simpa [gX,XE.env] using A) q
 case h_12 ty x X g=>
  obtain⟨i,p,h⟩:=AL (AK m (AK m h));obtain⟨u,q,A⟩:=A6r (T:=E.T) (ty:=ty) p h;exact rd m (λc hc=>by rw[g]at hc;cases hc) (by rw[g];simpa [gX,XE.env] using A) q
 case h_13 ty x X g=>
  obtain⟨i,p,h⟩:=AL (AK m (AK m h));unfold elK at h;have fin:∀j,(∀e,Yj i=some e->E.T e=some j)->Yp i j (HC E.G t x) (HC E.G t X) K=some r->Qx P E.G ro N o t H (λv Z=>Z=H/\K v=some r):=λj L h=>by
   obtain⟨u,q,A⟩:=A30 (T:=E.T) (ty:=ty) p L h;exact rd m (λc hc=>by rw[g]at hc;cases hc) (by rw[g];simpa [gX,XE.env] using A) q
  split at h
  ·rename_i e he;obtain⟨j,L,h⟩:=AL h;exact fin j (λV B=>by rw[he]at B;injection B with B;subst B;exact L) h
  ·rename_i he;exact fin i (λV B=>by rw[he]at B;cases B) h
 case h_14 ty x lo p mx g=>
  have h0:=AL (YD m (YD m (YD m (AK m h))));clear h;obtain⟨i,Q,h⟩:=h0;unfold D_ at h;split at h
  ·rename_i n e aa J;split at h
   ·rename_i hm;have ad:mx=none:=by cases mx with
     |none=>rfl
     |some _=>cases hm
    subst ad;refine MV (λc hc=>by rw[g]at hc;cases hc) λw0 Y C N a w st=>?_;obtain⟨v,u,h1,h2,M⟩:=A04 (P:=P) (T:=E.T) m.ty Q J (m.pos ty i e aa Q (.inr ⟨n,J⟩)) st.rel (AJ st x) (UC st lo) (UC st p) h;refine⟨v,u,h1,?_,M⟩;simp only[execOp,g];rw[Cr];have:(Instr.sliceAt ty (a.eval x) (lo.map a.eval) (p.map a.eval) (Option.map a.eval none)).run P w=.ok u w:=h2;rw[this];rfl
   ·cases h
  ·obtain⟨u,q,A⟩:=yQ (T:=E.T) (ty:=ty) Q h;exact rd m (λc hc=>by rw[g]at hc;cases hc) (by rw[g];simpa [gX,XE.env] using A) q
 case h_15 x k g=>
  obtain⟨vs,u,h1,h2,M⟩:=A32 (AK m h);exact rd m (λc hc=>by rw[g]at hc;cases hc) (by rw[g];simp only[gX,XE.env,h1,h2,J3];exact⟨trivial,trivial⟩) M
 case h_16 ty parts g=>
  obtain⟨i,p,h⟩:=AL h;obtain⟨hb,h⟩:=Bb h;obtain⟨l,h1,h2⟩:=Uc m _ _ h;obtain⟨u,q,A⟩:=zG (T:=E.T) (ty:=ty) p hb h2 h1;exact rd m (λc hc=>by rw[g]at hc;cases hc) (by rw[g];simpa [gX,XE.env] using A) q
 case h_17 c g=>exact Xd m hR g h
 case h_18 ty n parts g=>exact A3c m g h
 case h_19 ty x X ok g=>
  obtain⟨i,p,h⟩:=AL (AK m (AK m h));obtain⟨kt,et,J,h⟩:=MG h;obtain⟨kv,hk,h,ac⟩:=RR m h;obtain⟨ie,F,h⟩:=AL h;refine MV (λc hc=>by rw[g]at hc;cases hc) λw0 Y C N a w st=>?_;obtain⟨v,y,h1,h2,M⟩:=A2Y (P:=P) (MF m p J) (m.ty et ie F) hk st.rel (AJ st x) h;refine⟨v,y,h1,?_,M⟩;simp only[execOp,g];rw[Cr,ac (AJ st X),h2];rfl
 case h_20 it g=>
  have h:=AK m h;refine MV (λc hc=>by rw[g]at hc;cases hc) λw0 Y C N a w st=>?_;obtain⟨v,y,h1,h2,M⟩:=A0f (P:=P) st.rel (AJ st it) h;refine⟨v,y,h1,?_,M⟩;simp only[execOp,g];rw[Cr,h2];rfl
end
end
end Go.Abs
end
