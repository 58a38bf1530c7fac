import Derived.RangeFuncIn
import Derived.RangeFuncStops
import Derived.RangeFuncLeaves
import Derived.OrdersIn
import Derived.Test.YtobbbklaopaiaaaGreatDoorP00
set_option linter.all false
set_option maxHeartbeats 100000000
noncomputable section
namespace Go.Abs
open Go.RowKit
section
variable{a:AV}{C:Ctx}{hi lo mx:Option AV}{yh yl ym:Option Value}{P:Program}{y:Value}{w:World}
def C0v:AV->Option Int
 |.v (.int _ n)=>some n
 |_=>none
def Zn:Option AV->Nat->Option Int
 |none,d=>some d
 |some a,_=>C0v a
def qT(T:Ty)(ty:TypeId)(a:AV)(lo hi mx:Option AV)(K:AV->Prop):Prop:=
 match T ty with
 |some c=>match c.d,a with
  |.string,.v (.string s)=>mx.isNone=true/\LQ (Zn lo 0) λl=>LQ (Zn hi s.size) λh=>(0<=l/\l<=h/\h<=s.size)/\K (.v (.string (s.extract l.toNat h.toNat)))
  |.slice _ b,.list m cs=>LQ (Zn lo 0) λl=>LQ (Zn hi m) λh=>LQ (Zn mx m) λx=>(0<=l/\l<=h/\h<=x/\x<=m)/\(mx.isSome=true->hi.isSome=true)/\K (.list (h-l).toNat ((cs.drop (l.toNat*b)).take ((h-l).toNat*b)))
  |.slice _ b,.sl sz r o m=>b=sz/\LQ (Zn lo 0) λl=>LQ (Zn hi m) λh=>LQ (Zn mx m) λx=>(0<=l/\l<=h/\h<=x/\x<=m)/\(mx.isSome=true->hi.isSome=true)/\K (.sl sz r (o+l.toNat*b) (h-l).toNat)
  |.slice _ _,.v (.slice none 0 0)=>LQ (Zn lo 0) λl=>LQ (Zn hi 0) λh=>mx.isNone=true/\(l=0/\h=0)/\K (.v (.slice none 0 0))
  |_,_=>False
 |none=>False
def mL{n:Int}(h:VRel C w a y)(hb:C0v a=some n){c:Nat}(b:0<=n)(h1:n<=c)(code:BoundsCode):(Instr.sliceBound y c code).run P w=.ok n.toNat w:=by
 unfold C0v at hb;split at hb
 ·rename_i k m;injection hb with hb
  subst hb;obtain rfl:=AM.1 h;simp[Instr.sliceBound,asIntOf,b,h1]
 ·cases hb
def X?(C:Ctx)(w:World):Option AV->Option Value->Prop
 |none,none=>True
 |some a,some y=>VRel C w a y
 |_,_=>False
def SY(c:X? C w lo yl)(i:X? C w hi yh)(hm:X? C w mx ym){isS:Bool}{len cap:Nat}{l h x:Int}(hc:len<=cap)(s:Zn lo 0=some l)(r:Zn hi len=some h)(t:Zn mx cap=some x)(hb:0<=l/\l<=h/\h<=x/\x<=cap)(p:mx.isSome=true->hi.isSome=true):
 (Instr.sliceBounds isS len cap yl yh ym).run P w=.ok (l.toNat,h.toNat,x.toNat) w:=by
 have h1:∀(a:AV)(y:Value),mx=some a->VRel C w a y->∀code,(Instr.sliceBound y cap code).run P w=.ok x.toNat w:=λa y e hv code=>by
  subst e;exact mL hv t (by omega) (by omega) _
 have h2:∀(a:AV)(y:Value),hi=some a->VRel C w a y->∀code,(Instr.sliceBound y x.toNat code).run P w=.ok h.toNat w:=λa y e hv code=>by
  subst e;exact mL hv r (by omega) (by omega) _
 have n:∀(a:AV)(y:Value),lo=some a->VRel C w a y->∀code,(Instr.sliceBound y h.toNat code).run P w=.ok l.toNat w:=λa y e hv code=>by
  subst e;exact mL hv s (by omega) (by omega) _
 have j:mx=none->x.toNat=cap:=λe=>by subst e;simp[Zn]at t;omega
 have k:hi=none->h.toNat=len:=λe=>by subst e;simp[Zn]at r;omega
 have d:lo=none->l.toNat=0:=λe=>by subst e;simp[Zn]at s;omega
 cases mx with
 |none=>
  cases ym with
  |some _=>exact hm.elim
  |none=>
   have g:=j rfl;cases hi with
   |none=>
    cases yh with
    |some _=>exact i.elim
    |none=>
     have u:=k rfl;cases lo with
     |none=>
      cases yl with
      |some _=>exact c.elim
      |none=>simp[Instr.sliceBounds,g,u,d rfl]
     |some a=>
      cases yl with
      |none=>exact c.elim
      |some y=>have:=n a y rfl c;simp only[Instr.sliceBounds,pure_bind,Dm,Option.isSome_none,yM,if_false,<-g,<-u,this,FX,lM]
   |some b=>
    cases yh with
    |none=>exact i.elim
    |some z=>
     have f:=h2 b z rfl i;rw[g]at f;cases lo with
     |none=>
      cases yl with
      |some _=>exact c.elim
      |none=>simp[Instr.sliceBounds,g,d rfl,f]
     |some a=>
      cases yl with
      |none=>exact c.elim
      |some y=>have:=n a y rfl c;simp only[Instr.sliceBounds,pure_bind,Dm,Option.isSome_none,yM,if_false,g,f,this,FX,lM]
 |some m=>
  cases ym with
  |none=>exact hm.elim
  |some q=>
   have v:=h1 m q rfl hm;cases hi with
   |none=>simp at p
   |some b=>
    cases yh with
    |none=>exact i.elim
    |some z=>
     have f:=h2 b z rfl i;cases lo with
     |none=>
      cases yl with
      |some _=>exact c.elim
      |none=>simp[Instr.sliceBounds,d rfl,v,f]
     |some a=>
      cases yl with
      |none=>exact c.elim
      |some y=>have:=n a y rfl c;simp only[Instr.sliceBounds,Dm,Option.isSome_some,if_true,v,f,this,FX,lM]
def B0k{n cap:Nat}{cs:Is}{b o:Nat}(h:VRel C w (.list n cs) (.slice (some ⟨b,o,none⟩) n cap))(k m c:Nat)(j:Nat)(hm:m<=c):VRel C w (.list m ((cs.drop k).take j)) (.slice (some ⟨b,o+k,none⟩) m c):=by
 cases h with
 |list0=>
  refine .list hm (λ_=>undef) (λi hi=>?_) (λi hi=>?_) (λi hi=>?_)<;>simp at hi
 |list hc vs e d hv=>
  refine .list hm (λi=>vs (k+i)) (λi hi=>?_) (λi hi=>?_) (λi hi=>?_)
  ·rw[lN];exact e _ (by simp at hi;omega)
  ·rw[lN];exact d _ (by simp at hi;omega)
  ·rw[List.getElem_take,List.getElem_drop];exact hv _ (by simp at hi;omega)
def C_{T:Ty}(hT:jD P T)(hP:∀t i e b,T t=some i->(i.d=.slice e b\/∃n,i.d=.array n e b)->b≠0){ty:TypeId}{K:AV->Prop}(N:VRel C w a y)(X:X? C w lo yl)(V:X? C w hi yh)(hm:X? C w mx ym)(h:qT T ty a lo hi mx K):∃v u,(Instr.sliceAt ty y yl yh ym).run P w=.ok u w/\VRel C w v u/\K v:=by
 unfold qT at h;split at h
 ·rename_i ti M;have ok:=hT ty ti M;have Z:∀u,P.underlying ty=some u->(∀n e,u≠.array n e)->Instr.sliceAt ty y yl yh ym=Instr.sliceAt ty y yl yh ym:=λ_ _ _=>rfl;split at h
  ·rename_i s L;obtain⟨u,H,e1⟩:=ok.under;rw[L]at e1;have ae:u=.string:=by cases u<;>simp[td]at e1;rfl
   subst ae;obtain rfl:=AM.1 N;obtain⟨hn,h⟩:=h;cases mx with
   |some _=>simp at hn
   |none=>
    cases ym with
    |some _=>exact hm.elim
    |none=>
     cases f:Zn lo 0 with
     |none=>rw[f]at h;exact h.elim
     |some l=>
      rw[f]at h;cases c:Zn hi s.size with
      |none=>rw[c]at h;exact h.elim
      |some af=>
       rw[c]at h;simp only[LQ]at h;obtain⟨hb,h⟩:=h;have j:=SY (P:=P) (isS:=false) X V hm (Me s.size) f c (show Zn none s.size=some (s.size:Int) from rfl) ⟨hb.1,hb.2.1,hb.2.2,Int.le_refl _⟩ (by simp);refine⟨_,_,?_,.v _,h⟩;unfold Instr.sliceAt;rw[Dm,run_underlying H w];simp only[FX];unfold Instr.slice;rw[Dm,run_underlying H w];simp only[FX,Option.isSome_none,yM,if_false];rw[Dm,j];rfl
  ·rename_i e b m cs L;obtain⟨H,hc⟩:=ok.elem_slice L;have hsz:(sizeOf e).run P w=.ok b w:=by rw[<-hc];exact BV w (by rw[hc];exact hP ty ti e b M (.inl L))
   cases f:Zn lo 0 with
   |none=>rw[f]at h;exact h.elim
   |some l=>
    rw[f]at h;cases c:Zn hi m with
    |none=>rw[c]at h;exact h.elim
    |some h1=>
     rw[c]at h;cases k:Zn mx m with
     |none=>rw[k]at h;exact h.elim
     |some x=>
      rw[k]at h;simp only[LQ]at h;obtain⟨hb,O,h⟩:=h;obtain⟨A,cap,rfl,g⟩:∃A cap,y=.slice A m cap/\m<=cap:=by
       cases N with
       |list0=>exact⟨_,_,rfl,Y_ _⟩
       |list g=>exact⟨_,_,rfl,g⟩
      obtain⟨p,B,J⟩:∃p:Int,Zn mx cap=some p/\h1<=p/\p<=cap:=by
       cases mx with
       |none=>exact⟨cap,rfl,by simp[Zn]at k;omega,Int.le_refl _⟩
       |some mm=>exact⟨x,k,by omega,by omega⟩
      have j:=SY (P:=P) (isS:=true) X V hm g f c B ⟨hb.1,hb.2.1,J.1,J.2⟩ O;have q:(Instr.sliceAt ty (.slice A m cap) yl yh ym).run P w=.ok (.slice (if p.toNat=l.toNat then A else A.map (·.add (l.toNat*b))) (h1.toNat-l.toNat) (p.toNat-l.toNat)) w:=by
       unfold Instr.sliceAt;rw[Dm,run_underlying H w];simp only[FX];unfold Instr.slice;rw[Dm,run_underlying H w];simp only[FX];rw[Dm,j];simp only[FX];rw[Dm,hsz];rfl
      refine⟨_,_,q,?_,h⟩;have F:h1.toNat-l.toNat=(h1-l).toNat:=by omega
      rw[F];by_cases hz:(h1-l).toNat=0
      ·rw[hz];simp;exact .list0
      ·have ac:p.toNat≠l.toNat:=by omega
       rw[C5 ac];cases N with
       |list0=>omega
       |list D vs hF ab hv=>
        simp only[yN,JW];exact B0k (.list D vs hF ab hv) _ _ _ _ (by omega)
  ·rename_i e b sz r o m L;obtain⟨H,hc⟩:=ok.elem_slice L;have hsz:(sizeOf e).run P w=.ok b w:=by rw[<-hc];exact BV w (by rw[hc];exact hP ty ti e b M (.inl L))
   obtain⟨rfl,h⟩:=h;cases f:Zn lo 0 with
   |none=>rw[f]at h;exact h.elim
   |some l=>
    rw[f]at h;cases c:Zn hi m with
    |none=>rw[c]at h;exact h.elim
    |some h1=>
     rw[c]at h;cases k:Zn mx m with
     |none=>rw[k]at h;exact h.elim
     |some x=>
      rw[k]at h;simp only[LQ]at h;obtain⟨hb,O,h⟩:=h;obtain⟨A,cap,rfl,g⟩:∃A cap,y=.slice A m cap/\m<=cap:=by
       cases N with
       |slz=>exact⟨_,_,rfl,Y_ _⟩
       |sl Y g Q R=>exact⟨_,_,rfl,g⟩
      obtain⟨p,B,J⟩:∃p:Int,Zn mx cap=some p/\h1<=p/\p<=cap:=by
       cases mx with
       |none=>exact⟨cap,rfl,by simp[Zn]at k;omega,Int.le_refl _⟩
       |some mm=>exact⟨x,k,by omega,by omega⟩
      have j:=SY (P:=P) (isS:=true) X V hm g f c B ⟨hb.1,hb.2.1,J.1,J.2⟩ O;have q:(Instr.sliceAt ty (.slice A m cap) yl yh ym).run P w=.ok (.slice (if p.toNat=l.toNat then A else A.map (·.add (l.toNat*b))) (h1.toNat-l.toNat) (p.toNat-l.toNat)) w:=by
       unfold Instr.sliceAt;rw[Dm,run_underlying H w];simp only[FX];unfold Instr.slice;rw[Dm,run_underlying H w];simp only[FX];rw[Dm,j];simp only[FX];rw[Dm,hsz];rfl
      refine⟨_,_,q,?_,h⟩;have F:h1.toNat-l.toNat=(h1-l).toNat:=by omega
      rw[F];by_cases hz:p.toNat=l.toNat
      ·have h0:(h1-l).toNat=0:=by omega
       have aa:p.toNat-l.toNat=0:=by omega
       rw[h0,aa];cases N with
       |slz hr=>exact .slz hr
       |sl Y=>exact .slz (by rw[Y];simp)
      ·rw[C5 hz];cases N with
       |slz hr=>
        exact absurd (by omega) hz
       |sl Y D Q R=>
        simp only[yN,JW,lN];refine .sl Y (by omega) Q ?_;have h3:(p.toNat-l.toNat)*b+l.toNat*b=p.toNat*b:=by rw[<-Z'];congr 1;omega
        have h4:p.toNat*b<=cap*b:=l28 _ (by omega);omega
  ·rename_i e b L;obtain⟨H,hc⟩:=ok.elem_slice L;have hsz:(sizeOf e).run P w=.ok b w:=by rw[<-hc];exact BV w (by rw[hc];exact hP ty ti e b M (.inl L))
   obtain rfl:=AM.1 N;cases f:Zn lo 0 with
   |none=>rw[f]at h;exact h.elim
   |some l=>
    rw[f]at h;cases c:Zn hi 0 with
    |none=>rw[c]at h;exact h.elim
    |some h1=>
     rw[c]at h;simp only[LQ]at h;obtain⟨hn,⟨rfl,rfl⟩,h⟩:=h;cases mx with
     |some _=>simp at hn
     |none=>
      cases ym with
      |some _=>exact hm.elim
      |none=>
       have j:=SY (P:=P) (isS:=true) X V hm (Me 0) f c (show Zn none 0=some ((0:Nat):Int) from rfl) ⟨by omega,by omega,by omega,by omega⟩ (by simp);refine⟨_,_,?_,.v _,h⟩;unfold Instr.sliceAt;rw[Dm,run_underlying H w];simp only[FX];unfold Instr.slice;rw[Dm,run_underlying H w];simp only[FX];rw[Dm,j];simp only[FX];rw[Dm,hsz];rfl
  ·exact h.elim
 ·exact h.elim
end
section
variable{K:AV->Prop}{C:Ctx}{P:Program}{w:World}
def B0M(off:Nat)(l:Hx):∀(k:Nat)(cs:Array Value),off+k+l.length<=cs.size->(l.zipIdx k).foldl (λ(cs:Array Value)(p:Value×Nat)=>cs.setIfInBounds (off+p.2) p.1) cs=(splice cs.toList (off+k) l).toArray:=by
 induction l with
 |nil=>intro k cs _;simp[rU]
 |cons v l ih=>
  intro k cs h;simp only[List.zipIdx_cons,List.foldl_cons];simp only[LV]at h;rw[ih (k+1) _ (by simp;omega)]
  congr 1
  rw[<-mT (by simp;omega)];simp[lN]
def A3R(v:Value)(off:Nat)(cs:Array Value)(h:off+v.cells.size<=cs.size):v.cells.zipIdx.foldl (λ(cs:Array Value)(p:Value×Nat)=>cs.setIfInBounds (off+p.2) p.1) cs=(splice cs.toList off v.cells.toList).toArray:=by
 have:=B0M off v.cells.toList 0 cs (by simpa using h);rw[<-Array.foldl_toList];simpa using this
def Ta(place:Nat->Option (Nat×Nat)):List (Nat×AV)->Is->Option Is
 |[],cs=>some cs
 |(i,a)::rest,cs=>match place i with
  |none=>none
  |some (off,sz)=>if(Bw a).length=sz/\off+(Bw a).length<=cs.length/\(Bw a).all AV.one=true then Ta place rest (splice cs off (Bw a)) else none
theorem CI.splice{cs a:Is}{ys zs:Hx}{o:Nat}(h:CI C w cs ys)(k:CI C w a zs):CI C w (splice cs o a) (splice ys o zs):=by
 unfold Abs.splice;rw[k.1];exact((h.take o).append k).append (h.drop _)
def iF{place:Nat->Option (Nat×Nat)}:∀(ps:List (Nat×AV))(b:List (Nat×Value))(cs:Is)(ys:Hx)(r:Is),ps.length=b.length->(∀(j:Nat)(p:Nat×AV),ps[j]?=some p->∃z,b[j]?=some (p.1,z)/\VRel C w p.2 z)->CI C w cs ys->
 Ta place ps cs=some r->∃f:Hx,Instr.fill place ys.toArray b=some f.toArray/\CI C w r f:=by
 intro ps
 induction ps with
 |nil=>
  intro b cs ys r e _ hr h;cases b with
  |cons _ _=>simp at e
  |nil=>simp[Ta]at h;subst h;exact⟨ys,rfl,hr⟩
 |cons p ps ih=>
  intro b cs ys r e hq hr h;obtain⟨i,a⟩:=p;cases b with
  |nil=>simp at e
  |cons q b=>
   obtain⟨z,hz,hv⟩:=hq 0 (i,a) rfl;simp at hz;subst hz;simp only[Ta]at h;split at h
   ·cases h
   ·rename_i off sz t;split at h
    ·rename_i hc;obtain⟨h1,h2,m⟩:=hc;obtain⟨c,k⟩:=hv.cells m;have g:z.cells.size=(Bw a).length:=by have:=c.1;simpa using this
     have u:ys.length=cs.length:=hr.1;obtain⟨f,n,d⟩:=ih b _ (splice ys off z.cells.toList) r (by simpa using e) (λj p s=>by have:=hq (j+1) p (by simpa using s);simpa using this) (hr.splice c) h;refine⟨f,?_,d⟩;simp only[Instr.fill,t];have c1:¬(z.cells.size≠sz||off+z.cells.size>ys.toArray.size)=true:=by simp;omega
     rw[C5 c1];rw[A3R z off ys.toArray (by simp;omega)];simpa using n
    ·cases h
def qY(T:Ty)(ty:TypeId)(ps:List (Nat×AV))(K:AV->Prop):Prop:=
 match T ty with
 |some i=>match i.d with
  |.struct b=>(b.all λf=>f.2.1 !=0)=true/\LQ (Ta (λj=>(b[j]?).map λf=>(f.1,f.2.1)) ps (Bw i.zero)) λcs=>K (.agg cs)
  |.array _ _ a=>a≠0/\LQ (Ta (λj=>some (j*a,a)) ps (Bw i.zero)) λcs=>K (.agg cs)
  |_=>False
 |none=>False
def yJ(z:Value)(h:∀vs,z≠.tuple vs):CI C w (Bw (sQ z)) z.cells.toList:=by
 cases z with
 |agg cs=>simpa [sQ,Bw,Value.cells] using Wq (C:=C) (w:=w) cs.toList
 |tuple vs=>exact absurd rfl (h vs)
 |_=>exact .cons (.v _) .nil
def A1b(w:World):∀(l:List Field),(l.all λf=>P.cellsOf f.type !=0)=true->(l.mapM (λf=>do pure (f.offset,<-sizeOf f.type):Field->Sem (Nat×Nat))).run P w=.ok (l.map λf=>(f.offset,P.cellsOf f.type)) w:=by
 intro l
 induction l with
 |nil=>intro _;rfl
 |cons f l ih=>
  intro h;simp only[pY,K0,bne_iff_ne,ne_eq]at h;rw[List.mapM_cons];simp only[Dm,BV w h.1,FX,lM,ih h.2,Xa]
def E'{T:Ty}(J:jD P T){ty:TypeId}{ps:List (Nat×AV)}{k:List (Nat×Value)}(b:ps.length=k.length)(hq:∀(j:Nat)(p:Nat×AV),ps[j]?=some p->∃z,k[j]?=some (p.1,z)/\VRel C w p.2 z)(h:qY T ty ps K):∃v u,(Instr.build ty k.toArray).run P w=.ok u w/\VRel C w v u/\K v:=by
 unfold qY at h;split at h
 ·rename_i i L;have ok:=J ty i L;obtain⟨z,hz,D⟩:=ok.run_zero (P:=P) w;obtain⟨u,M,e⟩:=ok.under;have A:(Bw i.zero).length=z.cells.size->CI C w (Bw i.zero) z.cells.toList:=by
   intro _;rw[<-D];cases z with
   |tuple vs=>exact .cons (.v _) .nil
   |agg cs=>exact yJ _ (by simp)
   |_=>exact .cons (.v _) .nil
  have B:(Bw i.zero).length=z.cells.size:=by
   rw[<-D];cases z<;>simp[sQ,Bw,Value.cells]
  have g:=A B;split at h
  ·rename_i F q;obtain⟨a,h⟩:=h;rw[q]at e;cases u<;>simp[td]at e
   rename_i fields;cases d:Ta (λj=>(F[j]?).map λf=>(f.1,f.2.1)) ps (Bw i.zero) with
   |none=>rw[d]at h;exact h.elim
   |some r=>
    rw[d]at h;obtain⟨m,h1,h2⟩:=iF (C:=C) (w:=w) ps k _ _ r b hq g d;refine⟨.agg r,.agg m.toArray,?_,EO.2 ⟨m,rfl,h2⟩,h⟩;have hm:=A1b (P:=P) w fields.toList (by
     rw[<-e]at a;simpa [List.all_map,l1y] using a)
    have s:(fields.mapM (λf=>do pure (f.offset,<-sizeOf f.type):Field->Sem (Nat×Nat))).run P w=.ok (fields.toList.map λf=>(f.offset,P.cellsOf f.type)).toArray w:=by
     rw[Array.mapM_eq_mapM_toList,Sem.run_map,hm];rfl
    have x:(λ(j:Nat)=>((fields.toList.map λf=>(f.offset,P.cellsOf f.type)).toArray)[j]?)=(λ(j:Nat)=>(F[j]?).map λ(f:Nat×Nat×TypeId)=>(f.1,f.2.1)):=by
     funext j
     rw[<-e];simp[xE,l1y]
    unfold Instr.build;rw[Dm,hz];simp only[FX];rw[Dm,run_underlying M w];simp only[FX];rw[Dm,s];simp only[FX];rw[x];simp only[Array.toArray_toList]at h1;simp[h1]
  ·rename_i n H c q;obtain⟨t,h⟩:=h;obtain⟨y,hc⟩:=ok.elem_array q;have hsz:(sizeOf H).run P w=.ok c w:=by rw[<-hc];exact BV w (by rw[hc];exact t)
   cases d:Ta (λj=>some (j*c,c)) ps (Bw i.zero) with
   |none=>rw[d]at h;exact h.elim
   |some r=>
    rw[d]at h;obtain⟨m,h1,h2⟩:=iF (C:=C) (w:=w) ps k _ _ r b hq g d;refine⟨.agg r,.agg m.toArray,?_,EO.2 ⟨m,rfl,h2⟩,h⟩;simp only[Array.toArray_toList]at h1;unfold Instr.build;rw[Dm,hz];simp only[FX];rw[Dm,run_underlying y w];simp only[FX];rw[Dm,hsz];simp[h1]
  ·exact h.elim
 ·exact h.elim
def A8g(T:Ty)(ty:TypeId)(a:AV)(K:AV->Prop):Prop:=
 match T ty with
 |some i=>match i.d,a with
  |.string,.v (.string s)=>K (.v (.int .i64 s.size))
  |.slice ..,.list n _=>K (.v (.int .i64 n))
  |.slice ..,.sl _ _ _ n=>K (.v (.int .i64 n))
  |.slice ..,.v (.slice none 0 0)=>K (.v (.int .i64 0))
  |.array n _ _,_=>K (.v (.int .i64 n))
  |_,_=>False
 |none=>False
def A2F{T:Ty}(g:jD P T){ty rt:TypeId}{ts:Array TypeId}{a:AV}{y:Value}(b:ts[0]?=some ty)(f:VRel C w a y)(h:A8g T ty a K):∃v u,(Builtin.len_ ts rt #[y]).run P w=.ok u w/\VRel C w v u/\K v:=by
 unfold A8g at h;split at h
 ·rename_i i j;have ok:=g ty i j;obtain⟨u,d,e⟩:=ok.under;split at h
  ·rename_i s c;obtain rfl:=AM.1 f;rw[c]at e;cases u<;>simp[td]at e
   exact⟨_,_,by simp[Builtin.len_,b,run_underlying d];rfl,.v _,h⟩
  ·rename_i c;rw[c]at e;cases u<;>simp[td]at e
   cases f with
   |list0=>exact⟨_,_,by simp[Builtin.len_,b,run_underlying d];rfl,.v _,h⟩
   |list=>exact⟨_,_,by simp[Builtin.len_,b,run_underlying d];rfl,.v _,h⟩
  ·rename_i c;rw[c]at e;cases u<;>simp[td]at e
   cases f with
   |slz=>exact⟨_,_,by simp[Builtin.len_,b,run_underlying d];rfl,.v _,h⟩
   |sl=>exact⟨_,_,by simp[Builtin.len_,b,run_underlying d];rfl,.v _,h⟩
  ·rename_i c;obtain rfl:=AM.1 f;rw[c]at e;cases u<;>simp[td]at e
   exact⟨_,_,by simp[Builtin.len_,b,run_underlying d];rfl,.v _,h⟩
  ·rename_i c;rw[c]at e;cases u<;>simp[td]at e
   obtain⟨rfl,_⟩:=e;exact⟨_,_,by simp[Builtin.len_,b,run_underlying d];rfl,.v _,h⟩
  ·exact h.elim
 ·exact h.elim
end
section
variable{K:AV->Hp->Prop}
def Kz(G:Gl)(w0:Base)(C:Ctx)(w:World)(v:AV)(H:Hp)(y:Value)(C':Ctx)(w':World):Prop:=VRel C' w' v y/\Rel G w0 C' H w'/\Ext w0.own C w C' w'
def dY(w:World)(o:Obj):Below w.heap.size w {w with heap:=w.heap.push o}:=
 ⟨rfl,rfl,rfl,by simp,λk a=>by simp[l2d,Nat.ne_of_lt a]⟩
def A21(w:World)(B:Nat):Below B w {w with drawn:=w.drawn+1}:=⟨rfl,rfl,rfl,Me _,λ_ _=>rfl⟩
section
variable{P:Program}{G:Gl}{w0:Base}{w:World}{C:Ctx}{H:Hp}
def A5l(hr:Rel G w0 C H w)(T:TypeId){cs:Is}{arr:Array Value}(hv:CI C w cs arr.toList):
 Kz G w0 C w (.ptr (As H) 0 0) ((As H,.cells true T cs)::H) (.pointer (some ⟨w.heap.size,0,none⟩)) (C.put (As H) (some (w.heap.size,0))) {w with heap:=w.heap.push (.cells arr T)}:=by
 have hb:=dY w (.cells arr T);have a:arr.size=cs.length:=by simpa using hv.1
 refine⟨?_,hr.new (q:=true) hb (arr:=arr) (fz:=(0,0)) (by simp) (λi _=>by omega) (by omega) (by rw[Y? (by simp;omega)];exact hv) (λ_=>a),hr.new_ext hb⟩;have:VRel (C.put (As H) (some (w.heap.size,0))) {w with heap:=w.heap.push (.cells arr T)} (.ptr (As H) 0 0) (.pointer (some ⟨w.heap.size,0+(0+0),none⟩)):=.ptr (C.put_n _ _);simpa using this
def YW(hr:Rel G w0 C H w){w':World}(hb:Below w.heap.size w w')(T:TypeId){cs:Is}{arr:Array Value}{fz:Nat×Nat}(c:w'.heap[w.heap.size]?=some (.cells arr T fz))(QU:∀i,i<arr.size->¬(fz.1<=i/\i<fz.2))(sz n cap:Nat)(a:n<=cap)(hsz:cap*sz<=arr.size)(b:cs.length<=arr.size)(hv:CI (C.sel false) w cs (arr.toList.take cs.length)):
 Kz G w0 C w (.sl sz (As H) 0 n) ((As H,.cells false T cs)::H) (.slice (some ⟨w.heap.size,0,none⟩) n cap) (C.put (As H) (some (w.heap.size,0))) w':=by
 refine⟨?_,hr.new (q:=false) hb c QU b hv (λh=>by cases h),hr.new_ext hb⟩;have:VRel (C.put (As H) (some (w.heap.size,0))) w' (.sl sz (As H) 0 n) (.slice (some ⟨w.heap.size,0+0,none⟩) n cap):=.sl (C.put_n _ _) a c (by omega);simpa using this
def rC(T:Ty)(ty:TypeId)(H:Hp)(r:Nat)(K:AV->Hp->Prop):Prop:=
 match T ty with
 |some i=>K (.ptr r 0 0) ((r,.cells true ty (Bw i.zero))::H)
 |none=>False
def OZ{t:TypeId}{i:TI}{z:Value}(a:sQ z=i.zero):CI C w (Bw i.zero) z.cells.toList:=by
 rw[<-a];cases z with
 |agg cs=>exact yJ _ (by simp)
 |_=>exact .cons (.v _) .nil
def E!{T:Ty}(e:jD P T){ty:TypeId}(hr:Rel G w0 C H w)(h:rC T ty H (As H) K):∃v a y c b,K v a/\(Instr.alloc ty true (.tuple #[])).run P w=.ok y b/\Kz G w0 C w v a y c b:=by
 unfold rC at h;split at h
 ·rename_i i f;obtain⟨z,hz,d⟩:=(e ty i f).run_zero (P:=P) w;refine⟨_,_,_,_,_,h,?_,A5l hr ty (OZ (t:=ty) d)⟩;simp[Instr.alloc,hz,newVar,newRow]
 ·exact h.elim
def B6h(ty:TypeId)(a:AV)(H:Hp)(r:Nat)(K:AV->Hp->Prop):Prop:=(Bw a).all AV.one=true/\K (.ptr r 0 0) ((r,.cells true ty (Bw a))::H)
def A2G{ty:TypeId}{a:AV}{y:Value}(hr:Rel G w0 C H w)(e:VRel C w a y)(h:B6h ty a H (As H) K):∃v b z d c,K v b/\(Instr.box ty y).run P w=.ok z c/\Kz G w0 C w v b z d c:=by
 obtain⟨h1,h⟩:=h;refine⟨_,_,_,_,_,h,?_,A5l hr ty (e.cells h1).1⟩;simp[Instr.box,newVar,newRow]
def XJ:Nat->Is->Is
 |0,_=>[]
 |n+1,z=>z++XJ n z
def eJ(z:Array Value):∀n,(Array.range (n*z.size)).map (λi=>z[i%z.size]!)=((List.range n).flatMap λ_=>z.toList).toArray:=by
 intro n;apply pF;simp only[Array.toList_map,Array.toList_range]
 induction n with
 |zero=>simp
 |succ n ih=>
  rw[List.range_succ,l2m,<-ih,Nat.succ_mul,List.range_add,Za]
  congr 1
  simp only[List.map_map,qB,List.flatMap_nil,UC];apply l0p;intro j;by_cases a:j<z.size
  ·simp[a,Nat.mod_eq_of_lt a]
  ·simp[a]
def fE(z:Is):∀n,XJ n z=(List.range n).flatMap λ_=>z:=by
 intro n
 induction n with
 |zero=>rfl
 |succ n ih=>rw[List.range_succ_eq_map];simp[XJ,ih,List.flatMap_map]
def YZ{cs:Is}{zs:Hx}(h:CI C w cs zs):∀n,CI C w ((List.range n).flatMap λ_=>cs) ((List.range n).flatMap λ_=>zs):=by
 intro n
 induction n with
 |zero=>exact .nil
 |succ n ih=>
  rw[List.range_succ,l2m,l2m];refine ih.append ?_;simpa using h
def XI(z:Is):∀n,(XJ n z).length=n*z.length:=by
 intro n
 induction n with
 |zero=>simp[XJ]
 |succ n ih=>simp[XJ,ih,Nat.succ_mul,Nat.add_comm]
def jA{place:Nat->Option (Nat×Nat)}:∀(ps:List (Nat×AV))(cs r:Is),Ta place ps cs=some r->r.length=cs.length:=by
 intro ps
 induction ps with
 |nil=>intro cs r h;simp[Ta]at h;subst h;rfl
 |cons p ps ih=>
  intro cs r h;obtain⟨i,a⟩:=p;simp only[Ta]at h;split at h
  ·cases h
  ·split at h
   ·rename_i hc;rw[ih _ _ h,FW hc.2.1]
   ·cases h
def eP(T:Ty)(ty:TypeId)(n:Nat)(ps:List (Nat×AV))(H:Hp)(r:Nat)(K:AV->Hp->Prop):Prop:=
 match T ty with
 |some i=>match i.d with
  |.slice e a=>match T e with
   |some b=>a≠0/\(Bw b.zero).length=a/\n*a<=2^24/\LQ (Ta (λj=>some (j*a,a)) ps (XJ n (Bw b.zero))) λcs=>K (.sl a r 0 n) ((r,.cells false e cs)::H)
   |none=>False
  |_=>False
 |none=>False
def vS{T:Ty}(O:jD P T){ty:TypeId}{n:Nat}{ps:List (Nat×AV)}{m:List (Nat×Value)}(c:ps.length=m.length)(hq:∀(j:Nat)(p:Nat×AV),ps[j]?=some p->∃z,m[j]?=some (p.1,z)/\VRel C w p.2 z)(hr:Rel G w0 C H w)(h:eP T ty n ps H (As H) K):
 ∃v N y V R,K v N/\(Instr.buildSlice ty n m.toArray).run P w=.ok y R/\Kz G w0 C w v N y V R:=by
 unfold eP at h;split at h
 ·rename_i i Z;have ok:=O ty i Z;split at h
  ·rename_i e a Y;split at h
   ·rename_i k A;obtain⟨d,F,Q,h⟩:=h;obtain⟨hu,hc⟩:=ok.elem_slice Y;have M:=O e k A;obtain⟨z,hz,X⟩:=M.run_zero (P:=P) w;have hsz:(sizeOf e).run P w=.ok a w:=by rw[<-hc];exact BV w (by rw[hc];exact d)
    have f:CI C w (Bw k.zero) z.cells.toList:=OZ (t:=e) X;have J:z.cells.size=a:=by have:=f.1;simp at this;omega
    cases g:Ta (λj=>some (j*a,a)) ps (XJ n (Bw k.zero)) with
    |none=>rw[g]at h;exact h.elim
    |some r=>
     rw[g]at h;have L:CI C w (XJ n (Bw k.zero)) ((List.range n).flatMap λ_=>z.cells.toList):=by rw[fE];exact YZ f n
     obtain⟨q,h1,h2⟩:=iF (C:=C) (w:=w) ps m _ _ r c hq L g;have b:¬(n*a>2^24):=by omega
     have D:q.length=n*a:=by rw[h2.1,jA _ _ _ g,XI,F]
     have u:CI (C.sel false) w r q:=h2;have key:=YW hr (dY w (.cells q.toArray e)) e (cs:=r) (arr:=q.toArray) (fz:=(0,0)) (by simp) (λi _=>by omega) a n n (Me _) (by simp[D]) (by simp;exact Nat.le_of_eq h2.1.symm) (by rw[Y? (by simp;exact Nat.le_of_eq h2.1)];simpa using u);refine⟨_,_,_,_,_,h,?_,key⟩;unfold Instr.buildSlice;rw[Dm,run_underlying hu w];simp only[FX];rw[Dm,hsz];simp only[FX,C5 b,pure_bind];by_cases s:n*a=0
     ·have B:n=0:=by rcases Nat.mul_eq_zero.1 s with h|h;exact h;exact absurd h d
      subst B;rw[Dl s];simp only[List.range_zero,List.flatMap_nil]at h1;rw[show(Array.map (λx=>(#[]:Array Value)[x%(#[]:Array Value).size]!) (Array.range (0*a)))= #[] from by rw[Nat.zero_mul];apply pF;simp,h1];simp[newRow]
     ·rw[C5 s,Dm,hz];simp only[FX];have:=eJ z.cells n;rw[J]at this⊢;rw[this,h1];simp[newRow]
   ·exact h.elim
  ·exact h.elim
 ·exact h.elim
end
end
section
variable{q q':Bool}{aZ:Is}{ys:Hx}
def A25(H:Hp)(x:AV):Option (Nat×Is×Bool):=
 match x with
 |.list m cs=>some (m,cs,true)
 |.sl sz r o m=>match Aj H r with
  |some (.cells q _ cs)=>some (m,(cs.drop o).take (m*sz),q)
  |_=>none
 |.v (.slice none 0 0)=>some (0,[],true)
 |.v (.string s)=>some (s.size,s.data.toList.map λb=>.v (.int .u8 b.toNat),true)
 |_=>none
section
variable{P:Program}{G:Gl}{w0:Base}{w:World}{C:Ctx}{H:Hp}
def WT{x:AV}{y:Value}{m:Nat}{ys:Is}{esz:Nat}(hr:Rel G w0 C H w)(A:VRel C w x y)(h:A25 H x=some (m,ys,q))(N:ys.length=m*esz)(hs:∀s,x=.v (.string s)->esz=1):
 (Builtin.lenOf y).run P w=.ok m w/\∃vs:Hx,CI (C.sel q) w ys vs/\∀W:World,(∀k,k<w.heap.size->W.heap[k]?=w.heap[k]?)->(Builtin.firstCells esz m y).run P W=.ok vs.toArray W:=by
 have mem:∀(D:Ctx)(b o:Nat)(cs:Is),MO D w b o cs->cs.length=m*esz->(0<cs.length->b<w.heap.size)->∃vs:Hx,CI D w cs vs/\∀W:World,(∀k,k<w.heap.size->W.heap[k]?=w.heap[k]?)->(loadCells ⟨b,o,none⟩ (m*esz)).run P W=.ok vs.toArray W:=by
  intro D b o cs hc t hb;obtain⟨vs,h1,h2⟩:=hc;refine⟨vs,h1,λW n=>?_⟩;have K:vs.length=m*esz:=by rw[h1.1,t]
  have:=run_loadCells_list (P:=P) W ⟨b,o,none⟩ vs (λj v hv=>by
   rw[JW];have hj:j<vs.length:=(yO.1 hv).1;rw[l0t (w:=w) (n b (hb (by rw[<-h1.1];omega)))];exact h2 j v hv)
  rwa[K]at this
 unfold A25 at h;split at h
 ·rename_i O cs;injection h with h;injection h with d c;injection c with c g;subst d c g
  cases A with
  |list0=>
   refine⟨rfl,[],.nil,λW _=>?_⟩;rename_i a cap;cases a with
   |none=>rfl
   |some Q=>simp[Builtin.firstCells,loadCells,loadCellsFrom]
  |list p vs Y B hv=>
   rename_i cap b o;obtain⟨i,h1,h2⟩:=mem C.bare b o cs (uV vs B hv) N (λu=>hr.fin b _ (Y 0 u));exact⟨rfl,i,(h1.up rfl rfl),λW n=>h2 W n⟩
 ·rename_i sz r o O;split at h
  ·rename_i q' E cs J;injection h with h;injection h with d c;injection c with c g;subst d c g
   cases A with
   |slz aa=>
    have:((cs.drop o).take (0*sz))=[]:=by simp
    rw[this];rename_i a;refine⟨rfl,[],.nil,λW _=>?_⟩;cases a with
    |none=>rfl
    |some Q=>simp[Builtin.firstCells,loadCells,loadCellsFrom]
   |sl u p Z M=>
    rcases hr.rows r _ J with⟨h5,X⟩|⟨R,f,L,V,F⟩
    ·rw[X]at u;cases u
    ·have e:=F.at_.symm.trans u;injection e with e;injection e with e;injection e with d c;subst d c
     obtain⟨i,h1,h2⟩:=mem (C.sel q') R (f+o) _ ((F.atq.drop o).take (O*sz)) N (λ_=>F.lt);exact⟨rfl,i,h1,λW n=>h2 W n⟩
  ·cases h
 ·injection h with h;injection h with d c;injection c with c g;subst d c g
  obtain rfl:=AM.1 A;exact⟨rfl,[],.nil,λW _=>rfl⟩
 ·rename_i s;injection h with h;injection h with d c;injection c with c g;subst d c g
  obtain rfl:=AM.1 A;have:=hs s rfl;subst this;refine⟨rfl,s.data.toList.map λb=>.int .u8 b.toNat,?_,λW _=>?_⟩
  ·have:=Wq (C:=C.sel true) (w:=w) (s.data.toList.map λb=>Value.int .u8 b.toNat);simpa [l1y] using this
  ·simp only[Builtin.firstCells,lM]
   congr 1
   have:s.extract 0 s.size=s:=by
    apply ByteArray.ext;simp
   rw[this];obtain⟨⟨l⟩⟩:=s;simp only[List.map_toArray]
 ·cases h
def xC(h:CI (C.sel q) w aZ ys):CI (C.sel q') w aZ ys:=h
def tM(h:CI (C.sel q') w aZ ys):CI (C.sel q) w aZ ys:=h
def Rel.virtual(hr:Rel G w0 C H w)(q:Bool)(E:TypeId):Rel G w0 (C.put (As H) none) ((As H,.cells q E [])::H) w:=by
 have g:C.π (As H)=none:=hr.nx _ (Me _);have e:Ext w0.own C w (C.put (As H) none) w:=Ctx.put_ext g (.refl _ _ _);refine⟨hr.glob,hr.below,?_,?_,?_,?_,hr.fin,hr.finB,?_⟩
 ·intro r x a;simp only[Aj]at a;split at a
  ·rename_i h;subst h;rw[C.put_n];simp
  ·rw[e.π r (hr.lt r x a)];exact hr.lt r x a
 ·intro r x a;simp only[Aj]at a;split at a
  ·rename_i h;subst h;injection a with a;subst a
   exact Or.inl ⟨rfl,C.put_n _ none⟩
  ·exact(hr.rows r x a).mono e (λ_ _ _=>rfl)
 ·intro r x b o a c;simp only[Aj]at a;split at a
  ·rename_i h;subst h;rw[C.put_n]at c;cases c
  ·rename_i h;rw[C.put_ne _ h]at c;exact hr.own r x b o a c
 ·intro r j x k b o i a f c d;simp only[Aj]at a f;split at a
  ·rename_i h;subst h;rw[C.put_n]at c;cases c
  ·rename_i h1;split at f
   ·rename_i h;subst h;rw[C.put_n]at d;cases d
   ·rename_i h2;rw[C.put_ne _ h1]at c;rw[C.put_ne _ h2]at d;exact hr.sep r j x k b o i a f c d
 ·intro r h;have h:As H+1<=r:=h;rw[C.put_ne _ (by omega)];exact hr.nx r (by omega)
def Rel.extend(hr:Rel G w0 C H w){w':World}{r1:Nat}{E:TypeId}{cs aZ:Is}{b base o:Nat}{arr:Array Value}{fz:Nat×Nat}(B:Aj H r1=some (.cells q E cs))(r:Laid C w r1 q E cs b base arr fz)(ho:o<=cs.length)(hv:CI (C.sel q') w aZ ys)(M:base+cs.length+aZ.length<=arr.size)(p:SameBut w w' b E (splice arr.toList (base+cs.length) ys).toArray fz):
 Rel G w0 (C.put (As H) (some (b,base+o))) ((As H,.cells false E (cs.drop o++aZ))::cut H r1) w'/\Ext w0.own C w (C.put (As H) (some (b,base+o))) w':=by
 have F:C.π (As H)=none:=hr.nx _ (Me _);have g:=hr.own r1 _ b base B r.at_;have Y:ys.length=aZ.length:=hv.1;have hsz:(splice arr.toList (base+cs.length) ys).toArray.size=arr.size:=by
  simp only[List.size_toArray];rw[FW (by simp;omega)];simp
 have Q:Ext w0.own C w C w':=p.ext r.block hsz g.2.1 g.2.2;have e:Ext w0.own C w (C.put (As H) (some (b,base+o))) w':=Ctx.put_ext F Q;have a:∀s x,Aj (cut H r1) s=some x->s≠r1/\Aj H s=some x:=λs x c=>by
  by_cases p:s=r1
  ·subst p;rw[PZ]at c;cases c
  ·rw[Tw p]at c;exact⟨p,c⟩
 refine⟨⟨hr.glob.mono e,?_,?_,?_,?_,?_,λk i X=>p.size▸hr.fin k i X,λk V=>p.size▸hr.finB k V,λk O=>by
  have O:As H+1<=k:=O;rw[C.put_ne _ (by omega)];exact hr.nx k (by omega)⟩,e⟩
 ·exact hr.below.same p g.1
 ·intro s x c;simp only[Aj]at c;split at c
  ·rename_i h;subst h;rw[C.put_n];simp
  ·rw[e.π s (hr.lt s x (a s x c).2)];exact hr.lt s x (a s x c).2
 ·intro s x c;simp only[Aj]at c;split at c
  ·rename_i h;subst h;injection c with c;subst c
   refine Or.inr ⟨b,base+o,_,fz,C.put_n _ _,p.here,by rw[hsz];exact r.free,by rw[hsz];simp;omega,?_,λh=>by cases h⟩;have u:CI ((C.put (As H) (some (b,base+o))).sel false) w' cs _:=r.vals.mono (e.sel q);have K:CI ((C.put (As H) (some (b,base+o))).sel false) w' aZ ys:=hv.mono (e.sel q');have J:((splice arr.toList (base+cs.length) ys).drop (base+o)).take (cs.drop o++aZ).length=((arr.toList.drop base).take cs.length).drop o++ys:=by
    apply l0p;intro j;simp only[EC,Z_];rw[l0n];by_cases N:j<cs.length-o+aZ.length
    ·rw[Dl N,tT,Pf (by simp;omega)];by_cases h1:j<cs.length-o
     ·rw[Dl (by omega),l0m (by simp;omega),tT,l0n,Dl (by omega),tT]
      congr 1;omega
     ·rw[C5 (by omega),Dl (by omega),l0o (by simp;omega)]
      congr 1
      simp;omega
    ·rw[C5 N]
     symm
     rw[List.getElem?_eq_none_iff];simp;omega
   simp only[];rw[J];exact(u.drop o).append K
  ·refine(hr.rows s x (a s x c).2).mono e (λk D d=>p.others k (λR=>?_));subst R;exact(a s x c).1 (hr.sep s r1 x _ _ _ _ (a s x c).2 B d r.at_)
 ·intro s x k Z c d;simp only[Aj]at c;split at c
  ·rename_i h;subst h;rw[C.put_n]at d;injection d with d;injection d with d;injection d with t L;subst t
   exact g
  ·rename_i m;rw[C.put_ne _ m]at d;exact hr.own s x k Z (a s x c).2 d
 ·intro s y x A k o1 o2 c n d f;simp only[Aj]at c n;split at c
  ·rename_i h;subst h;rw[C.put_n]at d;injection d with d;injection d with d;injection d with t L;subst t
   split at n
   ·rename_i h;exact h.symm
   ·rename_i m;rw[C.put_ne _ m]at f;exact absurd (hr.sep y r1 A _ _ _ _ (a y A n).2 B f r.at_) (a y A n).1
  ·rename_i m;split at n
   ·rename_i h;subst h;rw[C.put_n]at f;injection f with f;injection f with f;injection f with t L;subst t
    rw[C.put_ne _ m]at d;exact absurd (hr.sep s r1 x _ _ _ _ (a s x c).2 B d r.at_) (a s x c).1
   ·rename_i v;rw[C.put_ne _ m]at d;rw[C.put_ne _ v]at f;exact hr.sep s y x A k o1 o2 (a s x c).2 (a y A n).2 d f
end
end
def YO(T:Ty)(t1 t2:TypeId)(s x:AV)(H:Hp)(r:Nat)(K:AV->Hp->Prop):Prop:=
 match T t1,T t2 with
 |some i1,some i2=>match i1.d with
  |.slice e a=>match T e with
   |some b=>(a≠0/\(Bw b.zero).length=a/\(match i2.d with|.slice .. =>True|.string=>True|_=>False)/\(match x with|.v (.string _)=>a=1|_=>True))/\LQ (A25 H x) λp=>
    (p.2.1.length=p.1*a/\p.2.1.all AV.one=true)/\(match s with
     |.v (.slice none 0 0)=>(p.1*b.bytes<=2^46/\p.1<=2^46)/\(if p.1=0 then K (.v (.slice none 0 0)) H else K (.sl a r 0 p.1) ((r,.cells false e p.2.1)::H))
     |.sl sz r1 o n=>match Aj H r1 with
      |some (.cells q E cs)=>(E=e/\sz=a/\o+n*a=cs.length/\(n+p.1)*b.bytes<=2^46/\n+p.1<=2^46)/\K (.sl a r 0 (n+p.1)) ((r,.cells false e (cs.drop o++p.2.1))::cut H r1)
      |_=>False
     |_=>False)
   |none=>False
  |_=>False
 |_,_=>False
section
variable{P:Program}{G:Gl}{w0:Base}{w:World}{C:Ctx}{H:Hp}
def A78(a:Nat):∀(rounds c:Nat),c<a->Builtin.growBy a rounds c<=a+(a+768)/4:=by
 intro rounds
 induction rounds with
 |zero=>intro c h;simp[Builtin.growBy];omega
 |succ n ih=>
  intro c h;simp only[Builtin.growBy];rw[C5 (by omega)];by_cases h2:c+(c+768)/4<a
  ·exact ih _ h2
  ·cases n with
   |zero=>simp[Builtin.growBy];omega
   |succ n=>simp only[Builtin.growBy];rw[Dl (by omega)];omega
def A3s(a b:Nat)(h:b<a):Builtin.nextslicecap a b<=2*a:=by
 unfold Builtin.nextslicecap;split
 ·omega
 ·split
  ·omega
  ·have:=A78 a 4 b h;omega
def nP{t1 t2 e:TypeId}{inf:TypeInfo}{z:Value}{esz:Nat}{J:TypeDesc}(Q:P.underlying t1=some (.slice e))(b:P.info? e=some inf)(hsz:inf.size=esz)(hz:inf.zero=some z)(D:z.cells.size=esz)(B:P.underlying t2=some J)(x:(∃L,J=.slice L)\/J=.string){ts:Array TypeId}(h1:ts[0]?=some t1)(h2:ts[1]?=some t2){ty:TypeId}{base:Option Addr}{n cap m:Nat}{y:Value}(p:(Builtin.lenOf y).run P w=.ok m w)(j:cap<n+m)(M:(n+m)*inf.bytes<=2^46)(N:n+m<=2^46){a new:Hx}(t:(Builtin.firstCells esz n (.slice base n cap)).run P {w with drawn:=w.drawn+1}= .ok a.toArray {w with drawn:=w.drawn+1})(s:(Builtin.firstCells esz m y).run P {w with drawn:=w.drawn+1}= .ok new.toArray {w with drawn:=w.drawn+1})(A:a.length=n*esz)(v:new.length=m*esz):
 ∃(c:Nat)(arr:Array Value)(K:World),n+m<=c/\(Builtin.append_ ts ty #[.slice base n cap,y]).run P w=.ok (.slice (some ⟨w.heap.size,0,none⟩) (n+m) c) K/\Below w.heap.size w K/\K.heap[w.heap.size]?=some (.cells arr e (0,0))/\arr.toList.take (a++new).length=a++new/\arr.size=c*esz:=by
 have f:=A3s (n+m) cap j;have i:¬(Builtin.nextslicecap (n+m) cap*inf.bytes>2^48):=by
  have:=l28 inf.bytes f;rw[Nat.mul_assoc]at this;omega
 let q:Question:=.appendCap (n+m) cap e
 let c:=q.cut (w.tape w.drawn q)
 have hc:n+m<=c:=by show n+m<=n+m+_;omega
 refine⟨c,a.toArray++new.toArray++Builtin.zeroCells z.cells (c-(n+m)),{ {w with drawn:=w.drawn+1} with heap:=w.heap.push (.cells (a.toArray++new.toArray++Builtin.zeroCells z.cells (c-(n+m))) e)},hc,?_,?_,by simp,?_,?_⟩
 ·have u:¬(n+m<=cap):=by omega
  have r:IntKind.i64.max=9223372036854775807:=by decide
  have g:(sizeOf e).run P w=.ok esz w:=by simp[sizeOf,typeInfo,b,hsz]
  have h:∀W:World,(typeInfo e).run P W=.ok inf W:=λW=>by simp[typeInfo,b]
  have F:∀W:World,(zeroValue e).run P W=.ok z W:=λW=>by simp[zeroValue,typeInfo,b,hz]
  have d:¬(((n+m:Nat):Int)>IntKind.i64.max/\(false=true\/inf.bytes=0)):=by rw[r];omega
  rcases x with⟨L,rfl⟩|rfl
  all_goals
   unfold Builtin.append_;simp only[h1,h2,l15,l21,l0r];rw[Dm,run_underlying Q w];simp only[FX];rw[Dm,g];simp only[FX];rw[Dm,run_underlying B w];simp only[FX];rw[Dm,lM];simp only[FX,yM,if_false];rw[Dm,p];simp only[FX,C5 u];rw[Dm,h];simp only[FX];rw[C5 (by simpa using d),Dm,h];simp only[FX,C5 i];rw[Dm,run_choose,C5 (by simp[Question.forced])];simp only[FX];rw[Dm,h];simp only[FX];rw[Dm,run_askRoom];simp only[FX];rw[Dm,t];simp only[FX,Bool.not_false,if_true];rw[Dm,s];simp only[FX];rw[Dm,F];simp only[FX];simp only[newRow,Dm,run_newObj,FX,lM];rfl
 ·refine⟨rfl,rfl,rfl,by simp,λk O=>by simp[l2d,Nat.ne_of_lt O]⟩
 ·simp only[Array.toList_append,ZL];rw[<-ZL];exact List.take_left
 ·simp[Builtin.zeroCells,D,A,v];rw[<-Z',<-Z']
  congr 1;omega
end
section
variable{s x:AV}{K:AV->Hp->Prop}{y:Value}
section
variable{P:Program}{G:Gl}{w0:Base}{w:World}{C:Ctx}{H:Hp}
def TF{t1 t2 e:TypeId}{esz:Nat}{j:TypeDesc}(p:P.underlying t1=some (.slice e))(c:(sizeOf e).run P w=.ok esz w)(i:P.underlying t2=some j)(h:(∃k,j=.slice k)\/j=.string){ts:Array TypeId}(h1:ts[0]?=some t1)(h2:ts[1]?=some t2){ty:TypeId}{base:Option Addr}{n cap m:Nat}(f:(Builtin.lenOf y).run P w=.ok m w)(d:n+m<=cap){new:Hx}(g:(Builtin.firstCells esz m y).run P w=.ok new.toArray w){w':World}(b:(match base with|some a=>storeCells (a.add (n*esz)) new|none=>pure ():Sem Unit).run P w=.ok () w'):
 (Builtin.append_ ts ty #[.slice base n cap,y]).run P w=.ok (.slice base (n+m) cap) w':=by
 rcases h with⟨k,rfl⟩|rfl
 all_goals
  unfold Builtin.append_;simp only[h1,h2,l15,l21,l0r];rw[Dm,run_underlying p w];simp only[FX];rw[Dm,c];simp only[FX];rw[Dm,run_underlying i w];simp only[FX];rw[Dm,lM];simp only[FX,yM,if_false];rw[Dm,f];simp only[FX,Dl d,Bool.not_false,if_true];rw[Dm,g];simp only[FX];cases base with
  |none=>
   simp only[lM]at b;injection b with _ b
   subst b;rfl
  |some a=>
   simp only at b;simp only[Dm];rw[b];rfl
def A1c{c:Is}{ys:Hx}(h:CI C w c ys)(h1:c.all AV.one=true):∀v∈ys,v.oneCell'=true:=by
 intro v hv;obtain⟨i,d⟩:=List.getElem?_of_mem hv;have a:i<c.length:=by rw[<-h.1];exact(yO.1 d).1
 obtain⟨y,b,hr⟩:=h.2 i _ (K8 a);rw[d]at b;injection b with b
 subst b;exact hr.one (GE.1 h1 _ (PD a))
def Xw{T:Ty}(hT:jD P T){t1 t2 ty:TypeId}{y z:Value}{ts:Array TypeId}(h1:ts[0]?=some t1)(h2:ts[1]?=some t2)(hr:Rel G w0 C H w)(hs:VRel C w s y)(hx:∀(esz m:Nat)(ys:Is)(q:Bool),A25 H x=some (m,ys,q)->ys.length=m*esz->(∀s,x=.v (.string s)->esz=1)->(Builtin.lenOf z).run P w=.ok m w/\∃vs:Hx,CI (C.sel q) w ys vs/\∀W:World,(∀k,k<w.heap.size->W.heap[k]?=w.heap[k]?)->(Builtin.firstCells esz m z).run P W=.ok vs.toArray W)(h:YO T t1 t2 s x H (As H) K):
 ∃v H' u V w',K v H'/\(Builtin.append_ ts ty #[y,z]).run P w=.ok u w'/\Kz G w0 C w v H' u V w':=by
 unfold YO at h;split at h
 ·rename_i i1 i2 bf bg;split at h
  ·rename_i e esz hd;split at h
   ·rename_i ie bh;obtain⟨⟨bv,bz,ax,ah⟩,h⟩:=h;cases Q:A25 H x with
    |none=>rw[Q]at h;exact h.elim
    |some p=>
     obtain⟨m,ys,q2⟩:=p;rw[Q]at h;simp only[LQ]at h;obtain⟨⟨N,a4⟩,h⟩:=h;obtain⟨hu,hc⟩:=(hT t1 i1 bf).elem_slice hd;obtain⟨u2,Y,an⟩:=(hT t2 i2 bg).under;have X:(∃e2,u2=.slice e2)\/u2=.string:=by
      cases u2<;>simp[td]at an<;>rw[<-an]at ax<;>simp at ax⊢
     have a7:∀q,x=.v (.string q)->esz=1:=by
      intro q hq;subst hq;exact ah
     obtain⟨F,vs,M,D⟩:=hx esz m ys q2 Q N a7;have bo:=hT e ie bh;obtain⟨inf,zv,O,bs,bc,hz,ez⟩:=bo.info;have bd:P.cellsOf e=inf.size:=by simp[Program.cellsOf,O]
     have hsz:inf.size=esz:=by rw[<-bd,hc]
     have B:(sizeOf e).run P w=.ok esz w:=by simp[sizeOf,typeInfo,O,hsz]
     have bn:zv.cells.size=esz:=by
      have:=(OZ (C:=C) (w:=w) (t:=e) (i:=ie) ez).1;simp at this;omega
     have ak:vs.length=m*esz:=by rw[M.1,N]
     have r:=D w (λ_ _=>rfl);have af:=D {w with drawn:=w.drawn+1} (λ_ _=>rfl);have grow:∀(base:Option Addr)(n cap:Nat)(g:Hx)(q1:Bool)(cs:Is)(Hc:Hp),As Hc=As H->Rel G w0 C Hc w->cap<n+m->(n+m)*ie.bytes<=2^46->n+m<=2^46->CI (C.sel q1) w cs g->cs.length=n*esz->
      (Builtin.firstCells esz n (.slice base n cap)).run P {w with drawn:=w.drawn+1}= .ok g.toArray {w with drawn:=w.drawn+1}->
      ∃u V w',(Builtin.append_ ts ty #[.slice base n cap,z]).run P w=.ok u w'/\Kz G w0 C w (.sl esz (As H) 0 (n+m)) ((As H,.cells false e (cs++ys))::Hc) u V w':=by
      intro base n cap g q1 cs Hc bj bm aa J L ae aq a3;have ag:g.length=n*esz:=by rw[ae.1,aq]
      obtain⟨c,arr,w',ab,f,ao,ap,ai,Z⟩:=nP (P:=P) (w:=w) (ty:=ty) hu O hsz hz bn Y X h1 h2 F aa (by rw[bc];exact J) L a3 af ag ak;refine⟨_,_,w',f,bj▸YW bm ao e ap (λi _=>by omega) esz (n+m) c ab (by rw[Z];exact Me _) ?_ ?_⟩
      ·rw[Z,EC,aq,N,<-Z'];exact l28 _ ab
      ·have:(cs++ys).length=(g++vs).length:=by simp[ae.1,M.1]
       rw[this,ai];exact(xC ae).append (tM M)
     split at h
     ·obtain⟨⟨J,L⟩,h⟩:=h;obtain rfl:=AM.1 hs;by_cases hm:m=0
      ·subst hm;have am:ys=[]:=gL (by simpa using N);subst am;have aj:vs=[]:=gL (by simpa using ak);subst aj;exact⟨_,_,_,C,w,h,TF (P:=P) (ty:=ty) (base:=none) (n:=0) (cap:=0) hu B Y X h1 h2 F (Me _) r (by rfl),.v _,hr,.refl _ _ _⟩
      ·obtain⟨u,V,w',f,R⟩:=grow none 0 0 [] false [] H rfl hr (by omega) (by simpa using J) (by simpa using L) .nil (by simp) rfl;rw[C5 hm]at h;exact⟨_,_,u,V,w',h,f,by simpa using R⟩
     ·rename_i sz r1 o n;split at h
      ·rename_i q1 E cs ay;obtain⟨⟨rfl,rfl,a8,J,L⟩,h⟩:=h;have ac:(cs.drop o).length=n*sz:=by simp;omega
       cases hs with
       |slz bx=>
        rename_i a;have h0:cs.drop o=[]:=gL (by rw[ac];simp);by_cases hm:m=0
        ·subst hm;have am:ys=[]:=gL (by simpa using N);subst am;have aj:vs=[]:=gL (by simpa using ak);subst aj;refine⟨_,_,_,C.put (As H) none,w,h,TF (P:=P) (ty:=ty) (base:=a) (n:=0) (cap:=0) hu B Y X h1 h2 F (Me _) r (w':=w) (by cases a<;>rfl),.slz (by rw[C.put_n];simp),?_,Ctx.put_ext (hr.nx _ (Me _)) (.refl _ _ _)⟩;have:=(hr.cut_row r1).virtual false E;simpa [h0,cut,BB] using this
        ·obtain⟨u,V,w',f,R⟩:=grow a 0 0 [] q1 [] (cut H r1) (BB _ _ _) (hr.cut_row r1) (by omega) (by simpa using J) (by simpa using L) .nil (by simp) (by
          cases a with
          |none=>rfl
          |some ad=>simp[Builtin.firstCells,loadCells,loadCellsFrom])
         exact⟨_,_,u,V,w',h,f,by simpa [h0] using R⟩
       |sl hp aa ba ar=>
        rename_i b base cap bp T' bu;rcases hr.rows r1 _ ay with⟨h5,h6⟩|⟨b',d,arr,fz,hl⟩
        ·rw[h6]at hp;cases hp
        ·have e':=hl.at_.symm.trans hp;injection e' with e';injection e' with e';injection e' with e1 e2;subst e1 e2
         have e3:=hl.block.symm.trans ba;injection e3 with e3;injection e3 with e4 e5 e6
         subst e4 e5 e6;have be:=hl.fits;by_cases A:n+m<=cap
         ·have bq:cs.length+ys.length<=o+cap*sz:=by
           rw[<-a8,N,lN,<-Z'];exact Nat.add_le_add_left (l28 _ A) _
          have bt:vs.length=ys.length:=M.1;obtain⟨w',f,a6⟩:=MQ (P:=P) vs w arr (d+o+n*sz) 0 hl.block hl.free (by omega) (A1c M a4);have a5:d+o+n*sz=d+cs.length:=by omega
          have a9:=hr.extend ay hl (o:=o) (by omega) M (by omega) (by rw[<-a5];simpa using a6);refine⟨_,_,_,_,w',h,TF (P:=P) (ty:=ty) (base:=some ⟨b',d+o,none⟩) hu B Y X h1 h2 F A r (w':=w') (by simp only[JW];exact f),?_,a9.1,a9.2⟩;have:VRel (C.put (As H) (some (b',d+o))) w' (.sl sz (As H) 0 (n+m)) (.slice (some ⟨b',d+o+0,none⟩) (n+m) cap):=by
           refine .sl (C.put_n _ _) A a6.here ?_;simp only[List.size_toArray];rw[FW (by simp;omega)];simpa using ar
          simpa using this
         ·obtain⟨g,az,bk⟩:=(hl.atq.drop o)
          have ag:g.length=n*sz:=by rw[az.1,ac]
          obtain⟨u,V,w',f,R⟩:=grow (some ⟨b',d+o,none⟩) n cap g q1 (cs.drop o) (cut H r1) (BB _ _ _) (hr.cut_row r1) (by omega) J L az ac (by
           simp only[Builtin.firstCells];have:=run_loadCells_list (P:=P) {w with drawn:=w.drawn+1} ⟨b',d+o,none⟩ g (λj v hv=>by rw[JW];exact bk j v hv)
           rwa[ag]at this)
          exact⟨_,_,u,V,w',h,f,R⟩
      ·exact h.elim
     ·exact h.elim
   ·exact h.elim
  ·exact h.elim
 ·exact h.elim
def vT{T:Ty}(e:jD P T){t1 t2 ty:TypeId}{y z:Value}{ts:Array TypeId}(h1:ts[0]?=some t1)(h2:ts[1]?=some t2)(hr:Rel G w0 C H w)(a:VRel C w s y)(g:VRel C w x z)(h:YO T t1 t2 s x H (As H) K):
 ∃v b u d c,K v b/\(Builtin.append_ ts ty #[y,z]).run P w=.ok u c/\Kz G w0 C w v b u d c:=
 Xw e h1 h2 hr a (λ_ _ _ _ h f a=>WT hr g h f a) h
end
end
section
variable{K:AV->Hp->Prop}{a:Act}{w0:Base}{C:Ctx}{N s0:Nat}{w:World}
structure Env where
 P:Program
 G:Gl
 T:Ty
structure Env.Ok(E:Env):Prop where
 ty:jD E.P E.T
 pos:∀t i e esz,E.T t=some i->(i.d=.slice e esz\/∃n,i.d=.array n e esz)->esz≠0
 mix:E.P.follows .mixedOrders=true
def xmm(c:Bool)(a b:AV)(K:AV->Prop):Prop:=
 match a,b with
 |.v (.int k x),.v (.int d y)=>k=d/\K (.v (.int k (if c then(if y<x then y else x) else(if y>x then y else x))))
 |.v (.string s),.v (.string u)=>K (.v (.string (if(if c then(Op.bytesLess s.toList u.toList||s.toList==u.toList) else !Op.bytesLess s.toList u.toList) then s else u)))
 |_,_=>False
def qU(E:Env)(o:Op)(t:Tm)(H:Hp)(K:AV->Hp->Prop):Prop:=
 match o with
 |.move x=>K (JL E.G t x) H
 |.assign x=>K (JL E.G t x) H
 |.pick c a b=>match JL E.G t c with
  |.v (.bool q)=>K (if q then JL E.G t a else JL E.G t b) H
  |_=>False
 |.load ty x=>A0f E.T ty (JL E.G t x) H (λv=>K v H)
 |.store ty x y=>qS E.T ty (JL E.G t x) (JL E.G t y) H (λe=>K (.v undef) e)
 |.nilCheck x=>A8f (JL E.G t x) (λv=>K v H)
 |.binOp op ty x y _=>rB E.T op ty (JL E.G t x) (JL E.G t y) (λv=>K v H)
 |.unOp op _ x=>xun op (JL E.G t x) (λv=>K v H)
 |.convert s d x=>xR E.T s d (JL E.G t x) (λv=>K v H)
 |.makeFunc fn first cap=>K (.fn fn (first.toList.map (JL E.G t)) (cap.toList.map (JL E.G t))) H
 |.fieldAddr ty x f=>jQ E.T ty (JL E.G t x) f (λv=>K v H)
 |.field ty x f=>qX E.T ty (JL E.G t x) f (λv=>K v H)
 |.indexAddr ty x i=>qW E.T ty (JL E.G t x) (JL E.G t i) (λv=>K v H)
 |.index ty x i=>qV E.T ty (JL E.G t x) (JL E.G t i) (λv=>K v H)
 |.slice ty x h g mx=>qT E.T ty (JL E.G t x) (h.map (JL E.G t)) (g.map (JL E.G t)) (mx.map (JL E.G t)) (λv=>K v H)
 |.extract x k=>match JL E.G t x with
  |.tup vs=>LQ (vs[k]?) (λv=>K v H)
  |_=>False
 |.build ty parts=>qY E.T ty (parts.toList.map λp=>(p.1,JL E.G t p.2)) (λv=>K v H)
 |.call c=>match c.callee with
  |.builtin .len=>match c.args.toList,c.argTypes.toList with
   |[x],[ty]=>A8g E.T ty (JL E.G t x) (λv=>K v H)
   |_,_=>False
  |.builtin .min=>match c.args.toList with
   |[x,y]=>xmm true (JL E.G t x) (JL E.G t y) (λv=>K v H)
   |_=>False
  |.builtin .max=>match c.args.toList with
   |[x,y]=>xmm false (JL E.G t x) (JL E.G t y) (λv=>K v H)
   |_=>False
  |_=>False
 |_=>False
def B2t(E:Env)(o:Op)(t:Tm)(H:Hp)(r:Nat)(K:AV->Hp->Prop):Prop:=
 match o with
 |.alloc ty=>rC E.T ty H r K
 |.box ty x=>B6h ty (JL E.G t x) H r K
 |.buildSlice ty n parts=>eP E.T ty n (parts.toList.map λp=>(p.1,JL E.G t p.2)) H r K
 |.call c=>match c.callee with
  |.builtin .append=>match c.args.toList,c.argTypes.toList with
   |[s,x],[b,d]=>YO E.T b d (JL E.G t s) (JL E.G t x) H r K
   |_,_=>False
  |_=>False
 |_=>False
section
variable{E:Env}{t:Tm}{H:Hp}
def XU{G:Gl}(s:St G w0 s0 C N t H a w)(x:Option Operand):X? C w (x.map (JL G t)) (x.map a.eval):=by
 cases x with
 |none=>trivial
 |some x=>exact AY s x
def kU{G:Gl}(s:St G w0 s0 C N t H a w)(parts:Array (Nat×Operand)):
 (parts.toList.map λp=>(p.1,JL G t p.2)).length=(parts.toList.map λp=>(p.1,a.eval p.2)).length/\
 ∀(j:Nat)(p:Nat×AV),(parts.toList.map λp=>(p.1,JL G t p.2))[j]?=some p->∃z,(parts.toList.map λp=>(p.1,a.eval p.2))[j]?=some (p.1,z)/\VRel C w p.2 z:=by
 refine⟨by simp,λj p b=>?_⟩;rw[xE]at b⊢;cases h:parts.toList[j]? with
 |none=>rw[h]at b;simp at b
 |some q=>rw[h]at b;simp at b;subst b;exact⟨_,rfl,AY s q.2⟩
def B42{r p k:Nat}{y:Value}(h:VRel C w (.ptr r p k) y):∃b c,y=.pointer (some ⟨b,c,none⟩):=by
 cases h with
 |ptr d=>exact⟨_,_,rfl⟩
def I9{o:Oper}{c:Call}(d:o.op=.call c)(b:Builtin)(hb:c.callee=.builtin b):execOp a.eval o=builtin b c.argTypes o.type (c.args.map λ|.const _=>true|_=>false) (c.args.map a.eval):=by
 simp only[execOp,d,resolve,hb];rfl
def xQ(D:E.Ok){o:Oper}(h:qU E o.op t H K):B25 E.P E.G o t H K:=by
 intro w0 s0 C N a w s;have g:∀{sm:Sem Value}{v:AV}{u:Value},execOp a.eval o=(do pure (.value (<-sm)))->sm.run E.P w=.ok u w->VRel C w v u->K v H->
  ∃v M y O L,K v M/\((execOp a.eval o).run E.P w=.ok (.value y) L\/((execOp a.eval o).run E.P w=.ok .skip L/\y=undef))/\VRel O L v y/\Rel E.G w0 O M L/\Ext w0.own C w O L:=by
  intro sm v u he hr hv hk;exact⟨v,H,u,C,w,hk,.inl (by rw[he,Dm,hr];rfl),hv,s.rel,.refl _ _ _⟩
 unfold qU at h;split at h
 ·rename_i x j;exact⟨_,H,_,C,w,h,.inl (by simp[execOp,j]),AY s x,s.rel,.refl _ _ _⟩
 ·rename_i x j;exact⟨_,H,_,C,w,h,.inl (by simp[execOp,j]),AY s x,s.rel,.refl _ _ _⟩
 ·rename_i c x y j;split at h
  ·rename_i q hq;have hc:=AY s c;rw[hq]at hc;have Q:=AM.1 hc;refine⟨_,H,if q then a.eval x else a.eval y,C,w,h,.inl (by simp[execOp,j,Q,asBool]),?_,s.rel,.refl _ _ _⟩;cases q
   ·exact AY s y
   ·exact AY s x
  ·exact h.elim
 ·rename_i ty x j;obtain⟨v,z,h1,h2,A⟩:=mR D.ty s.rel (AY s x) h;exact g (by simp only[execOp,j]) h1 h2 A
 ·rename_i ty x y j;obtain⟨M,L,h1,h2,A,Y⟩:=C? D.ty s.rel (AY s x) (AY s y) h;exact⟨_,M,undef,C,L,Y,.inr ⟨by simp only[execOp,j];rw[Dm,h1];rfl,rfl⟩,.v _,h2,A⟩
 ·rename_i x j;have B:=AY s x;unfold A8f at h;split at h
  ·rename_i hq;rw[hq]at B;refine⟨_,H,a.eval x,C,w,h,.inl ?_,by rw[hq];exact B,s.rel,.refl _ _ _⟩;obtain⟨b,o',e⟩:=B42 B;simp only[execOp,j,e];rfl
  ·rename_i hq;rw[hq]at B;refine⟨_,H,a.eval x,C,w,h,.inl ?_,by rw[hq];exact B,s.rel,.refl _ _ _⟩;obtain⟨b,o',e⟩:=tV B;simp only[execOp,j,e];rfl
  ·rename_i hq;rw[hq]at B;refine⟨_,H,a.eval x,C,w,h,.inl ?_,by rw[hq];exact B,s.rel,.refl _ _ _⟩;obtain⟨X,zs,e,_⟩:=Jr.1 B;simp only[execOp,j,e];rfl
  ·rename_i hq;rw[hq]at B;refine⟨_,H,a.eval x,C,w,h,.inl ?_,by rw[hq];exact B,s.rel,.refl _ _ _⟩;obtain⟨X,zs,e,_⟩:=Jr.1 B;simp only[execOp,j,e];rfl
  ·exact h.elim
 ·rename_i op ty x y yt j;obtain⟨v,u,h1,h2,A⟩:=qZ D.ty x y (AY s x) (AY s y) h;exact g (by simp only[execOp,j]) h1 h2 A
 ·rename_i op ty x j;obtain⟨v,u,h1,h2,A⟩:=A6e (P:=E.P) (AY s x) h;exact g (by simp only[execOp,j]) h1 h2 A
 ·rename_i sr d x j;obtain⟨v,u,h1,h2,A⟩:=A0g D.ty (AY s x) h;exact g (by simp only[execOp,j]) h1 h2 A
 ·rename_i fn first cap j;refine⟨_,H,.func fn (first.map a.eval) (cap.map a.eval),C,w,h,.inl (by simp[execOp,j,Instr.makeFunc]),?_,s.rel,.refl _ _ _⟩;have key:∀l:List Operand,CI C w (l.map (JL E.G t)) (l.map a.eval):=by
   intro l
   induction l with
   |nil=>exact .nil
   |cons x l ih=>exact .cons (AY s x) ih
  refine Jr.2 ⟨first.toList.map a.eval,cap.toList.map a.eval,?_,key _,key _⟩
  congr 1<;>(apply pF;simp)
 ·rename_i ty x f j;obtain⟨v,u,h1,h2,A⟩:=D_ D.ty (AY s x) h;exact g (by simp only[execOp,j]) h1 h2 A
 ·rename_i ty x f j;obtain⟨v,u,h1,h2,A⟩:=D? D.ty (AY s x) h;exact g (by simp only[execOp,j]) h1 h2 A
 ·rename_i ty x i j;obtain⟨v,u,h1,h2,A⟩:=D! D.ty D.pos (AY s x) (AY s i) h;exact g (by simp only[execOp,j]) h1 h2 A
 ·rename_i ty x i j;obtain⟨v,u,h1,h2,A⟩:=D' D.ty D.pos (AY s x) (AY s i) h;exact g (by simp only[execOp,j]) h1 h2 A
 ·rename_i ty x lo Z mx j;obtain⟨v,u,h1,h2,A⟩:=C_ D.ty D.pos (AY s x) (XU s lo) (XU s Z) (XU s mx) h;exact g (by simp only[execOp,j]) h1 h2 A
 ·rename_i x k j;have B:=AY s x;split at h
  ·rename_i vs hq;rw[hq]at B;obtain⟨X,e,R⟩:=DG.1 B;unfold LQ at h;split at h
   ·rename_i v hv;obtain⟨y,hy,hr⟩:=R.2 k v hv;refine g (sm:=Instr.extract (a.eval x) k) (by simp only[execOp,j]) ?_ hr h;rw[e];simp[Instr.extract,hy]
   ·exact h.elim
  ·exact h.elim
 ·rename_i ty parts j;obtain⟨R,hq⟩:=kU s parts;obtain⟨v,u,h1,h2,A⟩:=E' D.ty R hq h;refine g (sm:=Instr.build ty (parts.map λ(i,x)=>(i,a.eval x))) (by simp only[execOp,j]) ?_ h2 A;have:(parts.map λ(i,x)=>(i,a.eval x))=(parts.toList.map λp=>(p.1,a.eval p.2)).toArray:=by apply pF;simp
  rw[this];exact h1
 ·rename_i c j;have call:=λb hb=>I9 (a:=a) j b hb;split at h
  ·rename_i hb;split at h
   ·rename_i x ty B V;obtain⟨v,u,h1,h2,A⟩:=A2F (P:=E.P) (rt:=o.type) (ts:=c.argTypes) D.ty (by rw[<-l27,V];rfl) (AY s x) h;have r:c.args.map a.eval= #[a.eval x]:=by apply pF;simp[B]
    refine g (sm:=Builtin.len_ c.argTypes o.type #[a.eval x]) (by rw[call _ hb,r];rfl) h1 h2 A
   ·exact h.elim
  ·rename_i hb;split at h
   ·rename_i x y B;have r:c.args.map a.eval= #[a.eval x,a.eval y]:=by apply pF;simp[B]
    have h1:=AY s x;have h2:=AY s y;unfold xmm at h;split at h
    ·rename_i k m k' n F J;rw[F]at h1;rw[J]at h2;obtain⟨rfl,h⟩:=h;refine g (sm:=Builtin.min_ c.argTypes o.type #[a.eval x,a.eval y]) (by rw[call _ hb,r];rfl) ?_ (.v _) h;rw[AM.1 h1,AM.1 h2];rfl
    ·rename_i m n F J;rw[F]at h1;rw[J]at h2;refine g (sm:=Builtin.min_ c.argTypes o.type #[a.eval x,a.eval y]) (by rw[call _ hb,r];rfl) ?_ (.v _) h;rw[AM.1 h1,AM.1 h2];rfl
    ·exact h.elim
   ·exact h.elim
  ·rename_i hb;split at h
   ·rename_i x y B;have r:c.args.map a.eval= #[a.eval x,a.eval y]:=by apply pF;simp[B]
    have h1:=AY s x;have h2:=AY s y;unfold xmm at h;split at h
    ·rename_i k m k' n F J;rw[F]at h1;rw[J]at h2;obtain⟨rfl,h⟩:=h;refine g (sm:=Builtin.max_ c.argTypes o.type #[a.eval x,a.eval y]) (by rw[call _ hb,r];rfl) ?_ (.v _) h;rw[AM.1 h1,AM.1 h2];rfl
    ·rename_i m n F J;rw[F]at h1;rw[J]at h2;refine g (sm:=Builtin.max_ c.argTypes o.type #[a.eval x,a.eval y]) (by rw[call _ hb,r];rfl) ?_ (.v _) h;rw[AM.1 h1,AM.1 h2];rfl
    ·exact h.elim
   ·exact h.elim
  ·exact h.elim
 ·exact h.elim
def A2E(q:E.Ok){o:Oper}(h:B2t E o.op t H (As H) K):B25 E.P E.G o t H K:=by
 intro w0 s0 C N a w s;have fin:∀{sm:Sem Value}{v:AV}{e:Hp}{u:Value}{d:Ctx}{b:World},execOp a.eval o=(do pure (.value (<-sm)))->sm.run E.P w=.ok u b->Kz E.G w0 C w v e u d b->K v e->
  ∃v e y d b,K v e/\((execOp a.eval o).run E.P w=.ok (.value y) b\/((execOp a.eval o).run E.P w=.ok .skip b/\y=undef))/\VRel d b v y/\Rel E.G w0 d e b/\Ext w0.own C w d b:=by
  intro sm v e u d b he hr f g;exact⟨v,e,u,d,b,g,.inl (by rw[he,Dm,hr];rfl),f.1,f.2.1,f.2.2⟩
 unfold B2t at h;split at h
 ·rename_i ty k;obtain⟨v,e,y,d,b,g,hr,f⟩:=E! q.ty s.rel h;exact fin (by simp only[execOp,k]) hr f g
 ·rename_i ty x k;obtain⟨v,e,y,d,b,g,hr,f⟩:=A2G (P:=E.P) s.rel (AY s x) h;exact fin (by simp only[execOp,k]) hr f g
 ·rename_i ty n parts k;obtain⟨r,hq⟩:=kU s parts;obtain⟨v,e,y,d,b,g,hr,f⟩:=vS q.ty r hq s.rel h;refine fin (sm:=Instr.buildSlice ty n (parts.map λ(i,x)=>(i,a.eval x))) (by simp only[execOp,k]) ?_ f g;have:(parts.map λ(i,x)=>(i,a.eval x))=(parts.toList.map λp=>(p.1,a.eval p.2)).toArray:=by apply pF;simp
  rw[this];exact hr
 ·rename_i c k;split at h
  ·rename_i hb;split at h
   ·rename_i x y t1 t2 A m;have j:c.args.map a.eval= #[a.eval x,a.eval y]:=by apply pF;simp[A]
    obtain⟨v,e,z,d,b,g,hr,f⟩:=vT (P:=E.P) (ty:=o.type) (ts:=c.argTypes) q.ty (t1:=t1) (t2:=t2) (by rw[<-l27,m];rfl) (by rw[<-l27,m];rfl) s.rel (AY s x) (AY s y) h;refine fin (sm:=Builtin.append_ c.argTypes o.type #[a.eval x,a.eval y]) ?_ hr f g;rw[I9 k _ hb,j];rfl
   ·exact h.elim
  ·exact h.elim
 ·exact h.elim
end
end
structure SameObj(w w':World)(b:Nat)(o':Obj):Prop where
 os:w'.os=w.os
 tape:w'.tape=w.tape
 output:w'.output=w.output
 size:w'.heap.size=w.heap.size
 here:w'.heap[b]?=some o'
 others:∀k,k≠b->w'.heap[k]?=w.heap[k]?
section
variable{P:Program}{G:Gl}{w0:Base}{C:Ctx}{H:Hp}{w w':World}{O:Nat->Prop}{r:Nat}{b o:Nat}{x y:Row}{o':Obj}
def Keep.same_obj{B:Base}(h:Keep B w)(a:SameObj w w' b o')(c:B.own b):Keep B w':=
 ⟨a.os.trans h.os,a.tape.trans h.tape,a.output.trans h.output,by rw[a.size];exact h.size,λk f d=>(a.others k (λe=>by
  subst e;rcases c with c|c
  ·omega
  ·exact d c)).trans (h.block k f d)⟩
def SameObj.ext(c:SameObj w w' b o')(d:∀arr T fz,w.heap[b]?≠some (.cells arr T fz))(j:∀i,¬C.F b i)(g:¬C.B b):Ext O C w C w':=
 ⟨λ_ _=>rfl,λ_ _ h=>h,λk i h=>l0t (c.others k (λe=>j i (e▸h))),λ_ h=>h,λk h=>c.others k (λe=>g (e▸h)),
  λk a t f h=>⟨a,f,(c.others k (λe=>d a t f (e▸h))).trans h,rfl⟩,λ_ _ h=>.inl h,λ_ h=>.inl h,Nat.le_of_eq c.size.symm⟩
def Rel.set_obj(h:Rel G w0 C H w)(p:Aj H r=some x)(F:C.π r=some (some (b,o)))(m:SameObj w w' b o')(n:∀arr T fz,w.heap[b]?≠some (.cells arr T fz))(R:Ext (λ_=>False) C w C w'->Td C w' r y):Rel G w0 C (upd H r y) w'/\Ext O C w C w':=by
 have a:=h.own r x b o p F;have e:Ext O C w C w':=m.ext n a.2.1 a.2.2;have key:∀s z,Aj (upd H r y) s=some z->(s=r/\z=y)\/(s≠r/\Aj H s=some z):=λs z hz=>by
  by_cases g:s=r
  ·subst g;rw[B8 p]at hz;exact .inl ⟨rfl,(gI hz).1.symm⟩
  ·rw[Ag g]at hz;exact .inr ⟨g,hz⟩
 have d:∀s z,Aj (upd H r y) s=some z->∃j,Aj H s=some j:=λs z hz=>by
  rcases key s z hz with⟨rfl,_⟩|⟨_,h⟩
  ·exact⟨x,p⟩
  ·exact⟨z,h⟩
 refine⟨⟨h.glob.mono e,h.below.same_obj m a.1,?_,?_,?_,?_,λk i M=>m.size▸h.fin k i M,λk L=>m.size▸h.finB k L,λk f=>h.nx k (by rw[BB]at f;exact f)⟩,e⟩
 ·intro s z hz;obtain⟨j,c⟩:=d s z hz;exact h.lt s j c
 ·intro s z hz;rcases key s z hz with⟨rfl,rfl⟩|⟨v,hz⟩
  ·exact R (m.ext n a.2.1 a.2.2)
  ·refine(h.rows s z hz).mono e (λk D f=>m.others k (λK=>?_));subst K;exact v (h.sep s r z x _ _ _ hz p f F)
 ·intro s z k B hz f;obtain⟨j,c⟩:=d s z hz;exact h.own s j k B c f
 ·intro s J z j k B V hz c f q;obtain⟨u,Q⟩:=d s z hz;obtain⟨X,A⟩:=d J j c;exact h.sep s J u X k B V Q A f q
theorem SameObj.putObj{l:Nat}(d:l<w.heap.size)(a:Obj):SameObj w (w.putObj l a) l a:=
 ⟨rfl,rfl,rfl,by simp,World.putObj_heap_same d,λk c=>World.putObj_heap_other (λe=>c e)⟩
end
def xU:Tm->List Tmp->Is->Tm
 |t,p::ps,a::c=>xU ((p,a)::t) ps c
 |t,_,_=>t
def A6x{C:Ctx}{w:World}:∀(ps:List Tmp)(c:Is)(ys:Hx)(t:Tm)(tmps:Array Value),(∀p∈ps,p<tmps.size)->CI C w c ys->WU C w t tmps->
 WU C w (xU t ps c) ((ps.zip ys).foldl (λt(p:Tmp×Value)=>t.setIfInBounds p.1 p.2) tmps)/\((ps.zip ys).foldl (λt(p:Tmp×Value)=>t.setIfInBounds p.1 p.2) tmps).size=tmps.size:=by
 intro ps
 induction ps with
 |nil=>intro c ys t tmps _ _ d;exact⟨d,rfl⟩
 |cons p ps ih=>
  intro c ys t tmps k j d;cases c with
  |nil=>rw[j.nil_inv];exact⟨d,rfl⟩
  |cons a c=>
   obtain⟨y,g,rfl,hv,e⟩:=j.cons_inv;simp only[List.zip_cons_cons,List.foldl_cons,xU];obtain⟨h1,h2⟩:=ih c g ((p,a)::t) (tmps.setIfInBounds p y) (λq hq=>by simpa using k q (by simp[hq])) e (λi=>by
    simp only[XA3];by_cases h:i=p
    ·subst h;have f:i<tmps.size:=k i (by simp);rw[Dl rfl];simp[eH,f];exact hv
    ·rw[C5 h];have:=d i;simp only[eH]at this⊢;rw[Array.getElem?_setIfInBounds_ne (by omega)];exact this)
   exact⟨h1,by rw[h2];simp⟩
section
variable{P:Program}{G:Gl}{ro:Option Nat}{N:Nat}{t:Tm}{H:Hp}
def Rel.set_loop{w0:Base}{C:Ctx}{w:World}{r b:Nat}{f:Nat}{k:Tm}{ps:Array Tmp}{g i:Code}{a pend':Option (Option Code)}{O:Nat->Prop}(h:Rel G w0 C H w)(u:Aj H r=some (.loop f k ps g i a))(j:C.π r=some (some (b,0))):
 ∃l:Loop,w.heap[b]?=some (.loop l)/\l.state=B3p a/\l.pending=a.join/\l.tmps.size=f/\l.params=ps/\l.assign=g/\l.body=i/\WU C w k l.tmps/\
  ∀c:Loop,c.state=B3p pend'->c.pending=pend'.join->c.tmps=l.tmps->c.params=l.params->c.assign=l.assign->c.body=l.body->
   Rel G w0 C (upd H r (.loop f k ps g i pend')) (w.putObj b (.loop c))/\Ext O C w C (w.putObj b (.loop c)):=by
 obtain⟨v,l,h1,h2,B,D,m,n,p,q,s⟩:=h.rows r _ u;have e:=h1.symm.trans j;injection e with e;injection e with e;injection e with A M;subst A
 refine⟨l,h2,B,D,m,n,p,q,s,λc k1 F k3 J K L=>?_⟩;have d:=(l1v.1 h2).1;exact h.set_obj u j (SameObj.putObj d _) (λarr T fz hc=>by rw[h2]at hc;cases hc) (λe=>⟨v,c,j,World.putObj_heap_same d,k1,F,by rw[k3];exact m,J.trans n,K.trans p,L.trans q,by rw[k3];exact s.mono e⟩)
def Ctx.addB(C:Ctx)(b:Nat):Ctx:={C with B:=λk=>C.B k\/k=b}
theorem Rel.addB{w0:Base}{C:Ctx}{w:World}{b:Nat}(h:Rel G w0 C H w)(i:b<w.heap.size)(j:w0.own b)(hn:∀r x o,Aj H r=some x->C.π r≠some (some (b,o))):Rel G w0 (C.addB b) H w/\Ext w0.own C w (C.addB b) w:=by
 have e:Ext w0.own C w (C.addB b) w:=⟨λ_ _=>rfl,λ_ _ h=>h,λ_ _ _=>rfl,λ_ h=>.inl h,λ_ _=>rfl,λ_ a _ f h=>⟨a,f,h,rfl⟩,λ_ _ h=>.inl h,λk h=>by rcases h with h|h;exact .inl h;exact .inr (h▸j),Me _⟩
 refine⟨⟨h.glob,h.below,h.lt,λr x d=>(h.rows r x d).mono e (λ_ _ _=>rfl),λr x k o d g=>⟨(h.own r x k o d g).1,(h.own r x k o d g).2.1,λc=>?_⟩,h.sep,h.fin,λk c=>?_,h.nx⟩,e⟩
 ·rcases c with c|c
  ·exact(h.own r x k o d g).2.2 c
  ·subst c;exact hn r x o d g
 ·rcases c with c|c
  ·exact h.finB k c
  ·subst c;exact i
def B8A(Q:Exit->Tm->Hp->Prop)(t:Tm)(H:Hp):Option Code->Prop
 |none=>Q .normal t H
 |some .ret=>Q .ret t H
 |some (.exit id)=>Q (.exit id) t H
 |some (.goto l)=>Q (.goto l) t H
 |_=>False
def Nw(w:World)(a:Obj):Below w.heap.size w (w.alloc a):=(Below.refl _ w).alloc (Me _) _
end
section
variable{i j u:Nat}
def iZ(ops:List Oper)(i j:Nat):Bool:=
 match ops[i]? with
 |some o=>o.after.toList.any λe=>Region.binds .any e&&Nat.beq e.on j
 |none=>false
def Ol(ops:List Oper)(o:Oper):List Tmp:=
 (o.op.operands.toList.filterMap λ|.tmp t=>some t|_=>none)++
 (match o.guard with
  |some (g,_)=>((ops[g]?).bind (·.dst)).toList
  |none=>[])
def rW(ops:List Oper)(x y:Oper):Bool:=
 (match x.dst with|some d=>(Ol ops y).elem d||y.dst==some d|none=>false)||(match y.dst with|some d=>(Ol ops x).elem d|none=>false)
inductive Rch(ops:List Oper):Nat->Nat->Prop
 |one {i j:Nat} (h:iZ ops i j=true):Rch ops i j
 |more {i k j:Nat} (h:iZ ops i k=true) (h':Rch ops k j):Rch ops i j
def iY{ops:List Oper}:iZ ops i j=true↔∃o,ops[i]?=some o/\∃e∈o.after.toList,Region.binds .any e=true/\e.on=j:=by
 unfold iZ;cases ops[i]? with
 |none=>simp
 |some o=>simp only[List.any_eq_true,K0,qA,l0z,exists_eq_left']
def Rch.mem{ops:List Oper}{L:Nat->Bool}(a:∀i j,L i=true->iZ ops i j=true->L j=true)(h:Rch ops i j):L i=true->L j=true:=by
 induction h with
 |one h=>intro b;exact a _ _ b h
 |more h _ ih=>intro b;exact ih (a _ _ b h)
def Rch.mem'{ops:List Oper}{L:Nat->Bool}(a:∀i j,L i=true->iZ ops i j=true->L j=true)(hr:∀j,iZ ops i j=true->L j=true)(h:Rch ops i j):L j=true:=by
 cases h with
 |one h=>exact hr _ h
 |more h b=>exact b.mem a (hr _ h)
def C27(acc:Hb)(es:List Edge):Nat:=es.foldl (λm e=>if Region.binds .any e then Nat.lor m (Nat.lor (Nat.pow 2 e.on) (acc.getD e.on 0)) else m) 0
def lK:Hb->List Oper->Hb
 |acc,[]=>acc
 |acc,o::l=>lK (acc++[C27 acc o.after.toList]) l
def Tv(ops:List Oper):Hb:=lK [] ops
def A3C{acc:Hb}{ops:List Oper}{o:Oper}(r:ops[i]?=some o)(d:∀k j,(acc.getD k 0).testBit j=true->Rch ops k j):
 ∀(es:List Edge),(∀e∈es,e∈o.after.toList)->∀m:Nat,(∀j,m.testBit j=true->Rch ops i j)->∀j,(es.foldl (λm e=>if Region.binds .any e then Nat.lor m (Nat.lor (Nat.pow 2 e.on) (acc.getD e.on 0)) else m) m).testBit j=true->Rch ops i j:=by
 intro es
 induction es with
 |nil=>intro _ m hm j c;exact hm j c
 |cons e es ih=>
  intro f m hm;refine ih (λp g=>f p (by simp[g])) _ ?_;intro j c;simp only at c;split at c
  ·rename_i hb;have n:iZ ops i e.on=true:=iY.2 ⟨o,r,e,f e (by simp),hb,rfl⟩;have h:∀a b:Nat,Nat.lor a b=a|||b:=λ_ _=>rfl
   have q:∀a b:Nat,Nat.pow a b=a^b:=λ_ _=>rfl;rw[h,h,q,Nat.testBit_or,Nat.testBit_or,Nat.testBit_two_pow]at c;simp only[l1i,decide_eq_true_eq]at c;rcases c with c|c|c
   ·exact hm j c
   ·subst c;exact .one n
   ·exact .more n (d _ _ c)
  ·exact hm j c
def tL{ops:List Oper}:∀(l:List Oper)(acc:Hb),ops.drop acc.length=l->acc.length<=ops.length->(∀k j,(acc.getD k 0).testBit j=true->Rch ops k j)->∀k j,((lK acc l).getD k 0).testBit j=true->Rch ops k j:=by
 intro l
 induction l with
 |nil=>intro acc _ _ h;exact h
 |cons o l ih=>
  intro acc d f a;have e:ops[acc.length]?=some o:=by
   have:=congrArg (λl=>l[0]?) d;simpa using this
  have g:acc.length<ops.length:=(yO.1 e).1;refine ih _ ?_ (by simp;omega) ?_
  ·rw[EC,List.length_singleton];have:=congrArg (List.drop 1) d;simpa [Nat.add_comm] using this
  ·intro k j b;rcases Nat.lt_trichotomy k acc.length with c|c|c
   ·rw[Vf,l0m c,<-Vf]at b;exact a k j b
   ·subst c;rw[Vf,l0o (Me _)]at b;simp at b;exact A3C e a _ (λ_ h=>h) 0 (by simp) j b
   ·rw[Vf,l0o (by omega),l1j (by simp;omega)]at b;simp at b
def P0{ops:List Oper}{k j:Nat}(h:((Tv ops).getD k 0).testBit j=true):Rch ops k j:=
 tL ops [] rfl (Y_ _) (λk j h=>by simp at h) k j h
def tb(m j:Nat):Bool:=Nat.beq (Nat.land (Nat.shiftRight m j) 1) 1
def xX(m j:Nat):tb m j=m.testBit j:=by
 unfold tb Nat.testBit;have e:Nat.land (Nat.shiftRight m j) 1=(m>>>j)&&&1:=rfl;rw[e,Nat.and_comm,Nat.one_and_eq_mod_two];rcases Nat.mod_two_eq_zero_or_one (m>>>j) with h|h<;>rw[h]<;>rfl
def mK(ms:Hb):Hb->Bool
 |[]=>true
 |[_]=>true
 |a::b::l=>Nat.blt a b&&tb (ms.getD b 0) a&&mK ms (b::l)
def A5X:Nat->List Oper->Bool
 |_,[]=>true
 |i,o::l=>o.after.toList.all (λe=>!Region.binds .any e||Nat.blt e.on i)&&A5X (i+1) l
def pQ(ops:List Oper)(m:Nat)(o:Oper):Nat->List Oper->Bool
 |_,[]=>true
 |j,p::l=>(!rW ops p o||tb m j)&&pQ ops m o (j+1) l
def B4c(ops:List Oper)(ms:Hb):Nat->List Oper->Bool
 |_,[]=>true
 |i,o::l=>pQ ops (ms.getD i 0) o 0 (ops.take i)&&B4c ops ms (i+1) l
def yD(ops:List Oper)(efs:Hb):Bool:=
 A5X 0 ops&&B4c ops (Tv ops) 0 ops&&mK (Tv ops) efs&&efs.all λe=>Nat.blt e ops.length
structure RegOk(ops:List Oper)(efs:Hb):Prop where
 back:∀(i j:Nat),iZ ops i j=true->j<i
 ord:∀(i j:Nat)(o p:Oper),j<i->ops[i]?=some o->ops[j]?=some p->(∃d,p.dst=some d/\(d∈Ol ops o\/o.dst=some d))\/(∃d,o.dst=some d/\d∈Ol ops p)->Rch ops i j
 chain:∀(a e e':Nat),efs[a]?=some e->efs[a+1]?=some e'->Rch ops e' e
 inj:∀(a a' e:Nat),efs[a]?=some e->efs[a']?=some e->a=a'
 lt:∀(a e:Nat),efs[a]?=some e->e<ops.length
def zR{ms:Hb}:∀{l:Hb},mK ms l=true->∀(a b e c:Nat),a<b->l[a]?=some e->l[b]?=some c->e<c:=by
 intro l
 induction l with
 |nil=>intro _ a b e c _ h;simp at h
 |cons x l ih=>
  intro h a b e c d h1 h2;cases l with
  |nil=>
   cases b with
   |zero=>omega
   |succ b=>simp at h2
  |cons y l=>
   simp only[mK,K0,Wr]at h;cases b with
   |zero=>omega
   |succ b=>
    cases a with
    |zero=>
     simp at h1;subst h1;cases b with
     |zero=>simp at h2;subst h2;exact h.1.1
     |succ b=>exact Nat.lt_trans h.1.1 (ih h.2 0 (b+1) y c (by omega) (by simp) (by simpa using h2))
    |succ a=>exact ih h.2 a b e c (by omega) (by simpa using h1) (by simpa using h2)
def A4n{ops:List Oper}:∀{l:Hb},mK (Tv ops) l=true->∀(a e b:Nat),l[a]?=some e->l[a+1]?=some b->Rch ops b e:=by
 intro l
 induction l with
 |nil=>intro _ a e b h;simp at h
 |cons x l ih=>
  intro h a e b h1 h2;cases l with
  |nil=>simp at h2
  |cons y l=>
   simp only[mK,K0,xX]at h;cases a with
   |zero=>simp at h1 h2;subst h1 h2;exact P0 h.1.2
   |succ a=>exact ih h.2 a e b (by simpa using h1) (by simpa using h2)
def A4t:∀(l:List Oper)(i:Nat),A5X i l=true->∀(k:Nat)(o:Oper),l[k]?=some o->∀e∈o.after.toList,Region.binds .any e=true->e.on<i+k:=by
 intro l
 induction l with
 |nil=>intro i _ k o h;simp at h
 |cons p l ih=>
  intro i h k o a e he hb;simp only[A5X,K0,GE]at h;cases k with
  |zero=>
   simp at a;subst a;have:=h.1 e he;simpa [hb,Wr] using this
  |succ k=>
   have:=ih (i+1) h.2 k o (by simpa using a) e he hb;omega
def G_{ops:List Oper}{m:Nat}{o:Oper}:∀(l:List Oper)(j:Nat),pQ ops m o j l=true->∀(k:Nat)(p:Oper),l[k]?=some p->rW ops p o=true->m.testBit (j+k)=true:=by
 intro l
 induction l with
 |nil=>intro j _ k p h;simp at h
 |cons q l ih=>
  intro j h k p a b;simp only[pQ,K0,l1i,Z?,xX]at h;cases k with
  |zero=>
   simp at a;subst a;rcases h.1 with h1|h1
   ·rw[b]at h1;cases h1
   ·exact h1
  |succ k=>
   have:=ih (j+1) h.2 k p (by simpa using a) b;rw[show j+(k+1)=j+1+k from by omega];exact this
def A6U{ops:List Oper}:∀(l:List Oper)(i:Nat),B4c ops (Tv ops) i l=true->∀(k:Nat)(o:Oper),l[k]?=some o->∀(j:Nat)(p:Oper),j<i+k->ops[j]?=some p->rW ops p o=true->Rch ops (i+k) j:=by
 intro l
 induction l with
 |nil=>intro i _ k o h;simp at h
 |cons q l ih=>
  intro i h k o a j p d b c;simp only[B4c,K0]at h;cases k with
  |zero=>
   simp at a;subst a;have:=G_ _ 0 h.1 j p (by rw[l0n,Dl (by simpa using d)];exact b) c;rw[Jt]at this;exact P0 this
  |succ k=>
   have:=ih (i+1) h.2 k o (by simpa using a) j p (by omega) b c;rw[show i+(k+1)=i+1+k from by omega];exact this
def rZ{ops:List Oper}{efs:Hb}(h:yD ops efs=true):RegOk ops efs:=by
 simp only[yD,K0,GE]at h;obtain⟨⟨⟨s,h1⟩,h2⟩,v⟩:=h;refine⟨λi j f=>?_,λi j o p w q x y=>?_,A4n h2,λa k e f g=>?_,λa e f=>?_⟩
 ·obtain⟨o,q,e,he,hb,rfl⟩:=iY.1 f;have:=A4t ops 0 s i o q e he hb;omega
 ·have r:rW ops p o=true:=by
   unfold rW;rcases y with⟨d,n,c⟩|⟨d,n,c⟩
   ·rw[n];rcases c with c|c
    ·simp[c]
    ·simp[c]
   ·rw[n];simp[c]
  have:=A6U ops 0 h1 i o q j p (by omega) x r
  rwa[Jt]at this
 ·rcases Nat.lt_trichotomy a k with b|b|b
  ·exact absurd (zR h2 a k e e b f g) (l1l _)
  ·exact b
  ·exact absurd (zR h2 k a e e b g f) (l1l _)
 ·have:=v e (l1m f);simpa [Wr] using this
def II(ops:List Oper)(val:Nat->AV)(t:Tm)(L:Nat->Bool):Nat->Tm
 |0=>t
 |j+1=>match L j,ops[j]? with
  |true,some o=>RF (II ops val t L j) o.dst (val j)
  |_,_=>II ops val t L j
def UM{t:Tm}{d:Option Tmp}{v:AV}:XA3 (RF t d v) u=if d=some u then v else XA3 t u:=by
 cases d with
 |none=>simp[RF]
 |some d=>
  simp only[RF,XA3];by_cases h:u=d
  ·simp[h]
  ·rw[C5 h,C5 (λe=>h (by injection e with e;exact e.symm))]
section
variable{ops:List Oper}{efs:Hb}{val:Nat->AV}{t:Tm}{L:Nat->Bool}
def A33(q:RegOk ops efs)(b:∀i j,L i=true->iZ ops i j=true->L j=true){o:Oper}(r:ops[i]?=some o)(hr:∀j,iZ ops i j=true->L j=true)(d:L i=false)(s:u∈Ol ops o)(n:Nat)(hn:i<=n):
 XA3 (II ops val t L n) u=XA3 (II ops val t (λ_=>true) i) u:=by
 have h1:∀j,j<=i->XA3 (II ops val t L j) u=XA3 (II ops val t (λ_=>true) j) u:=by
  intro j
  induction j with
  |zero=>intro _;rfl
  |succ j ih=>
   intro v;have:=ih (by omega);simp only[II];cases c:ops[j]? with
   |none=>cases L j<;>simpa [c] using this
   |some p=>
    by_cases a:p.dst=some u
    ·have f:=q.ord i j o p (by omega) r c (.inl ⟨u,a,.inl s⟩);rw[f.mem' b hr];simp only[UM,Dl a]
    ·cases e:L j
     ·simp only[UM,C5 a];exact this
     ·simp only[UM,C5 a];exact this
 have h2:∀j,i<=j->XA3 (II ops val t L j) u=XA3 (II ops val t L i) u:=by
  intro j
  induction j with
  |zero=>
   intro h;have:i=0:=by omega
   subst this;rfl
  |succ j ih=>
   intro v;by_cases k:i=j+1
   ·subst k;rfl
   ·have:=ih (by omega);simp only[II];cases c:ops[j]? with
    |none=>cases L j<;>simpa [c] using this
    |some p=>
     cases e:L j
     ·simpa using this
     ·simp only[UM];by_cases a:p.dst=some u
      ·exfalso;by_cases g:i=j
       ·subst g;rw[e]at d;cases d
       ·have f:=q.ord j i p o (by omega) c r (.inr ⟨u,a,s⟩);rw[f.mem b e]at d;cases d
      ·rw[C5 a];exact this
 rw[h2 n hn,h1 i (Me _)]
def A91(x:RegOk ops efs)(d:∀i j,L i=true->iZ ops i j=true->L j=true){o:Oper}(q:ops[i]?=some o)(f:L i=false)(u:Nat)(n:Nat)(hn:i<n):
 XA3 (RF (II ops val t L n) o.dst (val i)) u=XA3 (II ops val t (λk=>if k=i then true else L k) n) u:=by
 have h1:∀j,j<=i->II ops val t (λk=>if k=i then true else L k) j=II ops val t L j:=by
  intro j
  induction j with
  |zero=>intro _;rfl
  |succ j ih=>
   intro w;have a:j≠i:=by omega
   simp only[II,C5 a,ih (by omega)]
 have h2:∀j,i<j->XA3 (RF (II ops val t L j) o.dst (val i)) u=XA3 (II ops val t (λk=>if k=i then true else L k) j) u:=by
  intro j
  induction j with
  |zero=>intro h;omega
  |succ j ih=>
   intro w;by_cases c:i=j
   ·subst c;simp only[II,f,if_true,q,h1 i (Me _)]
   ·have:=ih (by omega);have a:j≠i:=λe=>c e.symm;simp only[II,C5 a];cases r:ops[j]? with
    |none=>cases L j<;>simpa [r] using this
    |some p=>
     cases s:L j
     ·simpa using this
     ·simp only[UM]at this⊢;by_cases b:p.dst=some u
      ·have g:o.dst≠some u:=λh=>by
        have v:=x.ord j i p o (by omega) r q (.inl ⟨u,h,.inr b⟩);rw[v.mem d s]at f;cases f
       rw[C5 g,Dl b,Dl b]
      ·rw[C5 b,C5 b];exact this
 exact h2 n hn
end
def IK(ops:List Oper)(o:Oper)(t:Tm):Tm:=(Ol ops o).map λu=>(u,XA3 t u)
def A2Z{ops:List Oper}{o:Oper}{t:Tm}(u:Nat):XA3 (IK ops o t) u=.dk\/(u∈Ol ops o/\XA3 (IK ops o t) u=XA3 t u):=by
 unfold IK
 induction Ol ops o with
 |nil=>exact .inl rfl
 |cons x l ih=>
  simp only[Xa,XA3];by_cases h:u=x
  ·subst h;rw[Dl rfl];exact .inr ⟨by simp,rfl⟩
  ·rw[C5 h];rcases ih with ih|⟨h1,h2⟩
   ·exact .inl ih
   ·exact .inr ⟨List.mem_cons_of_mem _ h1,h2⟩
def C1T(ops:List Oper)(efs:Hb)(i m:Nat):Prop:=(∀(a e:Nat),efs[a]?=some e->Rch ops i e->a<m)/\(∀(a e:Nat),efs[a]?=some e->Rch ops e i->m<=a)
def B5n(P:Program)(G:Gl)(ro:Option Nat)(N:Nat)(ops:List Oper)(o:Oper)(t:Tm)(H:Hp)(v:AV)(H':Hp):Prop:=
 ((GY ops t o=.run\/GY ops t o=.dep true)/\TB P G ro N o t H (λb a=>b=v/\a=H'))\/((GY ops t o=.skip\/GY ops t o=.dep false)/\v=.v undef/\H'=H)
section
variable{P:Program}{G:Gl}{ro:Option Nat}{m N:Nat}{Q:Exit->Tm->Hp->Prop}{t:Tm}
def St.congr{w0:Base}{s0:Nat}{C:Ctx}{b:Tm}{H:Hp}{a:Act}{w:World}(s:St G w0 s0 C N t H a w)(h:∀u,XA3 b u=XA3 t u\/XA3 b u=.dk):St G w0 s0 C N b H a w:=
 ⟨s.rel,s.size,λu=>by
  rcases h u with e|e
  ·rw[e];exact s.tmps u
  ·rw[e];exact .dk _,s.defers,s.le⟩
def Vq(L:Nat->Bool):Nat->Nat
 |0=>0
 |j+1=>Vq L j+(if L j then 0 else 1)
def B1C{L:Nat->Bool}(d:L i=false):∀n,Vq (λk=>if k=i then true else L k) n+(if i<n then 1 else 0)=Vq L n:=by
 intro n
 induction n with
 |zero=>simp[Vq]
 |succ n ih=>
  have b:Vq (λk=>if k=i then true else L k) (n+1)=Vq (λk=>if k=i then true else L k) n+(if(if n=i then true else L n)=true then 0 else 1):=rfl;have c:Vq L (n+1)=Vq L n+(if L n=true then 0 else 1):=rfl;rw[b,c];generalize Vq (λk=>if k=i then true else L k) n=x at*;generalize Vq L n=y at*;by_cases h:n=i
  ·subst h;rw[C5 (l1l _)]at ih;rw[Dl rfl,Dl rfl,Dl (Nat.lt_succ_self _),d,C5 (by simp)];omega
  ·rw[C5 h];by_cases a:i<n
   ·rw[Dl a]at ih;rw[Dl (by omega:i<n+1)];omega
   ·rw[C5 a]at ih;rw[C5 (by omega:¬i<n+1)];omega
def zQ{L:Nat->Bool}:∀{n:Nat},Vq L n=0->∀i,i<n->L i=true:=by
 intro n
 induction n with
 |zero=>intro _ i h;omega
 |succ n ih=>
  intro h i b;simp only[Vq]at h;by_cases e:i=n
  ·subst e;by_cases a:L i=true
   ·exact a
   ·simp[a]at h
  ·exact ih (by omega) i (by omega)
def B1D{L:Nat->Bool}:∀{n:Nat},0<Vq L n->∃i,i<n/\L i=false/\∀j,j<i->L j=true:=by
 intro n
 induction n with
 |zero=>intro h;simp[Vq]at h
 |succ n ih=>
  intro h;by_cases e:0<Vq L n
  ·obtain⟨i,h1,h2,b⟩:=ih e;exact⟨i,by omega,h2,b⟩
  ·have a:Vq L n=0:=by omega
   simp only[Vq,a]at h;refine⟨n,by omega,?_,λj c=>zQ a j c⟩;cases d:L n
   ·rfl
   ·simp[d]at h
def A92{ops:List Oper}{val:Nat->AV}{L:Nat->Bool}:∀{n:Nat},(∀i,i<n->L i=true)->II ops val t L n=II ops val t (λ_=>true) n:=by
 intro n
 induction n with
 |zero=>intro _;rfl
 |succ n ih=>
  intro h;simp only[II,h n (by omega),ih (λi a=>h i (by omega))]
def A23{id:Nat}{ops:List Oper}{efs:Hb}{val:Nat->AV}{Hs:Nat->Hp}(hm:P.follows .mixedOrders=true)(hk:RegOk ops efs)(hd:∀o∈ops,dok N o.dst)(az:∀(i:Nat)(o:Oper),ops[i]?=some o->(∀a:Nat,efs[a]?≠some i)->∀k,k<=efs.length->C1T ops efs i k->B5n P G ro N ops o (IK ops o (II ops val t (λ_=>true) i)) (Hs k) (val i) (Hs k))(ar:∀(a i:Nat)(o:Oper),ops[i]?=some o->efs[a]?=some i->B5n P G ro N ops o (IK ops o (II ops val t (λ_=>true) i)) (Hs a) (val i) (Hs (a+1)))(hq:Q .normal (II ops val t (λ_=>true) ops.length) (Hs efs.length)):To P G ro m N (.region id ops.toArray true) Q t (Hs 0):=by
 intro w0 s0 R a w s;refine wpIn_region_any hm ?_;have key:∀(f:Nat)(Ls:Array Bool)(C:Ctx)(a:Act)(w1:World)(k:Nat),Ls.size=ops.length->Vq (λi=>Ls.getD i false) ops.length=f->(∀i j,Ls.getD i false=true->iZ ops i j=true->Ls.getD j false=true)->
  k<=efs.length->(∀(b e:Nat),efs[b]?=some e->(Ls.getD e false=true↔b<k))->St G w0 s0 C N (II ops val t (λi=>Ls.getD i false) ops.length) (Hs k) a w1->Frm m w0.own R w C w1->
  wpAnyIn (Fe ro) 0 P .any ops.toArray (MG G w0 s0 m R N w Q) f Ls a w1:=by
  intro f
  induction f with
  |zero=>
   intro Ls C a w1 k hsz hc g ad d J ab;have A:=zQ hc;have ax:k=efs.length:=by
    rcases Nat.lt_or_ge k efs.length with h|h
    ·exfalso;have:=(d k _ (K8 h)).1 (A _ (hk.lt k _ (K8 h)));omega
    ·omega
   refine⟨?_,⟨C,_,_,J,ab,?_⟩⟩
   ·unfold Region.ready;rw[List.filter_eq_nil_iff];intro i K;simp only[List.size_toArray,KE]at K;have h1:=A i K;have:Ls.getD i true=true:=by
     simp only[eH]at h1⊢;rw[l1p (by omega)]at h1⊢;exact h1
    simp[this]
   ·rw[ax,A92 A];exact hq
  |succ f ih=>
   intro Ls C a w1 k hsz hc g ad d J ab;have V:∀i,i<ops.length->Ls.getD i true=Ls.getD i false:=λi K=>by
    simp only[eH];rw[l1p (by omega)];rfl
   refine⟨λai=>?_,λi K=>?_⟩
   ·exfalso;obtain⟨i,h1,h2,h3⟩:=B1D (L:=λi=>Ls.getD i false) (n:=ops.length) (by omega);have:i∈Region.ready .any ops.toArray Ls:=by
     unfold Region.ready;rw[N_];refine⟨by simpa using h1,?_⟩;simp only[V i h1,h2,Bool.not_false,Z!,l15,K8 h1,yN,l1q];rw[Array.all_eq_true_iff_forall_mem];intro e he;cases hb:Region.binds .any e
     ·rfl
     ·simp only[Bool.not_true,Bool.false_or];exact h3 e.on (hk.back i e.on (iY.2 ⟨_,K8 h1,e,by simpa using he,hb,rfl⟩))
    rw[ai]at this;simp at this
   ·unfold Region.ready at K;rw[N_]at K;obtain⟨p,aj⟩:=K;simp only[List.size_toArray,KE]at p;have M:ops[i]?=some ops[i]:=K8 p;generalize ops[i]=o at M;simp only[V i p,l15,M,yN,l1q,K0,Z?]at aj;obtain⟨r,af⟩:=aj;rw[Array.all_eq_true_iff_forall_mem]at af;have hr:∀j,iZ ops i j=true->Ls.getD j false=true:=λj hj=>by
     obtain⟨o',O,e,he,hb,rfl⟩:=iY.1 hj;rw[M]at O;injection O with O;subst O
     have:=af e (by simpa using he);simpa [hb] using this
    have c:∀k,(Ls.setIfInBounds i true).getD k false=if k=i then true else Ls.getD k false:=by
     intro k;simp only[eH,Array.getElem?_setIfInBounds];by_cases h:i=k
     ·subst h;simp[hsz,p]
     ·rw[C5 h,C5 (λe=>h e.symm)]
    have X:(λk=>(Ls.setIfInBounds i true).getD k false)= λk=>if k=i then true else Ls.getD k false:=funext c
    have Y:St G w0 s0 C N (IK ops o (II ops val t (λ_=>true) i)) (Hs k) a w1:=J.congr λu=>by
     rcases A2Z (ops:=ops) (o:=o) (t:=II ops val t (λ_=>true) i) u with h|⟨h1,h2⟩
     ·exact .inr h
     ·exact .inl (by rw[h2];exact(A33 hk g M hr r h1 ops.length (by omega)).symm)
    have aq:=hd o (l1m M);have next:∀(q:Nat)(C':Ctx)(y:Value)(Z:World),(q=k/\(∀b:Nat,efs[b]?≠some i)\/q=k+1/\efs[k]?=some i)->VRel C' Z (val i) y->Rel G w0 C' (Hs q) Z->Ext w0.own C w1 C' Z->
     wpAnyIn (Fe ro) 0 P .any ops.toArray (MG G w0 s0 m R N w Q) f (Ls.setIfInBounds i true) (a.put o.dst y) Z:=by
     intro q C' y Z D hv F e;refine ih (Ls.setIfInBounds i true) C' _ Z q (by simpa using hsz) ?_ ?_ ?_ ?_ ?_ (ab.trans e.frm)
     ·rw[X];have:=B1C (L:=λk=>Ls.getD k false) r ops.length;rw[Dl p]at this;omega
     ·intro x y hx an;rw[c x]at hx;rw[c y];split
      ·rfl
      ·by_cases am:x=i
       ·subst am;exact hr y an
       ·rw[C5 am]at hx;exact g x y hx an
     ·rcases D with⟨rfl,_⟩|⟨rfl,h⟩
      ·exact ad
      ·exact(yO.1 h).1
     ·intro b e' hb;rw[c e'];rcases D with⟨rfl,h⟩|⟨rfl,h⟩
      ·rw[C5 (λe:e'=i=>h b (by rw[hb,e]))];exact d b e' hb
      ·by_cases aa:e'=i
       ·subst aa;have:=hk.inj b k _ hb h;simp[this]
       ·rw[C5 aa,d b e' hb];have:b≠k:=λe=>aa (by rw[e,h]at hb;injection hb with hb;exact hb.symm);omega
     ·exact(A35 J F e hv aq).congr λu=>.inl (by rw[X];exact(A91 hk g M r u ops.length p).symm)
    have fin:∀(q:Nat),(q=k/\(∀b:Nat,efs[b]?≠some i)\/q=k+1/\efs[k]?=some i)->B5n P G ro N ops o (IK ops o (II ops val t (λ_=>true) i)) (Hs k) (val i) (Hs q)->
     wpOpIn (Fe ro) 0 P ops.toArray (MG G w0 s0 m R N w Q) i (wpAnyIn (Fe ro) 0 P .any ops.toArray (MG G w0 s0 m R N w Q) f (Ls.setIfInBounds i true)) a w1:=by
     intro q D hG;have hg:=vE Y.tmps ops o;unfold wpOpIn;simp only[l15,M];rcases hG with⟨ac,hA⟩|⟨ac,ak,hH⟩
     ·have hw:Region.wanted o (yielded ops.toArray a.tmps)=true:=by
       rcases ac with h|h
       ·exact hg.1 h
       ·exact hg.2.2 _ h
      rw[Dl hw];refine Si ?_ (hA w0 s0 C a w1 _ Y);rintro a' Z ⟨v,y,C',H',rfl,⟨rfl,rfl⟩,hv,F,e⟩;exact next q C' y Z D hv F e
     ·have hw:Region.wanted o (yielded ops.toArray a.tmps)=false:=by
       rcases ac with h|h
       ·exact hg.2.1 h
       ·exact hg.2.2 _ h
      rw[C5 (by rw[hw];simp)];exact⟨λ_ _=>trivial,next q C undef w1 D (by rw[ak];exact .v _) (by rw[hH];exact J.rel) (.refl _ _ _)⟩
    by_cases K:∃b:Nat,efs[b]?=some i
    ·obtain⟨b,hb⟩:=K;have ao:b=k:=by
      have h1:¬b<k:=λh=>by
       have:=(d b i hb).2 h;rw[r]at this;cases this
      rcases Nat.eq_zero_or_pos b with h0|h0
      ·omega
      ·have ag:b-1<efs.length:=by have:=(yO.1 hb).1;omega
       have ap:=hk.chain (b-1) _ i (K8 ag) (by rw[Nat.sub_add_cancel h0];exact hb);have:=(d (b-1) _ (K8 ag)).1 (ap.mem' (L:=λi=>Ls.getD i false) g hr);omega
     subst ao;exact fin (b+1) (.inr ⟨rfl,hb⟩) (ar b i o M hb)
    ·have ah:∀b:Nat,efs[b]?≠some i:=λb hb=>K ⟨b,hb⟩;refine fin k (.inl ⟨rfl,ah⟩) (az i o M ah k ad ⟨λb e hb ha=>(d b e hb).1 (ha.mem' (L:=λi=>Ls.getD i false) g hr),λb e hb ha=>?_⟩);rcases Nat.lt_or_ge b k with h|h
     ·have:=ha.mem (L:=λi=>Ls.getD i false) g ((d b e hb).2 h);simp only[r]at this;cases this
     ·exact h
 have H:(λi=>(Array.replicate ops.length false).getD i false)= λ_=>false:=by
  funext i
  simp only[eH,Array.getElem?_replicate];split<;>rfl
 have ay:∀n,II ops val t (λ_=>false) n=t:=by
  intro n
  induction n with
  |zero=>rfl
  |succ n ih=>simp only[II];exact ih
 have ae:∀n,Vq (λ_=>false) n=n:=by
  intro n
  induction n with
  |zero=>rfl
  |succ n ih=>simp[Vq,ih]
 have hb:Below w.heap.size w {w with drawn:=w.drawn+1}:=A21 w _;have e0:Ext w0.own R w R {w with drawn:=w.drawn+1}:=s.rel.ext_below hb;have hz:∀i,(Array.replicate ops.length false).getD i false=false:=λi=>congrFun H i;have:=key ops.length (Array.replicate ops.length false) R a {w with drawn:=w.drawn+1} 0 (by simp) (by rw[H];exact ae _) (λi j h=>by rw[hz]at h;cases h) (Y_ _) (λb e _=>by rw[hz];simp) (by rw[H,ay];exact⟨s.rel.of_below hb,s.size,s.tmps.mono e0,s.defers.mono e0.B e0.keepB,ZK s.le e0.grow⟩) e0.frm;simpa using this
end
end
section
variable{r:AV×Hp}{b:Bool}{α:Type}
def C1r:Unit:=()
def C1q:Unit:=C1r
def C1p:Unit:=C1q
def C1o:Unit:=C1p
def C1n:Unit:=C1o
def C1m:Unit:=C1n
def C1l:Unit:=C1m
def C1k:Unit:=C1l
def C1j:Unit:=C1k
def C1i:Unit:=C1j
def B8k:Unit:=C1i
def B8j:Unit:=B8k
def B8i:Unit:=B8j
def B8h:Unit:=B8i
def B8g:Unit:=B8h
def B8f:Unit:=B8g
def B8e:Unit:=B8f
def B8d:Unit:=B8e
def B8c:Unit:=B8d
def B8b:Unit:=B8c
def B8a:Unit:=B8b
def B89:Unit:=B8a
def B88:Unit:=B89
def B87:Unit:=B88
def B86:Unit:=B87
def B85:Unit:=B86
def B84:Unit:=B85
def B83:Unit:=B84
def B82:Unit:=B83
def B81:Unit:=B82
def B80:Unit:=B81
def B7Z:Unit:=B80
def B7Y:Unit:=B7Z
def B7X:Unit:=B7Y
def B7W:Unit:=B7X
def B7V:Unit:=B7W
def B7U:Unit:=B7V
def B7T:Unit:=B7U
def B7S:Unit:=B7T
def B7R:Unit:=B7S
def B7Q:Unit:=B7R
def B7P:Unit:=B7Q
def B7O:Unit:=B7P
def B7N:Unit:=B7O
def B7M:Unit:=B7N
def B7L:Unit:=B7M
def B7K:Unit:=B7L
def B7J:Unit:=B7K
def B7I:Unit:=B7J
def B7H:Unit:=B7I
def B7G:Unit:=B7H
def B7F:Unit:=B7G
def B7E:Unit:=B7F
def B7D:Unit:=B7E
def B7C:Unit:=B7D
def B7B:Unit:=B7C
def B7A:Unit:=B7B
def B7z:Unit:=B7A
def B7y:Unit:=B7z
def B7x:Unit:=B7y
def B7w:Unit:=B7x
def B7v:Unit:=B7w
def B7u:Unit:=B7v
def B7t:Unit:=B7u
def B7s:Unit:=B7t
def B7r:Unit:=B7s
def B7q:Unit:=B7r
def B7p:Unit:=B7q
def B7o:Unit:=B7p
def B7n:Unit:=B7o
def B7m:Unit:=B7n
def B7l:Unit:=B7m
def B7k:Unit:=B7l
def B7j:Unit:=B7k
def B7i:Unit:=B7j
def B7h:Unit:=B7i
def B7g:Unit:=B7h
def B7f:Unit:=B7g
def B7e:Unit:=B7f
def B7d:Unit:=B7e
def B7c:Unit:=B7d
def B7b:Unit:=B7c
def B7a:Unit:=B7b
def B79:Unit:=B7a
def B78:Unit:=B79
def B77:Unit:=B78
def B76:Unit:=B77
def B75:Unit:=B76
def B74:Unit:=B75
def B73:Unit:=B74
def B72:Unit:=B73
def B71:Unit:=B72
def B70:Unit:=B71
def B6Z:Unit:=B70
def B6Y:Unit:=B6Z
def B6X:Unit:=B6Y
def B6W:Unit:=B6X
def B6V:Unit:=B6W
def B6U:Unit:=B6V
def B6T:Unit:=B6U
def B3m:Unit:=B6T
def B3l:Unit:=B3m
def B3k:Unit:=B3l
def B3j:Unit:=B3k
def B3i:Unit:=B3j
def B3h:Unit:=B3i
def B3g:Unit:=B3h
def B3f:Unit:=B3g
def B3e:Unit:=B3f
def B3d:Unit:=B3e
def B3c:Unit:=B3d
def B3b:Unit:=B3c
def B3a:Unit:=B3b
def B39:Unit:=B3a
def B38:Unit:=B39
def B37:Unit:=B38
def B36:Unit:=B37
def B35:Unit:=B36
def B34:Unit:=B35
def B33:Unit:=B34
def Iv:Unit:=B33
abbrev Af:=Option (AV×Hp)
abbrev KV:=AV->Hp->Af
abbrev Ru:=Hp->Af
abbrev K2:=AV->Af
abbrev B28:=Nat->Is->Hp->KV->Af
inductive BT(α:Type) where
 |leaf
 |node (k:Nat) (v:α) (l r:BT α)
def BT.get:BT α->Nat->Option α
 |.leaf,_=>none
 |.node k v l r,i=>match Nat.beq i k with
  |true=>some v
  |false=>match Nat.blt i k with
   |true=>l.get i
   |false=>r.get i
def BT.getK(b:BT α):Nat->(α->Af)->Af:=
 (λ(_:Unit)=>@BT.rec α (λ_=>Nat->(α->Af)->Af) (λ_ _=>none)
  (λk v _ _ a c i K=>@Bool.rec (λ_=>Af) (@Bool.rec (λ_=>Af) (c i K) (a i K) (Nat.blt i k)) (K v) (Nat.beq i k)) b) Iv
def BT.getK_eq(b:BT α)(i:Nat)(K:α->Af):b.getK i K=match b.get i with|some v=>K v|none=>none:=by
 induction b with
 |leaf=>rfl
 |node k v l r a c=>
  simp only[BT.getK,BT.get];cases Nat.beq i k
  ·cases Nat.blt i k
   ·exact c
   ·exact a
  ·rfl
structure Cf where
 b:Bool
 lv:Hb
 fz:Bool
 n:Nat
 rc:List (Nat×List (Nat×Nat))
structure XFn where
 n:Nat
 rs:List ResultVar
 c:Code
 lv:Hb
 fz:Bool
 rc:List (Nat×List (Nat×Nat))
inductive LK where
 |int (k:IntKind)|str|bool
abbrev Lie:=Nat×Nat×Nat×Nat
structure XE where
 ft:BT XFn
 ty:BT TI
 gl:BT Is
 imp:Nat->Bool
 lf:Nat
 eqt:BT (List LK)
 lie:List Lie
 up:Nat
 ne:Nat->Bool
 lm:Nat->Bool
 ov:Nat->Bool
def fN(n:Nat)(K:Nat->Af):Af:=@Nat.rec (λ_=>Af) (K 0) (λm _=>K (Nat.succ m)) n
def fI(z:Int)(K:Int->Af):Af:=@Int.rec (λ_=>Af) (λn=>fN n λn=>K (.ofNat n)) (λn=>fN n λn=>K (.negSucc n)) z
def ck(b:Bool)(K:Af):Af:=@Bool.rec (λ_=>Af) none K b
def Dy(n:Nat)(K:Nat->Af):fN n K=K n:=by cases n<;>rfl
def Vl(z:Int)(K:Int->Af):fI z K=K z:=by cases z<;>simp[fI,Dy]
def ckS(b:Bool)(K:Af):Af:=(λ(_:Unit)=>@Bool.rec (λ_=>Af) none K b) Iv
def fNS(n:Nat)(K:Nat->Af):Af:=(λ(_:Unit)=>@Nat.rec (λ_=>Af) (K 0) (λm _=>K (Nat.succ m)) n) Iv
def SN(a:List α):List α->(List α->Af)->Af:=
 (λ(_:Unit)=>@List.rec α (λ_=>List α->(List α->Af)->Af) (λl K=>K l) (λx _ ih l K=>ih l λy=>K (x::y)) a) Iv
def A5C(l:List α):Nat->(Nat->Af)->Af:=(λ(_:Unit)=>@List.rec α (λ_=>Nat->(Nat->Af)->Af) (λn K=>K n) (λ_ _ ih n K=>ih (Nat.succ n) K) l) Iv
def B11(n:Nat)(K:Nat->Af):fNS n K=K n:=Dy n K
def Jv(a l:List α):∀K:List α->Af,SN a l K=K (a++l):=by
 induction a with
 |nil=>intro K;rfl
 |cons x a ih=>intro K;exact ih _
def B0O(l:List α):∀(n:Nat)(K:Nat->Af),A5C l n K=K (n+l.length):=by
 induction l with
 |nil=>intro n K;rfl
 |cons a l ih=>
  intro n K;have:A5C (a::l) n K=A5C l (Nat.succ n) K:=rfl;rw[this,ih]
  congr 1
  simp;omega
def B5{K:Af}(h:ck b K=some r):b=true/\K=some r:=by cases b;cases h;exact⟨rfl,h⟩
def LG{K:Af}(h:ckS b K=some r):b=true/\K=some r:=B5 h
def gtm(t:Tm):Nat->K2->Af:=
 (λ(_:Unit)=>@List.rec (Nat×AV) (λ_=>Nat->K2->Af) (λ_ K=>K .dk)
  (λp _ ih=>@Prod.rec Nat AV (λ_=>Nat->K2->Af) (λk v i K=>@Bool.rec (λ_=>Af) (ih i K) (K v) (Nat.beq i k)) p) t) Iv
def Wv(t:Tm)(i:Nat)(K:K2):gtm t i K=K (XA3 t i):=by
 induction t with
 |nil=>rfl
 |cons p t ih=>
  obtain⟨k,v⟩:=p;simp only[gtm,XA3];cases h:Nat.beq i k
  ·rw[C5 (λe=>by rw[e,jH]at h;cases h)];exact ih
  ·rw[Dl (Yo h)]
def I6(H:Hp):Nat->(Row->Af)->Af:=
 @List.rec (Nat×Row) (λ_=>Nat->(Row->Af)->Af) (λ_ _=>none)
  (λp _ ih=>@Prod.rec Nat Row (λ_=>Nat->(Row->Af)->Af) (λk v i K=>@Bool.rec (λ_=>Af) (ih i K) (K v) (Nat.beq i k)) p) H
def Iy{H:Hp}{i:Nat}{K:Row->Af}(a:K .gone=none)(h:I6 H i K=some r):∃x,Aj H i=some x/\K x=some r:=by
 induction H with
 |nil=>cases h
 |cons p H ih=>
  obtain⟨k,v⟩:=p;simp only[I6]at h;simp only[Aj];cases hb:Nat.beq i k
  ·rw[hb]at h;rw[C5 (λe=>by rw[e,jH]at hb;cases hb)];exact ih h
  ·rw[hb]at h;rw[Dl (Yo hb)];cases v with
   |gone=>exact absurd (a▸h) (by simp)
   |_=>exact⟨_,rfl,h⟩
def Ll(H:Hp):Nat->Row->Ru->Af:=
 @List.rec (Nat×Row) (λ_=>Nat->Row->Ru->Af) (λ_ _ K=>K [])
  (λp l ih=>@Prod.rec Nat Row (λ_=>Nat->Row->Ru->Af) (λk x r y K=>@Bool.rec (λ_=>Af) (ih r y λa=>K ((k,x)::a)) (K ((k,y)::l)) (Nat.beq r k)) p) H
def Dh(H:Hp)(r:Nat)(y:Row):∀K:Ru,Ll H r y K=K (upd H r y):=by
 induction H with
 |nil=>intro K;rfl
 |cons p H ih=>
  intro K;obtain⟨k,x⟩:=p;simp only[Ll,upd];cases hb:Nat.beq r k
  ·rw[C5 (λe=>by rw[e,jH]at hb;cases hb)];exact ih _
  ·rw[Dl (Yo hb)]
def Ik(H:Hp)(K:Nat->Af):Af:=
 @List.rec (Nat×Row) (λ_=>Af) (K 0) (λp _ _=>@Prod.rec Nat Row (λ_=>Af) (λk _=>fN (Nat.succ k) K) p) H
def BW(H:Hp)(K:Nat->Af):Ik H K=K (As H):=by
 cases H with
 |nil=>rfl
 |cons p H=>obtain⟨k,x⟩:=p;exact Dy (k+1) K
def Yy(a:List α):List α->(List α->Af)->Af:=
 @List.rec α (λ_=>List α->(List α->Af)->Af) (λl K=>K l) (λx _ ih l K=>ih l λy=>K (x::y)) a
def MK(a l:List α):∀K:List α->Af,Yy a l K=K (a++l):=by
 induction a with
 |nil=>intro K;rfl
 |cons x a ih=>intro K;exact ih _
def Dg(n:Nat):List α->List α:=
 @Nat.rec (λ_=>List α->List α) (λl=>l) (λ_ ih l=>@List.rec α (λ_=>List α) [] (λ_ l _=>ih l) l) n
def Cy(n:Nat):∀l:List α,Dg n l=l.drop n:=by
 induction n with
 |zero=>intro l;rfl
 |succ n ih=>
  intro l;cases l with
  |nil=>rfl
  |cons a l=>exact ih l
def OW(n:Nat):List α->(List α->Af)->Af:=
 @Nat.rec (λ_=>List α->(List α->Af)->Af) (λ_ K=>K []) (λ_ ih l K=>@List.rec α (λ_=>Af) (K []) (λa l _=>ih l λc=>K (a::c)) l) n
def MD(n:Nat):∀(l:List α)(K:List α->Af),OW n l K=K (l.take n):=by
 induction n with
 |zero=>intro l K;rfl
 |succ n ih=>
  intro l K;cases l with
  |nil=>rfl
  |cons a l=>exact ih l _
def G6(l:List α):Nat->(Nat->Af)->Af:=@List.rec α (λ_=>Nat->(Nat->Af)->Af) (λn K=>K n) (λ_ _ ih n K=>fN (Nat.succ n) λm=>ih m K) l
def Cl(l:List α):∀(n:Nat)(K:Nat->Af),G6 l n K=K (n+l.length):=by
 induction l with
 |nil=>intro n K;rfl
 |cons a l ih=>
  intro n K;have:G6 (a::l) n K=fN (Nat.succ n) λm=>G6 l m K:=rfl;rw[this,Dy,ih]
  congr 1
  simp;omega
def B4H(vs:Is):Is->(Is->Af)->Af:=
 @List.rec AV (λ_=>Is->(Is->Af)->Af) (λl K=>K l) (λv _ ih l K=>@List.rec AV (λ_=>Af) none (λ_ l _=>ih l λa=>K (v::a)) l) vs
def A7b(vs:Is):∀(l:Is)(K:Is->Af)(r:AV×Hp),B4H vs l K=some r->vs.length<=l.length/\K (vs++l.drop vs.length)=some r:=by
 induction vs with
 |nil=>intro l K r h;exact⟨Y_ _,h⟩
 |cons v vs ih=>
  intro l K r h;cases l with
  |nil=>cases h
  |cons a l=>
   obtain⟨h1,h2⟩:=ih l _ r h;exact⟨by simpa using h1,h2⟩
def B4G(vs:Is):∀(l:Is)(K:Is->Af),vs.length<=l.length->B4H vs l K=K (vs++l.drop vs.length):=by
 induction vs with
 |nil=>intro l K h;rfl
 |cons v vs ih=>
  intro l K h;cases l with
  |nil=>simp at h
  |cons a l=>exact ih l _ (by simpa using h)
def Er(n:Nat):Is->Is->(Is->Af)->Af:=
 @Nat.rec (λ_=>Is->Is->(Is->Af)->Af) (λvs l K=>B4H vs l K) (λ_ ih vs l K=>@List.rec AV (λ_=>Af) none (λa l _=>ih vs l λc=>K (a::c)) l) n
def Oq(n:Nat):∀(vs l:Is)(K:Is->Af)(r:AV×Hp),Er n vs l K=some r->n+vs.length<=l.length/\K (splice l n vs)=some r:=by
 induction n with
 |zero=>
  intro vs l K r h;obtain⟨h1,h2⟩:=A7b vs l K r h;exact⟨by omega,by simpa [splice] using h2⟩
 |succ n ih=>
  intro vs l K r h;cases l with
  |nil=>cases h
  |cons a l=>
   obtain⟨h1,h2⟩:=ih vs l _ r h;refine⟨by simp;omega,?_⟩;have:splice (a::l) (n+1) vs=a::splice l n vs:=by simp[splice,Nat.add_right_comm]
   rw[this];exact h2
def Iq(n:Nat):∀(vs l:Is)(K:Is->Af),n+vs.length<=l.length->Er n vs l K=K (splice l n vs):=by
 induction n with
 |zero=>
  intro vs l K h;have:=B4G vs l K (by omega);have e:Er 0 vs l K=B4H vs l K:=rfl;rw[e,this];simp[splice]
 |succ n ih=>
  intro vs l K h;cases l with
  |nil=>simp at h
  |cons a l=>
   have:splice (a::l) (n+1) vs=a::splice l n vs:=by simp[splice,Nat.add_right_comm]
   rw[this];exact ih vs l _ (by simp at h;omega)
def iN(z:Int)(K:Nat->Af):Af:=@Int.rec (λ_=>Af) (λn=>fN n K) (λ_=>none) z
def Wt{z:Int}{K:Nat->Af}(h:iN z K=some r):∃n:Nat,z=n/\K n=some r:=by
 cases z with
 |ofNat n=>exact⟨n,rfl,by simpa [iN,Dy] using h⟩
 |negSucc n=>cases h
def Ju(n:Nat)(K:Nat->Af):iN n K=K n:=Dy n K
def pG(a b:Int):Bool:=@Int.rec (λ_=>Bool) (λm=>@Int.rec (λ_=>Bool) (λn=>Nat.ble m n) (λ_=>false) b) (λm=>@Int.rec (λ_=>Bool) (λ_=>true) (λn=>Nat.ble n m) b) a
def ieq(a b:Int):Bool:=@Int.rec (λ_=>Bool) (λm=>@Int.rec (λ_=>Bool) (λn=>Nat.beq m n) (λ_=>false) b) (λm=>@Int.rec (λ_=>Bool) (λ_=>false) (λn=>Nat.beq m n) b) a
def L1(a b:Int):pG a b=decide (a<=b):=by
 cases a<;>cases b<;>simp only[pG]
 ·rw[tS];simp[jJ]
 ·rw[tS];simp;omega
 ·rw[tS];simp;omega
 ·rw[tS];simp[jJ];omega
def QI(a b:Int):ieq a b=decide (a=b):=by
 cases a<;>cases b<;>simp only[ieq]
 ·rw[tS];simp[qA,Int.ofNat_inj]
 ·rw[tS];simp
 ·rw[tS];simp
 ·rw[tS];simp[qA]
def bB(b:Bool)(K:K2):Af:=@Bool.rec (λ_=>Af) (K (.v (.bool false))) (K (.v (.bool true))) b
def OH(b:Bool)(K:K2):bB b K=K (.v (.bool b)):=by cases b<;>rfl
end
end Go.Abs
end
