import Derived.RangeFuncIn
import Derived.RangeFuncStops
import Derived.RangeFuncLeaves
import Derived.OrdersIn
import Derived.Test.YtngdjmhcceoafaaGreatDoorP00
set_option linter.all false
set_option maxHeartbeats 100000000
noncomputable section
namespace Go.Abs
open Go.RowKit
section
variable {a:AV} {C:Ctx} {hi lo mx:Option AV} {yh yl ym:Option Value} {P:Program} {y:Value} {w:World}
def C0h:AV->Option Int
 | .v (.int _ n)=>some n
 |_=>none
def Za:Option AV->Nat->Option Int
 |none,d=>some d
 |some a,_=>C0h a
def qH (T:Ty) (ty:TypeId) (a:AV) (lo hi mx:Option AV) (K:AV->Prop):Prop:=
 match T ty with
 |some c=>match c.d,a with
  | .string,.v (.string s)=>mx.isNone=true/\LL (Za lo 0) λl=>LL (Za hi s.size) λh=>(0<=l/\l<=h/\h<=s.size)/\K (.v (.string (s.extract l.toNat h.toNat)))
  | .slice _ b,.list m cs=>LL (Za lo 0) λl=>LL (Za hi m) λh=>LL (Za mx m) λx=>(0<=l/\l<=h/\h<=x/\x<=m)/\(mx.isSome=true->hi.isSome=true)/\K (.list (h-l).toNat ((cs.drop (l.toNat*b)).take ((h-l).toNat*b)))
  | .slice _ b,.sl sz r o m=>b=sz/\LL (Za lo 0) λl=>LL (Za hi m) λh=>LL (Za mx m) λx=>(0<=l/\l<=h/\h<=x/\x<=m)/\(mx.isSome=true->hi.isSome=true)/\K (.sl sz r (o+l.toNat*b) (h-l).toNat)
  | .slice _ _,.v (.slice none 0 0)=>LL (Za lo 0) λl=>LL (Za hi 0) λh=>mx.isNone=true/\(l=0/\h=0)/\K (.v (.slice none 0 0))
  |_,_=>False
 |none=>False
def lW {n:Int} (h:VRel C w a y) (hb:C0h a=some n) {c:Nat} (b:0<=n) (h1:n<=c) (code:BoundsCode):(Instr.sliceBound y c code).run P w= .ok n.toNat w:=by
 unfold C0h at hb;split at hb
 ·rename_i k m;injection hb with hb
  subst hb;obtain rfl:=AL.1 h;simp[Instr.sliceBound,asIntOf,b,h1]
 ·cases hb
def V' (C:Ctx) (w:World):Option AV->Option Value->Prop
 |none,none=>True
 |some a,some y=>VRel C w a y
 |_,_=>False
def SM (c:V' C w lo yl) (i:V' C w hi yh) (hm:V' C w mx ym) {isS:Bool} {len cap:Nat} {l h x:Int} (hc:len<=cap)
 (s:Za lo 0=some l) (r:Za hi len=some h) (t:Za mx cap=some x) (hb:0<=l/\l<=h/\h<=x/\x<=cap) (p:mx.isSome=true->hi.isSome=true):
 (Instr.sliceBounds isS len cap yl yh ym).run P w= .ok (l.toNat,h.toNat,x.toNat) w:=by
 have h1:∀(a:AV) (y:Value),mx=some a->VRel C w a y->∀code,(Instr.sliceBound y cap code).run P w= .ok x.toNat w:= λa y e hv code=>by
  subst e;exact lW hv t (by omega) (by omega) _
 have h2:∀(a:AV) (y:Value),hi=some a->VRel C w a y->∀code,(Instr.sliceBound y x.toNat code).run P w= .ok h.toNat w:= λa y e hv code=>by
  subst e;exact lW hv r (by omega) (by omega) _
 have n:∀(a:AV) (y:Value),lo=some a->VRel C w a y->∀code,(Instr.sliceBound y h.toNat code).run P w= .ok l.toNat w:= λa y e hv code=>by
  subst e;exact lW hv s (by omega) (by omega) _
 have j:mx=none->x.toNat=cap:= λe=>by subst e;simp[Za] at t;omega
 have k:hi=none->h.toNat=len:= λe=>by subst e;simp[Za] at r;omega
 have d:lo=none->l.toNat=0:= λe=>by subst e;simp[Za] at s;omega
 cases mx with
 |none=>
  cases ym with
  |some _=>exact hm.elim
  |none=>
   have g:=j rfl;cases hi with
   |none=>
    cases yh with
    |some _=>exact i.elim
    |none=>
     have u:=k rfl;cases lo with
     |none=>
      cases yl with
      |some _=>exact c.elim
      |none=>simp[Instr.sliceBounds,g,u,d rfl]
     |some a=>
      cases yl with
      |none=>exact c.elim
      |some y=>have:=n a y rfl c;simp only[Instr.sliceBounds,pure_bind,Dk,Option.isSome_none,xY,if_false,<-g,<-u,this,FU,kW]
   |some b=>
    cases yh with
    |none=>exact i.elim
    |some z=>
     have f:=h2 b z rfl i;rw[g] at f;cases lo with
     |none=>
      cases yl with
      |some _=>exact c.elim
      |none=>simp[Instr.sliceBounds,g,d rfl,f]
     |some a=>
      cases yl with
      |none=>exact c.elim
      |some y=>have:=n a y rfl c;simp only[Instr.sliceBounds,pure_bind,Dk,Option.isSome_none,xY,if_false,g,f,this,FU,kW]
 |some m=>
  cases ym with
  |none=>exact hm.elim
  |some q=>
   have v:=h1 m q rfl hm;cases hi with
   |none=>simp at p
   |some b=>
    cases yh with
    |none=>exact i.elim
    |some z=>
     have f:=h2 b z rfl i;cases lo with
     |none=>
      cases yl with
      |some _=>exact c.elim
      |none=>simp[Instr.sliceBounds,d rfl,v,f]
     |some a=>
      cases yl with
      |none=>exact c.elim
      |some y=>have:=n a y rfl c;simp only[Instr.sliceBounds,Dk,Option.isSome_some,if_true,v,f,this,FU,kW]
def B05 {n cap:Nat} {cs:List AV} {b o:Nat} (h:VRel C w (.list n cs) (.slice (some ⟨b,o,none⟩) n cap)) (k m c:Nat) (j:Nat) (hm:m<=c):VRel C w (.list m ((cs.drop k).take j)) (.slice (some ⟨b,o+k,none⟩) m c):=by
 cases h with
 |list0=>
  refine .list hm (λ_=>undef) (λi hi=> ?_) (λi hi=> ?_) (λi hi=> ?_)<;>simp at hi
 |list hc vs e d hv=>
  refine .list hm (λi=>vs (k+i)) (λi hi=> ?_) (λi hi=> ?_) (λi hi=> ?_)
  ·rw[kX];exact e _ (by simp at hi;omega)
  ·rw[kX];exact d _ (by simp at hi;omega)
  ·rw[List.getElem_take,List.getElem_drop];exact hv _ (by simp at hi;omega)
def zW {T:Ty} (hT:iP P T) (hP:∀t i e b,T t=some i->(i.d= .slice e b\/∃n,i.d= .array n e b)->b≠0) {ty:TypeId} {K:AV->Prop}
 (N:VRel C w a y) (X:V' C w lo yl) (V:V' C w hi yh) (hm:V' C w mx ym) (h:qH T ty a lo hi mx K):∃v u,(Instr.sliceAt ty y yl yh ym).run P w= .ok u w/\VRel C w v u/\K v:=by
 unfold qH at h;split at h
 ·rename_i ti M;have ok:=hT ty ti M;have Z:∀u,P.underlying ty=some u->(∀n e,u≠.array n e)->Instr.sliceAt ty y yl yh ym=Instr.sliceAt ty y yl yh ym:= λ_ _ _=>rfl;split at h
  ·rename_i s L;obtain⟨u,H,e1⟩:=ok.under;rw[L] at e1;have ae:u= .string:=by cases u<;>simp[td] at e1;rfl
   subst ae;obtain rfl:=AL.1 N;obtain⟨hn,h⟩:=h;cases mx with
   |some _=>simp at hn
   |none=>
    cases ym with
    |some _=>exact hm.elim
    |none=>
     cases f:Za lo 0 with
     |none=>rw[f] at h;exact h.elim
     |some l=>
      rw[f] at h;cases c:Za hi s.size with
      |none=>rw[c] at h;exact h.elim
      |some af=>
       rw[c] at h;simp only[LL] at h;obtain⟨hb,h⟩:=h;have j:=SM (P:=P) (isS:=false) X V hm (Mb s.size) f c (show Za none s.size=some (s.size:Int) from rfl) ⟨hb.1,hb.2.1,hb.2.2,Int.le_refl _⟩ (by simp);refine⟨_,_,?_,.v _,h⟩;unfold Instr.sliceAt;rw[Dk,run_underlying H w];simp only[FU];unfold Instr.slice;rw[Dk,run_underlying H w];simp only[FU,Option.isSome_none,xY,if_false];rw[Dk,j];rfl
  ·rename_i e b m cs L;obtain⟨H,hc⟩:=ok.elem_slice L;have hsz:(sizeOf e).run P w= .ok b w:=by rw[<-hc];exact BU w (by rw[hc];exact hP ty ti e b M (.inl L))
   cases f:Za lo 0 with
   |none=>rw[f] at h;exact h.elim
   |some l=>
    rw[f] at h;cases c:Za hi m with
    |none=>rw[c] at h;exact h.elim
    |some h1=>
     rw[c] at h;cases k:Za mx m with
     |none=>rw[k] at h;exact h.elim
     |some x=>
      rw[k] at h;simp only[LL] at h;obtain⟨hb,O,h⟩:=h;obtain⟨A,cap,rfl,g⟩:∃A cap,y= .slice A m cap/\m<=cap:=by
       cases N with
       |list0=>exact⟨_,_,rfl,W? _⟩
       |list g=>exact⟨_,_,rfl,g⟩
      obtain⟨p,B,J⟩:∃p:Int,Za mx cap=some p/\h1<=p/\p<=cap:=by
       cases mx with
       |none=>exact⟨cap,rfl,by simp[Za] at k;omega,Int.le_refl _⟩
       |some mm=>exact⟨x,k,by omega,by omega⟩
      have j:=SM (P:=P) (isS:=true) X V hm g f c B ⟨hb.1,hb.2.1,J.1,J.2⟩ O;have q:(Instr.sliceAt ty (.slice A m cap) yl yh ym).run P w= .ok (.slice (if p.toNat=l.toNat then A else A.map (·.add (l.toNat*b))) (h1.toNat-l.toNat) (p.toNat-l.toNat)) w:=by
       unfold Instr.sliceAt;rw[Dk,run_underlying H w];simp only[FU];unfold Instr.slice;rw[Dk,run_underlying H w];simp only[FU];rw[Dk,j];simp only[FU];rw[Dk,hsz];rfl
      refine⟨_,_,q,?_,h⟩;have F:h1.toNat-l.toNat=(h1-l).toNat:=by omega
      rw[F];by_cases hz:(h1-l).toNat=0
      ·rw[hz];simp;exact .list0
      ·have ac:p.toNat≠l.toNat:=by omega
       rw[C4 ac];cases N with
       |list0=>omega
       |list D vs hF ab hv=>
        simp only[xZ,JT];exact B05 (.list D vs hF ab hv) _ _ _ _ (by omega)
  ·rename_i e b sz r o m L;obtain⟨H,hc⟩:=ok.elem_slice L;have hsz:(sizeOf e).run P w= .ok b w:=by rw[<-hc];exact BU w (by rw[hc];exact hP ty ti e b M (.inl L))
   obtain⟨rfl,h⟩:=h;cases f:Za lo 0 with
   |none=>rw[f] at h;exact h.elim
   |some l=>
    rw[f] at h;cases c:Za hi m with
    |none=>rw[c] at h;exact h.elim
    |some h1=>
     rw[c] at h;cases k:Za mx m with
     |none=>rw[k] at h;exact h.elim
     |some x=>
      rw[k] at h;simp only[LL] at h;obtain⟨hb,O,h⟩:=h;obtain⟨A,cap,rfl,g⟩:∃A cap,y= .slice A m cap/\m<=cap:=by
       cases N with
       |slz=>exact⟨_,_,rfl,W? _⟩
       |sl Y g Q R=>exact⟨_,_,rfl,g⟩
      obtain⟨p,B,J⟩:∃p:Int,Za mx cap=some p/\h1<=p/\p<=cap:=by
       cases mx with
       |none=>exact⟨cap,rfl,by simp[Za] at k;omega,Int.le_refl _⟩
       |some mm=>exact⟨x,k,by omega,by omega⟩
      have j:=SM (P:=P) (isS:=true) X V hm g f c B ⟨hb.1,hb.2.1,J.1,J.2⟩ O;have q:(Instr.sliceAt ty (.slice A m cap) yl yh ym).run P w= .ok (.slice (if p.toNat=l.toNat then A else A.map (·.add (l.toNat*b))) (h1.toNat-l.toNat) (p.toNat-l.toNat)) w:=by
       unfold Instr.sliceAt;rw[Dk,run_underlying H w];simp only[FU];unfold Instr.slice;rw[Dk,run_underlying H w];simp only[FU];rw[Dk,j];simp only[FU];rw[Dk,hsz];rfl
      refine⟨_,_,q,?_,h⟩;have F:h1.toNat-l.toNat=(h1-l).toNat:=by omega
      rw[F];by_cases hz:p.toNat=l.toNat
      ·have h0:(h1-l).toNat=0:=by omega
       have aa:p.toNat-l.toNat=0:=by omega
       rw[h0,aa];cases N with
       |slz hr=>exact .slz hr
       |sl Y=>exact .slz (by rw[Y];simp)
      ·rw[C4 hz];cases N with
       |slz hr=>
        exact absurd (by omega) hz
       |sl Y D Q R=>
        simp only[xZ,JT,kX];refine .sl Y (by omega) Q ?_;have h3:(p.toNat-l.toNat)*b+l.toNat*b=p.toNat*b:=by rw[<-W_];congr 1;omega
        have h4:p.toNat*b<=cap*b:=l28 _ (by omega);omega
  ·rename_i e b L;obtain⟨H,hc⟩:=ok.elem_slice L;have hsz:(sizeOf e).run P w= .ok b w:=by rw[<-hc];exact BU w (by rw[hc];exact hP ty ti e b M (.inl L))
   obtain rfl:=AL.1 N;cases f:Za lo 0 with
   |none=>rw[f] at h;exact h.elim
   |some l=>
    rw[f] at h;cases c:Za hi 0 with
    |none=>rw[c] at h;exact h.elim
    |some h1=>
     rw[c] at h;simp only[LL] at h;obtain⟨hn,⟨rfl,rfl⟩,h⟩:=h;cases mx with
     |some _=>simp at hn
     |none=>
      cases ym with
      |some _=>exact hm.elim
      |none=>
       have j:=SM (P:=P) (isS:=true) X V hm (Mb 0) f c (show Za none 0=some ((0:Nat):Int) from rfl) ⟨by omega,by omega,by omega,by omega⟩ (by simp);refine⟨_,_,?_,.v _,h⟩;unfold Instr.sliceAt;rw[Dk,run_underlying H w];simp only[FU];unfold Instr.slice;rw[Dk,run_underlying H w];simp only[FU];rw[Dk,j];simp only[FU];rw[Dk,hsz];rfl
  ·exact h.elim
 ·exact h.elim
end
section
variable {K:AV->Prop} {C:Ctx} {P:Program} {w:World}
def B0x (off:Nat) (l:List Value):∀(k:Nat) (cs:Array Value),off+k+l.length<=cs.size->(l.zipIdx k).foldl (λ(cs:Array Value) (p:Value×Nat)=>cs.setIfInBounds (off+p.2) p.1) cs=(splice cs.toList (off+k) l).toArray:=by
 induction l with
 |nil=>intro k cs _;simp[rJ]
 |cons v l ih=>
  intro k cs h;simp only[List.zipIdx_cons,List.foldl_cons];simp only[LP] at h;rw[ih (k+1) _ (by simp;omega)]
  congr 1
  rw[<-mF (by simp;omega)];simp[kX]
def A3C (v:Value) (off:Nat) (cs:Array Value) (h:off+v.cells.size<=cs.size):v.cells.zipIdx.foldl (λ(cs:Array Value) (p:Value×Nat)=>cs.setIfInBounds (off+p.2) p.1) cs=(splice cs.toList off v.cells.toList).toArray:=by
 have:=B0x off v.cells.toList 0 cs (by simpa using h);rw[<-Array.foldl_toList];simpa using this
def SO (place:Nat->Option (Nat×Nat)):List (Nat×AV)->List AV->Option (List AV)
 |[],cs=>some cs
 |(i,a)::rest,cs=>match place i with
  |none=>none
  |some (off,sz)=>if(Bv a).length=sz/\off+(Bv a).length<=cs.length/\(Bv a).all AV.one=true then SO place rest (splice cs off (Bv a)) else none
theorem CG.splice {cs a:List AV} {ys zs:List Value} {o:Nat} (h:CG C w cs ys) (k:CG C w a zs):CG C w (splice cs o a) (splice ys o zs):=by
 unfold Abs.splice;rw[k.1];exact((h.take o).append k).append (h.drop _)
def gQ {place:Nat->Option (Nat×Nat)}:∀(ps:List (Nat×AV)) (b:List (Nat×Value)) (cs:List AV) (ys:List Value) (r:List AV),ps.length=b.length->(∀(j:Nat) (p:Nat×AV),ps[j]?=some p->∃z,b[j]?=some (p.1,z)/\VRel C w p.2 z)->CG C w cs ys->
 SO place ps cs=some r->∃f:List Value,Instr.fill place ys.toArray b=some f.toArray/\CG C w r f:=by
 intro ps
 induction ps with
 |nil=>
  intro b cs ys r e _ hr h;cases b with
  |cons _ _=>simp at e
  |nil=>simp[SO] at h;subst h;exact⟨ys,rfl,hr⟩
 |cons p ps ih=>
  intro b cs ys r e hq hr h;obtain⟨i,a⟩:=p;cases b with
  |nil=>simp at e
  |cons q b=>
   obtain⟨z,hz,hv⟩:=hq 0 (i,a) rfl;simp at hz;subst hz;simp only[SO] at h;split at h
   ·cases h
   ·rename_i off sz t;split at h
    ·rename_i hc;obtain⟨h1,h2,m⟩:=hc;obtain⟨c,k⟩:=hv.cells m;have g:z.cells.size=(Bv a).length:=by have:=c.1;simpa using this
     have u:ys.length=cs.length:=hr.1;obtain⟨f,n,d⟩:=ih b _ (splice ys off z.cells.toList) r (by simpa using e) (λj p s=>by have:=hq (j+1) p (by simpa using s);simpa using this) (hr.splice c) h;refine⟨f,?_,d⟩;simp only[Instr.fill,t];have c1:¬(z.cells.size≠sz||off+z.cells.size>ys.toArray.size)=true:=by simp;omega
     rw[C4 c1];rw[A3C z off ys.toArray (by simp;omega)];simpa using n
    ·cases h
def qM (T:Ty) (ty:TypeId) (ps:List (Nat×AV)) (K:AV->Prop):Prop:=
 match T ty with
 |some i=>match i.d with
  | .struct b=>(b.all λf=>f.2.1 !=0)=true/\LL (SO (λj=>(b[j]?).map λf=>(f.1,f.2.1)) ps (Bv i.zero)) λcs=>K (.agg cs)
  | .array _ _ a=>a≠0/\LL (SO (λj=>some (j*a,a)) ps (Bv i.zero)) λcs=>K (.agg cs)
  |_=>False
 |none=>False
def xV (z:Value) (h:∀vs,z≠.tuple vs):CG C w (Bv (sF z)) z.cells.toList:=by
 cases z with
 |agg cs=>simpa [sF,Bv,Value.cells] using Wh (C:=C) (w:=w) cs.toList
 |tuple vs=>exact absurd rfl (h vs)
 |_=>exact .cons (.v _) .nil
def A10 (w:World):∀(l:List Field),(l.all λf=>P.cellsOf f.type !=0)=true->(l.mapM (λf=>do pure (f.offset,<-sizeOf f.type):Field->Sem (Nat×Nat))).run P w= .ok (l.map λf=>(f.offset,P.cellsOf f.type)) w:=by
 intro l
 induction l with
 |nil=>intro _;rfl
 |cons f l ih=>
  intro h;simp only[pK,Kw,bne_iff_ne,ne_eq] at h;rw[List.mapM_cons];simp only[Dk,BU w h.1,FU,kW,ih h.2,WR]
def A? {T:Ty} (J:iP P T) {ty:TypeId} {ps:List (Nat×AV)} {k:List (Nat×Value)} (b:ps.length=k.length)
 (hq:∀(j:Nat) (p:Nat×AV),ps[j]?=some p->∃z,k[j]?=some (p.1,z)/\VRel C w p.2 z) (h:qM T ty ps K):∃v u,(Instr.build ty k.toArray).run P w= .ok u w/\VRel C w v u/\K v:=by
 unfold qM at h;split at h
 ·rename_i i L;have ok:=J ty i L;obtain⟨z,hz,D⟩:=ok.run_zero (P:=P) w;obtain⟨u,M,e⟩:=ok.under;have A:(Bv i.zero).length=z.cells.size->CG C w (Bv i.zero) z.cells.toList:=by
   intro _;rw[<-D];cases z with
   |tuple vs=>exact .cons (.v _) .nil
   |agg cs=>exact xV _ (by simp)
   |_=>exact .cons (.v _) .nil
  have B:(Bv i.zero).length=z.cells.size:=by
   rw[<-D];cases z<;>simp[sF,Bv,Value.cells]
  have g:=A B;split at h
  ·rename_i F q;obtain⟨a,h⟩:=h;rw[q] at e;cases u<;>simp[td] at e
   rename_i fields;cases d:SO (λj=>(F[j]?).map λf=>(f.1,f.2.1)) ps (Bv i.zero) with
   |none=>rw[d] at h;exact h.elim
   |some r=>
    rw[d] at h;obtain⟨m,h1,h2⟩:=gQ (C:=C) (w:=w) ps k _ _ r b hq g d;refine⟨.agg r,.agg m.toArray,?_,EM.2 ⟨m,rfl,h2⟩,h⟩;have hm:=A10 (P:=P) w fields.toList (by
     rw[<-e] at a;simpa [List.all_map,l1y] using a)
    have s:(fields.mapM (λf=>do pure (f.offset,<-sizeOf f.type):Field->Sem (Nat×Nat))).run P w= .ok (fields.toList.map λf=>(f.offset,P.cellsOf f.type)).toArray w:=by
     rw[Array.mapM_eq_mapM_toList,Sem.run_map,hm];rfl
    have x:(λ(j:Nat)=>((fields.toList.map λf=>(f.offset,P.cellsOf f.type)).toArray)[j]?)=(λ(j:Nat)=>(F[j]?).map λ(f:Nat×Nat×TypeId)=>(f.1,f.2.1)):=by
     funext j
     rw[<-e];simp[wR,l1y]
    unfold Instr.build;rw[Dk,hz];simp only[FU];rw[Dk,run_underlying M w];simp only[FU];rw[Dk,s];simp only[FU];rw[x];simp only[Array.toArray_toList] at h1;simp[h1]
  ·rename_i n H c q;obtain⟨t,h⟩:=h;obtain⟨y,hc⟩:=ok.elem_array q;have hsz:(sizeOf H).run P w= .ok c w:=by rw[<-hc];exact BU w (by rw[hc];exact t)
   cases d:SO (λj=>some (j*c,c)) ps (Bv i.zero) with
   |none=>rw[d] at h;exact h.elim
   |some r=>
    rw[d] at h;obtain⟨m,h1,h2⟩:=gQ (C:=C) (w:=w) ps k _ _ r b hq g d;refine⟨.agg r,.agg m.toArray,?_,EM.2 ⟨m,rfl,h2⟩,h⟩;simp only[Array.toArray_toList] at h1;unfold Instr.build;rw[Dk,hz];simp only[FU];rw[Dk,run_underlying y w];simp only[FU];rw[Dk,hsz];simp[h1]
  ·exact h.elim
 ·exact h.elim
def A80 (T:Ty) (ty:TypeId) (a:AV) (K:AV->Prop):Prop:=
 match T ty with
 |some i=>match i.d,a with
  | .string,.v (.string s)=>K (.v (.int .i64 s.size))
  | .slice ..,.list n _=>K (.v (.int .i64 n))
  | .slice ..,.sl _ _ _ n=>K (.v (.int .i64 n))
  | .slice ..,.v (.slice none 0 0)=>K (.v (.int .i64 0))
  | .array n _ _,_=>K (.v (.int .i64 n))
  |_,_=>False
 |none=>False
def A2r {T:Ty} (g:iP P T) {ty rt:TypeId} {ts:Array TypeId} {a:AV} {y:Value} (b:ts[0]?=some ty) (f:VRel C w a y) (h:A80 T ty a K):∃v u,(Builtin.len_ ts rt #[y]).run P w= .ok u w/\VRel C w v u/\K v:=by
 unfold A80 at h;split at h
 ·rename_i i j;have ok:=g ty i j;obtain⟨u,d,e⟩:=ok.under;split at h
  ·rename_i s c;obtain rfl:=AL.1 f;rw[c] at e;cases u<;>simp[td] at e
   exact⟨_,_,by simp[Builtin.len_,b,run_underlying d];rfl,.v _,h⟩
  ·rename_i c;rw[c] at e;cases u<;>simp[td] at e
   cases f with
   |list0=>exact⟨_,_,by simp[Builtin.len_,b,run_underlying d];rfl,.v _,h⟩
   |list=>exact⟨_,_,by simp[Builtin.len_,b,run_underlying d];rfl,.v _,h⟩
  ·rename_i c;rw[c] at e;cases u<;>simp[td] at e
   cases f with
   |slz=>exact⟨_,_,by simp[Builtin.len_,b,run_underlying d];rfl,.v _,h⟩
   |sl=>exact⟨_,_,by simp[Builtin.len_,b,run_underlying d];rfl,.v _,h⟩
  ·rename_i c;obtain rfl:=AL.1 f;rw[c] at e;cases u<;>simp[td] at e
   exact⟨_,_,by simp[Builtin.len_,b,run_underlying d];rfl,.v _,h⟩
  ·rename_i c;rw[c] at e;cases u<;>simp[td] at e
   obtain⟨rfl,_⟩:=e;exact⟨_,_,by simp[Builtin.len_,b,run_underlying d];rfl,.v _,h⟩
  ·exact h.elim
 ·exact h.elim
end
section
variable {K:AV->Hp->Prop}
def Kv (G:Gl) (w0:Base) (C:Ctx) (w:World) (v:AV) (H:Hp) (y:Value) (C':Ctx) (w':World):Prop:=VRel C' w' v y/\Rel G w0 C' H w'/\Ext w0.own C w C' w'
def dO (w:World) (o:Obj):Below w.heap.size w {w with heap:=w.heap.push o}:=
 ⟨rfl,rfl,rfl,by simp,λk a=>by simp[l2d,Nat.ne_of_lt a]⟩
def A1Q (w:World) (B:Nat):Below B w {w with drawn:=w.drawn+1}:=⟨rfl,rfl,rfl,Mb _,λ_ _=>rfl⟩
section
variable {P:Program} {G:Gl} {w0:Base} {w:World} {C:Ctx} {H:Hp}
def A53 (hr:Rel G w0 C H w) (T:TypeId) {cs:List AV} {arr:Array Value} (hv:CG C w cs arr.toList):
 Kv G w0 C w (.ptr (Ao H) 0 0) ((Ao H,.cells true T cs)::H) (.pointer (some ⟨w.heap.size,0,none⟩)) (C.put (Ao H) (some (w.heap.size,0))) {w with heap:=w.heap.push (.cells arr T)}:=by
 have hb:=dO w (.cells arr T);have a:arr.size=cs.length:=by simpa using hv.1
 refine⟨?_,hr.new (q:=true) hb (arr:=arr) (fz:=(0,0)) (by simp) (λi _=>by omega) (by omega) (by rw[W! (by simp;omega)];exact hv) (λ_=>a),hr.new_ext hb⟩;have:VRel (C.put (Ao H) (some (w.heap.size,0))) {w with heap:=w.heap.push (.cells arr T)} (.ptr (Ao H) 0 0) (.pointer (some ⟨w.heap.size,0+(0+0),none⟩)):= .ptr (C.put_n _ _);simpa using this
def YI (hr:Rel G w0 C H w) {w':World} (hb:Below w.heap.size w w') (T:TypeId) {cs:List AV} {arr:Array Value} {fz:Nat×Nat} (c:w'.heap[w.heap.size]?=some (.cells arr T fz)) (QK:∀i,i<arr.size->¬(fz.1<=i/\i<fz.2))
 (sz n cap:Nat) (a:n<=cap) (hsz:cap*sz<=arr.size) (b:cs.length<=arr.size) (hv:CG (C.sel false) w cs (arr.toList.take cs.length)):
 Kv G w0 C w (.sl sz (Ao H) 0 n) ((Ao H,.cells false T cs)::H) (.slice (some ⟨w.heap.size,0,none⟩) n cap) (C.put (Ao H) (some (w.heap.size,0))) w':=by
 refine⟨?_,hr.new (q:=false) hb c QK b hv (λh=>by cases h),hr.new_ext hb⟩;have:VRel (C.put (Ao H) (some (w.heap.size,0))) w' (.sl sz (Ao H) 0 n) (.slice (some ⟨w.heap.size,0+0,none⟩) n cap):= .sl (C.put_n _ _) a c (by omega);simpa using this
def qQ (T:Ty) (ty:TypeId) (H:Hp) (r:Nat) (K:AV->Hp->Prop):Prop:=
 match T ty with
 |some i=>K (.ptr r 0 0) ((r,.cells true ty (Bv i.zero))::H)
 |none=>False
def OU {t:TypeId} {i:TI} {z:Value} (a:sF z=i.zero):CG C w (Bv i.zero) z.cells.toList:=by
 rw[<-a];cases z with
 |agg cs=>exact xV _ (by simp)
 |_=>exact .cons (.v _) .nil
def A_ {T:Ty} (e:iP P T) {ty:TypeId} (hr:Rel G w0 C H w) (h:qQ T ty H (Ao H) K):∃v a y c b,K v a/\(Instr.alloc ty true (.tuple #[])).run P w= .ok y b/\Kv G w0 C w v a y c b:=by
 unfold qQ at h;split at h
 ·rename_i i f;obtain⟨z,hz,d⟩:=(e ty i f).run_zero (P:=P) w;refine⟨_,_,_,_,_,h,?_,A53 hr ty (OU (t:=ty) d)⟩;simp[Instr.alloc,hz,newVar,newRow]
 ·exact h.elim
def B67 (ty:TypeId) (a:AV) (H:Hp) (r:Nat) (K:AV->Hp->Prop):Prop:=(Bv a).all AV.one=true/\K (.ptr r 0 0) ((r,.cells true ty (Bv a))::H)
def A2s {ty:TypeId} {a:AV} {y:Value} (hr:Rel G w0 C H w) (e:VRel C w a y) (h:B67 ty a H (Ao H) K):∃v b z d c,K v b/\(Instr.box ty y).run P w= .ok z c/\Kv G w0 C w v b z d c:=by
 obtain⟨h1,h⟩:=h;refine⟨_,_,_,_,_,h,?_,A53 hr ty (e.cells h1).1⟩;simp[Instr.box,newVar,newRow]
def Xz:Nat->List AV->List AV
 |0,_=>[]
 |n+1,z=>z++Xz n z
def dY (z:Array Value):∀n,(Array.range (n*z.size)).map (λi=>z[i%z.size]!)=((List.range n).flatMap λ_=>z.toList).toArray:=by
 intro n;apply oQ;simp only[Array.toList_map,Array.toList_range]
 induction n with
 |zero=>simp
 |succ n ih=>
  rw[List.range_succ,l2m,<-ih,Nat.succ_mul,List.range_add,YN]
  congr 1
  simp only[List.map_map,pP,List.flatMap_nil,Wi];apply l0p;intro j;by_cases a:j<z.size
  ·simp[a,Nat.mod_eq_of_lt a]
  ·simp[a]
def eT (z:List AV):∀n,Xz n z=(List.range n).flatMap λ_=>z:=by
 intro n
 induction n with
 |zero=>rfl
 |succ n ih=>rw[List.range_succ_eq_map];simp[Xz,ih,List.flatMap_map]
def YL {cs:List AV} {zs:List Value} (h:CG C w cs zs):∀n,CG C w ((List.range n).flatMap λ_=>cs) ((List.range n).flatMap λ_=>zs):=by
 intro n
 induction n with
 |zero=>exact .nil
 |succ n ih=>
  rw[List.range_succ,l2m,l2m];refine ih.append ?_;simpa using h
def Xy (z:List AV):∀n,(Xz n z).length=n*z.length:=by
 intro n
 induction n with
 |zero=>simp[Xz]
 |succ n ih=>simp[Xz,ih,Nat.succ_mul,Nat.add_comm]
def iL {place:Nat->Option (Nat×Nat)}:∀(ps:List (Nat×AV)) (cs r:List AV),SO place ps cs=some r->r.length=cs.length:=by
 intro ps
 induction ps with
 |nil=>intro cs r h;simp[SO] at h;subst h;rfl
 |cons p ps ih=>
  intro cs r h;obtain⟨i,a⟩:=p;simp only[SO] at h;split at h
  ·cases h
  ·split at h
   ·rename_i hc;rw[ih _ _ h,FT hc.2.1]
   ·cases h
def eE (T:Ty) (ty:TypeId) (n:Nat) (ps:List (Nat×AV)) (H:Hp) (r:Nat) (K:AV->Hp->Prop):Prop:=
 match T ty with
 |some i=>match i.d with
  | .slice e a=>match T e with
   |some b=>a≠0/\(Bv b.zero).length=a/\n*a<=2^24/\LL (SO (λj=>some (j*a,a)) ps (Xz n (Bv b.zero))) λcs=>K (.sl a r 0 n) ((r,.cells false e cs)::H)
   |none=>False
  |_=>False
 |none=>False
def vF {T:Ty} (O:iP P T) {ty:TypeId} {n:Nat} {ps:List (Nat×AV)} {m:List (Nat×Value)} (c:ps.length=m.length)
 (hq:∀(j:Nat) (p:Nat×AV),ps[j]?=some p->∃z,m[j]?=some (p.1,z)/\VRel C w p.2 z) (hr:Rel G w0 C H w) (h:eE T ty n ps H (Ao H) K):
 ∃v N y V R,K v N/\(Instr.buildSlice ty n m.toArray).run P w= .ok y R/\Kv G w0 C w v N y V R:=by
 unfold eE at h;split at h
 ·rename_i i Z;have ok:=O ty i Z;split at h
  ·rename_i e a Y;split at h
   ·rename_i k A;obtain⟨d,F,Q,h⟩:=h;obtain⟨hu,hc⟩:=ok.elem_slice Y;have M:=O e k A;obtain⟨z,hz,X⟩:=M.run_zero (P:=P) w;have hsz:(sizeOf e).run P w= .ok a w:=by rw[<-hc];exact BU w (by rw[hc];exact d)
    have f:CG C w (Bv k.zero) z.cells.toList:=OU (t:=e) X;have J:z.cells.size=a:=by have:=f.1;simp at this;omega
    cases g:SO (λj=>some (j*a,a)) ps (Xz n (Bv k.zero)) with
    |none=>rw[g] at h;exact h.elim
    |some r=>
     rw[g] at h;have L:CG C w (Xz n (Bv k.zero)) ((List.range n).flatMap λ_=>z.cells.toList):=by rw[eT];exact YL f n
     obtain⟨q,h1,h2⟩:=gQ (C:=C) (w:=w) ps m _ _ r c hq L g;have b:¬(n*a>2^24):=by omega
     have D:q.length=n*a:=by rw[h2.1,iL _ _ _ g,Xy,F]
     have u:CG (C.sel false) w r q:=h2;have key:=YI hr (dO w (.cells q.toArray e)) e (cs:=r) (arr:=q.toArray) (fz:=(0,0)) (by simp) (λi _=>by omega) a n n (Mb _) (by simp[D]) (by simp;exact Nat.le_of_eq h2.1.symm) (by rw[W! (by simp;exact Nat.le_of_eq h2.1)];simpa using u);refine⟨_,_,_,_,_,h,?_,key⟩;unfold Instr.buildSlice;rw[Dk,run_underlying hu w];simp only[FU];rw[Dk,hsz];simp only[FU,C4 b,pure_bind];by_cases s:n*a=0
     ·have B:n=0:=by rcases Nat.mul_eq_zero.1 s with h|h;exact h;exact absurd h d
      subst B;rw[Dj s];simp only[List.range_zero,List.flatMap_nil] at h1;rw[show(Array.map (λx=>(#[]:Array Value)[x%(#[]:Array Value).size]!) (Array.range (0*a)))= #[] from by rw[Nat.zero_mul];apply oQ;simp,h1];simp[newRow]
     ·rw[C4 s,Dk,hz];simp only[FU];have:=dY z.cells n;rw[J] at this⊢;rw[this,h1];simp[newRow]
   ·exact h.elim
  ·exact h.elim
 ·exact h.elim
end
end
section
variable {q q':Bool} {aZ:List AV} {ys:List Value}
def A1U (H:Hp) (x:AV):Option (Nat×List AV×Bool):=
 match x with
 | .list m cs=>some (m,cs,true)
 | .sl sz r o m=>match Aj H r with
  |some (.cells q _ cs)=>some (m,(cs.drop o).take (m*sz),q)
  |_=>none
 | .v (.slice none 0 0)=>some (0,[],true)
 | .v (.string s)=>some (s.size,s.data.toList.map λb=> .v (.int .u8 b.toNat),true)
 |_=>none
section
variable {P:Program} {G:Gl} {w0:Base} {w:World} {C:Ctx} {H:Hp}
def WL {x:AV} {y:Value} {m:Nat} {ys:List AV} {esz:Nat} (hr:Rel G w0 C H w) (A:VRel C w x y) (h:A1U H x=some (m,ys,q)) (N:ys.length=m*esz) (hs:∀s,x= .v (.string s)->esz=1):
 (Builtin.lenOf y).run P w= .ok m w/\∃vs:List Value,CG (C.sel q) w ys vs/\∀W:World,(∀k,k<w.heap.size->W.heap[k]?=w.heap[k]?)->(Builtin.firstCells esz m y).run P W= .ok vs.toArray W:=by
 have mem:∀(D:Ctx) (b o:Nat) (cs:List AV),MH D w b o cs->cs.length=m*esz->(0<cs.length->b<w.heap.size)->∃vs:List Value,CG D w cs vs/\∀W:World,(∀k,k<w.heap.size->W.heap[k]?=w.heap[k]?)->(loadCells ⟨b,o,none⟩ (m*esz)).run P W= .ok vs.toArray W:=by
  intro D b o cs hc t hb;obtain⟨vs,h1,h2⟩:=hc;refine⟨vs,h1,λW n=> ?_⟩;have K:vs.length=m*esz:=by rw[h1.1,t]
  have:=run_loadCells_list (P:=P) W ⟨b,o,none⟩ vs (λj v hv=>by
   rw[JT];have hj:j<vs.length:=(yB.1 hv).1;rw[l0t (w:=w) (n b (hb (by rw[<-h1.1];omega)))];exact h2 j v hv)
  rwa[K] at this
 unfold A1U at h;split at h
 ·rename_i O cs;injection h with h;injection h with d c;injection c with c g;subst d c g
  cases A with
  |list0=>
   refine⟨rfl,[],.nil,λW _=> ?_⟩;rename_i a cap;cases a with
   |none=>rfl
   |some Q=>simp[Builtin.firstCells,loadCells,loadCellsFrom]
  |list p vs Y B hv=>
   rename_i cap b o;obtain⟨i,h1,h2⟩:=mem C.bare b o cs (uI vs B hv) N (λu=>hr.fin b _ (Y 0 u));exact⟨rfl,i,(h1.up rfl rfl),λW n=>h2 W n⟩
 ·rename_i sz r o O;split at h
  ·rename_i q' E cs J;injection h with h;injection h with d c;injection c with c g;subst d c g
   cases A with
   |slz aa=>
    have:((cs.drop o).take (0*sz))=[]:=by simp
    rw[this];rename_i a;refine⟨rfl,[],.nil,λW _=> ?_⟩;cases a with
    |none=>rfl
    |some Q=>simp[Builtin.firstCells,loadCells,loadCellsFrom]
   |sl u p Z M=>
    rcases hr.rows r _ J with⟨h5,X⟩|⟨R,f,L,V,F⟩
    ·rw[X] at u;cases u
    ·have e:=F.at_.symm.trans u;injection e with e;injection e with e;injection e with d c;subst d c
     obtain⟨i,h1,h2⟩:=mem (C.sel q') R (f+o) _ ((F.atq.drop o).take (O*sz)) N (λ_=>F.lt);exact⟨rfl,i,h1,λW n=>h2 W n⟩
  ·cases h
 ·injection h with h;injection h with d c;injection c with c g;subst d c g
  obtain rfl:=AL.1 A;exact⟨rfl,[],.nil,λW _=>rfl⟩
 ·rename_i s;injection h with h;injection h with d c;injection c with c g;subst d c g
  obtain rfl:=AL.1 A;have:=hs s rfl;subst this;refine⟨rfl,s.data.toList.map λb=> .int .u8 b.toNat,?_,λW _=> ?_⟩
  ·have:=Wh (C:=C.sel true) (w:=w) (s.data.toList.map λb=>Value.int .u8 b.toNat);simpa [l1y] using this
  ·simp only[Builtin.firstCells,kW]
   congr 1
   have:s.extract 0 s.size=s:=by
    apply ByteArray.ext;simp
   rw[this];obtain⟨⟨l⟩⟩:=s;simp only[List.map_toArray]
 ·cases h
def wO (h:CG (C.sel q) w aZ ys):CG (C.sel q') w aZ ys:=h
def tB (h:CG (C.sel q') w aZ ys):CG (C.sel q) w aZ ys:=h
def Rel.virtual (hr:Rel G w0 C H w) (q:Bool) (E:TypeId):Rel G w0 (C.put (Ao H) none) ((Ao H,.cells q E [])::H) w:=by
 have g:C.π (Ao H)=none:=hr.nx _ (Mb _);have e:Ext w0.own C w (C.put (Ao H) none) w:=Ctx.put_ext g (.refl _ _ _);refine⟨hr.glob,hr.below,?_,?_,?_,?_,hr.fin,hr.finB,?_⟩
 ·intro r x a;simp only[Aj] at a;split at a
  ·rename_i h;subst h;rw[C.put_n];simp
  ·rw[e.π r (hr.lt r x a)];exact hr.lt r x a
 ·intro r x a;simp only[Aj] at a;split at a
  ·rename_i h;subst h;injection a with a;subst a
   exact Or.inl ⟨rfl,C.put_n _ none⟩
  ·exact(hr.rows r x a).mono e (λ_ _ _=>rfl)
 ·intro r x b o a c;simp only[Aj] at a;split at a
  ·rename_i h;subst h;rw[C.put_n] at c;cases c
  ·rename_i h;rw[C.put_ne _ h] at c;exact hr.own r x b o a c
 ·intro r j x k b o i a f c d;simp only[Aj] at a f;split at a
  ·rename_i h;subst h;rw[C.put_n] at c;cases c
  ·rename_i h1;split at f
   ·rename_i h;subst h;rw[C.put_n] at d;cases d
   ·rename_i h2;rw[C.put_ne _ h1] at c;rw[C.put_ne _ h2] at d;exact hr.sep r j x k b o i a f c d
 ·intro r h;have h:Ao H+1<=r:=h;rw[C.put_ne _ (by omega)];exact hr.nx r (by omega)
def Rel.extend (hr:Rel G w0 C H w) {w':World} {r1:Nat} {E:TypeId} {cs aZ:List AV} {b base o:Nat} {arr:Array Value} {fz:Nat×Nat} (B:Aj H r1=some (.cells q E cs)) (r:Laid C w r1 q E cs b base arr fz) (ho:o<=cs.length)
 (hv:CG (C.sel q') w aZ ys) (M:base+cs.length+aZ.length<=arr.size) (p:SameBut w w' b E (splice arr.toList (base+cs.length) ys).toArray fz):
 Rel G w0 (C.put (Ao H) (some (b,base+o))) ((Ao H,.cells false E (cs.drop o++aZ))::cut H r1) w'/\Ext w0.own C w (C.put (Ao H) (some (b,base+o))) w':=by
 have F:C.π (Ao H)=none:=hr.nx _ (Mb _);have g:=hr.own r1 _ b base B r.at_;have Y:ys.length=aZ.length:=hv.1;have hsz:(splice arr.toList (base+cs.length) ys).toArray.size=arr.size:=by
  simp only[List.size_toArray];rw[FT (by simp;omega)];simp
 have Q:Ext w0.own C w C w':=p.ext r.block hsz g.2.1 g.2.2;have e:Ext w0.own C w (C.put (Ao H) (some (b,base+o))) w':=Ctx.put_ext F Q;have a:∀s x,Aj (cut H r1) s=some x->s≠r1/\Aj H s=some x:= λs x c=>by
  by_cases p:s=r1
  ·subst p;rw[PN] at c;cases c
  ·rw[Tl p] at c;exact⟨p,c⟩
 refine⟨⟨hr.glob.mono e,?_,?_,?_,?_,?_,λk i X=>p.size▸hr.fin k i X,λk V=>p.size▸hr.finB k V,λk O=>by
  have O:Ao H+1<=k:=O;rw[C.put_ne _ (by omega)];exact hr.nx k (by omega)⟩,e⟩
 ·exact hr.below.same p g.1
 ·intro s x c;simp only[Aj] at c;split at c
  ·rename_i h;subst h;rw[C.put_n];simp
  ·rw[e.π s (hr.lt s x (a s x c).2)];exact hr.lt s x (a s x c).2
 ·intro s x c;simp only[Aj] at c;split at c
  ·rename_i h;subst h;injection c with c;subst c
   refine Or.inr ⟨b,base+o,_,fz,C.put_n _ _,p.here,by rw[hsz];exact r.free,by rw[hsz];simp;omega,?_,λh=>by cases h⟩;have u:CG ((C.put (Ao H) (some (b,base+o))).sel false) w' cs _:=r.vals.mono (e.sel q);have K:CG ((C.put (Ao H) (some (b,base+o))).sel false) w' aZ ys:=hv.mono (e.sel q');have J:((splice arr.toList (base+cs.length) ys).drop (base+o)).take (cs.drop o++aZ).length=((arr.toList.drop base).take cs.length).drop o++ys:=by
    apply l0p;intro j;simp only[EY,l0u];rw[X?];by_cases N:j<cs.length-o+aZ.length
    ·rw[Dj N,tH,OY (by simp;omega)];by_cases h1:j<cs.length-o
     ·rw[Dj (by omega),l0m (by simp;omega),tH,X?,Dj (by omega),tH]
      congr 1;omega
     ·rw[C4 (by omega),Dj (by omega),l0o (by simp;omega)]
      congr 1
      simp;omega
    ·rw[C4 N]
     symm
     rw[List.getElem?_eq_none_iff];simp;omega
   simp only[];rw[J];exact(u.drop o).append K
  ·refine(hr.rows s x (a s x c).2).mono e (λk D d=>p.others k (λR=> ?_));subst R;exact(a s x c).1 (hr.sep s r1 x _ _ _ _ (a s x c).2 B d r.at_)
 ·intro s x k Z c d;simp only[Aj] at c;split at c
  ·rename_i h;subst h;rw[C.put_n] at d;injection d with d;injection d with d;injection d with t L;subst t
   exact g
  ·rename_i m;rw[C.put_ne _ m] at d;exact hr.own s x k Z (a s x c).2 d
 ·intro s y x A k o1 o2 c n d f;simp only[Aj] at c n;split at c
  ·rename_i h;subst h;rw[C.put_n] at d;injection d with d;injection d with d;injection d with t L;subst t
   split at n
   ·rename_i h;exact h.symm
   ·rename_i m;rw[C.put_ne _ m] at f;exact absurd (hr.sep y r1 A _ _ _ _ (a y A n).2 B f r.at_) (a y A n).1
  ·rename_i m;split at n
   ·rename_i h;subst h;rw[C.put_n] at f;injection f with f;injection f with f;injection f with t L;subst t
    rw[C.put_ne _ m] at d;exact absurd (hr.sep s r1 x _ _ _ _ (a s x c).2 B d r.at_) (a s x c).1
   ·rename_i v;rw[C.put_ne _ m] at d;rw[C.put_ne _ v] at f;exact hr.sep s y x A k o1 o2 (a s x c).2 (a y A n).2 d f
end
end
def Y0 (T:Ty) (t1 t2:TypeId) (s x:AV) (H:Hp) (r:Nat) (K:AV->Hp->Prop):Prop:=
 match T t1,T t2 with
 |some i1,some i2=>match i1.d with
  | .slice e a=>match T e with
   |some b=>(a≠0/\(Bv b.zero).length=a/\(match i2.d with| .slice .. =>True| .string=>True|_=>False)/\(match x with| .v (.string _)=>a=1|_=>True))/\LL (A1U H x) λp=>
    (p.2.1.length=p.1*a/\p.2.1.all AV.one=true)/\(match s with
     | .v (.slice none 0 0)=>(p.1*b.bytes<=2^46/\p.1<=2^46)/\(if p.1=0 then K (.v (.slice none 0 0)) H else K (.sl a r 0 p.1) ((r,.cells false e p.2.1)::H))
     | .sl sz r1 o n=>match Aj H r1 with
      |some (.cells q E cs)=>(E=e/\sz=a/\o+n*a=cs.length/\(n+p.1)*b.bytes<=2^46/\n+p.1<=2^46)/\K (.sl a r 0 (n+p.1)) ((r,.cells false e (cs.drop o++p.2.1))::cut H r1)
      |_=>False
     |_=>False)
   |none=>False
  |_=>False
 |_,_=>False
section
variable {P:Program} {G:Gl} {w0:Base} {w:World} {C:Ctx} {H:Hp}
def A6S (a:Nat):∀(rounds c:Nat),c<a->Builtin.growBy a rounds c<=a+(a+768)/4:=by
 intro rounds
 induction rounds with
 |zero=>intro c h;simp[Builtin.growBy];omega
 |succ n ih=>
  intro c h;simp only[Builtin.growBy];rw[C4 (by omega)];by_cases h2:c+(c+768)/4<a
  ·exact ih _ h2
  ·cases n with
   |zero=>simp[Builtin.growBy];omega
   |succ n=>simp only[Builtin.growBy];rw[Dj (by omega)];omega
def A3e (a b:Nat) (h:b<a):Builtin.nextslicecap a b<=2*a:=by
 unfold Builtin.nextslicecap;split
 ·omega
 ·split
  ·omega
  ·have:=A6S a 4 b h;omega
def mU {t1 t2 e:TypeId} {inf:TypeInfo} {z:Value} {esz:Nat} {J:TypeDesc} (Q:P.underlying t1=some (.slice e)) (b:P.info? e=some inf) (hsz:inf.size=esz) (hz:inf.zero=some z) (D:z.cells.size=esz)
 (B:P.underlying t2=some J) (x:(∃L,J= .slice L)\/J= .string) {ts:Array TypeId} (h1:ts[0]?=some t1) (h2:ts[1]?=some t2) {ty:TypeId} {base:Option Addr} {n cap m:Nat} {y:Value} (p:(Builtin.lenOf y).run P w= .ok m w)
 (j:cap<n+m) (M:(n+m)*inf.bytes<=2^46) (N:n+m<=2^46) {a new:List Value}
 (t:(Builtin.firstCells esz n (.slice base n cap)).run P {w with drawn:=w.drawn+1}= .ok a.toArray {w with drawn:=w.drawn+1})
 (s:(Builtin.firstCells esz m y).run P {w with drawn:=w.drawn+1}= .ok new.toArray {w with drawn:=w.drawn+1}) (A:a.length=n*esz) (v:new.length=m*esz):
 ∃(c:Nat) (arr:Array Value) (K:World),n+m<=c/\(Builtin.append_ ts ty #[.slice base n cap,y]).run P w= .ok (.slice (some ⟨w.heap.size,0,none⟩) (n+m) c) K/\Below w.heap.size w K/\K.heap[w.heap.size]?=some (.cells arr e (0,0))/\arr.toList.take (a++new).length=a++new/\arr.size=c*esz:=by
 have f:=A3e (n+m) cap j;have i:¬(Builtin.nextslicecap (n+m) cap*inf.bytes>2^48):=by
  have:=l28 inf.bytes f;rw[Nat.mul_assoc] at this;omega
 let q:Question:= .appendCap (n+m) cap e
 let c:=q.cut (w.tape w.drawn q)
 have hc:n+m<=c:=by show n+m<=n+m+_;omega
 refine⟨c,a.toArray++new.toArray++Builtin.zeroCells z.cells (c-(n+m)),{ {w with drawn:=w.drawn+1} with heap:=w.heap.push (.cells (a.toArray++new.toArray++Builtin.zeroCells z.cells (c-(n+m))) e)},hc,?_,?_,by simp,?_,?_⟩
 ·have u:¬(n+m<=cap):=by omega
  have r:IntKind.i64.max=9223372036854775807:=by decide
  have g:(sizeOf e).run P w= .ok esz w:=by simp[sizeOf,typeInfo,b,hsz]
  have h:∀W:World,(typeInfo e).run P W= .ok inf W:= λW=>by simp[typeInfo,b]
  have F:∀W:World,(zeroValue e).run P W= .ok z W:= λW=>by simp[zeroValue,typeInfo,b,hz]
  have d:¬(((n+m:Nat):Int)>IntKind.i64.max/\(false=true\/inf.bytes=0)):=by rw[r];omega
  rcases x with⟨L,rfl⟩|rfl
  all_goals
   unfold Builtin.append_;simp only[h1,h2,l15,l21,l0r];rw[Dk,run_underlying Q w];simp only[FU];rw[Dk,g];simp only[FU];rw[Dk,run_underlying B w];simp only[FU];rw[Dk,kW];simp only[FU,xY,if_false];rw[Dk,p];simp only[FU,C4 u];rw[Dk,h];simp only[FU];rw[C4 (by simpa using d),Dk,h];simp only[FU,C4 i];rw[Dk,run_choose,C4 (by simp[Question.forced])];simp only[FU];rw[Dk,h];simp only[FU];rw[Dk,run_askRoom];simp only[FU];rw[Dk,t];simp only[FU,Bool.not_false,if_true];rw[Dk,s];simp only[FU];rw[Dk,F];simp only[FU];simp only[newRow,Dk,run_newObj,FU,kW];rfl
 ·refine⟨rfl,rfl,rfl,by simp,λk O=>by simp[l2d,Nat.ne_of_lt O]⟩
 ·simp only[Array.toList_append,dW];rw[<-dW];exact List.take_left
 ·simp[Builtin.zeroCells,D,A,v];rw[<-W_,<-W_]
  congr 1;omega
end
section
variable {s x:AV} {K:AV->Hp->Prop} {y:Value}
section
variable {P:Program} {G:Gl} {w0:Base} {w:World} {C:Ctx} {H:Hp}
def T2 {t1 t2 e:TypeId} {esz:Nat} {j:TypeDesc} (p:P.underlying t1=some (.slice e)) (c:(sizeOf e).run P w= .ok esz w)
 (i:P.underlying t2=some j) (h:(∃k,j= .slice k)\/j= .string) {ts:Array TypeId} (h1:ts[0]?=some t1) (h2:ts[1]?=some t2) {ty:TypeId} {base:Option Addr} {n cap m:Nat} (f:(Builtin.lenOf y).run P w= .ok m w)
 (d:n+m<=cap) {new:List Value} (g:(Builtin.firstCells esz m y).run P w= .ok new.toArray w) {w':World}
 (b:(match base with|some a=>storeCells (a.add (n*esz)) new|none=>pure ():Sem Unit).run P w= .ok () w'):
 (Builtin.append_ ts ty #[.slice base n cap,y]).run P w= .ok (.slice base (n+m) cap) w':=by
 rcases h with⟨k,rfl⟩|rfl
 all_goals
  unfold Builtin.append_;simp only[h1,h2,l15,l21,l0r];rw[Dk,run_underlying p w];simp only[FU];rw[Dk,c];simp only[FU];rw[Dk,run_underlying i w];simp only[FU];rw[Dk,kW];simp only[FU,xY,if_false];rw[Dk,f];simp only[FU,Dj d,Bool.not_false,if_true];rw[Dk,g];simp only[FU];cases base with
  |none=>
   simp only[kW] at b;injection b with _ b
   subst b;rfl
  |some a=>
   simp only at b;simp only[Dk];rw[b];rfl
def A11 {c:List AV} {ys:List Value} (h:CG C w c ys) (h1:c.all AV.one=true):∀v∈ys,v.oneCell'=true:=by
 intro v hv;obtain⟨i,d⟩:=List.getElem?_of_mem hv;have a:i<c.length:=by rw[<-h.1];exact(yB.1 d).1
 obtain⟨y,b,hr⟩:=h.2 i _ (K9 a);rw[d] at b;injection b with b
 subst b;exact hr.one (GH.1 h1 _ (Qe a))
def Xo {T:Ty} (hT:iP P T) {t1 t2 ty:TypeId} {y z:Value} {ts:Array TypeId} (h1:ts[0]?=some t1) (h2:ts[1]?=some t2) (hr:Rel G w0 C H w) (hs:VRel C w s y) (hx:∀(esz m:Nat) (ys:List AV) (q:Bool),A1U H x=some (m,ys,q)->ys.length=m*esz->(∀s,x= .v (.string s)->esz=1)->(Builtin.lenOf z).run P w= .ok m w/\∃vs:List Value,CG (C.sel q) w ys vs/\∀W:World,(∀k,k<w.heap.size->W.heap[k]?=w.heap[k]?)->(Builtin.firstCells esz m z).run P W= .ok vs.toArray W) (h:Y0 T t1 t2 s x H (Ao H) K):
 ∃v H' u V w',K v H'/\(Builtin.append_ ts ty #[y,z]).run P w= .ok u w'/\Kv G w0 C w v H' u V w':=by
 unfold Y0 at h;split at h
 ·rename_i i1 i2 bf bg;split at h
  ·rename_i e esz hd;split at h
   ·rename_i ie bh;obtain⟨⟨bv,bz,ax,ah⟩,h⟩:=h;cases Q:A1U H x with
    |none=>rw[Q] at h;exact h.elim
    |some p=>
     obtain⟨m,ys,q2⟩:=p;rw[Q] at h;simp only[LL] at h;obtain⟨⟨N,a4⟩,h⟩:=h;obtain⟨hu,hc⟩:=(hT t1 i1 bf).elem_slice hd;obtain⟨u2,Y,an⟩:=(hT t2 i2 bg).under;have X:(∃e2,u2= .slice e2)\/u2= .string:=by
      cases u2<;>simp[td] at an<;>rw[<-an] at ax<;>simp at ax⊢
     have a7:∀q,x= .v (.string q)->esz=1:=by
      intro q hq;subst hq;exact ah
     obtain⟨F,vs,M,D⟩:=hx esz m ys q2 Q N a7;have bo:=hT e ie bh;obtain⟨inf,zv,O,bs,bc,hz,ez⟩:=bo.info;have bd:P.cellsOf e=inf.size:=by simp[Program.cellsOf,O]
     have hsz:inf.size=esz:=by rw[<-bd,hc]
     have B:(sizeOf e).run P w= .ok esz w:=by simp[sizeOf,typeInfo,O,hsz]
     have bn:zv.cells.size=esz:=by
      have:=(OU (C:=C) (w:=w) (t:=e) (i:=ie) ez).1;simp at this;omega
     have ak:vs.length=m*esz:=by rw[M.1,N]
     have r:=D w (λ_ _=>rfl);have af:=D {w with drawn:=w.drawn+1} (λ_ _=>rfl);have grow:∀(base:Option Addr) (n cap:Nat) (g:List Value) (q1:Bool) (cs:List AV) (Hc:Hp),Ao Hc=Ao H->Rel G w0 C Hc w->cap<n+m->(n+m)*ie.bytes<=2^46->n+m<=2^46->CG (C.sel q1) w cs g->cs.length=n*esz->
      (Builtin.firstCells esz n (.slice base n cap)).run P {w with drawn:=w.drawn+1}= .ok g.toArray {w with drawn:=w.drawn+1}->
      ∃u V w',(Builtin.append_ ts ty #[.slice base n cap,z]).run P w= .ok u w'/\Kv G w0 C w (.sl esz (Ao H) 0 (n+m)) ((Ao H,.cells false e (cs++ys))::Hc) u V w':=by
      intro base n cap g q1 cs Hc bj bm aa J L ae aq a3;have ag:g.length=n*esz:=by rw[ae.1,aq]
      obtain⟨c,arr,w',ab,f,ao,ap,ai,Z⟩:=mU (P:=P) (w:=w) (ty:=ty) hu O hsz hz bn Y X h1 h2 F aa (by rw[bc];exact J) L a3 af ag ak;refine⟨_,_,w',f,bj▸YI bm ao e ap (λi _=>by omega) esz (n+m) c ab (by rw[Z];exact Mb _) ?_ ?_⟩
      ·rw[Z,EY,aq,N,<-W_];exact l28 _ ab
      ·have:(cs++ys).length=(g++vs).length:=by simp[ae.1,M.1]
       rw[this,ai];exact(wO ae).append (tB M)
     split at h
     ·obtain⟨⟨J,L⟩,h⟩:=h;obtain rfl:=AL.1 hs;by_cases hm:m=0
      ·subst hm;have am:ys=[]:=mL (by simpa using N);subst am;have aj:vs=[]:=mL (by simpa using ak);subst aj;exact⟨_,_,_,C,w,h,T2 (P:=P) (ty:=ty) (base:=none) (n:=0) (cap:=0) hu B Y X h1 h2 F (Mb _) r (by rfl),.v _,hr,.refl _ _ _⟩
      ·obtain⟨u,V,w',f,R⟩:=grow none 0 0 [] false [] H rfl hr (by omega) (by simpa using J) (by simpa using L) .nil (by simp) rfl;rw[C4 hm] at h;exact⟨_,_,u,V,w',h,f,by simpa using R⟩
     ·rename_i sz r1 o n;split at h
      ·rename_i q1 E cs ay;obtain⟨⟨rfl,rfl,a8,J,L⟩,h⟩:=h;have ac:(cs.drop o).length=n*sz:=by simp;omega
       cases hs with
       |slz bx=>
        rename_i a;have h0:cs.drop o=[]:=mL (by rw[ac];simp);by_cases hm:m=0
        ·subst hm;have am:ys=[]:=mL (by simpa using N);subst am;have aj:vs=[]:=mL (by simpa using ak);subst aj;refine⟨_,_,_,C.put (Ao H) none,w,h,T2 (P:=P) (ty:=ty) (base:=a) (n:=0) (cap:=0) hu B Y X h1 h2 F (Mb _) r (w':=w) (by cases a<;>rfl),.slz (by rw[C.put_n];simp),?_,Ctx.put_ext (hr.nx _ (Mb _)) (.refl _ _ _)⟩;have:=(hr.cut_row r1).virtual false E;simpa [h0,cut,BC] using this
        ·obtain⟨u,V,w',f,R⟩:=grow a 0 0 [] q1 [] (cut H r1) (BC _ _ _) (hr.cut_row r1) (by omega) (by simpa using J) (by simpa using L) .nil (by simp) (by
          cases a with
          |none=>rfl
          |some ad=>simp[Builtin.firstCells,loadCells,loadCellsFrom])
         exact⟨_,_,u,V,w',h,f,by simpa [h0] using R⟩
       |sl hp aa ba ar=>
        rename_i b base cap bp T' bu;rcases hr.rows r1 _ ay with⟨h5,h6⟩|⟨b',d,arr,fz,hl⟩
        ·rw[h6] at hp;cases hp
        ·have e':=hl.at_.symm.trans hp;injection e' with e';injection e' with e';injection e' with e1 e2;subst e1 e2
         have e3:=hl.block.symm.trans ba;injection e3 with e3;injection e3 with e4 e5 e6
         subst e4 e5 e6;have be:=hl.fits;by_cases A:n+m<=cap
         ·have bq:cs.length+ys.length<=o+cap*sz:=by
           rw[<-a8,N,kX,<-W_];exact Nat.add_le_add_left (l28 _ A) _
          have bt:vs.length=ys.length:=M.1;obtain⟨w',f,a6⟩:=MJ (P:=P) vs w arr (d+o+n*sz) 0 hl.block hl.free (by omega) (A11 M a4);have a5:d+o+n*sz=d+cs.length:=by omega
          have a9:=hr.extend ay hl (o:=o) (by omega) M (by omega) (by rw[<-a5];simpa using a6);refine⟨_,_,_,_,w',h,T2 (P:=P) (ty:=ty) (base:=some ⟨b',d+o,none⟩) hu B Y X h1 h2 F A r (w':=w') (by simp only[JT];exact f),?_,a9.1,a9.2⟩;have:VRel (C.put (Ao H) (some (b',d+o))) w' (.sl sz (Ao H) 0 (n+m)) (.slice (some ⟨b',d+o+0,none⟩) (n+m) cap):=by
           refine .sl (C.put_n _ _) A a6.here ?_;simp only[List.size_toArray];rw[FT (by simp;omega)];simpa using ar
          simpa using this
         ·obtain⟨g,az,bk⟩:=(hl.atq.drop o)
          have ag:g.length=n*sz:=by rw[az.1,ac]
          obtain⟨u,V,w',f,R⟩:=grow (some ⟨b',d+o,none⟩) n cap g q1 (cs.drop o) (cut H r1) (BC _ _ _) (hr.cut_row r1) (by omega) J L az ac (by
           simp only[Builtin.firstCells];have:=run_loadCells_list (P:=P) {w with drawn:=w.drawn+1} ⟨b',d+o,none⟩ g (λj v hv=>by rw[JT];exact bk j v hv)
           rwa[ag] at this)
          exact⟨_,_,u,V,w',h,f,R⟩
      ·exact h.elim
     ·exact h.elim
   ·exact h.elim
  ·exact h.elim
 ·exact h.elim
def vG {T:Ty} (e:iP P T) {t1 t2 ty:TypeId} {y z:Value} {ts:Array TypeId} (h1:ts[0]?=some t1) (h2:ts[1]?=some t2) (hr:Rel G w0 C H w) (a:VRel C w s y) (g:VRel C w x z) (h:Y0 T t1 t2 s x H (Ao H) K):
 ∃v b u d c,K v b/\(Builtin.append_ ts ty #[y,z]).run P w= .ok u c/\Kv G w0 C w v b u d c:=
 Xo e h1 h2 hr a (λ_ _ _ _ h f a=>WL hr g h f a) h
end
end
section
variable {K:AV->Hp->Prop} {a:Act} {w0:Base} {C:Ctx} {N s0:Nat} {w:World}
structure Env where
 P:Program
 G:Gl
 T:Ty
structure Env.Ok (E:Env):Prop where
 ty:iP E.P E.T
 pos:∀t i e esz,E.T t=some i->(i.d= .slice e esz\/∃n,i.d= .array n e esz)->esz≠0
 mix:E.P.follows .mixedOrders=true
def xmm (c:Bool) (a b:AV) (K:AV->Prop):Prop:=
 match a,b with
 | .v (.int k x),.v (.int d y)=>k=d/\K (.v (.int k (if c then(if y<x then y else x) else(if y>x then y else x))))
 | .v (.string s),.v (.string u)=>K (.v (.string (if(if c then(Op.bytesLess s.toList u.toList||s.toList==u.toList) else !Op.bytesLess s.toList u.toList) then s else u)))
 |_,_=>False
def qI (E:Env) (o:Op) (t:Tm) (H:Hp) (K:AV->Hp->Prop):Prop:=
 match o with
 | .move x=>K (JH E.G t x) H
 | .assign x=>K (JH E.G t x) H
 | .pick c a b=>match JH E.G t c with
  | .v (.bool q)=>K (if q then JH E.G t a else JH E.G t b) H
  |_=>False
 | .load ty x=>A04 E.T ty (JH E.G t x) H (λv=>K v H)
 | .store ty x y=>qG E.T ty (JH E.G t x) (JH E.G t y) H (λe=>K (.v undef) e)
 | .nilCheck x=>A7Z (JH E.G t x) (λv=>K v H)
 | .binOp op ty x y _=>qP E.T op ty (JH E.G t x) (JH E.G t y) (λv=>K v H)
 | .unOp op _ x=>xun op (JH E.G t x) (λv=>K v H)
 | .convert s d x=>xF E.T s d (JH E.G t x) (λv=>K v H)
 | .makeFunc fn first cap=>K (.fn fn (first.toList.map (JH E.G t)) (cap.toList.map (JH E.G t))) H
 | .fieldAddr ty x f=>jB E.T ty (JH E.G t x) f (λv=>K v H)
 | .field ty x f=>qL E.T ty (JH E.G t x) f (λv=>K v H)
 | .indexAddr ty x i=>qK E.T ty (JH E.G t x) (JH E.G t i) (λv=>K v H)
 | .index ty x i=>qJ E.T ty (JH E.G t x) (JH E.G t i) (λv=>K v H)
 | .slice ty x h g mx=>qH E.T ty (JH E.G t x) (h.map (JH E.G t)) (g.map (JH E.G t)) (mx.map (JH E.G t)) (λv=>K v H)
 | .extract x k=>match JH E.G t x with
  | .tup vs=>LL (vs[k]?) (λv=>K v H)
  |_=>False
 | .build ty parts=>qM E.T ty (parts.toList.map λp=>(p.1,JH E.G t p.2)) (λv=>K v H)
 | .call c=>match c.callee with
  | .builtin .len=>match c.args.toList,c.argTypes.toList with
   |[x],[ty]=>A80 E.T ty (JH E.G t x) (λv=>K v H)
   |_,_=>False
  | .builtin .min=>match c.args.toList with
   |[x,y]=>xmm true (JH E.G t x) (JH E.G t y) (λv=>K v H)
   |_=>False
  | .builtin .max=>match c.args.toList with
   |[x,y]=>xmm false (JH E.G t x) (JH E.G t y) (λv=>K v H)
   |_=>False
  |_=>False
 |_=>False
def B2h (E:Env) (o:Op) (t:Tm) (H:Hp) (r:Nat) (K:AV->Hp->Prop):Prop:=
 match o with
 | .alloc ty=>qQ E.T ty H r K
 | .box ty x=>B67 ty (JH E.G t x) H r K
 | .buildSlice ty n parts=>eE E.T ty n (parts.toList.map λp=>(p.1,JH E.G t p.2)) H r K
 | .call c=>match c.callee with
  | .builtin .append=>match c.args.toList,c.argTypes.toList with
   |[s,x],[b,d]=>Y0 E.T b d (JH E.G t s) (JH E.G t x) H r K
   |_,_=>False
  |_=>False
 |_=>False
section
variable {E:Env} {t:Tm} {H:Hp}
def XK {G:Gl} (s:St G w0 s0 C N t H a w) (x:Option Operand):V' C w (x.map (JH G t)) (x.map a.eval):=by
 cases x with
 |none=>trivial
 |some x=>exact AW s x
def kF {G:Gl} (s:St G w0 s0 C N t H a w) (parts:Array (Nat×Operand)):
 (parts.toList.map λp=>(p.1,JH G t p.2)).length=(parts.toList.map λp=>(p.1,a.eval p.2)).length/\
 ∀(j:Nat) (p:Nat×AV),(parts.toList.map λp=>(p.1,JH G t p.2))[j]?=some p->∃z,(parts.toList.map λp=>(p.1,a.eval p.2))[j]?=some (p.1,z)/\VRel C w p.2 z:=by
 refine⟨by simp,λj p b=> ?_⟩;rw[wR] at b⊢;cases h:parts.toList[j]? with
 |none=>rw[h] at b;simp at b
 |some q=>rw[h] at b;simp at b;subst b;exact⟨_,rfl,AW s q.2⟩
def B3S {r p k:Nat} {y:Value} (h:VRel C w (.ptr r p k) y):∃b c,y= .pointer (some ⟨b,c,none⟩):=by
 cases h with
 |ptr d=>exact⟨_,_,rfl⟩
def I6 {o:Oper} {c:Call} (d:o.op= .call c) (b:Builtin) (hb:c.callee= .builtin b):execOp a.eval o=builtin b c.argTypes o.type (c.args.map λ| .const _=>true|_=>false) (c.args.map a.eval):=by
 simp only[execOp,d,resolve,hb];rfl
def xE (D:E.Ok) {o:Oper} (h:qI E o.op t H K):B1U E.P E.G o t H K:=by
 intro w0 s0 C N a w s;have g:∀{sm:Sem Value} {v:AV} {u:Value},execOp a.eval o=(do pure (.value (<-sm)))->sm.run E.P w= .ok u w->VRel C w v u->K v H->
  ∃v M y O L,K v M/\((execOp a.eval o).run E.P w= .ok (.value y) L\/((execOp a.eval o).run E.P w= .ok .skip L/\y=undef))/\VRel O L v y/\Rel E.G w0 O M L/\Ext w0.own C w O L:=by
  intro sm v u he hr hv hk;exact⟨v,H,u,C,w,hk,.inl (by rw[he,Dk,hr];rfl),hv,s.rel,.refl _ _ _⟩
 unfold qI at h;split at h
 ·rename_i x j;exact⟨_,H,_,C,w,h,.inl (by simp[execOp,j]),AW s x,s.rel,.refl _ _ _⟩
 ·rename_i x j;exact⟨_,H,_,C,w,h,.inl (by simp[execOp,j]),AW s x,s.rel,.refl _ _ _⟩
 ·rename_i c x y j;split at h
  ·rename_i q hq;have hc:=AW s c;rw[hq] at hc;have Q:=AL.1 hc;refine⟨_,H,if q then a.eval x else a.eval y,C,w,h,.inl (by simp[execOp,j,Q,asBool]),?_,s.rel,.refl _ _ _⟩;cases q
   ·exact AW s y
   ·exact AW s x
  ·exact h.elim
 ·rename_i ty x j;obtain⟨v,z,h1,h2,A⟩:=mD D.ty s.rel (AW s x) h;exact g (by simp only[execOp,j]) h1 h2 A
 ·rename_i ty x y j;obtain⟨M,L,h1,h2,A,Y⟩:=zV D.ty s.rel (AW s x) (AW s y) h;exact⟨_,M,undef,C,L,Y,.inr ⟨by simp only[execOp,j];rw[Dk,h1];rfl,rfl⟩,.v _,h2,A⟩
 ·rename_i x j;have B:=AW s x;unfold A7Z at h;split at h
  ·rename_i hq;rw[hq] at B;refine⟨_,H,a.eval x,C,w,h,.inl ?_,by rw[hq];exact B,s.rel,.refl _ _ _⟩;obtain⟨b,o',e⟩:=B3S B;simp only[execOp,j,e];rfl
  ·rename_i hq;rw[hq] at B;refine⟨_,H,a.eval x,C,w,h,.inl ?_,by rw[hq];exact B,s.rel,.refl _ _ _⟩;obtain⟨b,o',e⟩:=tJ B;simp only[execOp,j,e];rfl
  ·rename_i hq;rw[hq] at B;refine⟨_,H,a.eval x,C,w,h,.inl ?_,by rw[hq];exact B,s.rel,.refl _ _ _⟩;obtain⟨X,zs,e,_⟩:=Jr.1 B;simp only[execOp,j,e];rfl
  ·rename_i hq;rw[hq] at B;refine⟨_,H,a.eval x,C,w,h,.inl ?_,by rw[hq];exact B,s.rel,.refl _ _ _⟩;obtain⟨X,zs,e,_⟩:=Jr.1 B;simp only[execOp,j,e];rfl
  ·exact h.elim
 ·rename_i op ty x y yt j;obtain⟨v,u,h1,h2,A⟩:=qN D.ty x y (AW s x) (AW s y) h;exact g (by simp only[execOp,j]) h1 h2 A
 ·rename_i op ty x j;obtain⟨v,u,h1,h2,A⟩:=A5X (P:=E.P) (AW s x) h;exact g (by simp only[execOp,j]) h1 h2 A
 ·rename_i sr d x j;obtain⟨v,u,h1,h2,A⟩:=A05 D.ty (AW s x) h;exact g (by simp only[execOp,j]) h1 h2 A
 ·rename_i fn first cap j;refine⟨_,H,.func fn (first.map a.eval) (cap.map a.eval),C,w,h,.inl (by simp[execOp,j,Instr.makeFunc]),?_,s.rel,.refl _ _ _⟩;have key:∀l:List Operand,CG C w (l.map (JH E.G t)) (l.map a.eval):=by
   intro l
   induction l with
   |nil=>exact .nil
   |cons x l ih=>exact .cons (AW s x) ih
  refine Jr.2 ⟨first.toList.map a.eval,cap.toList.map a.eval,?_,key _,key _⟩
  congr 1<;>(apply oQ;simp)
 ·rename_i ty x f j;obtain⟨v,u,h1,h2,A⟩:=A! D.ty (AW s x) h;exact g (by simp only[execOp,j]) h1 h2 A
 ·rename_i ty x f j;obtain⟨v,u,h1,h2,A⟩:=zZ D.ty (AW s x) h;exact g (by simp only[execOp,j]) h1 h2 A
 ·rename_i ty x i j;obtain⟨v,u,h1,h2,A⟩:=zY D.ty D.pos (AW s x) (AW s i) h;exact g (by simp only[execOp,j]) h1 h2 A
 ·rename_i ty x i j;obtain⟨v,u,h1,h2,A⟩:=zX D.ty D.pos (AW s x) (AW s i) h;exact g (by simp only[execOp,j]) h1 h2 A
 ·rename_i ty x lo Z mx j;obtain⟨v,u,h1,h2,A⟩:=zW D.ty D.pos (AW s x) (XK s lo) (XK s Z) (XK s mx) h;exact g (by simp only[execOp,j]) h1 h2 A
 ·rename_i x k j;have B:=AW s x;split at h
  ·rename_i vs hq;rw[hq] at B;obtain⟨X,e,R⟩:=DC.1 B;unfold LL at h;split at h
   ·rename_i v hv;obtain⟨y,hy,hr⟩:=R.2 k v hv;refine g (sm:=Instr.extract (a.eval x) k) (by simp only[execOp,j]) ?_ hr h;rw[e];simp[Instr.extract,hy]
   ·exact h.elim
  ·exact h.elim
 ·rename_i ty parts j;obtain⟨R,hq⟩:=kF s parts;obtain⟨v,u,h1,h2,A⟩:=A? D.ty R hq h;refine g (sm:=Instr.build ty (parts.map λ(i,x)=>(i,a.eval x))) (by simp only[execOp,j]) ?_ h2 A;have:(parts.map λ(i,x)=>(i,a.eval x))=(parts.toList.map λp=>(p.1,a.eval p.2)).toArray:=by apply oQ;simp
  rw[this];exact h1
 ·rename_i c j;have call:= λb hb=>I6 (a:=a) j b hb;split at h
  ·rename_i hb;split at h
   ·rename_i x ty B V;obtain⟨v,u,h1,h2,A⟩:=A2r (P:=E.P) (rt:=o.type) (ts:=c.argTypes) D.ty (by rw[<-l27,V];rfl) (AW s x) h;have r:c.args.map a.eval= #[a.eval x]:=by apply oQ;simp[B]
    refine g (sm:=Builtin.len_ c.argTypes o.type #[a.eval x]) (by rw[call _ hb,r];rfl) h1 h2 A
   ·exact h.elim
  ·rename_i hb;split at h
   ·rename_i x y B;have r:c.args.map a.eval= #[a.eval x,a.eval y]:=by apply oQ;simp[B]
    have h1:=AW s x;have h2:=AW s y;unfold xmm at h;split at h
    ·rename_i k m k' n F J;rw[F] at h1;rw[J] at h2;obtain⟨rfl,h⟩:=h;refine g (sm:=Builtin.min_ c.argTypes o.type #[a.eval x,a.eval y]) (by rw[call _ hb,r];rfl) ?_ (.v _) h;rw[AL.1 h1,AL.1 h2];rfl
    ·rename_i m n F J;rw[F] at h1;rw[J] at h2;refine g (sm:=Builtin.min_ c.argTypes o.type #[a.eval x,a.eval y]) (by rw[call _ hb,r];rfl) ?_ (.v _) h;rw[AL.1 h1,AL.1 h2];rfl
    ·exact h.elim
   ·exact h.elim
  ·rename_i hb;split at h
   ·rename_i x y B;have r:c.args.map a.eval= #[a.eval x,a.eval y]:=by apply oQ;simp[B]
    have h1:=AW s x;have h2:=AW s y;unfold xmm at h;split at h
    ·rename_i k m k' n F J;rw[F] at h1;rw[J] at h2;obtain⟨rfl,h⟩:=h;refine g (sm:=Builtin.max_ c.argTypes o.type #[a.eval x,a.eval y]) (by rw[call _ hb,r];rfl) ?_ (.v _) h;rw[AL.1 h1,AL.1 h2];rfl
    ·rename_i m n F J;rw[F] at h1;rw[J] at h2;refine g (sm:=Builtin.max_ c.argTypes o.type #[a.eval x,a.eval y]) (by rw[call _ hb,r];rfl) ?_ (.v _) h;rw[AL.1 h1,AL.1 h2];rfl
    ·exact h.elim
   ·exact h.elim
  ·exact h.elim
 ·exact h.elim
def A2q (q:E.Ok) {o:Oper} (h:B2h E o.op t H (Ao H) K):B1U E.P E.G o t H K:=by
 intro w0 s0 C N a w s;have fin:∀{sm:Sem Value} {v:AV} {e:Hp} {u:Value} {d:Ctx} {b:World},execOp a.eval o=(do pure (.value (<-sm)))->sm.run E.P w= .ok u b->Kv E.G w0 C w v e u d b->K v e->
  ∃v e y d b,K v e/\((execOp a.eval o).run E.P w= .ok (.value y) b\/((execOp a.eval o).run E.P w= .ok .skip b/\y=undef))/\VRel d b v y/\Rel E.G w0 d e b/\Ext w0.own C w d b:=by
  intro sm v e u d b he hr f g;exact⟨v,e,u,d,b,g,.inl (by rw[he,Dk,hr];rfl),f.1,f.2.1,f.2.2⟩
 unfold B2h at h;split at h
 ·rename_i ty k;obtain⟨v,e,y,d,b,g,hr,f⟩:=A_ q.ty s.rel h;exact fin (by simp only[execOp,k]) hr f g
 ·rename_i ty x k;obtain⟨v,e,y,d,b,g,hr,f⟩:=A2s (P:=E.P) s.rel (AW s x) h;exact fin (by simp only[execOp,k]) hr f g
 ·rename_i ty n parts k;obtain⟨r,hq⟩:=kF s parts;obtain⟨v,e,y,d,b,g,hr,f⟩:=vF q.ty r hq s.rel h;refine fin (sm:=Instr.buildSlice ty n (parts.map λ(i,x)=>(i,a.eval x))) (by simp only[execOp,k]) ?_ f g;have:(parts.map λ(i,x)=>(i,a.eval x))=(parts.toList.map λp=>(p.1,a.eval p.2)).toArray:=by apply oQ;simp
  rw[this];exact hr
 ·rename_i c k;split at h
  ·rename_i hb;split at h
   ·rename_i x y t1 t2 A m;have j:c.args.map a.eval= #[a.eval x,a.eval y]:=by apply oQ;simp[A]
    obtain⟨v,e,z,d,b,g,hr,f⟩:=vG (P:=E.P) (ty:=o.type) (ts:=c.argTypes) q.ty (t1:=t1) (t2:=t2) (by rw[<-l27,m];rfl) (by rw[<-l27,m];rfl) s.rel (AW s x) (AW s y) h;refine fin (sm:=Builtin.append_ c.argTypes o.type #[a.eval x,a.eval y]) ?_ hr f g;rw[I6 k _ hb,j];rfl
   ·exact h.elim
  ·exact h.elim
 ·exact h.elim
end
end
structure SameObj (w w':World) (b:Nat) (o':Obj):Prop where
 os:w'.os=w.os
 tape:w'.tape=w.tape
 output:w'.output=w.output
 size:w'.heap.size=w.heap.size
 here:w'.heap[b]?=some o'
 others:∀k,k≠b->w'.heap[k]?=w.heap[k]?
section
variable {P:Program} {G:Gl} {w0:Base} {C:Ctx} {H:Hp} {w w':World} {O:Nat->Prop} {r:Nat} {b o:Nat} {x y:Row} {o':Obj}
def Keep.same_obj {B:Base} (h:Keep B w) (a:SameObj w w' b o') (c:B.own b):Keep B w':=
 ⟨a.os.trans h.os,a.tape.trans h.tape,a.output.trans h.output,by rw[a.size];exact h.size,λk f d=>(a.others k (λe=>by
  subst e;rcases c with c|c
  ·omega
  ·exact d c)).trans (h.block k f d)⟩
def SameObj.ext (c:SameObj w w' b o') (d:∀arr T fz,w.heap[b]?≠some (.cells arr T fz)) (j:∀i,¬C.F b i) (g:¬C.B b):Ext O C w C w':=
 ⟨λ_ _=>rfl,λ_ _ h=>h,λk i h=>l0t (c.others k (λe=>j i (e▸h))),λ_ h=>h,λk h=>c.others k (λe=>g (e▸h)),
  λk a t f h=>⟨a,f,(c.others k (λe=>d a t f (e▸h))).trans h,rfl⟩,λ_ _ h=> .inl h,λ_ h=> .inl h,Nat.le_of_eq c.size.symm⟩
def Rel.set_obj (h:Rel G w0 C H w) (p:Aj H r=some x) (F:C.π r=some (some (b,o))) (m:SameObj w w' b o') (n:∀arr T fz,w.heap[b]?≠some (.cells arr T fz))
 (R:Ext (λ_=>False) C w C w'->SR C w' r y):Rel G w0 C (upd H r y) w'/\Ext O C w C w':=by
 have a:=h.own r x b o p F;have e:Ext O C w C w':=m.ext n a.2.1 a.2.2;have key:∀s z,Aj (upd H r y) s=some z->(s=r/\z=y)\/(s≠r/\Aj H s=some z):= λs z hz=>by
  by_cases g:s=r
  ·subst g;rw[BB p] at hz;exact .inl ⟨rfl,(fR hz).1.symm⟩
  ·rw[Ag g] at hz;exact .inr ⟨g,hz⟩
 have d:∀s z,Aj (upd H r y) s=some z->∃j,Aj H s=some j:= λs z hz=>by
  rcases key s z hz with⟨rfl,_⟩|⟨_,h⟩
  ·exact⟨x,p⟩
  ·exact⟨z,h⟩
 refine⟨⟨h.glob.mono e,h.below.same_obj m a.1,?_,?_,?_,?_,λk i M=>m.size▸h.fin k i M,λk L=>m.size▸h.finB k L,λk f=>h.nx k (by rw[BC] at f;exact f)⟩,e⟩
 ·intro s z hz;obtain⟨j,c⟩:=d s z hz;exact h.lt s j c
 ·intro s z hz;rcases key s z hz with⟨rfl,rfl⟩|⟨v,hz⟩
  ·exact R (m.ext n a.2.1 a.2.2)
  ·refine(h.rows s z hz).mono e (λk D f=>m.others k (λK=> ?_));subst K;exact v (h.sep s r z x _ _ _ hz p f F)
 ·intro s z k B hz f;obtain⟨j,c⟩:=d s z hz;exact h.own s j k B c f
 ·intro s J z j k B V hz c f q;obtain⟨u,Q⟩:=d s z hz;obtain⟨X,A⟩:=d J j c;exact h.sep s J u X k B V Q A f q
theorem SameObj.putObj {l:Nat} (d:l<w.heap.size) (a:Obj):SameObj w (w.putObj l a) l a:=
 ⟨rfl,rfl,rfl,by simp,World.putObj_heap_same d,λk c=>World.putObj_heap_other (λe=>c e)⟩
end
def xI:Tm->List Tmp->List AV->Tm
 |t,p::ps,a::c=>xI ((p,a)::t) ps c
 |t,_,_=>t
def A6g {C:Ctx} {w:World}:∀(ps:List Tmp) (c:List AV) (ys:List Value) (t:Tm) (tmps:Array Value),(∀p∈ps,p<tmps.size)->CG C w c ys->WM C w t tmps->
 WM C w (xI t ps c) ((ps.zip ys).foldl (λt (p:Tmp×Value)=>t.setIfInBounds p.1 p.2) tmps)/\((ps.zip ys).foldl (λt (p:Tmp×Value)=>t.setIfInBounds p.1 p.2) tmps).size=tmps.size:=by
 intro ps
 induction ps with
 |nil=>intro c ys t tmps _ _ d;exact⟨d,rfl⟩
 |cons p ps ih=>
  intro c ys t tmps k j d;cases c with
  |nil=>rw[j.nil_inv];exact⟨d,rfl⟩
  |cons a c=>
   obtain⟨y,g,rfl,hv,e⟩:=j.cons_inv;simp only[List.zip_cons_cons,List.foldl_cons,xI];obtain⟨h1,h2⟩:=ih c g ((p,a)::t) (tmps.setIfInBounds p y) (λq hq=>by simpa using k q (by simp[hq])) e (λi=>by
    simp only[HZ];by_cases h:i=p
    ·subst h;have f:i<tmps.size:=k i (by simp);rw[Dj rfl];simp[dV,f];exact hv
    ·rw[C4 h];have:=d i;simp only[dV] at this⊢;rw[Array.getElem?_setIfInBounds_ne (by omega)];exact this)
   exact⟨h1,by rw[h2];simp⟩
section
variable {P:Program} {G:Gl} {ro:Option Nat} {N:Nat} {t:Tm} {H:Hp}
def Rel.set_loop {w0:Base} {C:Ctx} {w:World} {r b:Nat} {f:Nat} {k:Tm} {ps:Array Tmp} {g i:Code} {a pend':Option (Option Code)} {O:Nat->Prop} (h:Rel G w0 C H w) (u:Aj H r=some (.loop f k ps g i a)) (j:C.π r=some (some (b,0))):
 ∃l:Loop,w.heap[b]?=some (.loop l)/\l.state=B3f a/\l.pending=a.join/\l.tmps.size=f/\l.params=ps/\l.assign=g/\l.body=i/\WM C w k l.tmps/\
  ∀c:Loop,c.state=B3f pend'->c.pending=pend'.join->c.tmps=l.tmps->c.params=l.params->c.assign=l.assign->c.body=l.body->
   Rel G w0 C (upd H r (.loop f k ps g i pend')) (w.putObj b (.loop c))/\Ext O C w C (w.putObj b (.loop c)):=by
 obtain⟨v,l,h1,h2,B,D,m,n,p,q,s⟩:=h.rows r _ u;have e:=h1.symm.trans j;injection e with e;injection e with e;injection e with A M;subst A
 refine⟨l,h2,B,D,m,n,p,q,s,λc k1 F k3 J K L=> ?_⟩;have d:=(l1v.1 h2).1;exact h.set_obj u j (SameObj.putObj d _) (λarr T fz hc=>by rw[h2] at hc;cases hc) (λe=>⟨v,c,j,World.putObj_heap_same d,k1,F,by rw[k3];exact m,J.trans n,K.trans p,L.trans q,by rw[k3];exact s.mono e⟩)
def Ctx.addB (C:Ctx) (b:Nat):Ctx:={C with B:= λk=>C.B k\/k=b}
theorem Rel.addB {w0:Base} {C:Ctx} {w:World} {b:Nat} (h:Rel G w0 C H w) (i:b<w.heap.size) (j:w0.own b) (hn:∀r x o,Aj H r=some x->C.π r≠some (some (b,o))):Rel G w0 (C.addB b) H w/\Ext w0.own C w (C.addB b) w:=by
 have e:Ext w0.own C w (C.addB b) w:=⟨λ_ _=>rfl,λ_ _ h=>h,λ_ _ _=>rfl,λ_ h=> .inl h,λ_ _=>rfl,λ_ a _ f h=>⟨a,f,h,rfl⟩,λ_ _ h=> .inl h,λk h=>by rcases h with h|h;exact .inl h;exact .inr (h▸j),Mb _⟩
 refine⟨⟨h.glob,h.below,h.lt,λr x d=>(h.rows r x d).mono e (λ_ _ _=>rfl),λr x k o d g=>⟨(h.own r x k o d g).1,(h.own r x k o d g).2.1,λc=> ?_⟩,h.sep,h.fin,λk c=> ?_,h.nx⟩,e⟩
 ·rcases c with c|c
  ·exact(h.own r x k o d g).2.2 c
  ·subst c;exact hn r x o d g
 ·rcases c with c|c
  ·exact h.finB k c
  ·subst c;exact i
def B8o (Q:Exit->Tm->Hp->Prop) (t:Tm) (H:Hp):Option Code->Prop
 |none=>Q .normal t H
 |some .ret=>Q .ret t H
 |some (.exit id)=>Q (.exit id) t H
 |some (.goto l)=>Q (.goto l) t H
 |_=>False
def Nq (w:World) (a:Obj):Below w.heap.size w (w.alloc a):=(Below.refl _ w).alloc (Mb _) _
end
section
variable {i j u:Nat}
def iK (ops:List Oper) (i j:Nat):Bool:=
 match ops[i]? with
 |some o=>o.after.toList.any λe=>Region.binds .any e&&Nat.beq e.on j
 |none=>false
def Od (ops:List Oper) (o:Oper):List Tmp:=
 (o.op.operands.toList.filterMap λ| .tmp t=>some t|_=>none)++
 (match o.guard with
  |some (g,_)=>((ops[g]?).bind (·.dst)).toList
  |none=>[])
def rL (ops:List Oper) (x y:Oper):Bool:=
 (match x.dst with|some d=>(Od ops y).elem d||y.dst==some d|none=>false)||(match y.dst with|some d=>(Od ops x).elem d|none=>false)
inductive Rch (ops:List Oper):Nat->Nat->Prop
 |one {i j:Nat} (h:iK ops i j=true):Rch ops i j
 |more {i k j:Nat} (h:iK ops i k=true) (h':Rch ops k j):Rch ops i j
def iJ {ops:List Oper}:iK ops i j=true↔∃o,ops[i]?=some o/\∃e∈o.after.toList,Region.binds .any e=true/\e.on=j:=by
 unfold iK;cases ops[i]? with
 |none=>simp
 |some o=>simp only[List.any_eq_true,Kw,pO,l0z,exists_eq_left']
def Rch.mem {ops:List Oper} {L:Nat->Bool} (a:∀i j,L i=true->iK ops i j=true->L j=true) (h:Rch ops i j):L i=true->L j=true:=by
 induction h with
 |one h=>intro b;exact a _ _ b h
 |more h _ ih=>intro b;exact ih (a _ _ b h)
def Rch.mem' {ops:List Oper} {L:Nat->Bool} (a:∀i j,L i=true->iK ops i j=true->L j=true) (hr:∀j,iK ops i j=true->L j=true) (h:Rch ops i j):L j=true:=by
 cases h with
 |one h=>exact hr _ h
 |more h b=>exact b.mem a (hr _ h)
def C1S (acc:List Nat) (es:List Edge):Nat:=es.foldl (λm e=>if Region.binds .any e then Nat.lor m (Nat.lor (Nat.pow 2 e.on) (acc.getD e.on 0)) else m) 0
def kT:List Nat->List Oper->List Nat
 |acc,[]=>acc
 |acc,o::l=>kT (acc++[C1S acc o.after.toList]) l
def Tk (ops:List Oper):List Nat:=kT [] ops
def A3o {acc:List Nat} {ops:List Oper} {o:Oper} (r:ops[i]?=some o) (d:∀k j,(acc.getD k 0).testBit j=true->Rch ops k j):
 ∀(es:List Edge),(∀e∈es,e∈o.after.toList)->∀m:Nat,(∀j,m.testBit j=true->Rch ops i j)->∀j,(es.foldl (λm e=>if Region.binds .any e then Nat.lor m (Nat.lor (Nat.pow 2 e.on) (acc.getD e.on 0)) else m) m).testBit j=true->Rch ops i j:=by
 intro es
 induction es with
 |nil=>intro _ m hm j c;exact hm j c
 |cons e es ih=>
  intro f m hm;refine ih (λp g=>f p (by simp[g])) _ ?_;intro j c;simp only at c;split at c
  ·rename_i hb;have n:iK ops i e.on=true:=iJ.2 ⟨o,r,e,f e (by simp),hb,rfl⟩;have h:∀a b:Nat,Nat.lor a b=a|||b:= λ_ _=>rfl
   have q:∀a b:Nat,Nat.pow a b=a^b:= λ_ _=>rfl;rw[h,h,q,Nat.testBit_or,Nat.testBit_or,Nat.testBit_two_pow] at c;simp only[l1i,decide_eq_true_eq] at c;rcases c with c|c|c
   ·exact hm j c
   ·subst c;exact .one n
   ·exact .more n (d _ _ c)
  ·exact hm j c
def tA {ops:List Oper}:∀(l:List Oper) (acc:List Nat),ops.drop acc.length=l->acc.length<=ops.length->(∀k j,(acc.getD k 0).testBit j=true->Rch ops k j)->∀k j,((kT acc l).getD k 0).testBit j=true->Rch ops k j:=by
 intro l
 induction l with
 |nil=>intro acc _ _ h;exact h
 |cons o l ih=>
  intro acc d f a;have e:ops[acc.length]?=some o:=by
   have:=congrArg (λl=>l[0]?) d;simpa using this
  have g:acc.length<ops.length:=(yB.1 e).1;refine ih _ ?_ (by simp;omega) ?_
  ·rw[EY,List.length_singleton];have:=congrArg (List.drop 1) d;simpa [Nat.add_comm] using this
  ·intro k j b;rcases Nat.lt_trichotomy k acc.length with c|c|c
   ·rw[Vl,l0m c,<-Vl] at b;exact a k j b
   ·subst c;rw[Vl,l0o (Mb _)] at b;simp at b;exact A3o e a _ (λ_ h=>h) 0 (by simp) j b
   ·rw[Vl,l0o (by omega),l1j (by simp;omega)] at b;simp at b
def Pu {ops:List Oper} {k j:Nat} (h:((Tk ops).getD k 0).testBit j=true):Rch ops k j:=
 tA ops [] rfl (W? _) (λk j h=>by simp at h) k j h
def tb (m j:Nat):Bool:=Nat.beq (Nat.land (Nat.shiftRight m j) 1) 1
def xL (m j:Nat):tb m j=m.testBit j:=by
 unfold tb Nat.testBit;have e:Nat.land (Nat.shiftRight m j) 1=(m>>>j)&&&1:=rfl;rw[e,Nat.and_comm,Nat.one_and_eq_mod_two];rcases Nat.mod_two_eq_zero_or_one (m>>>j) with h|h<;>rw[h]<;>rfl
def lV (ms:List Nat):List Nat->Bool
 |[]=>true
 |[_]=>true
 |a::b::l=>Nat.blt a b&&tb (ms.getD b 0) a&&lV ms (b::l)
def A5F:Nat->List Oper->Bool
 |_,[]=>true
 |i,o::l=>o.after.toList.all (λe=> !Region.binds .any e||Nat.blt e.on i)&&A5F (i+1) l
def pA (ops:List Oper) (m:Nat) (o:Oper):Nat->List Oper->Bool
 |_,[]=>true
 |j,p::l=>(!rL ops p o||tb m j)&&pA ops m o (j+1) l
def B42 (ops:List Oper) (ms:List Nat):Nat->List Oper->Bool
 |_,[]=>true
 |i,o::l=>pA ops (ms.getD i 0) o 0 (ops.take i)&&B42 ops ms (i+1) l
def xQ (ops:List Oper) (efs:List Nat):Bool:=
 A5F 0 ops&&B42 ops (Tk ops) 0 ops&&lV (Tk ops) efs&&efs.all λe=>Nat.blt e ops.length
structure RegOk (ops:List Oper) (efs:List Nat):Prop where
 back:∀(i j:Nat),iK ops i j=true->j<i
 ord:∀(i j:Nat) (o p:Oper),j<i->ops[i]?=some o->ops[j]?=some p->(∃d,p.dst=some d/\(d∈Od ops o\/o.dst=some d))\/(∃d,o.dst=some d/\d∈Od ops p)->Rch ops i j
 chain:∀(a e e':Nat),efs[a]?=some e->efs[a+1]?=some e'->Rch ops e' e
 inj:∀(a a' e:Nat),efs[a]?=some e->efs[a']?=some e->a=a'
 lt:∀(a e:Nat),efs[a]?=some e->e<ops.length
def zD {ms:List Nat}:∀{l:List Nat},lV ms l=true->∀(a b e c:Nat),a<b->l[a]?=some e->l[b]?=some c->e<c:=by
 intro l
 induction l with
 |nil=>intro _ a b e c _ h;simp at h
 |cons x l ih=>
  intro h a b e c d h1 h2;cases l with
  |nil=>
   cases b with
   |zero=>omega
   |succ b=>simp at h2
  |cons y l=>
   simp only[lV,Kw,Wj] at h;cases b with
   |zero=>omega
   |succ b=>
    cases a with
    |zero=>
     simp at h1;subst h1;cases b with
     |zero=>simp at h2;subst h2;exact h.1.1
     |succ b=>exact Nat.lt_trans h.1.1 (ih h.2 0 (b+1) y c (by omega) (by simp) (by simpa using h2))
    |succ a=>exact ih h.2 a b e c (by omega) (by simpa using h1) (by simpa using h2)
def A46 {ops:List Oper}:∀{l:List Nat},lV (Tk ops) l=true->∀(a e b:Nat),l[a]?=some e->l[a+1]?=some b->Rch ops b e:=by
 intro l
 induction l with
 |nil=>intro _ a e b h;simp at h
 |cons x l ih=>
  intro h a e b h1 h2;cases l with
  |nil=>simp at h2
  |cons y l=>
   simp only[lV,Kw,xL] at h;cases a with
   |zero=>simp at h1 h2;subst h1 h2;exact Pu h.1.2
   |succ a=>exact ih h.2 a e b (by simpa using h1) (by simpa using h2)
def A4c:∀(l:List Oper) (i:Nat),A5F i l=true->∀(k:Nat) (o:Oper),l[k]?=some o->∀e∈o.after.toList,Region.binds .any e=true->e.on<i+k:=by
 intro l
 induction l with
 |nil=>intro i _ k o h;simp at h
 |cons p l ih=>
  intro i h k o a e he hb;simp only[A5F,Kw,GH] at h;cases k with
  |zero=>
   simp at a;subst a;have:=h.1 e he;simpa [hb,Wj] using this
  |succ k=>
   have:=ih (i+1) h.2 k o (by simpa using a) e he hb;omega
def D_ {ops:List Oper} {m:Nat} {o:Oper}:∀(l:List Oper) (j:Nat),pA ops m o j l=true->∀(k:Nat) (p:Oper),l[k]?=some p->rL ops p o=true->m.testBit (j+k)=true:=by
 intro l
 induction l with
 |nil=>intro j _ k p h;simp at h
 |cons q l ih=>
  intro j h k p a b;simp only[pA,Kw,l1i,X!,xL] at h;cases k with
  |zero=>
   simp at a;subst a;rcases h.1 with h1|h1
   ·rw[b] at h1;cases h1
   ·exact h1
  |succ k=>
   have:=ih (j+1) h.2 k p (by simpa using a) b;rw[show j+(k+1)=j+1+k from by omega];exact this
def A6D {ops:List Oper}:∀(l:List Oper) (i:Nat),B42 ops (Tk ops) i l=true->∀(k:Nat) (o:Oper),l[k]?=some o->∀(j:Nat) (p:Oper),j<i+k->ops[j]?=some p->rL ops p o=true->Rch ops (i+k) j:=by
 intro l
 induction l with
 |nil=>intro i _ k o h;simp at h
 |cons q l ih=>
  intro i h k o a j p d b c;simp only[B42,Kw] at h;cases k with
  |zero=>
   simp at a;subst a;have:=D_ _ 0 h.1 j p (by rw[X?,Dj (by simpa using d)];exact b) c;rw[JQ] at this;exact Pu this
  |succ k=>
   have:=ih (i+1) h.2 k o (by simpa using a) j p (by omega) b c;rw[show i+(k+1)=i+1+k from by omega];exact this
def rN {ops:List Oper} {efs:List Nat} (h:xQ ops efs=true):RegOk ops efs:=by
 simp only[xQ,Kw,GH] at h;obtain⟨⟨⟨s,h1⟩,h2⟩,v⟩:=h;refine⟨λi j f=> ?_,λi j o p w q x y=> ?_,A46 h2,λa k e f g=> ?_,λa e f=> ?_⟩
 ·obtain⟨o,q,e,he,hb,rfl⟩:=iJ.1 f;have:=A4c ops 0 s i o q e he hb;omega
 ·have r:rL ops p o=true:=by
   unfold rL;rcases y with⟨d,n,c⟩|⟨d,n,c⟩
   ·rw[n];rcases c with c|c
    ·simp[c]
    ·simp[c]
   ·rw[n];simp[c]
  have:=A6D ops 0 h1 i o q j p (by omega) x r
  rwa[JQ] at this
 ·rcases Nat.lt_trichotomy a k with b|b|b
  ·exact absurd (zD h2 a k e e b f g) (l1l _)
  ·exact b
  ·exact absurd (zD h2 k a e e b g f) (l1l _)
 ·have:=v e (l1m f);simpa [Wj] using this
def IE (ops:List Oper) (val:Nat->AV) (t:Tm) (L:Nat->Bool):Nat->Tm
 |0=>t
 |j+1=>match L j,ops[j]? with
  |true,some o=>R5 (IE ops val t L j) o.dst (val j)
  |_,_=>IE ops val t L j
def U9 {t:Tm} {d:Option Tmp} {v:AV}:HZ (R5 t d v) u=if d=some u then v else HZ t u:=by
 cases d with
 |none=>simp[R5]
 |some d=>
  simp only[R5,HZ];by_cases h:u=d
  ·simp[h]
  ·rw[C4 h,C4 (λe=>h (by injection e with e;exact e.symm))]
section
variable {ops:List Oper} {efs:List Nat} {val:Nat->AV} {t:Tm} {L:Nat->Bool}
def A2P (q:RegOk ops efs) (b:∀i j,L i=true->iK ops i j=true->L j=true) {o:Oper} (r:ops[i]?=some o) (hr:∀j,iK ops i j=true->L j=true) (d:L i=false) (s:u∈Od ops o) (n:Nat) (hn:i<=n):
 HZ (IE ops val t L n) u=HZ (IE ops val t (λ_=>true) i) u:=by
 have h1:∀j,j<=i->HZ (IE ops val t L j) u=HZ (IE ops val t (λ_=>true) j) u:=by
  intro j
  induction j with
  |zero=>intro _;rfl
  |succ j ih=>
   intro v;have:=ih (by omega);simp only[IE];cases c:ops[j]? with
   |none=>cases L j<;>simpa [c] using this
   |some p=>
    by_cases a:p.dst=some u
    ·have f:=q.ord i j o p (by omega) r c (.inl ⟨u,a,.inl s⟩);rw[f.mem' b hr];simp only[U9,Dj a]
    ·cases e:L j
     ·simp only[U9,C4 a];exact this
     ·simp only[U9,C4 a];exact this
 have h2:∀j,i<=j->HZ (IE ops val t L j) u=HZ (IE ops val t L i) u:=by
  intro j
  induction j with
  |zero=>
   intro h;have:i=0:=by omega
   subst this;rfl
  |succ j ih=>
   intro v;by_cases k:i=j+1
   ·subst k;rfl
   ·have:=ih (by omega);simp only[IE];cases c:ops[j]? with
    |none=>cases L j<;>simpa [c] using this
    |some p=>
     cases e:L j
     ·simpa using this
     ·simp only[U9];by_cases a:p.dst=some u
      ·exfalso;by_cases g:i=j
       ·subst g;rw[e] at d;cases d
       ·have f:=q.ord j i p o (by omega) c r (.inr ⟨u,a,s⟩);rw[f.mem b e] at d;cases d
      ·rw[C4 a];exact this
 rw[h2 n hn,h1 i (Mb _)]
def A8L (x:RegOk ops efs) (d:∀i j,L i=true->iK ops i j=true->L j=true) {o:Oper} (q:ops[i]?=some o) (f:L i=false) (u:Nat) (n:Nat) (hn:i<n):
 HZ (R5 (IE ops val t L n) o.dst (val i)) u=HZ (IE ops val t (λk=>if k=i then true else L k) n) u:=by
 have h1:∀j,j<=i->IE ops val t (λk=>if k=i then true else L k) j=IE ops val t L j:=by
  intro j
  induction j with
  |zero=>intro _;rfl
  |succ j ih=>
   intro w;have a:j≠i:=by omega
   simp only[IE,C4 a,ih (by omega)]
 have h2:∀j,i<j->HZ (R5 (IE ops val t L j) o.dst (val i)) u=HZ (IE ops val t (λk=>if k=i then true else L k) j) u:=by
  intro j
  induction j with
  |zero=>intro h;omega
  |succ j ih=>
   intro w;by_cases c:i=j
   ·subst c;simp only[IE,f,if_true,q,h1 i (Mb _)]
   ·have:=ih (by omega);have a:j≠i:= λe=>c e.symm;simp only[IE,C4 a];cases r:ops[j]? with
    |none=>cases L j<;>simpa [r] using this
    |some p=>
     cases s:L j
     ·simpa using this
     ·simp only[U9] at this⊢;by_cases b:p.dst=some u
      ·have g:o.dst≠some u:= λh=>by
        have v:=x.ord j i p o (by omega) r q (.inl ⟨u,h,.inr b⟩);rw[v.mem d s] at f;cases f
       rw[C4 g,Dj b,Dj b]
      ·rw[C4 b,C4 b];exact this
 exact h2 n hn
end
def IK (ops:List Oper) (o:Oper) (t:Tm):Tm:=(Od ops o).map λu=>(u,HZ t u)
def A2L {ops:List Oper} {o:Oper} {t:Tm} (u:Nat):HZ (IK ops o t) u= .dk\/(u∈Od ops o/\HZ (IK ops o t) u=HZ t u):=by
 unfold IK
 induction Od ops o with
 |nil=>exact .inl rfl
 |cons x l ih=>
  simp only[WR,HZ];by_cases h:u=x
  ·subst h;rw[Dj rfl];exact .inr ⟨by simp,rfl⟩
  ·rw[C4 h];rcases ih with ih|⟨h1,h2⟩
   ·exact .inl ih
   ·exact .inr ⟨List.mem_cons_of_mem _ h1,h2⟩
def C1E (ops:List Oper) (efs:List Nat) (i m:Nat):Prop:=(∀(a e:Nat),efs[a]?=some e->Rch ops i e->a<m)/\(∀(a e:Nat),efs[a]?=some e->Rch ops e i->m<=a)
def B5e (P:Program) (G:Gl) (ro:Option Nat) (N:Nat) (ops:List Oper) (o:Oper) (t:Tm) (H:Hp) (v:AV) (H':Hp):Prop:=
 ((GX ops t o= .run\/GX ops t o= .dep true)/\Tv P G ro N o t H (λb a=>b=v/\a=H'))\/((GX ops t o= .skip\/GX ops t o= .dep false)/\v= .v undef/\H'=H)
section
variable {P:Program} {G:Gl} {ro:Option Nat} {m N:Nat} {Q:Exit->Tm->Hp->Prop} {t:Tm}
def St.congr {w0:Base} {s0:Nat} {C:Ctx} {b:Tm} {H:Hp} {a:Act} {w:World} (s:St G w0 s0 C N t H a w) (h:∀u,HZ b u=HZ t u\/HZ b u= .dk):St G w0 s0 C N b H a w:=
 ⟨s.rel,s.size,λu=>by
  rcases h u with e|e
  ·rw[e];exact s.tmps u
  ·rw[e];exact .dk _,s.defers,s.le⟩
def Vg (L:Nat->Bool):Nat->Nat
 |0=>0
 |j+1=>Vg L j+(if L j then 0 else 1)
def B1q {L:Nat->Bool} (d:L i=false):∀n,Vg (λk=>if k=i then true else L k) n+(if i<n then 1 else 0)=Vg L n:=by
 intro n
 induction n with
 |zero=>simp[Vg]
 |succ n ih=>
  have b:Vg (λk=>if k=i then true else L k) (n+1)=Vg (λk=>if k=i then true else L k) n+(if(if n=i then true else L n)=true then 0 else 1):=rfl;have c:Vg L (n+1)=Vg L n+(if L n=true then 0 else 1):=rfl;rw[b,c];generalize Vg (λk=>if k=i then true else L k) n=x at*;generalize Vg L n=y at*;by_cases h:n=i
  ·subst h;rw[C4 (l1l _)] at ih;rw[Dj rfl,Dj rfl,Dj (Nat.lt_succ_self _),d,C4 (by simp)];omega
  ·rw[C4 h];by_cases a:i<n
   ·rw[Dj a] at ih;rw[Dj (by omega:i<n+1)];omega
   ·rw[C4 a] at ih;rw[C4 (by omega:¬i<n+1)];omega
def zC {L:Nat->Bool}:∀{n:Nat},Vg L n=0->∀i,i<n->L i=true:=by
 intro n
 induction n with
 |zero=>intro _ i h;omega
 |succ n ih=>
  intro h i b;simp only[Vg] at h;by_cases e:i=n
  ·subst e;by_cases a:L i=true
   ·exact a
   ·simp[a] at h
  ·exact ih (by omega) i (by omega)
def B1r {L:Nat->Bool}:∀{n:Nat},0<Vg L n->∃i,i<n/\L i=false/\∀j,j<i->L j=true:=by
 intro n
 induction n with
 |zero=>intro h;simp[Vg] at h
 |succ n ih=>
  intro h;by_cases e:0<Vg L n
  ·obtain⟨i,h1,h2,b⟩:=ih e;exact⟨i,by omega,h2,b⟩
  ·have a:Vg L n=0:=by omega
   simp only[Vg,a] at h;refine⟨n,by omega,?_,λj c=>zC a j c⟩;cases d:L n
   ·rfl
   ·simp[d] at h
def A8M {ops:List Oper} {val:Nat->AV} {L:Nat->Bool}:∀{n:Nat},(∀i,i<n->L i=true)->IE ops val t L n=IE ops val t (λ_=>true) n:=by
 intro n
 induction n with
 |zero=>intro _;rfl
 |succ n ih=>
  intro h;simp only[IE,h n (by omega),ih (λi a=>h i (by omega))]
def A1S {id:Nat} {ops:List Oper} {efs:List Nat} {val:Nat->AV} {Hs:Nat->Hp} (hm:P.follows .mixedOrders=true) (hk:RegOk ops efs) (hd:∀o∈ops,dok N o.dst)
 (az:∀(i:Nat) (o:Oper),ops[i]?=some o->(∀a:Nat,efs[a]?≠some i)->∀k,k<=efs.length->C1E ops efs i k->B5e P G ro N ops o (IK ops o (IE ops val t (λ_=>true) i)) (Hs k) (val i) (Hs k))
 (ar:∀(a i:Nat) (o:Oper),ops[i]?=some o->efs[a]?=some i->B5e P G ro N ops o (IK ops o (IE ops val t (λ_=>true) i)) (Hs a) (val i) (Hs (a+1)))
 (hq:Q .normal (IE ops val t (λ_=>true) ops.length) (Hs efs.length)):Tc P G ro m N (.region id ops.toArray true) Q t (Hs 0):=by
 intro w0 s0 R a w s;refine wpIn_region_any hm ?_;have key:∀(f:Nat) (Ls:Array Bool) (C:Ctx) (a:Act) (w1:World) (k:Nat),Ls.size=ops.length->Vg (λi=>Ls.getD i false) ops.length=f->(∀i j,Ls.getD i false=true->iK ops i j=true->Ls.getD j false=true)->
  k<=efs.length->(∀(b e:Nat),efs[b]?=some e->(Ls.getD e false=true↔b<k))->St G w0 s0 C N (IE ops val t (λi=>Ls.getD i false) ops.length) (Hs k) a w1->Frm m w0.own R w C w1->
  wpAnyIn (Fe ro) 0 P .any ops.toArray (M0 G w0 s0 m R N w Q) f Ls a w1:=by
  intro f
  induction f with
  |zero=>
   intro Ls C a w1 k hsz hc g ad d J ab;have A:=zC hc;have ax:k=efs.length:=by
    rcases Nat.lt_or_ge k efs.length with h|h
    ·exfalso;have:=(d k _ (K9 h)).1 (A _ (hk.lt k _ (K9 h)));omega
    ·omega
   refine⟨?_,⟨C,_,_,J,ab,?_⟩⟩
   ·unfold Region.ready;rw[List.filter_eq_nil_iff];intro i K;simp only[List.size_toArray,K8] at K;have h1:=A i K;have:Ls.getD i true=true:=by
     simp only[dV] at h1⊢;rw[l1p (by omega)] at h1⊢;exact h1
    simp[this]
   ·rw[ax,A8M A];exact hq
  |succ f ih=>
   intro Ls C a w1 k hsz hc g ad d J ab;have V:∀i,i<ops.length->Ls.getD i true=Ls.getD i false:= λi K=>by
    simp only[dV];rw[l1p (by omega)];rfl
   refine⟨λai=> ?_,λi K=> ?_⟩
   ·exfalso;obtain⟨i,h1,h2,h3⟩:=B1r (L:= λi=>Ls.getD i false) (n:=ops.length) (by omega);have:i∈Region.ready .any ops.toArray Ls:=by
     unfold Region.ready;rw[K_];refine⟨by simpa using h1,?_⟩;simp only[V i h1,h2,Bool.not_false,X',l15,K9 h1,xZ,l1q];rw[Array.all_eq_true_iff_forall_mem];intro e he;cases hb:Region.binds .any e
     ·rfl
     ·simp only[Bool.not_true,Bool.false_or];exact h3 e.on (hk.back i e.on (iJ.2 ⟨_,K9 h1,e,by simpa using he,hb,rfl⟩))
    rw[ai] at this;simp at this
   ·unfold Region.ready at K;rw[K_] at K;obtain⟨p,aj⟩:=K;simp only[List.size_toArray,K8] at p;have M:ops[i]?=some ops[i]:=K9 p;generalize ops[i]=o at M;simp only[V i p,l15,M,xZ,l1q,Kw,X!] at aj;obtain⟨r,af⟩:=aj;rw[Array.all_eq_true_iff_forall_mem] at af;have hr:∀j,iK ops i j=true->Ls.getD j false=true:= λj hj=>by
     obtain⟨o',O,e,he,hb,rfl⟩:=iJ.1 hj;rw[M] at O;injection O with O;subst O
     have:=af e (by simpa using he);simpa [hb] using this
    have c:∀k,(Ls.setIfInBounds i true).getD k false=if k=i then true else Ls.getD k false:=by
     intro k;simp only[dV,Array.getElem?_setIfInBounds];by_cases h:i=k
     ·subst h;simp[hsz,p]
     ·rw[C4 h,C4 (λe=>h e.symm)]
    have X:(λk=>(Ls.setIfInBounds i true).getD k false)= λk=>if k=i then true else Ls.getD k false:=funext c
    have Y:St G w0 s0 C N (IK ops o (IE ops val t (λ_=>true) i)) (Hs k) a w1:=J.congr λu=>by
     rcases A2L (ops:=ops) (o:=o) (t:=IE ops val t (λ_=>true) i) u with h|⟨h1,h2⟩
     ·exact .inr h
     ·exact .inl (by rw[h2];exact(A2P hk g M hr r h1 ops.length (by omega)).symm)
    have aq:=hd o (l1m M);have next:∀(q:Nat) (C':Ctx) (y:Value) (Z:World),(q=k/\(∀b:Nat,efs[b]?≠some i)\/q=k+1/\efs[k]?=some i)->VRel C' Z (val i) y->Rel G w0 C' (Hs q) Z->Ext w0.own C w1 C' Z->
     wpAnyIn (Fe ro) 0 P .any ops.toArray (M0 G w0 s0 m R N w Q) f (Ls.setIfInBounds i true) (a.put o.dst y) Z:=by
     intro q C' y Z D hv F e;refine ih (Ls.setIfInBounds i true) C' _ Z q (by simpa using hsz) ?_ ?_ ?_ ?_ ?_ (ab.trans e.frm)
     ·rw[X];have:=B1q (L:= λk=>Ls.getD k false) r ops.length;rw[Dj p] at this;omega
     ·intro x y hx an;rw[c x] at hx;rw[c y];split
      ·rfl
      ·by_cases am:x=i
       ·subst am;exact hr y an
       ·rw[C4 am] at hx;exact g x y hx an
     ·rcases D with⟨rfl,_⟩|⟨rfl,h⟩
      ·exact ad
      ·exact(yB.1 h).1
     ·intro b e' hb;rw[c e'];rcases D with⟨rfl,h⟩|⟨rfl,h⟩
      ·rw[C4 (λe:e'=i=>h b (by rw[hb,e]))];exact d b e' hb
      ·by_cases aa:e'=i
       ·subst aa;have:=hk.inj b k _ hb h;simp[this]
       ·rw[C4 aa,d b e' hb];have:b≠k:= λe=>aa (by rw[e,h] at hb;injection hb with hb;exact hb.symm);omega
     ·exact(A2R J F e hv aq).congr λu=> .inl (by rw[X];exact(A8L hk g M r u ops.length p).symm)
    have fin:∀(q:Nat),(q=k/\(∀b:Nat,efs[b]?≠some i)\/q=k+1/\efs[k]?=some i)->B5e P G ro N ops o (IK ops o (IE ops val t (λ_=>true) i)) (Hs k) (val i) (Hs q)->
     wpOpIn (Fe ro) 0 P ops.toArray (M0 G w0 s0 m R N w Q) i (wpAnyIn (Fe ro) 0 P .any ops.toArray (M0 G w0 s0 m R N w Q) f (Ls.setIfInBounds i true)) a w1:=by
     intro q D hG;have hg:=uR Y.tmps ops o;unfold wpOpIn;simp only[l15,M];rcases hG with⟨ac,hA⟩|⟨ac,ak,hH⟩
     ·have hw:Region.wanted o (yielded ops.toArray a.tmps)=true:=by
       rcases ac with h|h
       ·exact hg.1 h
       ·exact hg.2.2 _ h
      rw[Dj hw];refine RY ?_ (hA w0 s0 C a w1 _ Y);rintro a' Z ⟨v,y,C',H',rfl,⟨rfl,rfl⟩,hv,F,e⟩;exact next q C' y Z D hv F e
     ·have hw:Region.wanted o (yielded ops.toArray a.tmps)=false:=by
       rcases ac with h|h
       ·exact hg.2.1 h
       ·exact hg.2.2 _ h
      rw[C4 (by rw[hw];simp)];exact⟨λ_ _=>trivial,next q C undef w1 D (by rw[ak];exact .v _) (by rw[hH];exact J.rel) (.refl _ _ _)⟩
    by_cases K:∃b:Nat,efs[b]?=some i
    ·obtain⟨b,hb⟩:=K;have ao:b=k:=by
      have h1:¬b<k:= λh=>by
       have:=(d b i hb).2 h;rw[r] at this;cases this
      rcases Nat.eq_zero_or_pos b with h0|h0
      ·omega
      ·have ag:b-1<efs.length:=by have:=(yB.1 hb).1;omega
       have ap:=hk.chain (b-1) _ i (K9 ag) (by rw[Nat.sub_add_cancel h0];exact hb);have:=(d (b-1) _ (K9 ag)).1 (ap.mem' (L:= λi=>Ls.getD i false) g hr);omega
     subst ao;exact fin (b+1) (.inr ⟨rfl,hb⟩) (ar b i o M hb)
    ·have ah:∀b:Nat,efs[b]?≠some i:= λb hb=>K ⟨b,hb⟩;refine fin k (.inl ⟨rfl,ah⟩) (az i o M ah k ad ⟨λb e hb ha=>(d b e hb).1 (ha.mem' (L:= λi=>Ls.getD i false) g hr),λb e hb ha=> ?_⟩);rcases Nat.lt_or_ge b k with h|h
     ·have:=ha.mem (L:= λi=>Ls.getD i false) g ((d b e hb).2 h);simp only[r] at this;cases this
     ·exact h
 have H:(λi=>(Array.replicate ops.length false).getD i false)= λ_=>false:=by
  funext i
  simp only[dV,Array.getElem?_replicate];split<;>rfl
 have ay:∀n,IE ops val t (λ_=>false) n=t:=by
  intro n
  induction n with
  |zero=>rfl
  |succ n ih=>simp only[IE];exact ih
 have ae:∀n,Vg (λ_=>false) n=n:=by
  intro n
  induction n with
  |zero=>rfl
  |succ n ih=>simp[Vg,ih]
 have hb:Below w.heap.size w {w with drawn:=w.drawn+1}:=A1Q w _;have e0:Ext w0.own R w R {w with drawn:=w.drawn+1}:=s.rel.ext_below hb;have hz:∀i,(Array.replicate ops.length false).getD i false=false:= λi=>congrFun H i;have:=key ops.length (Array.replicate ops.length false) R a {w with drawn:=w.drawn+1} 0 (by simp) (by rw[H];exact ae _) (λi j h=>by rw[hz] at h;cases h) (W? _) (λb e _=>by rw[hz];simp) (by rw[H,ay];exact⟨s.rel.of_below hb,s.size,s.tmps.mono e0,s.defers.mono e0.B e0.keepB,Z7 s.le e0.grow⟩) e0.frm;simpa using this
end
end
end Go.Abs
end
