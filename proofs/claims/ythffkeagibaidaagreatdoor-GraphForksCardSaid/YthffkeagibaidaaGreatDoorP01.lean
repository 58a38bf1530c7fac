import Derived.RangeFuncIn
import Derived.RangeFuncStops
import Derived.RangeFuncLeaves
import Derived.OrdersIn
import Derived.Test.YthffkeagibaidaaGreatDoorP00
set_option linter.all false
set_option maxHeartbeats 0
noncomputable section
namespace Go.Abs
open Go.RowKit
section
variable{K:AV->Prop}{C:Ctx}{P:Program}{w:World}
def A5W(off:Nat)(l:Hx):∀(k:Nat)(cs:Array Value),off+k+l.length<=cs.size->(l.zipIdx k).foldl (λ(cs:Array Value)(p:Value×Nat)=>cs.setIfInBounds (off+p.2) p.1) cs=(splice cs.toList (off+k) l).toArray:=by
 induction l with
 |nil=>intro k cs _;simp[iP]
 |cons v l ih=>
  intro k cs h;simp only[List.zipIdx_cons,List.foldl_cons];simp only[Kg]at h;rw[ih (k+1) _ (by simp;omega)]
  congr 1
  rw[<-ZR (by simp;omega)];simp[WE]
def Z!(v:Value)(off:Nat)(cs:Array Value)(h:off+v.cells.size<=cs.size):v.cells.zipIdx.foldl (λ(cs:Array Value)(p:Value×Nat)=>cs.setIfInBounds (off+p.2) p.1) cs=(splice cs.toList off v.cells.toList).toArray:=by
 have:=A5W off v.cells.toList 0 cs (by simpa using h);rw[<-Array.foldl_toList];simpa using this
def PX(place:Nat->Option (Nat×Nat)):List (Nat×AV)->Is->Option Is
 |[],cs=>some cs
 |(i,a)::rest,cs=>match place i with
  |none=>none
  |some (off,sz)=>if(Br a).length=sz/\off+(Br a).length<=cs.length/\(Br a).all AV.one=true then PX place rest (splice cs off (Br a)) else none
theorem BU.splice{cs a:Is}{ys zs:Hx}{o:Nat}(h:BU C w cs ys)(k:BU C w a zs):BU C w (splice cs o a) (splice ys o zs):=by
 unfold Abs.splice;rw[k.1];exact((h.take o).append k).append (h.drop _)
def Yd{place:Nat->Option (Nat×Nat)}:∀(ps:List (Nat×AV))(c:List (Nat×Value))(cs:Is)(ys:Hx)(r:Is),ps.length=c.length->(∀(j:Nat)(p:Nat×AV),ps[j]?=some p->∃z,c[j]?=some (p.1,z)/\VRel C w p.2 z)->BU C w cs ys->
 PX place ps cs=some r->∃g:Hx,Instr.fill place ys.toArray c=some g.toArray/\BU C w r g:=by
 intro ps
 induction ps with
 |nil=>
  intro c cs ys r f _ hr h;cases c with
  |cons _ _=>simp at f
  |nil=>simp[PX]at h;subst h;exact⟨ys,rfl,hr⟩
 |cons p ps ih=>
  intro c cs ys r f hq hr h;obtain⟨i,a⟩:=p;cases c with
  |nil=>simp at f
  |cons q c=>
   obtain⟨z,hz,hv⟩:=hq 0 (i,a) rfl;simp at hz;subst hz;simp only[PX]at h;split at h
   ·cases h
   ·rename_i off sz u;split at h
    ·rename_i hc;obtain⟨h1,h2,n⟩:=hc;obtain⟨d,m⟩:=hv.cells n;have k:z.cells.size=(Br a).length:=by have:=d.1;simpa using this
     have v:ys.length=cs.length:=hr.1;obtain⟨g,s,e⟩:=ih c _ (splice ys off z.cells.toList) r (by simpa using f) (λj p t=>by have:=hq (j+1) p (by simpa using t);simpa using this) (hr.splice d) h;refine⟨g,?_,e⟩;simp only[Instr.fill,u];have c1:¬(z.cells.size≠sz||off+z.cells.size>ys.toArray.size)=true:=by simp;omega
     rw[Co c1];rw[Z! z off ys.toArray (by simp;omega)];simpa using s
    ·cases h
def hJ(T:Ty)(ty:TypeId)(ps:List (Nat×AV))(K:AV->Prop):Prop:=
 match T ty with
 |some i=>match i.d with
  |.struct c=>(c.all λf=>f.2.1 !=0)=true/\J3 (PX (λj=>(c[j]?).map λf=>(f.1,f.2.1)) ps (Br i.zero)) λcs=>K (.agg cs)
  |.array _ _ a=>a≠0/\J3 (PX (λj=>some (j*a,a)) ps (Br i.zero)) λcs=>K (.agg cs)
  |_=>False
 |none=>False
def pM(z:Value)(h:∀vs,z≠.tuple vs):BU C w (Br (pN z)) z.cells.toList:=by
 cases z with
 |agg cs=>simpa [pN,Br,Value.cells] using Tb (C:=C) (w:=w) cs.toList
 |tuple vs=>exact absurd rfl (h vs)
 |_=>exact .cons (.v _) .nil
def xI(w:World):∀(l:List Field),(l.all λf=>P.cellsOf f.type !=0)=true->(l.mapM (λf=>do pure (f.offset,<-sizeOf f.type):Field->Sem (Nat×Nat))).run P w=.ok (l.map λf=>(f.offset,P.cellsOf f.type)) w:=by
 intro l
 induction l with
 |nil=>intro _;rfl
 |cons f l ih=>
  intro h;simp only[W?,I0,bne_iff_ne,ne_eq]at h;rw[List.mapM_cons];simp only[Cr,B2 w h.1,Eu,Zn,ih h.2,Zm]
def rP{T:Ty}(L:Y8 P T){ty:TypeId}{ps:List (Nat×AV)}{m:List (Nat×Value)}(c:ps.length=m.length)(hq:∀(j:Nat)(p:Nat×AV),ps[j]?=some p->∃z,m[j]?=some (p.1,z)/\VRel C w p.2 z)(h:hJ T ty ps K):∃v u,(Instr.build ty m.toArray).run P w=.ok u w/\VRel C w v u/\K v:=by
 unfold hJ at h;split at h
 ·rename_i i M;have ok:=L ty i M;obtain⟨z,hz,F⟩:=ok.run_zero (P:=P) w;obtain⟨u,N,e⟩:=ok.under;have B:(Br i.zero).length=z.cells.size->BU C w (Br i.zero) z.cells.toList:=by
   intro _;rw[<-F];cases z with
   |tuple vs=>exact .cons (.v _) .nil
   |agg cs=>exact pM _ (by simp)
   |_=>exact .cons (.v _) .nil
  have D:(Br i.zero).length=z.cells.size:=by
   rw[<-F];cases z<;>simp[pN,Br,Value.cells]
  have k:=B D;split at h
  ·rename_i H s;obtain⟨a,h⟩:=h;rw[s]at e;cases u<;>simp[td]at e
   rename_i fields;cases g:PX (λj=>(H[j]?).map λf=>(f.1,f.2.1)) ps (Br i.zero) with
   |none=>rw[g]at h;exact h.elim
   |some r=>
    rw[g]at h;obtain⟨q,h1,h2⟩:=Yd (C:=C) (w:=w) ps m _ _ r c hq k g;refine⟨.agg r,.agg q.toArray,?_,D5.2 ⟨q,rfl,h2⟩,h⟩;have hm:=xI (P:=P) w fields.toList (by
     rw[<-e]at a;simpa [List.all_map,l1t] using a)
    have t:(fields.mapM (λf=>do pure (f.offset,<-sizeOf f.type):Field->Sem (Nat×Nat))).run P w=.ok (fields.toList.map λf=>(f.offset,P.cellsOf f.type)).toArray w:=by
     rw[Array.mapM_eq_mapM_toList,Sem.run_map,hm];rfl
    have y:(λ(j:Nat)=>((fields.toList.map λf=>(f.offset,P.cellsOf f.type)).toArray)[j]?)=(λ(j:Nat)=>(H[j]?).map λ(f:Nat×Nat×TypeId)=>(f.1,f.2.1)):=by
     funext j
     rw[<-e];simp[pS,l1t]
    unfold Instr.build;rw[Cr,hz];simp only[Eu];rw[Cr,run_underlying N w];simp only[Eu];rw[Cr,t];simp only[Eu];rw[y];simp only[Array.toArray_toList]at h1;simp[h1]
  ·rename_i n J d s;obtain⟨x,h⟩:=h;obtain⟨A,hc⟩:=ok.elem_array s;have hsz:(sizeOf J).run P w=.ok d w:=by rw[<-hc];exact B2 w (by rw[hc];exact x)
   cases g:PX (λj=>some (j*d,d)) ps (Br i.zero) with
   |none=>rw[g]at h;exact h.elim
   |some r=>
    rw[g]at h;obtain⟨q,h1,h2⟩:=Yd (C:=C) (w:=w) ps m _ _ r c hq k g;refine⟨.agg r,.agg q.toArray,?_,D5.2 ⟨q,rfl,h2⟩,h⟩;simp only[Array.toArray_toList]at h1;unfold Instr.build;rw[Cr,hz];simp only[Eu];rw[Cr,run_underlying A w];simp only[Eu];rw[Cr,hsz];simp[h1]
  ·exact h.elim
 ·exact h.elim
def A3Q(T:Ty)(ty:TypeId)(a:AV)(K:AV->Prop):Prop:=
 match T ty with
 |some i=>match i.d,a with
  |.string,.v (.string s)=>K (.v (.int .i64 s.size))
  |.slice ..,.list n _=>K (.v (.int .i64 n))
  |.slice ..,.sl _ _ _ n=>K (.v (.int .i64 n))
  |.slice ..,.v (.slice none 0 0)=>K (.v (.int .i64 0))
  |.array n _ _,_=>K (.v (.int .i64 n))
  |_,_=>False
 |none=>False
def H?{T:Ty}(j:Y8 P T){ty rt:TypeId}{ts:Array TypeId}{a:AV}{y:Value}(c:ts[0]?=some ty)(g:VRel C w a y)(h:A3Q T ty a K):∃v u,(Builtin.len_ ts rt #[y]).run P w=.ok u w/\VRel C w v u/\K v:=by
 unfold A3Q at h;split at h
 ·rename_i i k;have ok:=j ty i k;obtain⟨u,f,e⟩:=ok.under;split at h
  ·rename_i s d;obtain rfl:=A6.1 g;rw[d]at e;cases u<;>simp[td]at e
   exact⟨_,_,by simp[Builtin.len_,c,run_underlying f];rfl,.v _,h⟩
  ·rename_i d;rw[d]at e;cases u<;>simp[td]at e
   cases g with
   |list0=>exact⟨_,_,by simp[Builtin.len_,c,run_underlying f];rfl,.v _,h⟩
   |list=>exact⟨_,_,by simp[Builtin.len_,c,run_underlying f];rfl,.v _,h⟩
  ·rename_i d;rw[d]at e;cases u<;>simp[td]at e
   cases g with
   |slz=>exact⟨_,_,by simp[Builtin.len_,c,run_underlying f];rfl,.v _,h⟩
   |sl=>exact⟨_,_,by simp[Builtin.len_,c,run_underlying f];rfl,.v _,h⟩
  ·rename_i d;obtain rfl:=A6.1 g;rw[d]at e;cases u<;>simp[td]at e
   exact⟨_,_,by simp[Builtin.len_,c,run_underlying f];rfl,.v _,h⟩
  ·rename_i d;rw[d]at e;cases u<;>simp[td]at e
   obtain⟨rfl,_⟩:=e;exact⟨_,_,by simp[Builtin.len_,c,run_underlying f];rfl,.v _,h⟩
  ·exact h.elim
 ·exact h.elim
end
section
variable{K:AV->Hp->Prop}
def It(G:Gl)(w0:Base)(C:Ctx)(w:World)(v:AV)(H:Hp)(y:Value)(C':Ctx)(w':World):Prop:=VRel C' w' v y/\Rel G w0 C' H w'/\Ext w0.own C w C' w'
def WO(w:World)(o:Obj):Below w.heap.size w {w with heap:=w.heap.push o}:=
 ⟨rfl,rfl,rfl,by simp,λk hk=>by simp[l27,Nat.ne_of_lt hk]⟩
def zQ(w:World)(B:Nat):Below B w {w with drawn:=w.drawn+1}:=⟨rfl,rfl,rfl,MZ _,λ_ _=>rfl⟩
section
variable{P:Program}{G:Gl}{w0:Base}{w:World}{C:Ctx}{H:Hp}
def A16(hr:Rel G w0 C H w)(T:TypeId){cs:Is}{arr:Array Value}(hv:BU C w cs arr.toList):
 It G w0 C w (.ptr (Ay H) 0 0) ((Ay H,.cells true T cs)::H) (.pointer (some ⟨w.heap.size,0,none⟩)) (C.put (Ay H) (some (w.heap.size,0))) {w with heap:=w.heap.push (.cells arr T)}:=by
 have hb:=WO w (.cells arr T);have a:arr.size=cs.length:=by simpa using hv.1
 refine⟨?_,hr.new (q:=true) hb (arr:=arr) (fz:=(0,0)) (by simp) (λi _=>by omega) (by omega) (by rw[l1z (by simp;omega)];exact hv) (λ_=>a),hr.new_ext hb⟩;have:VRel (C.put (Ay H) (some (w.heap.size,0))) {w with heap:=w.heap.push (.cells arr T)} (.ptr (Ay H) 0 0) (.pointer (some ⟨w.heap.size,0+(0+0),none⟩)):=.ptr (C.put_n _ _);simpa using this
def Vz(hr:Rel G w0 C H w){w':World}(hb:Below w.heap.size w w')(T:TypeId){cs:Is}{arr:Array Value}{fz:Nat×Nat}(hk:w'.heap[w.heap.size]?=some (.cells arr T fz))(Od:∀i,i<arr.size->¬(fz.1<=i/\i<fz.2))(sz n cap:Nat)(a:n<=cap)(hsz:cap*sz<=arr.size)(c:cs.length<=arr.size)(hv:BU (C.sel false) w cs (arr.toList.take cs.length)):
 It G w0 C w (.sl sz (Ay H) 0 n) ((Ay H,.cells false T cs)::H) (.slice (some ⟨w.heap.size,0,none⟩) n cap) (C.put (Ay H) (some (w.heap.size,0))) w':=by
 refine⟨?_,hr.new (q:=false) hb hk Od c hv (λh=>by cases h),hr.new_ext hb⟩;have:VRel (C.put (Ay H) (some (w.heap.size,0))) w' (.sl sz (Ay H) 0 n) (.slice (some ⟨w.heap.size,0+0,none⟩) n cap):=.sl (C.put_n _ _) a hk (by omega);simpa using this
def iA(T:Ty)(ty:TypeId)(H:Hp)(r:Nat)(K:AV->Hp->Prop):Prop:=
 match T ty with
 |some i=>K (.ptr r 0 0) ((r,.cells true ty (Br i.zero))::H)
 |none=>False
def Mj{t:TypeId}{i:TI}{z:Value}(a:pN z=i.zero):BU C w (Br i.zero) z.cells.toList:=by
 rw[<-a];cases z with
 |agg cs=>exact pM _ (by simp)
 |_=>exact .cons (.v _) .nil
def rQ{T:Ty}(f:Y8 P T){ty:TypeId}(hr:Rel G w0 C H w)(h:iA T ty H (Ay H) K):∃v a y d c,K v a/\(Instr.alloc ty true (.tuple #[])).run P w=.ok y c/\It G w0 C w v a y d c:=by
 unfold iA at h;split at h
 ·rename_i i g;obtain⟨z,hz,e⟩:=(f ty i g).run_zero (P:=P) w;refine⟨_,_,_,_,_,h,?_,A16 hr ty (Mj (t:=ty) e)⟩;simp[Instr.alloc,hz,newVar,newRow]
 ·exact h.elim
def B1g(ty:TypeId)(a:AV)(H:Hp)(r:Nat)(K:AV->Hp->Prop):Prop:=(Br a).all AV.one=true/\K (.ptr r 0 0) ((r,.cells true ty (Br a))::H)
def H_{ty:TypeId}{a:AV}{y:Value}(hr:Rel G w0 C H w)(f:VRel C w a y)(h:B1g ty a H (Ay H) K):∃v c z e d,K v c/\(Instr.box ty y).run P w=.ok z d/\It G w0 C w v c z e d:=by
 obtain⟨h1,h⟩:=h;refine⟨_,_,_,_,_,h,?_,A16 hr ty (f.cells h1).1⟩;simp[Instr.box,newVar,newRow]
def Ur:Nat->Is->Is
 |0,_=>[]
 |n+1,z=>z++Ur n z
def WZ(z:Array Value):∀n,(Array.range (n*z.size)).map (λi=>z[i%z.size]!)=((List.range n).flatMap λ_=>z.toList).toArray:=by
 intro n;apply fB;simp only[Array.toList_map,Array.toList_range]
 induction n with
 |zero=>simp
 |succ n ih=>
  rw[List.range_succ,l2g,<-ih,Nat.succ_mul,List.range_add,UT]
  congr 1
  simp only[List.map_map,kL,List.flatMap_nil,fV];apply l0o;intro j;by_cases a:j<z.size
  ·simp[a,Nat.mod_eq_of_lt a]
  ·simp[a]
def Xt(z:Is):∀n,Ur n z=(List.range n).flatMap λ_=>z:=by
 intro n
 induction n with
 |zero=>rfl
 |succ n ih=>rw[List.range_succ_eq_map];simp[Ur,ih,List.flatMap_map]
def V0{cs:Is}{zs:Hx}(h:BU C w cs zs):∀n,BU C w ((List.range n).flatMap λ_=>cs) ((List.range n).flatMap λ_=>zs):=by
 intro n
 induction n with
 |zero=>exact .nil
 |succ n ih=>
  rw[List.range_succ,l2g,l2g];refine ih.append ?_;simpa using h
def Uq(z:Is):∀n,(Ur n z).length=n*z.length:=by
 intro n
 induction n with
 |zero=>simp[Ur]
 |succ n ih=>simp[Ur,ih,Nat.succ_mul,Nat.add_comm]
def Y5{place:Nat->Option (Nat×Nat)}:∀(ps:List (Nat×AV))(cs r:Is),PX place ps cs=some r->r.length=cs.length:=by
 intro ps
 induction ps with
 |nil=>intro cs r h;simp[PX]at h;subst h;rfl
 |cons p ps ih=>
  intro cs r h;obtain⟨i,a⟩:=p;simp only[PX]at h;split at h
  ·cases h
  ·split at h
   ·rename_i hc;rw[ih _ _ h,Es hc.2.1]
   ·cases h
def Xe(T:Ty)(ty:TypeId)(n:Nat)(ps:List (Nat×AV))(H:Hp)(r:Nat)(K:AV->Hp->Prop):Prop:=
 match T ty with
 |some i=>match i.d with
  |.slice e a=>match T e with
   |some c=>a≠0/\(Br c.zero).length=a/\n*a<=2^24/\J3 (PX (λj=>some (j*a,a)) ps (Ur n (Br c.zero))) λcs=>K (.sl a r 0 n) ((r,.cells false e cs)::H)
   |none=>False
  |_=>False
 |none=>False
def mP{T:Ty}(Q:Y8 P T){ty:TypeId}{n:Nat}{ps:List (Nat×AV)}{q:List (Nat×Value)}(d:ps.length=q.length)(hq:∀(j:Nat)(p:Nat×AV),ps[j]?=some p->∃z,q[j]?=some (p.1,z)/\VRel C w p.2 z)(hr:Rel G w0 C H w)(h:Xe T ty n ps H (Ay H) K):
 ∃v O y X V,K v O/\(Instr.buildSlice ty n q.toArray).run P w=.ok y V/\It G w0 C w v O y X V:=by
 unfold Xe at h;split at h
 ·rename_i i hi;have ok:=Q ty i hi;split at h
  ·rename_i e a Z;split at h
   ·rename_i m B;obtain⟨f,J,R,h⟩:=h;obtain⟨hu,hc⟩:=ok.elem_slice Z;have N:=Q e m B;obtain⟨z,hz,Y⟩:=N.run_zero (P:=P) w;have hsz:(sizeOf e).run P w=.ok a w:=by rw[<-hc];exact B2 w (by rw[hc];exact f)
    have g:BU C w (Br m.zero) z.cells.toList:=Mj (t:=e) Y;have L:z.cells.size=a:=by have:=g.1;simp at this;omega
    cases k:PX (λj=>some (j*a,a)) ps (Ur n (Br m.zero)) with
    |none=>rw[k]at h;exact h.elim
    |some r=>
     rw[k]at h;have M:BU C w (Ur n (Br m.zero)) ((List.range n).flatMap λ_=>z.cells.toList):=by rw[Xt];exact V0 g n
     obtain⟨s,h1,h2⟩:=Yd (C:=C) (w:=w) ps q _ _ r d hq M k;have c:¬(n*a>2^24):=by omega
     have F:s.length=n*a:=by rw[h2.1,Y5 _ _ _ k,Uq,J]
     have A:BU (C.sel false) w r s:=h2;have key:=Vz hr (WO w (.cells s.toArray e)) e (cs:=r) (arr:=s.toArray) (fz:=(0,0)) (by simp) (λi _=>by omega) a n n (MZ _) (by simp[F]) (by simp;exact Nat.le_of_eq h2.1.symm) (by rw[l1z (by simp;exact Nat.le_of_eq h2.1)];simpa using A);refine⟨_,_,_,_,_,h,?_,key⟩;unfold Instr.buildSlice;rw[Cr,run_underlying hu w];simp only[Eu];rw[Cr,hsz];simp only[Eu,Co c,pure_bind];by_cases u:n*a=0
     ·have D:n=0:=by rcases Nat.mul_eq_zero.1 u with h|h;exact h;exact absurd h f
      subst D;rw[CJ u];simp only[List.range_zero,List.flatMap_nil]at h1;rw[show(Array.map (λx=>(#[]:Array Value)[x%(#[]:Array Value).size]!) (Array.range (0*a)))= #[] from by rw[Nat.zero_mul];apply fB;simp,h1];simp[newRow]
     ·rw[Co u,Cr,hz];simp only[Eu];have:=WZ z.cells n;rw[L]at this⊢;rw[this,h1];simp[newRow]
   ·exact h.elim
  ·exact h.elim
 ·exact h.elim
end
end
section
variable{q q':Bool}{aZ:Is}{ys:Hx}
def zV(H:Hp)(x:AV):Option (Nat×Is×Bool):=
 match x with
 |.list m cs=>some (m,cs,true)
 |.sl sz r o m=>match Ao H r with
  |some (.cells q _ cs)=>some (m,(cs.drop o).take (m*sz),q)
  |_=>none
 |.v (.slice none 0 0)=>some (0,[],true)
 |.v (.string s)=>some (s.size,s.data.toList.map λb=>.v (.int .u8 b.toNat),true)
 |_=>none
section
variable{P:Program}{G:Gl}{w0:Base}{w:World}{C:Ctx}{H:Hp}
def Tw{x:AV}{y:Value}{m:Nat}{ys:Is}{esz:Nat}(hr:Rel G w0 C H w)(A:VRel C w x y)(h:zV H x=some (m,ys,q))(N:ys.length=m*esz)(hs:∀s,x=.v (.string s)->esz=1):
 (Builtin.lenOf y).run P w=.ok m w/\∃vs:Hx,BU (C.sel q) w ys vs/\∀W:World,(∀k,k<w.heap.size->W.heap[k]?=w.heap[k]?)->(Builtin.firstCells esz m y).run P W=.ok vs.toArray W:=by
 have mem:∀(D:Ctx)(b o:Nat)(cs:Is),Kv D w b o cs->cs.length=m*esz->(0<cs.length->b<w.heap.size)->∃vs:Hx,BU D w cs vs/\∀W:World,(∀k,k<w.heap.size->W.heap[k]?=w.heap[k]?)->(loadCells ⟨b,o,none⟩ (m*esz)).run P W=.ok vs.toArray W:=by
  intro D b o cs hc t hb;obtain⟨vs,h1,h2⟩:=hc;refine⟨vs,h1,λW n=>?_⟩;have K:vs.length=m*esz:=by rw[h1.1,t]
  have:=run_loadCells_list (P:=P) W ⟨b,o,none⟩ vs (λj v hv=>by
   rw[HQ];have hj:j<vs.length:=(pR.1 hv).1;rw[l0s (w:=w) (n b (hb (by rw[<-h1.1];omega)))];exact h2 j v hv)
  rwa[K]at this
 unfold zV at h;split at h
 ·rename_i O cs;injection h with h;injection h with d c;injection c with c g;subst d c g
  cases A with
  |list0=>
   refine⟨rfl,[],.nil,λW _=>?_⟩;rename_i a cap;cases a with
   |none=>rfl
   |some Q=>simp[Builtin.firstCells,loadCells,loadCellsFrom]
  |list p vs Y B hv=>
   rename_i cap b o;obtain⟨i,h1,h2⟩:=mem C.bare b o cs (mA vs B hv) N (λu=>hr.fin b _ (Y 0 u));exact⟨rfl,i,(h1.up rfl rfl),λW n=>h2 W n⟩
 ·rename_i sz r o O;split at h
  ·rename_i q' E cs J;injection h with h;injection h with d c;injection c with c g;subst d c g
   cases A with
   |slz aa=>
    have:((cs.drop o).take (0*sz))=[]:=by simp
    rw[this];rename_i a;refine⟨rfl,[],.nil,λW _=>?_⟩;cases a with
    |none=>rfl
    |some Q=>simp[Builtin.firstCells,loadCells,loadCellsFrom]
   |sl u p Z M=>
    rcases hr.rows r _ J with⟨h5,X⟩|⟨R,f,L,V,F⟩
    ·rw[X]at u;cases u
    ·have e:=F.at_.symm.trans u;injection e with e;injection e with e;injection e with d c;subst d c
     obtain⟨i,h1,h2⟩:=mem (C.sel q') R (f+o) _ ((F.atq.drop o).take (O*sz)) N (λ_=>F.lt);exact⟨rfl,i,h1,λW n=>h2 W n⟩
  ·cases h
 ·injection h with h;injection h with d c;injection c with c g;subst d c g
  obtain rfl:=A6.1 A;exact⟨rfl,[],.nil,λW _=>rfl⟩
 ·rename_i s;injection h with h;injection h with d c;injection c with c g;subst d c g
  obtain rfl:=A6.1 A;have:=hs s rfl;subst this;refine⟨rfl,s.data.toList.map λb=>.int .u8 b.toNat,?_,λW _=>?_⟩
  ·have:=Tb (C:=C.sel true) (w:=w) (s.data.toList.map λb=>Value.int .u8 b.toNat);simpa [l1t] using this
  ·simp only[Builtin.firstCells,Zn]
   congr 1
   have:s.extract 0 s.size=s:=by
    apply ByteArray.ext;simp
   rw[this];obtain⟨⟨l⟩⟩:=s;simp only[List.map_toArray]
 ·cases h
def oF(h:BU (C.sel q) w aZ ys):BU (C.sel q') w aZ ys:=h
def kJ(h:BU (C.sel q') w aZ ys):BU (C.sel q) w aZ ys:=h
def Rel.virtual(hr:Rel G w0 C H w)(q:Bool)(E:TypeId):Rel G w0 (C.put (Ay H) none) ((Ay H,.cells q E [])::H) w:=by
 have g:C.π (Ay H)=none:=hr.nx _ (MZ _);have e:Ext w0.own C w (C.put (Ay H) none) w:=Ctx.put_ext g (.refl _ _ _);refine⟨hr.glob,hr.below,?_,?_,?_,?_,hr.fin,hr.finB,?_⟩
 ·intro r x a;simp only[Ao]at a;split at a
  ·rename_i h;subst h;rw[C.put_n];simp
  ·rw[e.π r (hr.lt r x a)];exact hr.lt r x a
 ·intro r x a;simp only[Ao]at a;split at a
  ·rename_i h;subst h;injection a with a;subst a
   exact Or.inl ⟨rfl,C.put_n _ none⟩
  ·exact(hr.rows r x a).mono e (λ_ _ _=>rfl)
 ·intro r x b o a c;simp only[Ao]at a;split at a
  ·rename_i h;subst h;rw[C.put_n]at c;cases c
  ·rename_i h;rw[C.put_ne _ h]at c;exact hr.own r x b o a c
 ·intro r j x k b o i a f c d;simp only[Ao]at a f;split at a
  ·rename_i h;subst h;rw[C.put_n]at c;cases c
  ·rename_i h1;split at f
   ·rename_i h;subst h;rw[C.put_n]at d;cases d
   ·rename_i h2;rw[C.put_ne _ h1]at c;rw[C.put_ne _ h2]at d;exact hr.sep r j x k b o i a f c d
 ·intro r h;have h:Ay H+1<=r:=h;rw[C.put_ne _ (by omega)];exact hr.nx r (by omega)
def Rel.extend(hr:Rel G w0 C H w){w':World}{r1:Nat}{E:TypeId}{cs aZ:Is}{b base o:Nat}{arr:Array Value}{fz:Nat×Nat}(B:Ao H r1=some (.cells q E cs))(r:Laid C w r1 q E cs b base arr fz)(ho:o<=cs.length)(hv:BU (C.sel q') w aZ ys)(M:base+cs.length+aZ.length<=arr.size)(p:SameBut w w' b E (splice arr.toList (base+cs.length) ys).toArray fz):
 Rel G w0 (C.put (Ay H) (some (b,base+o))) ((Ay H,.cells false E (cs.drop o++aZ))::cut H r1) w'/\Ext w0.own C w (C.put (Ay H) (some (b,base+o))) w':=by
 have F:C.π (Ay H)=none:=hr.nx _ (MZ _);have g:=hr.own r1 _ b base B r.at_;have X:ys.length=aZ.length:=hv.1;have hsz:(splice arr.toList (base+cs.length) ys).toArray.size=arr.size:=by
  simp only[List.size_toArray];rw[Es (by simp;omega)];simp
 have O:Ext w0.own C w C w':=p.ext r.block hsz g.2.1 g.2.2;have e:Ext w0.own C w (C.put (Ay H) (some (b,base+o))) w':=Ctx.put_ext F O;have a:∀s x,Ao (cut H r1) s=some x->s≠r1/\Ao H s=some x:=λs x c=>by
  by_cases p:s=r1
  ·subst p;rw[Kf]at c;cases c
  ·rw[Ns p]at c;exact⟨p,c⟩
 refine⟨⟨hr.glob.mono e,?_,?_,?_,?_,?_,λk i V=>p.size▸hr.fin k i V,λk R=>p.size▸hr.finB k R,λk hk=>by
  have hk:Ay H+1<=k:=hk;rw[C.put_ne _ (by omega)];exact hr.nx k (by omega)⟩,e⟩
 ·exact hr.below.same p g.1
 ·intro s x c;simp only[Ao]at c;split at c
  ·rename_i h;subst h;rw[C.put_n];simp
  ·rw[e.π s (hr.lt s x (a s x c).2)];exact hr.lt s x (a s x c).2
 ·intro s x c;simp only[Ao]at c;split at c
  ·rename_i h;subst h;injection c with c;subst c
   refine Or.inr ⟨b,base+o,_,fz,C.put_n _ _,p.here,by rw[hsz];exact r.free,by rw[hsz];simp;omega,?_,λh=>by cases h⟩;have u:BU ((C.put (Ay H) (some (b,base+o))).sel false) w' cs _:=r.vals.mono (e.sel q);have K:BU ((C.put (Ay H) (some (b,base+o))).sel false) w' aZ ys:=hv.mono (e.sel q');have J:((splice arr.toList (base+cs.length) ys).drop (base+o)).take (cs.drop o++aZ).length=((arr.toList.drop base).take cs.length).drop o++ys:=by
    apply l0o;intro j;simp only[E6,l0t];rw[oI];by_cases N:j<cs.length-o+aZ.length
    ·rw[CJ N,fX,Mo (by simp;omega)];by_cases h1:j<cs.length-o
     ·rw[CJ (by omega),l0l (by simp;omega),fX,oI,CJ (by omega),fX]
      congr 1;omega
     ·rw[Co (by omega),CJ (by omega),l0n (by simp;omega)]
      congr 1
      simp;omega
    ·rw[Co N]
     symm
     rw[List.getElem?_eq_none_iff];simp;omega
   simp only[];rw[J];exact(u.drop o).append K
  ·refine(hr.rows s x (a s x c).2).mono e (λk D d=>p.others k (λQ=>?_));subst Q;exact(a s x c).1 (hr.sep s r1 x _ _ _ _ (a s x c).2 B d r.at_)
 ·intro s x k Y c d;simp only[Ao]at c;split at c
  ·rename_i h;subst h;rw[C.put_n]at d;injection d with d;injection d with d;injection d with t L;subst t
   exact g
  ·rename_i m;rw[C.put_ne _ m]at d;exact hr.own s x k Y (a s x c).2 d
 ·intro s y x A k Z o2 c n d f;simp only[Ao]at c n;split at c
  ·rename_i h;subst h;rw[C.put_n]at d;injection d with d;injection d with d;injection d with t L;subst t
   split at n
   ·rename_i h;exact h.symm
   ·rename_i m;rw[C.put_ne _ m]at f;exact absurd (hr.sep y r1 A _ _ _ _ (a y A n).2 B f r.at_) (a y A n).1
  ·rename_i m;split at n
   ·rename_i h;subst h;rw[C.put_n]at f;injection f with f;injection f with f;injection f with t L;subst t
    rw[C.put_ne _ m]at d;exact absurd (hr.sep s r1 x _ _ _ _ (a s x c).2 B d r.at_) (a s x c).1
   ·rename_i v;rw[C.put_ne _ m]at d;rw[C.put_ne _ v]at f;exact hr.sep s y x A k Z o2 (a s x c).2 (a y A n).2 d f
end
end
def Vn(T:Ty)(t1 t2:TypeId)(s x:AV)(H:Hp)(r:Nat)(K:AV->Hp->Prop):Prop:=
 match T t1,T t2 with
 |some i1,some i2=>match i1.d with
  |.slice e a=>match T e with
   |some c=>(a≠0/\(Br c.zero).length=a/\(match i2.d with|.slice .. =>True|.string=>True|_=>False)/\(match x with|.v (.string _)=>a=1|_=>True))/\J3 (zV H x) λp=>
    (p.2.1.length=p.1*a/\p.2.1.all AV.one=true)/\(match s with
     |.v (.slice none 0 0)=>(p.1*c.bytes<=2^46/\p.1<=2^46)/\(if p.1=0 then K (.v (.slice none 0 0)) H else K (.sl a r 0 p.1) ((r,.cells false e p.2.1)::H))
     |.sl sz r1 o n=>match Ao H r1 with
      |some (.cells q E cs)=>(E=e/\sz=a/\o+n*a=cs.length/\(n+p.1)*c.bytes<=2^46/\n+p.1<=2^46)/\K (.sl a r 0 (n+p.1)) ((r,.cells false e (cs.drop o++p.2.1))::cut H r1)
      |_=>False
     |_=>False)
   |none=>False
  |_=>False
 |_,_=>False
section
variable{P:Program}{G:Gl}{w0:Base}{w:World}{C:Ctx}{H:Hp}
def A2J(a:Nat):∀(rounds c:Nat),c<a->Builtin.growBy a rounds c<=a+(a+768)/4:=by
 intro rounds
 induction rounds with
 |zero=>intro c h;simp[Builtin.growBy];omega
 |succ n ih=>
  intro c h;simp only[Builtin.growBy];rw[Co (by omega)];by_cases h2:c+(c+768)/4<a
  ·exact ih _ h2
  ·cases n with
   |zero=>simp[Builtin.growBy];omega
   |succ n=>simp only[Builtin.growBy];rw[CJ (by omega)];omega
def S'(a c:Nat)(h:c<a):Builtin.nextslicecap a c<=2*a:=by
 unfold Builtin.nextslicecap;split
 ·omega
 ·split
  ·omega
  ·have:=A2J a 4 c h;omega
def dN{t1 t2 e:TypeId}{inf:TypeInfo}{z:Value}{esz:Nat}{K:TypeDesc}(Q:P.underlying t1=some (.slice e))(d:P.info? e=some inf)(hsz:inf.size=esz)(hz:inf.zero=some z)(F:z.cells.size=esz)(D:P.underlying t2=some K)(A:(∃M,K=.slice M)\/K=.string){ts:Array TypeId}(h1:ts[0]?=some t1)(h2:ts[1]?=some t2){ty:TypeId}{base:Option Addr}{n cap m:Nat}{y:Value}(r:(Builtin.lenOf y).run P w=.ok m w)(p:cap<n+m)(N:(n+m)*inf.bytes<=2^46)(O:n+m<=2^46){a new:Hx}(u:(Builtin.firstCells esz n (.slice base n cap)).run P {w with drawn:=w.drawn+1}= .ok a.toArray {w with drawn:=w.drawn+1})(t:(Builtin.firstCells esz m y).run P {w with drawn:=w.drawn+1}= .ok new.toArray {w with drawn:=w.drawn+1})(B:a.length=n*esz)(x:new.length=m*esz):
 ∃(c:Nat)(arr:Array Value)(L:World),n+m<=c/\(Builtin.append_ ts ty #[.slice base n cap,y]).run P w=.ok (.slice (some ⟨w.heap.size,0,none⟩) (n+m) c) L/\Below w.heap.size w L/\L.heap[w.heap.size]?=some (.cells arr e (0,0))/\arr.toList.take (a++new).length=a++new/\arr.size=c*esz:=by
 have g:=S' (n+m) cap p;have j:¬(Builtin.nextslicecap (n+m) cap*inf.bytes>2^48):=by
  have:=l22 inf.bytes g;rw[Nat.mul_assoc]at this;omega
 let q:Question:=.appendCap (n+m) cap e
 let c:=q.cut (w.tape w.drawn q)
 have hc:n+m<=c:=by show n+m<=n+m+_;omega
 refine⟨c,a.toArray++new.toArray++Builtin.zeroCells z.cells (c-(n+m)),{ {w with drawn:=w.drawn+1} with heap:=w.heap.push (.cells (a.toArray++new.toArray++Builtin.zeroCells z.cells (c-(n+m))) e)},hc,?_,?_,by simp,?_,?_⟩
 ·have v:¬(n+m<=cap):=by omega
  have s:IntKind.i64.max=9223372036854775807:=by decide
  have h:(sizeOf e).run P w=.ok esz w:=by simp[sizeOf,typeInfo,d,hsz]
  have i:∀W:World,(typeInfo e).run P W=.ok inf W:=λW=>by simp[typeInfo,d]
  have J:∀W:World,(zeroValue e).run P W=.ok z W:=λW=>by simp[zeroValue,typeInfo,d,hz]
  have f:¬(((n+m:Nat):Int)>IntKind.i64.max/\(false=true\/inf.bytes=0)):=by rw[s];omega
  rcases A with⟨M,rfl⟩|rfl
  all_goals
   unfold Builtin.append_;simp only[h1,h2,l10,l1w,l0q];rw[Cr,run_underlying Q w];simp only[Eu];rw[Cr,h];simp only[Eu];rw[Cr,run_underlying D w];simp only[Eu];rw[Cr,Zn];simp only[Eu,mL,if_false];rw[Cr,r];simp only[Eu,Co v];rw[Cr,i];simp only[Eu];rw[Co (by simpa using f),Cr,i];simp only[Eu,Co j];rw[Cr,run_choose,Co (by simp[Question.forced])];simp only[Eu];rw[Cr,i];simp only[Eu];rw[Cr,run_askRoom];simp only[Eu];rw[Cr,u];simp only[Eu,Bool.not_false,if_true];rw[Cr,t];simp only[Eu];rw[Cr,J];simp only[Eu];simp only[newRow,Cr,run_newObj,Eu,Zn];rfl
 ·refine⟨rfl,rfl,rfl,by simp,λk hk=>by simp[l27,Nat.ne_of_lt hk]⟩
 ·simp only[Array.toList_append,fW];rw[<-fW];exact List.take_left
 ·simp[Builtin.zeroCells,F,B,x];rw[<-B!,<-B!]
  congr 1;omega
end
section
variable{s x:AV}{K:AV->Hp->Prop}{y:Value}
section
variable{P:Program}{G:Gl}{w0:Base}{w:World}{C:Ctx}{H:Hp}
def Q7{t1 t2 e:TypeId}{esz:Nat}{k:TypeDesc}(q:P.underlying t1=some (.slice e))(d:(sizeOf e).run P w=.ok esz w)(j:P.underlying t2=some k)(i:(∃p,k=.slice p)\/k=.string){ts:Array TypeId}(h1:ts[0]?=some t1)(h2:ts[1]?=some t2){ty:TypeId}{base:Option Addr}{n cap m:Nat}(g:(Builtin.lenOf y).run P w=.ok m w)(f:n+m<=cap){new:Hx}(h:(Builtin.firstCells esz m y).run P w=.ok new.toArray w){w':World}(c:(match base with|some a=>storeCells (a.add (n*esz)) new|none=>pure ():Sem Unit).run P w=.ok () w'):
 (Builtin.append_ ts ty #[.slice base n cap,y]).run P w=.ok (.slice base (n+m) cap) w':=by
 rcases i with⟨p,rfl⟩|rfl
 all_goals
  unfold Builtin.append_;simp only[h1,h2,l10,l1w,l0q];rw[Cr,run_underlying q w];simp only[Eu];rw[Cr,d];simp only[Eu];rw[Cr,run_underlying j w];simp only[Eu];rw[Cr,Zn];simp only[Eu,mL,if_false];rw[Cr,g];simp only[Eu,CJ f,Bool.not_false,if_true];rw[Cr,h];simp only[Eu];cases base with
  |none=>
   simp only[Zn]at c;injection c with _ c
   subst c;rfl
  |some a=>
   simp only at c;simp only[Cr];rw[c];rfl
def xK{d:Is}{ys:Hx}(h:BU C w d ys)(h1:d.all AV.one=true):∀v∈ys,v.oneCell'=true:=by
 intro v hv;obtain⟨i,e⟩:=List.getElem?_of_mem hv;have a:i<d.length:=by rw[<-h.1];exact(pR.1 e).1
 obtain⟨y,c,hr⟩:=h.2 i _ (II a);rw[e]at c;injection c with c
 subst c;exact hr.one (Gb.1 h1 _ (Na a))
def Ue{T:Ty}(hT:Y8 P T){t1 t2 ty:TypeId}{y z:Value}{ts:Array TypeId}(h1:ts[0]?=some t1)(h2:ts[1]?=some t2)(hr:Rel G w0 C H w)(hs:VRel C w s y)(hx:∀(esz m:Nat)(ys:Is)(q:Bool),zV H x=some (m,ys,q)->ys.length=m*esz->(∀s,x=.v (.string s)->esz=1)->(Builtin.lenOf z).run P w=.ok m w/\∃vs:Hx,BU (C.sel q) w ys vs/\∀W:World,(∀k,k<w.heap.size->W.heap[k]?=w.heap[k]?)->(Builtin.firstCells esz m z).run P W=.ok vs.toArray W)(h:Vn T t1 t2 s x H (Ay H) K):
 ∃v H' u V w',K v H'/\(Builtin.append_ ts ty #[y,z]).run P w=.ok u w'/\It G w0 C w v H' u V w':=by
 unfold Vn at h;split at h
 ·rename_i i1 i2 bg bh;split at h
  ·rename_i e esz hd;split at h
   ·rename_i ie bj;obtain⟨⟨bz,b5,ay,ah⟩,h⟩:=h;cases Q:zV H x with
    |none=>rw[Q]at h;exact h.elim
    |some p=>
     obtain⟨m,ys,q2⟩:=p;rw[Q]at h;simp only[J3]at h;obtain⟨⟨N,a5⟩,h⟩:=h;obtain⟨hu,hc⟩:=(hT t1 i1 bg).elem_slice hd;obtain⟨u2,Y,ao⟩:=(hT t2 i2 bh).under;have X:(∃e2,u2=.slice e2)\/u2=.string:=by
      cases u2<;>simp[td]at ao<;>rw[<-ao]at ay<;>simp at ay⊢
     have a8:∀q,x=.v (.string q)->esz=1:=by
      intro q hq;subst hq;exact ah
     obtain⟨F,vs,M,D⟩:=hx esz m ys q2 Q N a8;have bp:=hT e ie bj;obtain⟨inf,zv,O,bt,bd,hz,ez⟩:=bp.info;have be:P.cellsOf e=inf.size:=by simp[Program.cellsOf,O]
     have hsz:inf.size=esz:=by rw[<-be,hc]
     have B:(sizeOf e).run P w=.ok esz w:=by simp[sizeOf,typeInfo,O,hsz]
     have bo:zv.cells.size=esz:=by
      have:=(Mj (C:=C) (w:=w) (t:=e) (i:=ie) ez).1;simp at this;omega
     have ak:vs.length=m*esz:=by rw[M.1,N]
     have r:=D w (λ_ _=>rfl);have af:=D {w with drawn:=w.drawn+1} (λ_ _=>rfl);have grow:∀(base:Option Addr)(n cap:Nat)(g:Hx)(q1:Bool)(cs:Is)(Hc:Hp),Ay Hc=Ay H->Rel G w0 C Hc w->cap<n+m->(n+m)*ie.bytes<=2^46->n+m<=2^46->BU (C.sel q1) w cs g->cs.length=n*esz->
      (Builtin.firstCells esz n (.slice base n cap)).run P {w with drawn:=w.drawn+1}= .ok g.toArray {w with drawn:=w.drawn+1}->
      ∃u V w',(Builtin.append_ ts ty #[.slice base n cap,z]).run P w=.ok u w'/\It G w0 C w (.sl esz (Ay H) 0 (n+m)) ((Ay H,.cells false e (cs++ys))::Hc) u V w':=by
      intro base n cap g q1 cs Hc bk bn aa J L ae ar a4;have ag:g.length=n*esz:=by rw[ae.1,ar]
      obtain⟨c,arr,w',ab,f,ap,aq,ai,Z⟩:=dN (P:=P) (w:=w) (ty:=ty) hu O hsz hz bo Y X h1 h2 F aa (by rw[bd];exact J) L a4 af ag ak;refine⟨_,_,w',f,bk▸Vz bn ap e aq (λi _=>by omega) esz (n+m) c ab (by rw[Z];exact MZ _) ?_ ?_⟩
      ·rw[Z,E6,ar,N,<-B!];exact l22 _ ab
      ·have:(cs++ys).length=(g++vs).length:=by simp[ae.1,M.1]
       rw[this,ai];exact(oF ae).append (kJ M)
     split at h
     ·obtain⟨⟨J,L⟩,h⟩:=h;obtain rfl:=A6.1 hs;by_cases hm:m=0
      ·subst hm;have am:ys=[]:=tC (by simpa using N);subst am;have aj:vs=[]:=tC (by simpa using ak);subst aj;exact⟨_,_,_,C,w,h,Q7 (P:=P) (ty:=ty) (base:=none) (n:=0) (cap:=0) hu B Y X h1 h2 F (MZ _) r (by rfl),.v _,hr,.refl _ _ _⟩
      ·obtain⟨u,V,w',f,R⟩:=grow none 0 0 [] false [] H rfl hr (by omega) (by simpa using J) (by simpa using L) .nil (by simp) rfl;rw[Co hm]at h;exact⟨_,_,u,V,w',h,f,by simpa using R⟩
     ·rename_i sz r1 o n;split at h
      ·rename_i q1 E cs az;obtain⟨⟨rfl,rfl,a9,J,L⟩,h⟩:=h;have ac:(cs.drop o).length=n*sz:=by simp;omega
       cases hs with
       |slz b3=>
        rename_i a;have h0:cs.drop o=[]:=tC (by rw[ac];simp);by_cases hm:m=0
        ·subst hm;have am:ys=[]:=tC (by simpa using N);subst am;have aj:vs=[]:=tC (by simpa using ak);subst aj;refine⟨_,_,_,C.put (Ay H) none,w,h,Q7 (P:=P) (ty:=ty) (base:=a) (n:=0) (cap:=0) hu B Y X h1 h2 F (MZ _) r (w':=w) (by cases a<;>rfl),.slz (by rw[C.put_n];simp),?_,Ctx.put_ext (hr.nx _ (MZ _)) (.refl _ _ _)⟩;have:=(hr.cut_row r1).virtual false E;simpa [h0,cut,CU] using this
        ·obtain⟨u,V,w',f,R⟩:=grow a 0 0 [] q1 [] (cut H r1) (CU _ _ _) (hr.cut_row r1) (by omega) (by simpa using J) (by simpa using L) .nil (by simp) (by
          cases a with
          |none=>rfl
          |some ad=>simp[Builtin.firstCells,loadCells,loadCellsFrom])
         exact⟨_,_,u,V,w',h,f,by simpa [h0] using R⟩
       |sl hp aa bc ax=>
        rename_i b base cap bq T' bv;rcases hr.rows r1 _ az with⟨h5,h6⟩|⟨b',d,arr,fz,hl⟩
        ·rw[h6]at hp;cases hp
        ·have e':=hl.at_.symm.trans hp;injection e' with e';injection e' with e';injection e' with e1 e2;subst e1 e2
         have e3:=hl.block.symm.trans bc;injection e3 with e3;injection e3 with e4 e5 e6
         subst e4 e5 e6;have bf:=hl.fits;by_cases A:n+m<=cap
         ·have bs:cs.length+ys.length<=o+cap*sz:=by
           rw[<-a9,N,WE,<-B!];exact Nat.add_le_add_left (l22 _ A) _
          have bu:vs.length=ys.length:=M.1;obtain⟨w',f,a7⟩:=K0 (P:=P) vs w arr (d+o+n*sz) 0 hl.block hl.free (by omega) (xK M a5);have a6:d+o+n*sz=d+cs.length:=by omega
          have ba:=hr.extend az hl (o:=o) (by omega) M (by omega) (by rw[<-a6];simpa using a7);refine⟨_,_,_,_,w',h,Q7 (P:=P) (ty:=ty) (base:=some ⟨b',d+o,none⟩) hu B Y X h1 h2 F A r (w':=w') (by simp only[HQ];exact f),?_,ba.1,ba.2⟩;have:VRel (C.put (Ay H) (some (b',d+o))) w' (.sl sz (Ay H) 0 (n+m)) (.slice (some ⟨b',d+o+0,none⟩) (n+m) cap):=by
           refine .sl (C.put_n _ _) A a7.here ?_;simp only[List.size_toArray];rw[Es (by simp;omega)];simpa using ax
          simpa using this
         ·obtain⟨g,a3,bm⟩:=(hl.atq.drop o)
          have ag:g.length=n*sz:=by rw[a3.1,ac]
          obtain⟨u,V,w',f,R⟩:=grow (some ⟨b',d+o,none⟩) n cap g q1 (cs.drop o) (cut H r1) (CU _ _ _) (hr.cut_row r1) (by omega) J L a3 ac (by
           simp only[Builtin.firstCells];have:=run_loadCells_list (P:=P) {w with drawn:=w.drawn+1} ⟨b',d+o,none⟩ g (λj v hv=>by rw[HQ];exact bm j v hv)
           rwa[ag]at this)
          exact⟨_,_,u,V,w',h,f,R⟩
      ·exact h.elim
     ·exact h.elim
   ·exact h.elim
  ·exact h.elim
 ·exact h.elim
def mQ{T:Ty}(f:Y8 P T){t1 t2 ty:TypeId}{y z:Value}{ts:Array TypeId}(h1:ts[0]?=some t1)(h2:ts[1]?=some t2)(hr:Rel G w0 C H w)(a:VRel C w s y)(i:VRel C w x z)(h:Vn T t1 t2 s x H (Ay H) K):
 ∃v c u e d,K v c/\(Builtin.append_ ts ty #[y,z]).run P w=.ok u d/\It G w0 C w v c u e d:=
 Ue f h1 h2 hr a (λ_ _ _ _ h g a=>Tw hr i h g a) h
end
end
section
variable{K:AV->Hp->Prop}{a:Act}{w0:Base}{C:Ctx}{N s0:Nat}{w:World}
structure Env where
 P:Program
 G:Gl
 T:Ty
structure Env.Ok(E:Env):Prop where
 ty:Y8 E.P E.T
 pos:∀t i e esz,E.T t=some i->(i.d=.slice e esz\/∃n,i.d=.array n e esz)->esz≠0
 mix:E.P.follows .mixedOrders=true
def xmm(c:Bool)(a b:AV)(K:AV->Prop):Prop:=
 match a,b with
 |.v (.int k x),.v (.int d y)=>k=d/\K (.v (.int k (if c then(if y<x then y else x) else(if y>x then y else x))))
 |.v (.string s),.v (.string u)=>K (.v (.string (if(if c then(Op.bytesLess s.toList u.toList||s.toList==u.toList) else !Op.bytesLess s.toList u.toList) then s else u)))
 |_,_=>False
def gX(E:Env)(o:Op)(t:Tm)(H:Hp)(K:AV->Hp->Prop):Prop:=
 match o with
 |.move x=>K (HC E.G t x) H
 |.assign x=>K (HC E.G t x) H
 |.pick c a b=>match HC E.G t c with
  |.v (.bool q)=>K (if q then HC E.G t a else HC E.G t b) H
  |_=>False
 |.load ty x=>vF E.T ty (HC E.G t x) H (λv=>K v H)
 |.store ty x y=>gS E.T ty (HC E.G t x) (HC E.G t y) H (λe=>K (.v undef) e)
 |.nilCheck x=>A3P (HC E.G t x) (λv=>K v H)
 |.binOp op ty x y _=>hY E.T op ty (HC E.G t x) (HC E.G t y) (λv=>K v H)
 |.unOp op _ x=>xun op (HC E.G t x) (λv=>K v H)
 |.convert s d x=>oV E.T s d (HC E.G t x) (λv=>K v H)
 |.makeFunc fn first cap=>K (.fn fn (first.toList.map (HC E.G t)) (cap.toList.map (HC E.G t))) H
 |.fieldAddr ty x f=>YG E.T ty (HC E.G t x) f (λv=>K v H)
 |.field ty x f=>hC E.T ty (HC E.G t x) f (λv=>K v H)
 |.indexAddr ty x i=>gZ E.T ty (HC E.G t x) (HC E.G t i) (λv=>K v H)
 |.index ty x i=>gY E.T ty (HC E.G t x) (HC E.G t i) (λv=>K v H)
 |.slice ty x h g mx=>gW E.T ty (HC E.G t x) (h.map (HC E.G t)) (g.map (HC E.G t)) (mx.map (HC E.G t)) (λv=>K v H)
 |.extract x k=>match HC E.G t x with
  |.tup vs=>J3 (vs[k]?) (λv=>K v H)
  |_=>False
 |.build ty parts=>hJ E.T ty (parts.toList.map λp=>(p.1,HC E.G t p.2)) (λv=>K v H)
 |.call c=>match c.callee with
  |.builtin .len=>match c.args.toList,c.argTypes.toList with
   |[x],[ty]=>A3Q E.T ty (HC E.G t x) (λv=>K v H)
   |_,_=>False
  |.builtin .min=>match c.args.toList with
   |[x,y]=>xmm true (HC E.G t x) (HC E.G t y) (λv=>K v H)
   |_=>False
  |.builtin .max=>match c.args.toList with
   |[x,y]=>xmm false (HC E.G t x) (HC E.G t y) (λv=>K v H)
   |_=>False
  |_=>False
 |_=>False
def A7A(E:Env)(o:Op)(t:Tm)(H:Hp)(r:Nat)(K:AV->Hp->Prop):Prop:=
 match o with
 |.alloc ty=>iA E.T ty H r K
 |.box ty x=>B1g ty (HC E.G t x) H r K
 |.buildSlice ty n parts=>Xe E.T ty n (parts.toList.map λp=>(p.1,HC E.G t p.2)) H r K
 |.call c=>match c.callee with
  |.builtin .append=>match c.args.toList,c.argTypes.toList with
   |[s,x],[d,e]=>Vn E.T d e (HC E.G t s) (HC E.G t x) H r K
   |_,_=>False
  |_=>False
 |_=>False
section
variable{E:Env}{t:Tm}{H:Hp}
def UC{G:Gl}(s:St G w0 s0 C N t H a w)(x:Option Operand):uK C w (x.map (HC G t)) (x.map a.eval):=by
 cases x with
 |none=>trivial
 |some x=>exact AJ s x
def YY{G:Gl}(s:St G w0 s0 C N t H a w)(parts:Array (Nat×Operand)):
 (parts.toList.map λp=>(p.1,HC G t p.2)).length=(parts.toList.map λp=>(p.1,a.eval p.2)).length/\
 ∀(j:Nat)(p:Nat×AV),(parts.toList.map λp=>(p.1,HC G t p.2))[j]?=some p->∃z,(parts.toList.map λp=>(p.1,a.eval p.2))[j]?=some (p.1,z)/\VRel C w p.2 z:=by
 refine⟨by simp,λj p c=>?_⟩;rw[pS]at c⊢;cases h:parts.toList[j]? with
 |none=>rw[h]at c;simp at c
 |some q=>rw[h]at c;simp at c;subst c;exact⟨_,rfl,AJ s q.2⟩
def A99{r p k:Nat}{y:Value}(h:VRel C w (.ptr r p k) y):∃b c,y=.pointer (some ⟨b,c,none⟩):=by
 cases h with
 |ptr d=>exact⟨_,_,rfl⟩
def Gf{o:Oper}{c:Call}(d:o.op=.call c)(b:Builtin)(hb:c.callee=.builtin b):execOp a.eval o=builtin b c.argTypes o.type (c.args.map λ|.const _=>true|_=>false) (c.args.map a.eval):=by
 simp only[execOp,d,resolve,hb];rfl
def oU(D:E.Ok){o:Oper}(h:gX E o.op t H K):A77 E.P E.G o t H K:=by
 intro w0 s0 C N a w s;have g:∀{sm:Sem Value}{v:AV}{u:Value},execOp a.eval o=(do pure (.value (<-sm)))->sm.run E.P w=.ok u w->VRel C w v u->K v H->
  ∃v M y O L,K v M/\((execOp a.eval o).run E.P w=.ok (.value y) L\/((execOp a.eval o).run E.P w=.ok .skip L/\y=undef))/\VRel O L v y/\Rel E.G w0 O M L/\Ext w0.own C w O L:=by
  intro sm v u he hr hv hk;exact⟨v,H,u,C,w,hk,.inl (by rw[he,Cr,hr];rfl),hv,s.rel,.refl _ _ _⟩
 unfold gX at h;split at h
 ·rename_i x j;exact⟨_,H,_,C,w,h,.inl (by simp[execOp,j]),AJ s x,s.rel,.refl _ _ _⟩
 ·rename_i x j;exact⟨_,H,_,C,w,h,.inl (by simp[execOp,j]),AJ s x,s.rel,.refl _ _ _⟩
 ·rename_i c x y j;split at h
  ·rename_i q hq;have hc:=AJ s c;rw[hq]at hc;have Q:=A6.1 hc;refine⟨_,H,if q then a.eval x else a.eval y,C,w,h,.inl (by simp[execOp,j,Q,asBool]),?_,s.rel,.refl _ _ _⟩;cases q
   ·exact AJ s y
   ·exact AJ s x
  ·exact h.elim
 ·rename_i ty x j;obtain⟨v,z,h1,h2,A⟩:=ZO D.ty s.rel (AJ s x) h;exact g (by simp only[execOp,j]) h1 h2 A
 ·rename_i ty x y j;obtain⟨M,L,h1,h2,A,Y⟩:=rJ D.ty s.rel (AJ s x) (AJ s y) h;exact⟨_,M,undef,C,L,Y,.inr ⟨by simp only[execOp,j];rw[Cr,h1];rfl,rfl⟩,.v _,h2,A⟩
 ·rename_i x j;have B:=AJ s x;unfold A3P at h;split at h
  ·rename_i hq;rw[hq]at B;refine⟨_,H,a.eval x,C,w,h,.inl ?_,by rw[hq];exact B,s.rel,.refl _ _ _⟩;obtain⟨b,o',e⟩:=A99 B;simp only[execOp,j,e];rfl
  ·rename_i hq;rw[hq]at B;refine⟨_,H,a.eval x,C,w,h,.inl ?_,by rw[hq];exact B,s.rel,.refl _ _ _⟩;obtain⟨b,o',e⟩:=kM B;simp only[execOp,j,e];rfl
  ·rename_i hq;rw[hq]at B;refine⟨_,H,a.eval x,C,w,h,.inl ?_,by rw[hq];exact B,s.rel,.refl _ _ _⟩;obtain⟨X,zs,e,_⟩:=GL.1 B;simp only[execOp,j,e];rfl
  ·rename_i hq;rw[hq]at B;refine⟨_,H,a.eval x,C,w,h,.inl ?_,by rw[hq];exact B,s.rel,.refl _ _ _⟩;obtain⟨X,zs,e,_⟩:=GL.1 B;simp only[execOp,j,e];rfl
  ·exact h.elim
 ·rename_i op ty x y yt j;obtain⟨v,u,h1,h2,A⟩:=hM D.ty x y (AJ s x) (AJ s y) h;exact g (by simp only[execOp,j]) h1 h2 A
 ·rename_i op ty x j;obtain⟨v,u,h1,h2,A⟩:=A1U (P:=E.P) (AJ s x) h;exact g (by simp only[execOp,j]) h1 h2 A
 ·rename_i sr d x j;obtain⟨v,u,h1,h2,A⟩:=vG D.ty (AJ s x) h;exact g (by simp only[execOp,j]) h1 h2 A
 ·rename_i fn first cap j;refine⟨_,H,.func fn (first.map a.eval) (cap.map a.eval),C,w,h,.inl (by simp[execOp,j,Instr.makeFunc]),?_,s.rel,.refl _ _ _⟩;have key:∀l:List Operand,BU C w (l.map (HC E.G t)) (l.map a.eval):=by
   intro l
   induction l with
   |nil=>exact .nil
   |cons x l ih=>exact .cons (AJ s x) ih
  refine GL.2 ⟨first.toList.map a.eval,cap.toList.map a.eval,?_,key _,key _⟩
  congr 1<;>(apply fB;simp)
 ·rename_i ty x f j;obtain⟨v,u,h1,h2,A⟩:=rO D.ty (AJ s x) h;exact g (by simp only[execOp,j]) h1 h2 A
 ·rename_i ty x f j;obtain⟨v,u,h1,h2,A⟩:=rN D.ty (AJ s x) h;exact g (by simp only[execOp,j]) h1 h2 A
 ·rename_i ty x i j;obtain⟨v,u,h1,h2,A⟩:=rM D.ty D.pos (AJ s x) (AJ s i) h;exact g (by simp only[execOp,j]) h1 h2 A
 ·rename_i ty x i j;obtain⟨v,u,h1,h2,A⟩:=rL D.ty D.pos (AJ s x) (AJ s i) h;exact g (by simp only[execOp,j]) h1 h2 A
 ·rename_i ty x lo Z mx j;obtain⟨v,u,h1,h2,A⟩:=rK D.ty D.pos (AJ s x) (UC s lo) (UC s Z) (UC s mx) h;exact g (by simp only[execOp,j]) h1 h2 A
 ·rename_i x k j;have B:=AJ s x;split at h
  ·rename_i vs hq;rw[hq]at B;obtain⟨X,e,R⟩:=CD.1 B;unfold J3 at h;split at h
   ·rename_i v hv;obtain⟨y,hy,hr⟩:=R.2 k v hv;refine g (sm:=Instr.extract (a.eval x) k) (by simp only[execOp,j]) ?_ hr h;rw[e];simp[Instr.extract,hy]
   ·exact h.elim
  ·exact h.elim
 ·rename_i ty parts j;obtain⟨R,hq⟩:=YY s parts;obtain⟨v,u,h1,h2,A⟩:=rP D.ty R hq h;refine g (sm:=Instr.build ty (parts.map λ(i,x)=>(i,a.eval x))) (by simp only[execOp,j]) ?_ h2 A;have:(parts.map λ(i,x)=>(i,a.eval x))=(parts.toList.map λp=>(p.1,a.eval p.2)).toArray:=by apply fB;simp
  rw[this];exact h1
 ·rename_i c j;have call:=λb hb=>Gf (a:=a) j b hb;split at h
  ·rename_i hb;split at h
   ·rename_i x ty B V;obtain⟨v,u,h1,h2,A⟩:=H? (P:=E.P) (rt:=o.type) (ts:=c.argTypes) D.ty (by rw[<-B',V];rfl) (AJ s x) h;have r:c.args.map a.eval= #[a.eval x]:=by apply fB;simp[B]
    refine g (sm:=Builtin.len_ c.argTypes o.type #[a.eval x]) (by rw[call _ hb,r];rfl) h1 h2 A
   ·exact h.elim
  ·rename_i hb;split at h
   ·rename_i x y B;have r:c.args.map a.eval= #[a.eval x,a.eval y]:=by apply fB;simp[B]
    have h1:=AJ s x;have h2:=AJ s y;unfold xmm at h;split at h
    ·rename_i k m k' n F J;rw[F]at h1;rw[J]at h2;obtain⟨rfl,h⟩:=h;refine g (sm:=Builtin.min_ c.argTypes o.type #[a.eval x,a.eval y]) (by rw[call _ hb,r];rfl) ?_ (.v _) h;rw[A6.1 h1,A6.1 h2];rfl
    ·rename_i m n F J;rw[F]at h1;rw[J]at h2;refine g (sm:=Builtin.min_ c.argTypes o.type #[a.eval x,a.eval y]) (by rw[call _ hb,r];rfl) ?_ (.v _) h;rw[A6.1 h1,A6.1 h2];rfl
    ·exact h.elim
   ·exact h.elim
  ·rename_i hb;split at h
   ·rename_i x y B;have r:c.args.map a.eval= #[a.eval x,a.eval y]:=by apply fB;simp[B]
    have h1:=AJ s x;have h2:=AJ s y;unfold xmm at h;split at h
    ·rename_i k m k' n F J;rw[F]at h1;rw[J]at h2;obtain⟨rfl,h⟩:=h;refine g (sm:=Builtin.max_ c.argTypes o.type #[a.eval x,a.eval y]) (by rw[call _ hb,r];rfl) ?_ (.v _) h;rw[A6.1 h1,A6.1 h2];rfl
    ·rename_i m n F J;rw[F]at h1;rw[J]at h2;refine g (sm:=Builtin.max_ c.argTypes o.type #[a.eval x,a.eval y]) (by rw[call _ hb,r];rfl) ?_ (.v _) h;rw[A6.1 h1,A6.1 h2];rfl
    ·exact h.elim
   ·exact h.elim
  ·exact h.elim
 ·exact h.elim
def H!(q:E.Ok){o:Oper}(h:A7A E o.op t H (Ay H) K):A77 E.P E.G o t H K:=by
 intro w0 s0 C N a w s;have fin:∀{sm:Sem Value}{v:AV}{f:Hp}{u:Value}{e:Ctx}{d:World},execOp a.eval o=(do pure (.value (<-sm)))->sm.run E.P w=.ok u d->It E.G w0 C w v f u e d->K v f->
  ∃v f y e d,K v f/\((execOp a.eval o).run E.P w=.ok (.value y) d\/((execOp a.eval o).run E.P w=.ok .skip d/\y=undef))/\VRel e d v y/\Rel E.G w0 e f d/\Ext w0.own C w e d:=by
  intro sm v f u e d he hr g hk;exact⟨v,f,u,e,d,hk,.inl (by rw[he,Cr,hr];rfl),g.1,g.2.1,g.2.2⟩
 unfold A7A at h;split at h
 ·rename_i ty k;obtain⟨v,f,y,e,d,hk,hr,g⟩:=rQ q.ty s.rel h;exact fin (by simp only[execOp,k]) hr g hk
 ·rename_i ty x k;obtain⟨v,f,y,e,d,hk,hr,g⟩:=H_ (P:=E.P) s.rel (AJ s x) h;exact fin (by simp only[execOp,k]) hr g hk
 ·rename_i ty n parts k;obtain⟨r,hq⟩:=YY s parts;obtain⟨v,f,y,e,d,hk,hr,g⟩:=mP q.ty r hq s.rel h;refine fin (sm:=Instr.buildSlice ty n (parts.map λ(i,x)=>(i,a.eval x))) (by simp only[execOp,k]) ?_ g hk;have:(parts.map λ(i,x)=>(i,a.eval x))=(parts.toList.map λp=>(p.1,a.eval p.2)).toArray:=by apply fB;simp
  rw[this];exact hr
 ·rename_i c k;split at h
  ·rename_i hb;split at h
   ·rename_i x y t1 t2 A m;have j:c.args.map a.eval= #[a.eval x,a.eval y]:=by apply fB;simp[A]
    obtain⟨v,f,z,e,d,hk,hr,g⟩:=mQ (P:=E.P) (ty:=o.type) (ts:=c.argTypes) q.ty (t1:=t1) (t2:=t2) (by rw[<-B',m];rfl) (by rw[<-B',m];rfl) s.rel (AJ s x) (AJ s y) h;refine fin (sm:=Builtin.append_ c.argTypes o.type #[a.eval x,a.eval y]) ?_ hr g hk;rw[Gf k _ hb,j];rfl
   ·exact h.elim
  ·exact h.elim
 ·exact h.elim
end
end
structure SameObj(w w':World)(b:Nat)(o':Obj):Prop where
 os:w'.os=w.os
 tape:w'.tape=w.tape
 output:w'.output=w.output
 size:w'.heap.size=w.heap.size
 here:w'.heap[b]?=some o'
 others:∀k,k≠b->w'.heap[k]?=w.heap[k]?
section
variable{P:Program}{G:Gl}{w0:Base}{C:Ctx}{H:Hp}{w w':World}{O:Nat->Prop}{r:Nat}{b o:Nat}{x y:Row}{o':Obj}
def Keep.same_obj{B:Base}(h:Keep B w)(a:SameObj w w' b o')(c:B.own b):Keep B w':=
 ⟨a.os.trans h.os,a.tape.trans h.tape,a.output.trans h.output,by rw[a.size];exact h.size,λk hk d=>(a.others k (λe=>by
  subst e;rcases c with c|c
  ·omega
  ·exact d c)).trans (h.block k hk d)⟩
def SameObj.ext(c:SameObj w w' b o')(d:∀arr T fz,w.heap[b]?≠some (.cells arr T fz))(j:∀i,¬C.F b i)(g:¬C.B b):Ext O C w C w':=
 ⟨λ_ _=>rfl,λ_ _ h=>h,λk i h=>l0s (c.others k (λe=>j i (e▸h))),λ_ h=>h,λk h=>c.others k (λe=>g (e▸h)),
  λk a t f h=>⟨a,f,(c.others k (λe=>d a t f (e▸h))).trans h,rfl⟩,λ_ _ h=>.inl h,λ_ h=>.inl h,Nat.le_of_eq c.size.symm⟩
def Rel.set_obj(h:Rel G w0 C H w)(n:Ao H r=some x)(D:C.π r=some (some (b,o)))(j:SameObj w w' b o')(m:∀arr T fz,w.heap[b]?≠some (.cells arr T fz))(Q:Ext (λ_=>False) C w C w'->PZ C w' r y):Rel G w0 C (upd H r y) w'/\Ext O C w C w':=by
 have a:=h.own r x b o n D;have e:Ext O C w C w':=j.ext m a.2.1 a.2.2;have key:∀s z,Ao (upd H r y) s=some z->(s=r/\z=y)\/(s≠r/\Ao H s=some z):=λs z hz=>by
  by_cases f:s=r
  ·subst f;rw[Et n]at hz;exact .inl ⟨rfl,(XR hz).1.symm⟩
  ·rw[Aj f]at hz;exact .inr ⟨f,hz⟩
 have d:∀s z,Ao (upd H r y) s=some z->∃g,Ao H s=some g:=λs z hz=>by
  rcases key s z hz with⟨rfl,_⟩|⟨_,h⟩
  ·exact⟨x,n⟩
  ·exact⟨z,h⟩
 refine⟨⟨h.glob.mono e,h.below.same_obj j a.1,?_,?_,?_,?_,λk i L=>j.size▸h.fin k i L,λk K=>j.size▸h.finB k K,λk hk=>h.nx k (by rw[CU]at hk;exact hk)⟩,e⟩
 ·intro s z hz;obtain⟨g,c⟩:=d s z hz;exact h.lt s g c
 ·intro s z hz;rcases key s z hz with⟨rfl,rfl⟩|⟨q,hz⟩
  ·exact Q (j.ext m a.2.1 a.2.2)
  ·refine(h.rows s z hz).mono e (λk B hk=>j.others k (λJ=>?_));subst J;exact q (h.sep s r z x _ _ _ hz n hk D)
 ·intro s z k A hz hk;obtain⟨g,c⟩:=d s z hz;exact h.own s g k A c hk
 ·intro s F z g k A R hz c hk p;obtain⟨u,M⟩:=d s z hz;obtain⟨V,v⟩:=d F g c;exact h.sep s F u V k A R M v hk p
theorem SameObj.putObj{l:Nat}(c:l<w.heap.size)(a:Obj):SameObj w (w.putObj l a) l a:=
 ⟨rfl,rfl,rfl,by simp,World.putObj_heap_same c,λk hk=>World.putObj_heap_other (λe=>hk e)⟩
end
def oX:Tm->List Tmp->Is->Tm
 |t,p::ps,a::c=>oX ((p,a)::t) ps c
 |t,_,_=>t
def A2a{C:Ctx}{w:World}:∀(ps:List Tmp)(c:Is)(ys:Hx)(t:Tm)(tmps:Array Value),(∀p∈ps,p<tmps.size)->BU C w c ys->Tx C w t tmps->
 Tx C w (oX t ps c) ((ps.zip ys).foldl (λt(p:Tmp×Value)=>t.setIfInBounds p.1 p.2) tmps)/\((ps.zip ys).foldl (λt(p:Tmp×Value)=>t.setIfInBounds p.1 p.2) tmps).size=tmps.size:=by
 intro ps
 induction ps with
 |nil=>intro c ys t tmps _ _ d;exact⟨d,rfl⟩
 |cons p ps ih=>
  intro c ys t tmps k j d;cases c with
  |nil=>rw[j.nil_inv];exact⟨d,rfl⟩
  |cons a c=>
   obtain⟨y,g,rfl,hv,e⟩:=j.cons_inv;simp only[List.zip_cons_cons,List.foldl_cons,oX];obtain⟨h1,h2⟩:=ih c g ((p,a)::t) (tmps.setIfInBounds p y) (λq hq=>by simpa using k q (by simp[hq])) e (λi=>by
    simp only[F7];by_cases h:i=p
    ·subst h;have f:i<tmps.size:=k i (by simp);rw[CJ rfl];simp[WX,f];exact hv
    ·rw[Co h];have:=d i;simp only[WX]at this⊢;rw[Array.getElem?_setIfInBounds_ne (by omega)];exact this)
   exact⟨h1,by rw[h2];simp⟩
section
variable{P:Program}{G:Gl}{ro:Option Nat}{N:Nat}{t:Tm}{H:Hp}
def Rel.set_loop{w0:Base}{C:Ctx}{w:World}{r b:Nat}{f:Nat}{k:Tm}{ps:Array Tmp}{g i:Code}{a pend':Option (Option Code)}{O:Nat->Prop}(h:Rel G w0 C H w)(u:Ao H r=some (.loop f k ps g i a))(j:C.π r=some (some (b,0))):
 ∃l:Loop,w.heap[b]?=some (.loop l)/\l.state=A8p a/\l.pending=a.join/\l.tmps.size=f/\l.params=ps/\l.assign=g/\l.body=i/\Tx C w k l.tmps/\
  ∀c:Loop,c.state=A8p pend'->c.pending=pend'.join->c.tmps=l.tmps->c.params=l.params->c.assign=l.assign->c.body=l.body->
   Rel G w0 C (upd H r (.loop f k ps g i pend')) (w.putObj b (.loop c))/\Ext O C w C (w.putObj b (.loop c)):=by
 obtain⟨v,l,h1,h2,B,D,m,n,p,q,s⟩:=h.rows r _ u;have e:=h1.symm.trans j;injection e with e;injection e with e;injection e with A M;subst A
 refine⟨l,h2,B,D,m,n,p,q,s,λc k1 F k3 J K L=>?_⟩;have d:=(l1q.1 h2).1;exact h.set_obj u j (SameObj.putObj d _) (λarr T fz hc=>by rw[h2]at hc;cases hc) (λe=>⟨v,c,j,World.putObj_heap_same d,k1,F,by rw[k3];exact m,J.trans n,K.trans p,L.trans q,by rw[k3];exact s.mono e⟩)
def Ctx.addB(C:Ctx)(b:Nat):Ctx:={C with B:=λk=>C.B k\/k=b}
theorem Rel.addB{w0:Base}{C:Ctx}{w:World}{b:Nat}(h:Rel G w0 C H w)(i:b<w.heap.size)(j:w0.own b)(hn:∀r x o,Ao H r=some x->C.π r≠some (some (b,o))):Rel G w0 (C.addB b) H w/\Ext w0.own C w (C.addB b) w:=by
 have e:Ext w0.own C w (C.addB b) w:=⟨λ_ _=>rfl,λ_ _ h=>h,λ_ _ _=>rfl,λ_ h=>.inl h,λ_ _=>rfl,λ_ a _ f h=>⟨a,f,h,rfl⟩,λ_ _ h=>.inl h,λk h=>by rcases h with h|h;exact .inl h;exact .inr (h▸j),MZ _⟩
 refine⟨⟨h.glob,h.below,h.lt,λr x d=>(h.rows r x d).mono e (λ_ _ _=>rfl),λr x k o d g=>⟨(h.own r x k o d g).1,(h.own r x k o d g).2.1,λc=>?_⟩,h.sep,h.fin,λk c=>?_,h.nx⟩,e⟩
 ·rcases c with c|c
  ·exact(h.own r x k o d g).2.2 c
  ·subst c;exact hn r x o d g
 ·rcases c with c|c
  ·exact h.finB k c
  ·subst c;exact i
def B3y(Q:Exit->Tm->Hp->Prop)(t:Tm)(H:Hp):Option Code->Prop
 |none=>Q .normal t H
 |some .ret=>Q .ret t H
 |some (.exit id)=>Q (.exit id) t H
 |some (.goto l)=>Q (.goto l) t H
 |_=>False
def KT(w:World)(a:Obj):Below w.heap.size w (w.alloc a):=(Below.refl _ w).alloc (MZ _) _
end
section
variable{i j u:Nat}
def Y0(ops:List Oper)(i j:Nat):Bool:=
 match ops[i]? with
 |some o=>o.after.toList.any λe=>Region.binds .any e&&Nat.beq e.on j
 |none=>false
def L7(ops:List Oper)(o:Oper):List Tmp:=
 (o.op.operands.toList.filterMap λ|.tmp t=>some t|_=>none)++
 (match o.guard with
  |some (g,_)=>((ops[g]?).bind (·.dst)).toList
  |none=>[])
def iS(ops:List Oper)(x y:Oper):Bool:=
 (match x.dst with|some d=>(L7 ops y).elem d||y.dst==some d|none=>false)||(match y.dst with|some d=>(L7 ops x).elem d|none=>false)
inductive Rch(ops:List Oper):Nat->Nat->Prop
 |one {i j:Nat} (h:Y0 ops i j=true):Rch ops i j
 |more {i k j:Nat} (h:Y0 ops i k=true) (h':Rch ops k j):Rch ops i j
def Yz{ops:List Oper}:Y0 ops i j=true↔∃o,ops[i]?=some o/\∃e∈o.after.toList,Region.binds .any e=true/\e.on=j:=by
 unfold Y0;cases ops[i]? with
 |none=>simp
 |some o=>simp only[List.any_eq_true,I0,eY,l0y,exists_eq_left']
def Rch.mem{ops:List Oper}{L:Nat->Bool}(a:∀i j,L i=true->Y0 ops i j=true->L j=true)(h:Rch ops i j):L i=true->L j=true:=by
 induction h with
 |one h=>intro c;exact a _ _ c h
 |more h _ ih=>intro c;exact ih (a _ _ c h)
def Rch.mem'{ops:List Oper}{L:Nat->Bool}(a:∀i j,L i=true->Y0 ops i j=true->L j=true)(hr:∀j,Y0 ops i j=true->L j=true)(h:Rch ops i j):L j=true:=by
 cases h with
 |one h=>exact hr _ h
 |more h c=>exact c.mem a (hr _ h)
def B73(acc:Hb)(es:List Edge):Nat:=es.foldl (λm e=>if Region.binds .any e then Nat.lor m (Nat.lor (Nat.pow 2 e.on) (acc.getD e.on 0)) else m) 0
def Zj:Hb->List Oper->Hb
 |acc,[]=>acc
 |acc,o::l=>Zj (acc++[B73 acc o.after.toList]) l
def Qo(ops:List Oper):Hb:=Zj [] ops
def U?{acc:Hb}{ops:List Oper}{o:Oper}(r:ops[i]?=some o)(d:∀k j,(acc.getD k 0).testBit j=true->Rch ops k j):
 ∀(es:List Edge),(∀e∈es,e∈o.after.toList)->∀m:Nat,(∀j,m.testBit j=true->Rch ops i j)->∀j,(es.foldl (λm e=>if Region.binds .any e then Nat.lor m (Nat.lor (Nat.pow 2 e.on) (acc.getD e.on 0)) else m) m).testBit j=true->Rch ops i j:=by
 intro es
 induction es with
 |nil=>intro _ m hm j c;exact hm j c
 |cons e es ih=>
  intro f m hm;refine ih (λp g=>f p (by simp[g])) _ ?_;intro j c;simp only at c;split at c
  ·rename_i hb;have n:Y0 ops i e.on=true:=Yz.2 ⟨o,r,e,f e (by simp),hb,rfl⟩;have h:∀a b:Nat,Nat.lor a b=a|||b:=λ_ _=>rfl
   have q:∀a b:Nat,Nat.pow a b=a^b:=λ_ _=>rfl;rw[h,h,q,Nat.testBit_or,Nat.testBit_or,Nat.testBit_two_pow]at c;simp only[l1d,decide_eq_true_eq]at c;rcases c with c|c|c
   ·exact hm j c
   ·subst c;exact .one n
   ·exact .more n (d _ _ c)
  ·exact hm j c
def kH{ops:List Oper}:∀(l:List Oper)(acc:Hb),ops.drop acc.length=l->acc.length<=ops.length->(∀k j,(acc.getD k 0).testBit j=true->Rch ops k j)->∀k j,((Zj acc l).getD k 0).testBit j=true->Rch ops k j:=by
 intro l
 induction l with
 |nil=>intro acc _ _ h;exact h
 |cons o l ih=>
  intro acc d f a;have e:ops[acc.length]?=some o:=by
   have:=congrArg (λl=>l[0]?) d;simpa using this
  have g:acc.length<ops.length:=(pR.1 e).1;refine ih _ ?_ (by simp;omega) ?_
  ·rw[E6,List.length_singleton];have:=congrArg (List.drop 1) d;simpa [Nat.add_comm] using this
  ·intro k j c;rcases Nat.lt_trichotomy k acc.length with hk|hk|hk
   ·rw[Tc,l0l hk,<-Tc]at c;exact a k j c
   ·subst hk;rw[Tc,l0n (MZ _)]at c;simp at c;exact U? e a _ (λ_ h=>h) 0 (by simp) j c
   ·rw[Tc,l0n (by omega),l1e (by simp;omega)]at c;simp at c
def ME{ops:List Oper}{k j:Nat}(h:((Qo ops).getD k 0).testBit j=true):Rch ops k j:=
 kH ops [] rfl (xQ _) (λk j h=>by simp at h) k j h
def tb(m j:Nat):Bool:=Nat.beq (Nat.land (Nat.shiftRight m j) 1) 1
def pA(m j:Nat):tb m j=m.testBit j:=by
 unfold tb Nat.testBit;have e:Nat.land (Nat.shiftRight m j) 1=(m>>>j)&&&1:=rfl;rw[e,Nat.and_comm,Nat.one_and_eq_mod_two];rcases Nat.mod_two_eq_zero_or_one (m>>>j) with h|h<;>rw[h]<;>rfl
def ZH(ms:Hb):Hb->Bool
 |[]=>true
 |[_]=>true
 |a::b::l=>Nat.blt a b&&tb (ms.getD b 0) a&&ZH ms (b::l)
def A1G:Nat->List Oper->Bool
 |_,[]=>true
 |i,o::l=>o.after.toList.all (λe=>!Region.binds .any e||Nat.blt e.on i)&&A1G (i+1) l
def fO(ops:List Oper)(m:Nat)(o:Oper):Nat->List Oper->Bool
 |_,[]=>true
 |j,p::l=>(!iS ops p o||tb m j)&&fO ops m o (j+1) l
def A9h(ops:List Oper)(ms:Hb):Nat->List Oper->Bool
 |_,[]=>true
 |i,o::l=>fO ops (ms.getD i 0) o 0 (ops.take i)&&A9h ops ms (i+1) l
def pH(ops:List Oper)(efs:Hb):Bool:=
 A1G 0 ops&&A9h ops (Qo ops) 0 ops&&ZH (Qo ops) efs&&efs.all λe=>Nat.blt e ops.length
structure RegOk(ops:List Oper)(efs:Hb):Prop where
 back:∀(i j:Nat),Y0 ops i j=true->j<i
 ord:∀(i j:Nat)(o p:Oper),j<i->ops[i]?=some o->ops[j]?=some p->(∃d,p.dst=some d/\(d∈L7 ops o\/o.dst=some d))\/(∃d,o.dst=some d/\d∈L7 ops p)->Rch ops i j
 chain:∀(a e e':Nat),efs[a]?=some e->efs[a+1]?=some e'->Rch ops e' e
 inj:∀(a a' e:Nat),efs[a]?=some e->efs[a']?=some e->a=a'
 lt:∀(a e:Nat),efs[a]?=some e->e<ops.length
def qW{ms:Hb}:∀{l:Hb},ZH ms l=true->∀(a c e d:Nat),a<c->l[a]?=some e->l[c]?=some d->e<d:=by
 intro l
 induction l with
 |nil=>intro _ a c e d _ h;simp at h
 |cons x l ih=>
  intro h a c e d f h1 h2;cases l with
  |nil=>
   cases c with
   |zero=>omega
   |succ c=>simp at h2
  |cons y l=>
   simp only[ZH,I0,Ua]at h;cases c with
   |zero=>omega
   |succ c=>
    cases a with
    |zero=>
     simp at h1;subst h1;cases c with
     |zero=>simp at h2;subst h2;exact h.1.1
     |succ c=>exact Nat.lt_trans h.1.1 (ih h.2 0 (c+1) y d (by omega) (by simp) (by simpa using h2))
    |succ a=>exact ih h.2 a c e d (by omega) (by simpa using h1) (by simpa using h2)
def A0n{ops:List Oper}:∀{l:Hb},ZH (Qo ops) l=true->∀(a e c:Nat),l[a]?=some e->l[a+1]?=some c->Rch ops c e:=by
 intro l
 induction l with
 |nil=>intro _ a e c h;simp at h
 |cons x l ih=>
  intro h a e c h1 h2;cases l with
  |nil=>simp at h2
  |cons y l=>
   simp only[ZH,I0,pA]at h;cases a with
   |zero=>simp at h1 h2;subst h1 h2;exact ME h.1.2
   |succ a=>exact ih h.2 a e c (by simpa using h1) (by simpa using h2)
def A0t:∀(l:List Oper)(i:Nat),A1G i l=true->∀(k:Nat)(o:Oper),l[k]?=some o->∀e∈o.after.toList,Region.binds .any e=true->e.on<i+k:=by
 intro l
 induction l with
 |nil=>intro i _ k o h;simp at h
 |cons p l ih=>
  intro i h k o a e he hb;simp only[A1G,I0,Gb]at h;cases k with
  |zero=>
   simp at a;subst a;have:=h.1 e he;simpa [hb,Ua] using this
  |succ k=>
   have:=ih (i+1) h.2 k o (by simpa using a) e he hb;omega
def rX{ops:List Oper}{m:Nat}{o:Oper}:∀(l:List Oper)(j:Nat),fO ops m o j l=true->∀(k:Nat)(p:Oper),l[k]?=some p->iS ops p o=true->m.testBit (j+k)=true:=by
 intro l
 induction l with
 |nil=>intro j _ k p h;simp at h
 |cons q l ih=>
  intro j h k p a c;simp only[fO,I0,l1d,tD,pA]at h;cases k with
  |zero=>
   simp at a;subst a;rcases h.1 with h1|h1
   ·rw[c]at h1;cases h1
   ·exact h1
  |succ k=>
   have:=ih (j+1) h.2 k p (by simpa using a) c;rw[show j+(k+1)=j+1+k from by omega];exact this
def A2v{ops:List Oper}:∀(l:List Oper)(i:Nat),A9h ops (Qo ops) i l=true->∀(k:Nat)(o:Oper),l[k]?=some o->∀(j:Nat)(p:Oper),j<i+k->ops[j]?=some p->iS ops p o=true->Rch ops (i+k) j:=by
 intro l
 induction l with
 |nil=>intro i _ k o h;simp at h
 |cons q l ih=>
  intro i h k o a j p e c d;simp only[A9h,I0]at h;cases k with
  |zero=>
   simp at a;subst a;have:=rX _ 0 h.1 j p (by rw[oI,CJ (by simpa using e)];exact c) d;rw[Le]at this;exact ME this
  |succ k=>
   have:=ih (i+1) h.2 k o (by simpa using a) j p (by omega) c d;rw[show i+(k+1)=i+1+k from by omega];exact this
def iW{ops:List Oper}{efs:Hb}(h:pH ops efs=true):RegOk ops efs:=by
 simp only[pH,I0,Gb]at h;obtain⟨⟨⟨v,h1⟩,h2⟩,w⟩:=h;refine⟨λi j g=>?_,λi j o p x r y A=>?_,A0n h2,λa n e g k=>?_,λa e g=>?_⟩
 ·obtain⟨o,r,e,he,hb,rfl⟩:=Yz.1 g;have:=A0t ops 0 v i o r e he hb;omega
 ·have s:iS ops p o=true:=by
   unfold iS;rcases A with⟨d,q,f⟩|⟨d,q,f⟩
   ·rw[q];rcases f with f|f
    ·simp[f]
    ·simp[f]
   ·rw[q];simp[f]
  have:=A2v ops 0 h1 i o r j p (by omega) y s
  rwa[Le]at this
 ·rcases Nat.lt_trichotomy a n with c|c|c
  ·exact absurd (qW h2 a n e e c g k) (l1g _)
  ·exact c
  ·exact absurd (qW h2 n a e e c k g) (l1g _)
 ·have:=w e (l1h g);simpa [Ua] using this
def Gi(ops:List Oper)(val:Nat->AV)(t:Tm)(L:Nat->Bool):Nat->Tm
 |0=>t
 |j+1=>match L j,ops[j]? with
  |true,some o=>OJ (Gi ops val t L j) o.dst (val j)
  |_,_=>Gi ops val t L j
def RB{t:Tm}{d:Option Tmp}{v:AV}:F7 (OJ t d v) u=if d=some u then v else F7 t u:=by
 cases d with
 |none=>simp[OJ]
 |some d=>
  simp only[OJ,F7];by_cases h:u=d
  ·simp[h]
  ·rw[Co h,Co (λe=>h (by injection e with e;exact e.symm))]
section
variable{ops:List Oper}{efs:Hb}{val:Nat->AV}{t:Tm}{L:Nat->Bool}
def L_(hk:RegOk ops efs)(c:∀i j,L i=true->Y0 ops i j=true->L j=true){o:Oper}(r:ops[i]?=some o)(hr:∀j,Y0 ops i j=true->L j=true)(e:L i=false)(s:u∈L7 ops o)(n:Nat)(hn:i<=n):
 F7 (Gi ops val t L n) u=F7 (Gi ops val t (λ_=>true) i) u:=by
 have h1:∀j,j<=i->F7 (Gi ops val t L j) u=F7 (Gi ops val t (λ_=>true) j) u:=by
  intro j
  induction j with
  |zero=>intro _;rfl
  |succ j ih=>
   intro v;have:=ih (by omega);simp only[Gi];cases d:ops[j]? with
   |none=>cases L j<;>simpa [d] using this
   |some p=>
    by_cases a:p.dst=some u
    ·have g:=hk.ord i j o p (by omega) r d (.inl ⟨u,a,.inl s⟩);rw[g.mem' c hr];simp only[RB,CJ a]
    ·cases f:L j
     ·simp only[RB,Co a];exact this
     ·simp only[RB,Co a];exact this
 have h2:∀j,i<=j->F7 (Gi ops val t L j) u=F7 (Gi ops val t L i) u:=by
  intro j
  induction j with
  |zero=>
   intro h;have:i=0:=by omega
   subst this;rfl
  |succ j ih=>
   intro v;by_cases q:i=j+1
   ·subst q;rfl
   ·have:=ih (by omega);simp only[Gi];cases d:ops[j]? with
    |none=>cases L j<;>simpa [d] using this
    |some p=>
     cases f:L j
     ·simpa using this
     ·simp only[RB];by_cases a:p.dst=some u
      ·exfalso;by_cases k:i=j
       ·subst k;rw[f]at e;cases e
       ·have g:=hk.ord j i p o (by omega) d r (.inr ⟨u,a,s⟩);rw[g.mem c f]at e;cases e
      ·rw[Co a];exact this
 rw[h2 n hn,h1 i (MZ _)]
def A4e(hk:RegOk ops efs)(f:∀i j,L i=true->Y0 ops i j=true->L j=true){o:Oper}(r:ops[i]?=some o)(g:L i=false)(u:Nat)(n:Nat)(hn:i<n):
 F7 (OJ (Gi ops val t L n) o.dst (val i)) u=F7 (Gi ops val t (λk=>if k=i then true else L k) n) u:=by
 have h1:∀j,j<=i->Gi ops val t (λk=>if k=i then true else L k) j=Gi ops val t L j:=by
  intro j
  induction j with
  |zero=>intro _;rfl
  |succ j ih=>
   intro x;have a:j≠i:=by omega
   simp only[Gi,Co a,ih (by omega)]
 have h2:∀j,i<j->F7 (OJ (Gi ops val t L j) o.dst (val i)) u=F7 (Gi ops val t (λk=>if k=i then true else L k) j) u:=by
  intro j
  induction j with
  |zero=>intro h;omega
  |succ j ih=>
   intro x;by_cases d:i=j
   ·subst d;simp only[Gi,g,if_true,r,h1 i (MZ _)]
   ·have:=ih (by omega);have a:j≠i:=λe=>d e.symm;simp only[Gi,Co a];cases s:ops[j]? with
    |none=>cases L j<;>simpa [s] using this
    |some p=>
     cases v:L j
     ·simpa using this
     ·simp only[RB]at this⊢;by_cases c:p.dst=some u
      ·have q:o.dst≠some u:=λh=>by
        have w:=hk.ord j i p o (by omega) s r (.inl ⟨u,h,.inr c⟩);rw[w.mem f v]at g;cases g
       rw[Co q,CJ c,CJ c]
      ·rw[Co c,Co c];exact this
 exact h2 n hn
end
def Gn(ops:List Oper)(o:Oper)(t:Tm):Tm:=(L7 ops o).map λu=>(u,F7 t u)
def L'{ops:List Oper}{o:Oper}{t:Tm}(u:Nat):F7 (Gn ops o t) u=.dk\/(u∈L7 ops o/\F7 (Gn ops o t) u=F7 t u):=by
 unfold Gn
 induction L7 ops o with
 |nil=>exact .inl rfl
 |cons x l ih=>
  simp only[Zm,F7];by_cases h:u=x
  ·subst h;rw[CJ rfl];exact .inr ⟨by simp,rfl⟩
  ·rw[Co h];rcases ih with ih|⟨h1,h2⟩
   ·exact .inl ih
   ·exact .inr ⟨List.mem_cons_of_mem _ h1,h2⟩
def B6O(ops:List Oper)(efs:Hb)(i m:Nat):Prop:=(∀(a e:Nat),efs[a]?=some e->Rch ops i e->a<m)/\(∀(a e:Nat),efs[a]?=some e->Rch ops e i->m<=a)
def B0o(P:Program)(G:Gl)(ro:Option Nat)(N:Nat)(ops:List Oper)(o:Oper)(t:Tm)(H:Hp)(v:AV)(c:Hp):Prop:=
 ((Ff ops t o=.run\/Ff ops t o=.dep true)/\Qx P G ro N o t H (λd a=>d=v/\a=c))\/((Ff ops t o=.skip\/Ff ops t o=.dep false)/\v=.v undef/\c=H)
section
variable{P:Program}{G:Gl}{ro:Option Nat}{m N:Nat}{Q:Exit->Tm->Hp->Prop}{t:Tm}
def St.congr{w0:Base}{s0:Nat}{C:Ctx}{c:Tm}{H:Hp}{a:Act}{w:World}(s:St G w0 s0 C N t H a w)(h:∀u,F7 c u=F7 t u\/F7 c u=.dk):St G w0 s0 C N c H a w:=
 ⟨s.rel,s.size,λu=>by
  rcases h u with e|e
  ·rw[e];exact s.tmps u
  ·rw[e];exact .dk _,s.defers,s.le⟩
def Sa(L:Nat->Bool):Nat->Nat
 |0=>0
 |j+1=>Sa L j+(if L j then 0 else 1)
def A6G{L:Nat->Bool}(e:L i=false):∀n,Sa (λk=>if k=i then true else L k) n+(if i<n then 1 else 0)=Sa L n:=by
 intro n
 induction n with
 |zero=>simp[Sa]
 |succ n ih=>
  have c:Sa (λk=>if k=i then true else L k) (n+1)=Sa (λk=>if k=i then true else L k) n+(if(if n=i then true else L n)=true then 0 else 1):=rfl;have d:Sa L (n+1)=Sa L n+(if L n=true then 0 else 1):=rfl;rw[c,d];generalize Sa (λk=>if k=i then true else L k) n=x at*;generalize Sa L n=y at*;by_cases h:n=i
  ·subst h;rw[Co (l1g _)]at ih;rw[CJ rfl,CJ rfl,CJ (Nat.lt_succ_self _),e,Co (by simp)];omega
  ·rw[Co h];by_cases a:i<n
   ·rw[CJ a]at ih;rw[CJ (by omega:i<n+1)];omega
   ·rw[Co a]at ih;rw[Co (by omega:¬i<n+1)];omega
def qV{L:Nat->Bool}:∀{n:Nat},Sa L n=0->∀i,i<n->L i=true:=by
 intro n
 induction n with
 |zero=>intro _ i h;omega
 |succ n ih=>
  intro h i c;simp only[Sa]at h;by_cases e:i=n
  ·subst e;by_cases a:L i=true
   ·exact a
   ·simp[a]at h
  ·exact ih (by omega) i (by omega)
def A6H{L:Nat->Bool}:∀{n:Nat},0<Sa L n->∃i,i<n/\L i=false/\∀j,j<i->L j=true:=by
 intro n
 induction n with
 |zero=>intro h;simp[Sa]at h
 |succ n ih=>
  intro h;by_cases f:0<Sa L n
  ·obtain⟨i,h1,h2,c⟩:=ih f;exact⟨i,by omega,h2,c⟩
  ·have a:Sa L n=0:=by omega
   simp only[Sa,a]at h;refine⟨n,by omega,?_,λj d=>qV a j d⟩;cases e:L n
   ·rfl
   ·simp[e]at h
def A4f{ops:List Oper}{val:Nat->AV}{L:Nat->Bool}:∀{n:Nat},(∀i,i<n->L i=true)->Gi ops val t L n=Gi ops val t (λ_=>true) n:=by
 intro n
 induction n with
 |zero=>intro _;rfl
 |succ n ih=>
  intro h;simp only[Gi,h n (by omega),ih (λi a=>h i (by omega))]
def zT{id:Nat}{ops:List Oper}{efs:Hb}{val:Nat->AV}{Hs:Nat->Hp}(hm:P.follows .mixedOrders=true)(hk:RegOk ops efs)(hd:∀o∈ops,dok N o.dst)(a3:∀(i:Nat)(o:Oper),ops[i]?=some o->(∀a:Nat,efs[a]?≠some i)->∀k,k<=efs.length->B6O ops efs i k->B0o P G ro N ops o (Gn ops o (Gi ops val t (λ_=>true) i)) (Hs k) (val i) (Hs k))(ax:∀(a i:Nat)(o:Oper),ops[i]?=some o->efs[a]?=some i->B0o P G ro N ops o (Gn ops o (Gi ops val t (λ_=>true) i)) (Hs a) (val i) (Hs (a+1)))(hq:Q .normal (Gi ops val t (λ_=>true) ops.length) (Hs efs.length)):NC P G ro m N (.region id ops.toArray true) Q t (Hs 0):=by
 intro w0 s0 R a w s;refine wpIn_region_any hm ?_;have key:∀(f:Nat)(Ls:Array Bool)(C:Ctx)(a:Act)(w1:World)(k:Nat),Ls.size=ops.length->Sa (λi=>Ls.getD i false) ops.length=f->(∀i j,Ls.getD i false=true->Y0 ops i j=true->Ls.getD j false=true)->
  k<=efs.length->(∀(b e:Nat),efs[b]?=some e->(Ls.getD e false=true↔b<k))->St G w0 s0 C N (Gi ops val t (λi=>Ls.getD i false) ops.length) (Hs k) a w1->Frm m w0.own R w C w1->
  wpAnyIn (Fe ro) 0 P .any ops.toArray (Ko G w0 s0 m R N w Q) f Ls a w1:=by
  intro f
  induction f with
  |zero=>
   intro Ls C a w1 k hsz hc g ad d J ab;have A:=qV hc;have ay:k=efs.length:=by
    rcases Nat.lt_or_ge k efs.length with h|h
    ·exfalso;have:=(d k _ (II h)).1 (A _ (hk.lt k _ (II h)));omega
    ·omega
   refine⟨?_,⟨C,_,_,J,ab,?_⟩⟩
   ·unfold Region.ready;rw[List.filter_eq_nil_iff];intro i K;simp only[List.size_toArray,I2]at K;have h1:=A i K;have:Ls.getD i true=true:=by
     simp only[WX]at h1⊢;rw[l1k (by omega)]at h1⊢;exact h1
    simp[this]
   ·rw[ay,A4f A];exact hq
  |succ f ih=>
   intro Ls C a w1 k hsz hc g ad d J ab;have V:∀i,i<ops.length->Ls.getD i true=Ls.getD i false:=λi K=>by
    simp only[WX];rw[l1k (by omega)];rfl
   refine⟨λai=>?_,λi K=>?_⟩
   ·exfalso;obtain⟨i,h1,h2,h3⟩:=A6H (L:=λi=>Ls.getD i false) (n:=ops.length) (by omega);have:i∈Region.ready .any ops.toArray Ls:=by
     unfold Region.ready;rw[l2u];refine⟨by simpa using h1,?_⟩;simp only[V i h1,h2,Bool.not_false,xR,l10,II h1,oH,l1l];rw[Array.all_eq_true_iff_forall_mem];intro e he;cases hb:Region.binds .any e
     ·rfl
     ·simp only[Bool.not_true,Bool.false_or];exact h3 e.on (hk.back i e.on (Yz.2 ⟨_,II h1,e,by simpa using he,hb,rfl⟩))
    rw[ai]at this;simp at this
   ·unfold Region.ready at K;rw[l2u]at K;obtain⟨p,aj⟩:=K;simp only[List.size_toArray,I2]at p;have M:ops[i]?=some ops[i]:=II p;generalize ops[i]=o at M;simp only[V i p,l10,M,oH,l1l,I0,tD]at aj;obtain⟨r,af⟩:=aj;rw[Array.all_eq_true_iff_forall_mem]at af;have hr:∀j,Y0 ops i j=true->Ls.getD j false=true:=λj hj=>by
     obtain⟨o',O,e,he,hb,rfl⟩:=Yz.1 hj;rw[M]at O;injection O with O;subst O
     have:=af e (by simpa using he);simpa [hb] using this
    have c:∀k,(Ls.setIfInBounds i true).getD k false=if k=i then true else Ls.getD k false:=by
     intro k;simp only[WX,Array.getElem?_setIfInBounds];by_cases h:i=k
     ·subst h;simp[hsz,p]
     ·rw[Co h,Co (λe=>h e.symm)]
    have X:(λk=>(Ls.setIfInBounds i true).getD k false)= λk=>if k=i then true else Ls.getD k false:=funext c
    have Y:St G w0 s0 C N (Gn ops o (Gi ops val t (λ_=>true) i)) (Hs k) a w1:=J.congr λu=>by
     rcases L' (ops:=ops) (o:=o) (t:=Gi ops val t (λ_=>true) i) u with h|⟨h1,h2⟩
     ·exact .inr h
     ·exact .inl (by rw[h2];exact(L_ hk g M hr r h1 ops.length (by omega)).symm)
    have ar:=hd o (l1h M);have next:∀(q:Nat)(C':Ctx)(y:Value)(Z:World),(q=k/\(∀b:Nat,efs[b]?≠some i)\/q=k+1/\efs[k]?=some i)->VRel C' Z (val i) y->Rel G w0 C' (Hs q) Z->Ext w0.own C w1 C' Z->
     wpAnyIn (Fe ro) 0 P .any ops.toArray (Ko G w0 s0 m R N w Q) f (Ls.setIfInBounds i true) (a.put o.dst y) Z:=by
     intro q C' y Z D hv F e;refine ih (Ls.setIfInBounds i true) C' _ Z q (by simpa using hsz) ?_ ?_ ?_ ?_ ?_ (ab.trans e.frm)
     ·rw[X];have:=A6G (L:=λk=>Ls.getD k false) r ops.length;rw[CJ p]at this;omega
     ·intro x y hx ao;rw[c x]at hx;rw[c y];split
      ·rfl
      ·by_cases am:x=i
       ·subst am;exact hr y ao
       ·rw[Co am]at hx;exact g x y hx ao
     ·rcases D with⟨rfl,_⟩|⟨rfl,h⟩
      ·exact ad
      ·exact(pR.1 h).1
     ·intro b e' hb;rw[c e'];rcases D with⟨rfl,h⟩|⟨rfl,h⟩
      ·rw[Co (λe:e'=i=>h b (by rw[hb,e]))];exact d b e' hb
      ·by_cases aa:e'=i
       ·subst aa;have:=hk.inj b k _ hb h;simp[this]
       ·rw[Co aa,d b e' hb];have:b≠k:=λe=>aa (by rw[e,h]at hb;injection hb with hb;exact hb.symm);omega
     ·exact(M! J F e hv ar).congr λu=>.inl (by rw[X];exact(A4e hk g M r u ops.length p).symm)
    have fin:∀(q:Nat),(q=k/\(∀b:Nat,efs[b]?≠some i)\/q=k+1/\efs[k]?=some i)->B0o P G ro N ops o (Gn ops o (Gi ops val t (λ_=>true) i)) (Hs k) (val i) (Hs q)->
     wpOpIn (Fe ro) 0 P ops.toArray (Ko G w0 s0 m R N w Q) i (wpAnyIn (Fe ro) 0 P .any ops.toArray (Ko G w0 s0 m R N w Q) f (Ls.setIfInBounds i true)) a w1:=by
     intro q D hG;have hg:=mF Y.tmps ops o;unfold wpOpIn;simp only[l10,M];rcases hG with⟨ac,hA⟩|⟨ac,ak,hH⟩
     ·have hw:Region.wanted o (yielded ops.toArray a.tmps)=true:=by
       rcases ac with h|h
       ·exact hg.1 h
       ·exact hg.2.2 _ h
      rw[CJ hw];refine Pi ?_ (hA w0 s0 C a w1 _ Y);rintro a' Z ⟨v,y,C',H',rfl,⟨rfl,rfl⟩,hv,F,e⟩;exact next q C' y Z D hv F e
     ·have hw:Region.wanted o (yielded ops.toArray a.tmps)=false:=by
       rcases ac with h|h
       ·exact hg.2.1 h
       ·exact hg.2.2 _ h
      rw[Co (by rw[hw];simp)];exact⟨λ_ _=>trivial,next q C undef w1 D (by rw[ak];exact .v _) (by rw[hH];exact J.rel) (.refl _ _ _)⟩
    by_cases K:∃b:Nat,efs[b]?=some i
    ·obtain⟨b,hb⟩:=K;have ap:b=k:=by
      have h1:¬b<k:=λh=>by
       have:=(d b i hb).2 h;rw[r]at this;cases this
      rcases Nat.eq_zero_or_pos b with h0|h0
      ·omega
      ·have ag:b-1<efs.length:=by have:=(pR.1 hb).1;omega
       have aq:=hk.chain (b-1) _ i (II ag) (by rw[Nat.sub_add_cancel h0];exact hb);have:=(d (b-1) _ (II ag)).1 (aq.mem' (L:=λi=>Ls.getD i false) g hr);omega
     subst ap;exact fin (b+1) (.inr ⟨rfl,hb⟩) (ax b i o M hb)
    ·have ah:∀b:Nat,efs[b]?≠some i:=λb hb=>K ⟨b,hb⟩;refine fin k (.inl ⟨rfl,ah⟩) (a3 i o M ah k ad ⟨λb e hb ha=>(d b e hb).1 (ha.mem' (L:=λi=>Ls.getD i false) g hr),λb e hb ha=>?_⟩);rcases Nat.lt_or_ge b k with h|h
     ·have:=ha.mem (L:=λi=>Ls.getD i false) g ((d b e hb).2 h);simp only[r]at this;cases this
     ·exact h
 have H:(λi=>(Array.replicate ops.length false).getD i false)= λ_=>false:=by
  funext i
  simp only[WX,Array.getElem?_replicate];split<;>rfl
 have az:∀n,Gi ops val t (λ_=>false) n=t:=by
  intro n
  induction n with
  |zero=>rfl
  |succ n ih=>simp only[Gi];exact ih
 have ae:∀n,Sa (λ_=>false) n=n:=by
  intro n
  induction n with
  |zero=>rfl
  |succ n ih=>simp[Sa,ih]
 have hb:Below w.heap.size w {w with drawn:=w.drawn+1}:=zQ w _;have e0:Ext w0.own R w R {w with drawn:=w.drawn+1}:=s.rel.ext_below hb;have hz:∀i,(Array.replicate ops.length false).getD i false=false:=λi=>congrFun H i;have:=key ops.length (Array.replicate ops.length false) R a {w with drawn:=w.drawn+1} 0 (by simp) (by rw[H];exact ae _) (λi j h=>by rw[hz]at h;cases h) (xQ _) (λb e _=>by rw[hz];simp) (by rw[H,az];exact⟨s.rel.of_below hb,s.size,s.tmps.mono e0,s.defers.mono e0.B e0.keepB,WW s.le e0.grow⟩) e0.frm;simpa using this
end
end
section
variable{r:AV×Hp}{α:Type}
def B6m:Unit:=()
def B6l:Unit:=B6m
def B6k:Unit:=B6l
def B6j:Unit:=B6k
def B6i:Unit:=B6j
def B6h:Unit:=B6i
def B6g:Unit:=B6h
def B6f:Unit:=B6g
def B6e:Unit:=B6f
def B6d:Unit:=B6e
def B3f:Unit:=B6d
def B3e:Unit:=B3f
def B3d:Unit:=B3e
def B3c:Unit:=B3d
def B3b:Unit:=B3c
def B3a:Unit:=B3b
def B39:Unit:=B3a
def B38:Unit:=B39
def B37:Unit:=B38
def B36:Unit:=B37
def B35:Unit:=B36
def B34:Unit:=B35
def B33:Unit:=B34
def B32:Unit:=B33
def B31:Unit:=B32
def B30:Unit:=B31
def B2Z:Unit:=B30
def B2Y:Unit:=B2Z
def B2X:Unit:=B2Y
def B2W:Unit:=B2X
def B2V:Unit:=B2W
def B2U:Unit:=B2V
def B2T:Unit:=B2U
def B2S:Unit:=B2T
def B2R:Unit:=B2S
def B2Q:Unit:=B2R
def B2P:Unit:=B2Q
def B2O:Unit:=B2P
def B2N:Unit:=B2O
def B2M:Unit:=B2N
def B2L:Unit:=B2M
def B2K:Unit:=B2L
def B2J:Unit:=B2K
def B2I:Unit:=B2J
def B2H:Unit:=B2I
def B2G:Unit:=B2H
def B2F:Unit:=B2G
def B2E:Unit:=B2F
def B2D:Unit:=B2E
def B2C:Unit:=B2D
def B2B:Unit:=B2C
def B2A:Unit:=B2B
def B2z:Unit:=B2A
def B2y:Unit:=B2z
def B2x:Unit:=B2y
def B2w:Unit:=B2x
def B2v:Unit:=B2w
def B2u:Unit:=B2v
def B2t:Unit:=B2u
def B2s:Unit:=B2t
def B2r:Unit:=B2s
def B2q:Unit:=B2r
def B2p:Unit:=B2q
def B2o:Unit:=B2p
def B2n:Unit:=B2o
def B2m:Unit:=B2n
def B2l:Unit:=B2m
def B2k:Unit:=B2l
def B2j:Unit:=B2k
def B2i:Unit:=B2j
def B2h:Unit:=B2i
def B2g:Unit:=B2h
def B2f:Unit:=B2g
def B2e:Unit:=B2f
def B2d:Unit:=B2e
def B2c:Unit:=B2d
def B2b:Unit:=B2c
def B2a:Unit:=B2b
def B29:Unit:=B2a
def B28:Unit:=B29
def B27:Unit:=B28
def B26:Unit:=B27
def B25:Unit:=B26
def B24:Unit:=B25
def B23:Unit:=B24
def B22:Unit:=B23
def B21:Unit:=B22
def B20:Unit:=B21
def B1Z:Unit:=B20
def B1Y:Unit:=B1Z
def B1X:Unit:=B1Y
def B1W:Unit:=B1X
def B1V:Unit:=B1W
def B1U:Unit:=B1V
def B1T:Unit:=B1U
def B1S:Unit:=B1T
def B1R:Unit:=B1S
def B1Q:Unit:=B1R
def B1P:Unit:=B1Q
def B1O:Unit:=B1P
def A8o:Unit:=B1O
def A8n:Unit:=A8o
def A8m:Unit:=A8n
def A8l:Unit:=A8m
def A8k:Unit:=A8l
def A8j:Unit:=A8k
def A8i:Unit:=A8j
def A8h:Unit:=A8i
def A8g:Unit:=A8h
def A8f:Unit:=A8g
def A8e:Unit:=A8f
def A8d:Unit:=A8e
def A8c:Unit:=A8d
def A8b:Unit:=A8c
def A8a:Unit:=A8b
def A89:Unit:=A8a
def A88:Unit:=A89
def A87:Unit:=A88
def A86:Unit:=A87
def A85:Unit:=A86
def FA:Unit:=A85
abbrev Af:=Option (AV×Hp)
abbrev KV:=AV->Hp->Af
abbrev Ru:=Hp->Af
abbrev K2:=AV->Af
abbrev A7b:=Nat->Is->Hp->KV->Af
inductive BT(α:Type) where
 |leaf
 |node (k:Nat) (v:α) (l r:BT α)
def BT.get:BT α->Nat->Option α
 |.leaf,_=>none
 |.node k v l r,i=>match Nat.beq i k with
  |true=>some v
  |false=>match Nat.blt i k with
   |true=>l.get i
   |false=>r.get i
def BT.getK(b:BT α):Nat->(α->Af)->Af:=
 (λ(_:Unit)=>@BT.rec α (λ_=>Nat->(α->Af)->Af) (λ_ _=>none)
  (λk v _ _ a c i K=>@Bool.rec (λ_=>Af) (@Bool.rec (λ_=>Af) (c i K) (a i K) (Nat.blt i k)) (K v) (Nat.beq i k)) b) FA
def BT.getK_eq(b:BT α)(i:Nat)(K:α->Af):b.getK i K=match b.get i with|some v=>K v|none=>none:=by
 induction b with
 |leaf=>rfl
 |node k v l r a c=>
  simp only[BT.getK,BT.get];cases Nat.beq i k
  ·cases Nat.blt i k
   ·exact c
   ·exact a
  ·rfl
structure Cf where
 b:Bool
 lv:Hb
 fz:Bool
 n:Nat
 rc:List (Nat×List (Nat×Nat))
structure XFn where
 n:Nat
 rs:List ResultVar
 c:Code
 lv:Hb
 fz:Bool
 rc:List (Nat×List (Nat×Nat))
inductive LK where
 |int (k:IntKind)|str|bool
abbrev Lie:=Nat×Nat×Nat×Nat
structure XE where
 ft:BT XFn
 ty:BT TI
 gl:BT Is
 imp:Nat->Bool
 lf:Nat
 eqt:BT (List LK)
 lie:List Lie
 up:Nat
 ne:Nat->Bool
 lm:Nat->Bool
 ov:Nat->Bool
def fN(n:Nat)(K:Nat->Af):Af:=@Nat.rec (λ_=>Af) (K 0) (λm _=>K (Nat.succ m)) n
def fI(z:Int)(K:Int->Af):Af:=@Int.rec (λ_=>Af) (λn=>fN n λn=>K (.ofNat n)) (λn=>fN n λn=>K (.negSucc n)) z
def ck(b:Bool)(K:Af):Af:=@Bool.rec (λ_=>Af) none K b
def Ep(n:Nat)(K:Nat->Af):fN n K=K n:=by cases n<;>rfl
def Mi(z:Int)(K:Int->Af):fI z K=K z:=by cases z<;>simp[fI,Ep]
def ckS(b:Bool)(K:Af):Af:=(λ(_:Unit)=>@Bool.rec (λ_=>Af) none K b) FA
def fNS(n:Nat)(K:Nat->Af):Af:=(λ(_:Unit)=>@Nat.rec (λ_=>Af) (K 0) (λm _=>K (Nat.succ m)) n) FA
def Vb(a:List α):List α->(List α->Af)->Af:=
 (λ(_:Unit)=>@List.rec α (λ_=>List α->(List α->Af)->Af) (λl K=>K l) (λx _ ih l K=>ih l λy=>K (x::y)) a) FA
def A1o(l:List α):Nat->(Nat->Af)->Af:=(λ(_:Unit)=>@List.rec α (λ_=>Nat->(Nat->Af)->Af) (λn K=>K n) (λ_ _ ih n K=>ih (Nat.succ n) K) l) FA
def A6b(n:Nat)(K:Nat->Af):fNS n K=K n:=Ep n K
def Ki(a l:List α):∀K:List α->Af,Vb a l K=K (a++l):=by
 induction a with
 |nil=>intro K;rfl
 |cons x a ih=>intro K;exact ih _
def A5Y(l:List α):∀(n:Nat)(K:Nat->Af),A1o l n K=K (n+l.length):=by
 induction l with
 |nil=>intro n K;rfl
 |cons a l ih=>
  intro n K;have:A1o (a::l) n K=A1o l (Nat.succ n) K:=rfl;rw[this,ih]
  congr 1
  simp;omega
def Bb{b:Bool}{K:Af}(h:ck b K=some r):b=true/\K=some r:=by cases b;cases h;exact⟨rfl,h⟩
def Jt{b:Bool}{K:Af}(h:ckS b K=some r):b=true/\K=some r:=Bb h
def B?(t:Tm):Nat->K2->Af:=
 (λ(_:Unit)=>@List.rec (Nat×AV) (λ_=>Nat->K2->Af) (λ_ K=>K .dk)
  (λp _ ih=>@Prod.rec Nat AV (λ_=>Nat->K2->Af) (λk v i K=>@Bool.rec (λ_=>Af) (ih i K) (K v) (Nat.beq i k)) p) t) FA
def Rf(t:Tm)(i:Nat)(K:K2):B? t i K=K (F7 t i):=by
 induction t with
 |nil=>rfl
 |cons p t ih=>
  obtain⟨k,v⟩:=p;simp only[B?,F7];cases h:Nat.beq i k
  ·rw[Co (λe=>by rw[e,tB]at h;cases h)];exact ih
  ·rw[CJ (VQ h)]
def IZ(H:Hp):Nat->(Row->Af)->Af:=
 @List.rec (Nat×Row) (λ_=>Nat->(Row->Af)->Af) (λ_ _=>none)
  (λp _ ih=>@Prod.rec Nat Row (λ_=>Nat->(Row->Af)->Af) (λk v i K=>@Bool.rec (λ_=>Af) (ih i K) (K v) (Nat.beq i k)) p) H
def FR{H:Hp}{i:Nat}{K:Row->Af}(a:K .gone=none)(h:IZ H i K=some r):∃x,Ao H i=some x/\K x=some r:=by
 induction H with
 |nil=>cases h
 |cons p H ih=>
  obtain⟨k,v⟩:=p;simp only[IZ]at h;simp only[Ao];cases hb:Nat.beq i k
  ·rw[hb]at h;rw[Co (λe=>by rw[e,tB]at hb;cases hb)];exact ih h
  ·rw[hb]at h;rw[CJ (VQ hb)];cases v with
   |gone=>exact absurd (a▸h) (by simp)
   |_=>exact⟨_,rfl,h⟩
def XA5(H:Hp):Nat->Row->Ru->Af:=
 @List.rec (Nat×Row) (λ_=>Nat->Row->Ru->Af) (λ_ _ K=>K [])
  (λp l ih=>@Prod.rec Nat Row (λ_=>Nat->Row->Ru->Af) (λk x r y K=>@Bool.rec (λ_=>Af) (ih r y λa=>K ((k,x)::a)) (K ((k,y)::l)) (Nat.beq r k)) p) H
def CX(H:Hp)(r:Nat)(y:Row):∀K:Ru,XA5 H r y K=K (upd H r y):=by
 induction H with
 |nil=>intro K;rfl
 |cons p H ih=>
  intro K;obtain⟨k,x⟩:=p;simp only[XA5,upd];cases hb:Nat.beq r k
  ·rw[Co (λe=>by rw[e,tB]at hb;cases hb)];exact ih _
  ·rw[CJ (VQ hb)]
def GP(H:Hp)(K:Nat->Af):Af:=
 @List.rec (Nat×Row) (λ_=>Af) (K 0) (λp _ _=>@Prod.rec Nat Row (λ_=>Af) (λk _=>fN (Nat.succ k) K) p) H
def BQ(H:Hp)(K:Nat->Af):GP H K=K (Ay H):=by
 cases H with
 |nil=>rfl
 |cons p H=>obtain⟨k,x⟩:=p;exact Ep (k+1) K
def WJ(a:List α):List α->(List α->Af)->Af:=
 @List.rec α (λ_=>List α->(List α->Af)->Af) (λl K=>K l) (λx _ ih l K=>ih l λy=>K (x::y)) a
def LB(a l:List α):∀K:List α->Af,WJ a l K=K (a++l):=by
 induction a with
 |nil=>intro K;rfl
 |cons x a ih=>intro K;exact ih _
def CL(n:Nat):List α->List α:=
 @Nat.rec (λ_=>List α->List α) (λl=>l) (λ_ ih l=>@List.rec α (λ_=>List α) [] (λ_ l _=>ih l) l) n
def Cs(n:Nat):∀l:List α,CL n l=l.drop n:=by
 induction n with
 |zero=>intro l;rfl
 |succ n ih=>
  intro l;cases l with
  |nil=>rfl
  |cons a l=>exact ih l
def UX(n:Nat):List α->(List α->Af)->Af:=
 @Nat.rec (λ_=>List α->(List α->Af)->Af) (λ_ K=>K []) (λ_ ih l K=>@List.rec α (λ_=>Af) (K []) (λa l _=>ih l λc=>K (a::c)) l) n
def Nw(n:Nat):∀(l:List α)(K:List α->Af),UX n l K=K (l.take n):=by
 induction n with
 |zero=>intro l K;rfl
 |succ n ih=>
  intro l K;cases l with
  |nil=>rfl
  |cons a l=>exact ih l _
def HB(l:List α):Nat->(Nat->Af)->Af:=@List.rec α (λ_=>Nat->(Nat->Af)->Af) (λn K=>K n) (λ_ _ ih n K=>fN (Nat.succ n) λm=>ih m K) l
def Cz(l:List α):∀(n:Nat)(K:Nat->Af),HB l n K=K (n+l.length):=by
 induction l with
 |nil=>intro n K;rfl
 |cons a l ih=>
  intro n K;have:HB (a::l) n K=fN (Nat.succ n) λm=>HB l m K:=rfl;rw[this,Ep,ih]
  congr 1
  simp;omega
def A9K(vs:Is):Is->(Is->Af)->Af:=
 @List.rec AV (λ_=>Is->(Is->Af)->Af) (λl K=>K l) (λv _ ih l K=>@List.rec AV (λ_=>Af) none (λ_ l _=>ih l λa=>K (v::a)) l) vs
def A2N(vs:Is):∀(l:Is)(K:Is->Af)(r:AV×Hp),A9K vs l K=some r->vs.length<=l.length/\K (vs++l.drop vs.length)=some r:=by
 induction vs with
 |nil=>intro l K r h;exact⟨xQ _,h⟩
 |cons v vs ih=>
  intro l K r h;cases l with
  |nil=>cases h
  |cons a l=>
   obtain⟨h1,h2⟩:=ih l _ r h;exact⟨by simpa using h1,h2⟩
def A9J(vs:Is):∀(l:Is)(K:Is->Af),vs.length<=l.length->A9K vs l K=K (vs++l.drop vs.length):=by
 induction vs with
 |nil=>intro l K h;rfl
 |cons v vs ih=>
  intro l K h;cases l with
  |nil=>simp at h
  |cons a l=>exact ih l _ (by simpa using h)
def D8(n:Nat):Is->Is->(Is->Af)->Af:=
 @Nat.rec (λ_=>Is->Is->(Is->Af)->Af) (λvs l K=>A9K vs l K) (λ_ ih vs l K=>@List.rec AV (λ_=>Af) none (λa l _=>ih vs l λc=>K (a::c)) l) n
def J5(n:Nat):∀(vs l:Is)(K:Is->Af)(r:AV×Hp),D8 n vs l K=some r->n+vs.length<=l.length/\K (splice l n vs)=some r:=by
 induction n with
 |zero=>
  intro vs l K r h;obtain⟨h1,h2⟩:=A2N vs l K r h;exact⟨by omega,by simpa [splice] using h2⟩
 |succ n ih=>
  intro vs l K r h;cases l with
  |nil=>cases h
  |cons a l=>
   obtain⟨h1,h2⟩:=ih vs l _ r h;refine⟨by simp;omega,?_⟩;have:splice (a::l) (n+1) vs=a::splice l n vs:=by simp[splice,Nat.add_right_comm]
   rw[this];exact h2
def Ii(n:Nat):∀(vs l:Is)(K:Is->Af),n+vs.length<=l.length->D8 n vs l K=K (splice l n vs):=by
 induction n with
 |zero=>
  intro vs l K h;have:=A9J vs l K (by omega);have e:D8 0 vs l K=A9K vs l K:=rfl;rw[e,this];simp[splice]
 |succ n ih=>
  intro vs l K h;cases l with
  |nil=>simp at h
  |cons a l=>
   have:splice (a::l) (n+1) vs=a::splice l n vs:=by simp[splice,Nat.add_right_comm]
   rw[this];exact ih vs l _ (by simp at h;omega)
def iN(z:Int)(K:Nat->Af):Af:=@Int.rec (λ_=>Af) (λn=>fN n K) (λ_=>none) z
def Tf{z:Int}{K:Nat->Af}(h:iN z K=some r):∃n:Nat,z=n/\K n=some r:=by
 cases z with
 |ofNat n=>exact⟨n,rfl,by simpa [iN,Ep] using h⟩
 |negSucc n=>cases h
def KO(n:Nat)(K:Nat->Af):iN n K=K n:=Ep n K
def Zq(a b:Int):Bool:=@Int.rec (λ_=>Bool) (λm=>@Int.rec (λ_=>Bool) (λn=>Nat.ble m n) (λ_=>false) b) (λm=>@Int.rec (λ_=>Bool) (λ_=>true) (λn=>Nat.ble n m) b) a
def tH(a b:Int):Bool:=@Int.rec (λ_=>Bool) (λm=>@Int.rec (λ_=>Bool) (λn=>Nat.beq m n) (λ_=>false) b) (λm=>@Int.rec (λ_=>Bool) (λ_=>false) (λn=>Nat.beq m n) b) a
def IJ(a b:Int):Zq a b=decide (a<=b):=by
 cases a<;>cases b<;>simp only[Zq]
 ·rw[eZ];simp[Zl]
 ·rw[eZ];simp;omega
 ·rw[eZ];simp;omega
 ·rw[eZ];simp[Zl];omega
def JN(a b:Int):tH a b=decide (a=b):=by
 cases a<;>cases b<;>simp only[tH]
 ·rw[eZ];simp[eY,Int.ofNat_inj]
 ·rw[eZ];simp
 ·rw[eZ];simp
 ·rw[eZ];simp[eY]
def bB(b:Bool)(K:K2):Af:=@Bool.rec (λ_=>Af) (K (.v (.bool false))) (K (.v (.bool true))) b
def JB(b:Bool)(K:K2):bB b K=K (.v (.bool b)):=by cases b<;>rfl
end
section
variable{v:AV}{K:K2}{i:TI}{α:Type}
def Fb(n:Nat):List α->(List α->Af)->Af:=
 @Nat.rec (λ_=>List α->(List α->Af)->Af) (λ_ K=>K []) (λ_ ih l K=>@List.rec α (λ_=>Af) none (λa l _=>ih l λc=>K (a::c)) l) n
def Jl(n:Nat):∀(l:List α)(K:List α->Af)(r:AV×Hp),Fb n l K=some r->n<=l.length/\K (l.take n)=some r:=by
 induction n with
 |zero=>intro l K r h;exact⟨xQ _,h⟩
 |succ n ih=>
  intro l K r h;cases l with
  |nil=>cases h
  |cons a l=>
   obtain⟨h1,h2⟩:=ih l _ r h;exact⟨by simpa using h1,h2⟩
def MK(n:Nat):∀(l:List α)(K:List α->Af),n<=l.length->Fb n l K=K (l.take n):=by
 induction n with
 |zero=>intro l K _;rfl
 |succ n ih=>
  intro l K h;cases l with
  |nil=>simp at h
  |cons a l=>exact ih l _ (by simpa using h)
def hdK(l:Is)(K:K2):Af:=@List.rec AV (λ_=>Af) none (λa _ _=>K a) l
def xX{l:Is}{r:AV×Hp}(h:hdK l K=some r):∃a c,l=a::c/\K a=some r:=by
 cases l with
 |nil=>cases h
 |cons a l=>exact⟨a,l,rfl,h⟩
def KY(x:Row)(K:TypeId->Is->Af):Af:=match x with|.cells _ e cs=>K e cs|_=>none
def iV(x:Row)(K:Bool->TypeId->Is->Af):Af:=match x with|.cells q e cs=>K q e cs|_=>none
def A1B(v:AV)(H:Hp)(K:Is->Af):Af:=
 match v with
 |.ptr r p k=>IZ H r λx=>KY x λ_ cs=>K (CL (Nat.add p k) cs)
 |.iptr cs=>K cs
 |_=>none
section
variable{T:Ty}{H:Hp}{r:AV×Hp}
def HG{i:Nat}{K:TypeId->Is->Af}(h:(IZ H i λx=>KY x K)=some r):∃q e cs,Ao H i=some (.cells q e cs)/\K e cs=some r:=by
 obtain⟨x,h1,h2⟩:=FR rfl h;unfold KY at h2;split at h2
 ·exact⟨_,_,_,h1,h2⟩
 ·cases h2
def RG{i:Nat}{K:Bool->TypeId->Is->Af}(h:(IZ H i λx=>iV x K)=some r):∃q e cs,Ao H i=some (.cells q e cs)/\K q e cs=some r:=by
 obtain⟨x,h1,h2⟩:=FR rfl h;unfold iV at h2;split at h2
 ·exact⟨_,_,_,h1,h2⟩
 ·cases h2
def dE(i:TI)(cs:Is)(K:K2):Af:=@Bool.rec (λ_=>Af) (hdK cs K) (Fb i.size cs λc=>K (.agg c)) i.d.isAgg
def Tq{ty:TypeId}{cs:Is}(e:T ty=some i)(h:dE i cs K=some r):∃v,K v=some r/\UR T ty cs (λf=>f=v):=by
 unfold dE at h;cases c:i.d.isAgg
 ·rw[c]at h;obtain⟨a,l,rfl,h2⟩:=xX h;exact⟨a,h2,by simp[UR,e,c]⟩
 ·rw[c]at h;obtain⟨h1,h2⟩:=Jl _ _ _ _ h;exact⟨_,h2,by simp[UR,e,c,h1]⟩
def A9(i:TI)(v:AV)(H:Hp)(K:K2):Af:=A1B v H λcs=>dE i cs K
def zC{ty:TypeId}(d:T ty=some i)(h:A9 i v H K=some r):∃u,K u=some r/\vF T ty v H (λf=>f=u):=by
 unfold A9 A1B at h;split at h
 ·obtain⟨q,e,cs,h1,h2⟩:=HG h;rw[Cs]at h2;obtain⟨u,a,c⟩:=Tq (T:=T) (ty:=ty) d h2;exact⟨u,a,by simp only[vF,h1];exact c⟩
 ·obtain⟨u,a,c⟩:=Tq (T:=T) (ty:=ty) d h;exact⟨u,a,c⟩
 ·cases h
def Qb(l:Is):Bool:=@List.rec AV (λ_=>Bool) true (λa _ ih=>@Bool.rec (λ_=>Bool) false ih (AV.one a)) l
def FV(l:Is):Qb l=l.all AV.one:=by
 induction l with
 |nil=>rfl
 |cons a l ih=>
  have e:Qb (a::l)=@Bool.rec (λ_=>Bool) false (Qb l) (AV.one a):=rfl;rw[e,W?,<-ih];cases AV.one a<;>rfl
def Gy(a:AV)(K:Is->Af):Af:=match a with|.agg cs=>K cs|a=>K [a]
def CH(a:AV)(K:Is->Af):Gy a K=K (Br a):=by cases a<;>rfl
def DD(i:TI)(p v:AV)(H:Hp)(K:Ru):Af:=
 match p with
 |.ptr s p k=>IZ H s λx=>iV x λq e cs=>Gy v λvs=>HB vs 0 λn=>ck (Nat.beq n i.size) (ck (Qb vs) (D8 (Nat.add p k) vs cs λa=>XA5 H s (.cells q e a) K))
 |_=>none
def A6i{ty:TypeId}{p v:AV}{K:Ru}(j:T ty=some i)(h:DD i p v H K=some r):∃c,K c=some r/\gS T ty p v H (λa=>a=c):=by
 unfold DD at h;split at h
 ·obtain⟨q,e,cs,h1,h2⟩:=RG h;rw[CH,Cz]at h2;obtain⟨f,h2⟩:=Bb h2;obtain⟨d,h2⟩:=Bb h2;obtain⟨g,h2⟩:=J5 _ _ _ _ _ h2;rw[CX]at h2;rw[FV]at d;refine⟨_,h2,?_⟩;simp only[gS,h1,j];exact⟨by have:=VQ f;omega,d,g,rfl⟩
 ·cases h
def Bc(ty:TypeId)(i:TI)(H:Hp)(K:KV):Af:=Gy i.zero λcs=>GP H λs=>K (.ptr s 0 0) ((s,.cells true ty cs)::H)
def zJ{ty:TypeId}{K:KV}(d:T ty=some i)(h:Bc ty i H K=some r):∃v c,K v c=some r/\iA T ty H (Ay H) (λe a=>e=v/\a=c):=by
 rw[Bc,CH,BQ]at h;exact⟨_,_,h,by simp[iA,d]⟩
def HT(ty:TypeId)(v:AV)(H:Hp)(K:KV):Af:=Gy v λcs=>ck (Qb cs) (GP H λs=>K (.ptr s 0 0) ((s,.cells true ty cs)::H))
def A34{ty:TypeId}{K:KV}(h:HT ty v H K=some r):∃u c,K u c=some r/\B1g ty v H (Ay H) (λd a=>d=u/\a=c):=by
 rw[HT,CH]at h;obtain⟨h1,h⟩:=Bb h;rw[BQ]at h;rw[FV]at h1;exact⟨_,_,h,h1,rfl,rfl⟩
def WI(l:List (Nat×Nat×AV)):Is->(Is->Af)->Af:=
 @List.rec (Nat×Nat×AV) (λ_=>Is->(Is->Af)->Af) (λcs K=>K cs)
  (λp _ ih cs K=>Gy p.2.2 λvs=>HB vs 0 λn=>ck (Nat.beq n p.2.1) (ck (Qb vs) (D8 p.1 vs cs λa=>ih a K))) l
def UZ{place:Nat->Option (Nat×Nat)}:∀(l:List (Nat×Nat×AV))(ps:List (Nat×AV))(cs:Is)(K:Is->Af),(ps.map λp=>(place p.1).map λq=>(q.1,q.2,p.2))=l.map some->WI l cs K=some r->∃c,K c=some r/\PX place ps cs=some c:=by
 intro l
 induction l with
 |nil=>
  intro ps cs K he h;cases ps with
  |nil=>exact⟨cs,h,rfl⟩
  |cons p ps=>simp at he
 |cons x l ih=>
  intro ps cs K he h;cases ps with
  |nil=>simp at he
  |cons p ps=>
   simp only[Zm,List.cons.injEq]at he;obtain⟨d,f⟩:=he;cases hq:place p.1 with
   |none=>rw[hq]at d;simp at d
   |some q=>
    rw[hq]at d;simp only[oH,l0y]at d;have s:WI (x::l) cs K=Gy x.2.2 λvs=>HB vs 0 λn=>ck (Nat.beq n x.2.1) (ck (Qb vs) (D8 x.1 vs cs λc=>WI l c K)):=rfl;rw[s,CH,Cz]at h;obtain⟨e,h⟩:=Bb h;obtain⟨g,h⟩:=Bb h;obtain⟨j,h⟩:=J5 _ _ _ _ _ h;rw[FV]at g;obtain⟨c,k,m⟩:=ih ps _ K f h;refine⟨c,k,?_⟩;obtain⟨i,a⟩:=p;subst d;have e:=VQ e;simp only[PX,hq];rw[CJ ⟨by simpa using e,j,g⟩];exact m
def Ch(i:TI)(l:List (Nat×Nat×AV))(K:K2):Af:=Gy i.zero λz=>WI l z λcs=>K (.agg cs)
def Oi(i:TI)(j:Nat):Option (Nat×Nat):=
 match i.d with
 |.struct c=>(c[j]?).map λf=>(f.1,f.2.1)
 |.array _ _ a=>some (j*a,a)
 |.slice _ a=>some (j*a,a)
 |_=>none
def uB(i:TI):Bool:=
 match i.d with
 |.struct c=>c.all λf=>f.2.1 !=0
 |.array _ _ a=>a !=0
 |_=>false
def zG{ty:TypeId}{l:List (Nat×Nat×AV)}{ps:List (Nat×AV)}(m:T ty=some i)(hb:uB i=true)(he:(ps.map λp=>(Oi i p.1).map λq=>(q.1,q.2,p.2))=l.map some)(h:Ch i l K=some r):
 ∃v,K v=some r/\hJ T ty ps (λs=>s=v):=by
 rw[Ch,CH]at h;obtain⟨g,h1,h2⟩:=UZ l ps _ _ he h;refine⟨_,h1,?_⟩;unfold hJ;rw[m];simp only;unfold uB at hb;cases c:i.d with
 |struct k=>
  rw[c]at hb;simp only;refine⟨hb,?_⟩;have:Oi i= λj=>(k[j]?).map λf=>(f.1,f.2.1):=by funext j;simp[Oi,c]
  rw[this]at h2;rw[h2];rfl
 |array n e a=>
  rw[c]at hb;simp only;refine⟨by simpa using hb,?_⟩;have:Oi i= λj=>some (j*a,a):=by funext j;simp[Oi,c]
  rw[this]at h2;rw[h2];rfl
 |_=>rw[c]at hb;cases hb
end
end
end Go.Abs
end
