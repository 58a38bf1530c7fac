import Derived.RangeFuncIn
import Derived.RangeFuncStops
import Derived.RangeFuncLeaves
import Derived.OrdersIn
import Derived.Test.YtojijcneheboaaaGreatDoorP00
set_option linter.all false
set_option maxHeartbeats 0
noncomputable section
namespace Go.Abs
open Go.RowKit
section
variable{K:AV->Hp->Prop}
def JB(G:Gl)(w0:Base)(C:Ctx)(w:World)(v:AV)(H:Hp)(y:Value)(C':Ctx)(w':World):Prop:=VRel C' w' v y/\Rel G w0 C' H w'/\Ext w0.own C w C' w'
def Zc(w:World)(o:Obj):Below w.heap.size w {w with heap:=w.heap.push o}:=
 ⟨rfl,rfl,rfl,by simp,λk hk=>by simp[l27,Nat.ne_of_lt hk]⟩
def A0E(w:World)(B:Nat):Below B w {w with drawn:=w.drawn+1}:=⟨rfl,rfl,rfl,Oj _,λ_ _=>rfl⟩
section
variable{P:Program}{G:Gl}{w0:Base}{w:World}{C:Ctx}{H:Hp}
def A3I(hr:Rel G w0 C H w)(T:TypeId){cs:Is}{arr:Array Value}(hv:Cn C w cs arr.toList):
 JB G w0 C w (.ptr (Ax H) 0 0) ((Ax H,.cells true T cs)::H) (.pointer (some ⟨w.heap.size,0,none⟩)) (C.put (Ax H) (some (w.heap.size,0))) {w with heap:=w.heap.push (.cells arr T)}:=by
 have hb:=Zc w (.cells arr T);have a:arr.size=cs.length:=by simpa using hv.1
 refine⟨?_,hr.new (q:=true) hb (arr:=arr) (fz:=(0,0)) (by simp) (λi _=>by omega) (by omega) (by rw[l1z (by simp;omega)];exact hv) (λ_=>a),hr.new_ext hb⟩;have:VRel (C.put (Ax H) (some (w.heap.size,0))) {w with heap:=w.heap.push (.cells arr T)} (.ptr (Ax H) 0 0) (.pointer (some ⟨w.heap.size,0+(0+0),none⟩)):=.ptr (C.put_n _ _);simpa using this
def Xx(hr:Rel G w0 C H w){w':World}(hb:Below w.heap.size w w')(T:TypeId){cs:Is}{arr:Array Value}{fz:Nat×Nat}(hk:w'.heap[w.heap.size]?=some (.cells arr T fz))(Qe:∀i,i<arr.size->¬(fz.1<=i/\i<fz.2))(sz n cap:Nat)(a:n<=cap)(hsz:cap*sz<=arr.size)(c:cs.length<=arr.size)(hv:Cn (C.sel false) w cs (arr.toList.take cs.length)):
 JB G w0 C w (.sl sz (Ax H) 0 n) ((Ax H,.cells false T cs)::H) (.slice (some ⟨w.heap.size,0,none⟩) n cap) (C.put (Ax H) (some (w.heap.size,0))) w':=by
 refine⟨?_,hr.new (q:=false) hb hk Qe c hv (λh=>by cases h),hr.new_ext hb⟩;have:VRel (C.put (Ax H) (some (w.heap.size,0))) w' (.sl sz (Ax H) 0 n) (.slice (some ⟨w.heap.size,0+0,none⟩) n cap):=.sl (C.put_n _ _) a hk (by omega);simpa using this
def nH(T:Ty)(ty:TypeId)(H:Hp)(r:Nat)(K:AV->Hp->Prop):Prop:=
 match T ty with
 |some i=>K (.ptr r 0 0) ((r,.cells true ty (B2 i.zero))::H)
 |none=>False
def Om{t:TypeId}{i:TI}{z:Value}(a:rR z=i.zero):Cn C w (B2 i.zero) z.cells.toList:=by
 rw[<-a];cases z with
 |agg cs=>exact uT _ (by simp)
 |_=>exact .cons (.v _) .nil
def wU{T:Ty}(f:eO P T){ty:TypeId}(hr:Rel G w0 C H w)(h:nH T ty H (Ax H) K):∃v a y d c,K v a/\(Instr.alloc ty true (.tuple #[])).run P w=.ok y c/\JB G w0 C w v a y d c:=by
 unfold nH at h;split at h
 ·rename_i i g;obtain⟨z,hz,e⟩:=(f ty i g).run_zero (P:=P) w;refine⟨_,_,_,_,_,h,?_,A3I hr ty (Om (t:=ty) e)⟩;simp[Instr.alloc,hz,newVar,newRow]
 ·exact h.elim
def B4t(ty:TypeId)(a:AV)(H:Hp)(r:Nat)(K:AV->Hp->Prop):Prop:=(B2 a).all AV.one=true/\K (.ptr r 0 0) ((r,.cells true ty (B2 a))::H)
def A1a{ty:TypeId}{a:AV}{y:Value}(hr:Rel G w0 C H w)(f:VRel C w a y)(h:B4t ty a H (Ax H) K):∃v c z e d,K v c/\(Instr.box ty y).run P w=.ok z d/\JB G w0 C w v c z e d:=by
 obtain⟨h1,h⟩:=h;refine⟨_,_,_,_,_,h,?_,A3I hr ty (f.cells h1).1⟩;simp[Instr.box,newVar,newRow]
def Wq:Nat->Is->Is
 |0,_=>[]
 |n+1,z=>z++Wq n z
def Zm(z:Array Value):∀n,(Array.range (n*z.size)).map (λi=>z[i%z.size]!)=((List.range n).flatMap λ_=>z.toList).toArray:=by
 intro n;apply lG;simp only[Array.toList_map,Array.toList_range]
 induction n with
 |zero=>simp
 |succ n ih=>
  rw[List.range_succ,l2g,<-ih,Nat.succ_mul,List.range_add,Yr]
  congr 1
  simp only[List.map_map,jH,List.flatMap_nil,YV];apply l0o;intro j;by_cases a:j<z.size
  ·simp[a,Nat.mod_eq_of_lt a]
  ·simp[a]
def ZA(z:Is):∀n,Wq n z=(List.range n).flatMap λ_=>z:=by
 intro n
 induction n with
 |zero=>rfl
 |succ n ih=>rw[List.range_succ_eq_map];simp[Wq,ih,List.flatMap_map]
def Xy{cs:Is}{zs:Hx}(h:Cn C w cs zs):∀n,Cn C w ((List.range n).flatMap λ_=>cs) ((List.range n).flatMap λ_=>zs):=by
 intro n
 induction n with
 |zero=>exact .nil
 |succ n ih=>
  rw[List.range_succ,l2g,l2g];refine ih.append ?_;simpa using h
def Wp(z:Is):∀n,(Wq n z).length=n*z.length:=by
 intro n
 induction n with
 |zero=>simp[Wq]
 |succ n ih=>simp[Wq,ih,Nat.succ_mul,Nat.add_comm]
def eM{place:Nat->Option (Nat×Nat)}:∀(ps:List (Nat×AV))(cs r:Is),Sd place ps cs=some r->r.length=cs.length:=by
 intro ps
 induction ps with
 |nil=>intro cs r h;simp[Sd]at h;subst h;rfl
 |cons p ps ih=>
  intro cs r h;obtain⟨i,a⟩:=p;simp only[Sd]at h;split at h
  ·cases h
  ·split at h
   ·rename_i hc;rw[ih _ _ h,F2 hc.2.1]
   ·cases h
def Zr(T:Ty)(ty:TypeId)(n:Nat)(ps:List (Nat×AV))(H:Hp)(r:Nat)(K:AV->Hp->Prop):Prop:=
 match T ty with
 |some i=>match i.d with
  |.slice e a=>match T e with
   |some c=>a≠0/\(B2 c.zero).length=a/\n*a<=2^24/\KX (Sd (λj=>some (j*a,a)) ps (Wq n (B2 c.zero))) λcs=>K (.sl a r 0 n) ((r,.cells false e cs)::H)
   |none=>False
  |_=>False
 |none=>False
def rX{T:Ty}(Q:eO P T){ty:TypeId}{n:Nat}{ps:List (Nat×AV)}{q:List (Nat×Value)}(d:ps.length=q.length)(hq:∀(j:Nat)(p:Nat×AV),ps[j]?=some p->∃z,q[j]?=some (p.1,z)/\VRel C w p.2 z)(hr:Rel G w0 C H w)(h:Zr T ty n ps H (Ax H) K):
 ∃v O y X V,K v O/\(Instr.buildSlice ty n q.toArray).run P w=.ok y V/\JB G w0 C w v O y X V:=by
 unfold Zr at h;split at h
 ·rename_i i hi;have ok:=Q ty i hi;split at h
  ·rename_i e a Z;split at h
   ·rename_i m B;obtain⟨f,J,R,h⟩:=h;obtain⟨hu,hc⟩:=ok.elem_slice Z;have N:=Q e m B;obtain⟨z,hz,Y⟩:=N.run_zero (P:=P) w;have hsz:(sizeOf e).run P w=.ok a w:=by rw[<-hc];exact BI w (by rw[hc];exact f)
    have g:Cn C w (B2 m.zero) z.cells.toList:=Om (t:=e) Y;have L:z.cells.size=a:=by have:=g.1;simp at this;omega
    cases k:Sd (λj=>some (j*a,a)) ps (Wq n (B2 m.zero)) with
    |none=>rw[k]at h;exact h.elim
    |some r=>
     rw[k]at h;have M:Cn C w (Wq n (B2 m.zero)) ((List.range n).flatMap λ_=>z.cells.toList):=by rw[ZA];exact Xy g n
     obtain⟨s,h1,h2⟩:=dK (C:=C) (w:=w) ps q _ _ r d hq M k;have c:¬(n*a>2^24):=by omega
     have F:s.length=n*a:=by rw[h2.1,eM _ _ _ k,Wp,J]
     have A:Cn (C.sel false) w r s:=h2;have key:=Xx hr (Zc w (.cells s.toArray e)) e (cs:=r) (arr:=s.toArray) (fz:=(0,0)) (by simp) (λi _=>by omega) a n n (Oj _) (by simp[F]) (by simp;exact Nat.le_of_eq h2.1.symm) (by rw[l1z (by simp;exact Nat.le_of_eq h2.1)];simpa using A);refine⟨_,_,_,_,_,h,?_,key⟩;unfold Instr.buildSlice;rw[CN,run_underlying hu w];simp only[F3];rw[CN,hsz];simp only[F3,Cr c,pure_bind];by_cases u:n*a=0
     ·have D:n=0:=by rcases Nat.mul_eq_zero.1 u with h|h;exact h;exact absurd h f
      subst D;rw[CZ u];simp only[List.range_zero,List.flatMap_nil]at h1;rw[show(Array.map (λx=>(#[]:Array Value)[x%(#[]:Array Value).size]!) (Array.range (0*a)))= #[] from by rw[Nat.zero_mul];apply lG;simp,h1];simp[newRow]
     ·rw[Cr u,CN,hz];simp only[F3];have:=Zm z.cells n;rw[L]at this⊢;rw[this,h1];simp[newRow]
   ·exact h.elim
  ·exact h.elim
 ·exact h.elim
end
end
section
variable{q q':Bool}{aZ:Is}{ys:Hx}
def A0I(H:Hp)(x:AV):Option (Nat×Is×Bool):=
 match x with
 |.list m cs=>some (m,cs,true)
 |.sl sz r o m=>match Al H r with
  |some (.cells q _ cs)=>some (m,(cs.drop o).take (m*sz),q)
  |_=>none
 |.v (.slice none 0 0)=>some (0,[],true)
 |.v (.string s)=>some (s.size,s.data.toList.map λb=>.v (.int .u8 b.toNat),true)
 |_=>none
section
variable{P:Program}{G:Gl}{w0:Base}{w:World}{C:Ctx}{H:Hp}
def V1{x:AV}{y:Value}{m:Nat}{ys:Is}{esz:Nat}(hr:Rel G w0 C H w)(A:VRel C w x y)(h:A0I H x=some (m,ys,q))(N:ys.length=m*esz)(hs:∀s,x=.v (.string s)->esz=1):
 (Builtin.lenOf y).run P w=.ok m w/\∃vs:Hx,Cn (C.sel q) w ys vs/\∀W:World,(∀k,k<w.heap.size->W.heap[k]?=w.heap[k]?)->(Builtin.firstCells esz m y).run P W=.ok vs.toArray W:=by
 have mem:∀(D:Ctx)(b o:Nat)(cs:Is),LV D w b o cs->cs.length=m*esz->(0<cs.length->b<w.heap.size)->∃vs:Hx,Cn D w cs vs/\∀W:World,(∀k,k<w.heap.size->W.heap[k]?=w.heap[k]?)->(loadCells ⟨b,o,none⟩ (m*esz)).run P W=.ok vs.toArray W:=by
  intro D b o cs hc t hb;obtain⟨vs,h1,h2⟩:=hc;refine⟨vs,h1,λW n=>?_⟩;have K:vs.length=m*esz:=by rw[h1.1,t]
  have:=run_loadCells_list (P:=P) W ⟨b,o,none⟩ vs (λj v hv=>by
   rw[Jn];have hj:j<vs.length:=(uZ.1 hv).1;rw[l0s (w:=w) (n b (hb (by rw[<-h1.1];omega)))];exact h2 j v hv)
  rwa[K]at this
 unfold A0I at h;split at h
 ·rename_i O cs;injection h with h;injection h with d c;injection c with c g;subst d c g
  cases A with
  |list0=>
   refine⟨rfl,[],.nil,λW _=>?_⟩;rename_i a cap;cases a with
   |none=>rfl
   |some Q=>simp[Builtin.firstCells,loadCells,loadCellsFrom]
  |list p vs Y B hv=>
   rename_i cap b o;obtain⟨i,h1,h2⟩:=mem C.bare b o cs (rE vs B hv) N (λu=>hr.fin b _ (Y 0 u));exact⟨rfl,i,(h1.up rfl rfl),λW n=>h2 W n⟩
 ·rename_i sz r o O;split at h
  ·rename_i q' E cs J;injection h with h;injection h with d c;injection c with c g;subst d c g
   cases A with
   |slz aa=>
    have:((cs.drop o).take (0*sz))=[]:=by simp
    rw[this];rename_i a;refine⟨rfl,[],.nil,λW _=>?_⟩;cases a with
    |none=>rfl
    |some Q=>simp[Builtin.firstCells,loadCells,loadCellsFrom]
   |sl u p Z M=>
    rcases hr.rows r _ J with⟨h5,X⟩|⟨R,f,L,V,F⟩
    ·rw[X]at u;cases u
    ·have e:=F.at_.symm.trans u;injection e with e;injection e with e;injection e with d c;subst d c
     obtain⟨i,h1,h2⟩:=mem (C.sel q') R (f+o) _ ((F.atq.drop o).take (O*sz)) N (λ_=>F.lt);exact⟨rfl,i,h1,λW n=>h2 W n⟩
  ·cases h
 ·injection h with h;injection h with d c;injection c with c g;subst d c g
  obtain rfl:=AA.1 A;exact⟨rfl,[],.nil,λW _=>rfl⟩
 ·rename_i s;injection h with h;injection h with d c;injection c with c g;subst d c g
  obtain rfl:=AA.1 A;have:=hs s rfl;subst this;refine⟨rfl,s.data.toList.map λb=>.int .u8 b.toNat,?_,λW _=>?_⟩
  ·have:=Vk (C:=C.sel true) (w:=w) (s.data.toList.map λb=>Value.int .u8 b.toNat);simpa [l1t] using this
  ·simp only[Builtin.firstCells,gQ]
   congr 1
   have:s.extract 0 s.size=s:=by
    apply ByteArray.ext;simp
   rw[this];obtain⟨⟨l⟩⟩:=s;simp only[List.map_toArray]
 ·cases h
def tH(h:Cn (C.sel q) w aZ ys):Cn (C.sel q') w aZ ys:=h
def qD(h:Cn (C.sel q') w aZ ys):Cn (C.sel q) w aZ ys:=h
def Rel.virtual(hr:Rel G w0 C H w)(q:Bool)(E:TypeId):Rel G w0 (C.put (Ax H) none) ((Ax H,.cells q E [])::H) w:=by
 have g:C.π (Ax H)=none:=hr.nx _ (Oj _);have e:Ext w0.own C w (C.put (Ax H) none) w:=Ctx.put_ext g (.refl _ _ _);refine⟨hr.glob,hr.below,?_,?_,?_,?_,hr.fin,hr.finB,?_⟩
 ·intro r x a;simp only[Al]at a;split at a
  ·rename_i h;subst h;rw[C.put_n];simp
  ·rw[e.π r (hr.lt r x a)];exact hr.lt r x a
 ·intro r x a;simp only[Al]at a;split at a
  ·rename_i h;subst h;injection a with a;subst a
   exact Or.inl ⟨rfl,C.put_n _ none⟩
  ·exact(hr.rows r x a).mono e (λ_ _ _=>rfl)
 ·intro r x b o a c;simp only[Al]at a;split at a
  ·rename_i h;subst h;rw[C.put_n]at c;cases c
  ·rename_i h;rw[C.put_ne _ h]at c;exact hr.own r x b o a c
 ·intro r j x k b o i a f c d;simp only[Al]at a f;split at a
  ·rename_i h;subst h;rw[C.put_n]at c;cases c
  ·rename_i h1;split at f
   ·rename_i h;subst h;rw[C.put_n]at d;cases d
   ·rename_i h2;rw[C.put_ne _ h1]at c;rw[C.put_ne _ h2]at d;exact hr.sep r j x k b o i a f c d
 ·intro r h;have h:Ax H+1<=r:=h;rw[C.put_ne _ (by omega)];exact hr.nx r (by omega)
def Rel.extend(hr:Rel G w0 C H w){w':World}{r1:Nat}{E:TypeId}{cs aZ:Is}{b base o:Nat}{arr:Array Value}{fz:Nat×Nat}(B:Al H r1=some (.cells q E cs))(r:Laid C w r1 q E cs b base arr fz)(ho:o<=cs.length)(hv:Cn (C.sel q') w aZ ys)(M:base+cs.length+aZ.length<=arr.size)(p:SameBut w w' b E (splice arr.toList (base+cs.length) ys).toArray fz):
 Rel G w0 (C.put (Ax H) (some (b,base+o))) ((Ax H,.cells false E (cs.drop o++aZ))::cut H r1) w'/\Ext w0.own C w (C.put (Ax H) (some (b,base+o))) w':=by
 have F:C.π (Ax H)=none:=hr.nx _ (Oj _);have g:=hr.own r1 _ b base B r.at_;have X:ys.length=aZ.length:=hv.1;have hsz:(splice arr.toList (base+cs.length) ys).toArray.size=arr.size:=by
  simp only[List.size_toArray];rw[F2 (by simp;omega)];simp
 have O:Ext w0.own C w C w':=p.ext r.block hsz g.2.1 g.2.2;have e:Ext w0.own C w (C.put (Ax H) (some (b,base+o))) w':=Ctx.put_ext F O;have a:∀s x,Al (cut H r1) s=some x->s≠r1/\Al H s=some x:=λs x c=>by
  by_cases p:s=r1
  ·subst p;rw[LI]at c;cases c
  ·rw[Po p]at c;exact⟨p,c⟩
 refine⟨⟨hr.glob.mono e,?_,?_,?_,?_,?_,λk i V=>p.size▸hr.fin k i V,λk R=>p.size▸hr.finB k R,λk hk=>by
  have hk:Ax H+1<=k:=hk;rw[C.put_ne _ (by omega)];exact hr.nx k (by omega)⟩,e⟩
 ·exact hr.below.same p g.1
 ·intro s x c;simp only[Al]at c;split at c
  ·rename_i h;subst h;rw[C.put_n];simp
  ·rw[e.π s (hr.lt s x (a s x c).2)];exact hr.lt s x (a s x c).2
 ·intro s x c;simp only[Al]at c;split at c
  ·rename_i h;subst h;injection c with c;subst c
   refine Or.inr ⟨b,base+o,_,fz,C.put_n _ _,p.here,by rw[hsz];exact r.free,by rw[hsz];simp;omega,?_,λh=>by cases h⟩;have u:Cn ((C.put (Ax H) (some (b,base+o))).sel false) w' cs _:=r.vals.mono (e.sel q);have K:Cn ((C.put (Ax H) (some (b,base+o))).sel false) w' aZ ys:=hv.mono (e.sel q');have J:((splice arr.toList (base+cs.length) ys).drop (base+o)).take (cs.drop o++aZ).length=((arr.toList.drop base).take cs.length).drop o++ys:=by
    apply l0o;intro j;simp only[EJ,l0t];rw[tM];by_cases N:j<cs.length-o+aZ.length
    ·rw[CZ N,lY,Ou (by simp;omega)];by_cases h1:j<cs.length-o
     ·rw[CZ (by omega),l0l (by simp;omega),lY,tM,CZ (by omega),lY]
      congr 1;omega
     ·rw[Cr (by omega),CZ (by omega),l0n (by simp;omega)]
      congr 1
      simp;omega
    ·rw[Cr N]
     symm
     rw[List.getElem?_eq_none_iff];simp;omega
   simp only[];rw[J];exact(u.drop o).append K
  ·refine(hr.rows s x (a s x c).2).mono e (λk D d=>p.others k (λQ=>?_));subst Q;exact(a s x c).1 (hr.sep s r1 x _ _ _ _ (a s x c).2 B d r.at_)
 ·intro s x k Y c d;simp only[Al]at c;split at c
  ·rename_i h;subst h;rw[C.put_n]at d;injection d with d;injection d with d;injection d with t L;subst t
   exact g
  ·rename_i m;rw[C.put_ne _ m]at d;exact hr.own s x k Y (a s x c).2 d
 ·intro s y x A k Z o2 c n d f;simp only[Al]at c n;split at c
  ·rename_i h;subst h;rw[C.put_n]at d;injection d with d;injection d with d;injection d with t L;subst t
   split at n
   ·rename_i h;exact h.symm
   ·rename_i m;rw[C.put_ne _ m]at f;exact absurd (hr.sep y r1 A _ _ _ _ (a y A n).2 B f r.at_) (a y A n).1
  ·rename_i m;split at n
   ·rename_i h;subst h;rw[C.put_n]at f;injection f with f;injection f with f;injection f with t L;subst t
    rw[C.put_ne _ m]at d;exact absurd (hr.sep s r1 x _ _ _ _ (a s x c).2 B d r.at_) (a s x c).1
   ·rename_i v;rw[C.put_ne _ m]at d;rw[C.put_ne _ v]at f;exact hr.sep s y x A k Z o2 (a s x c).2 (a y A n).2 d f
end
end
def Xh(T:Ty)(t1 t2:TypeId)(s x:AV)(H:Hp)(r:Nat)(K:AV->Hp->Prop):Prop:=
 match T t1,T t2 with
 |some i1,some i2=>match i1.d with
  |.slice e a=>match T e with
   |some c=>(a≠0/\(B2 c.zero).length=a/\(match i2.d with|.slice .. =>True|.string=>True|_=>False)/\(match x with|.v (.string _)=>a=1|_=>True))/\KX (A0I H x) λp=>
    (p.2.1.length=p.1*a/\p.2.1.all AV.one=true)/\(match s with
     |.v (.slice none 0 0)=>(p.1*c.bytes<=2^46/\p.1<=2^46)/\(if p.1=0 then K (.v (.slice none 0 0)) H else K (.sl a r 0 p.1) ((r,.cells false e p.2.1)::H))
     |.sl sz r1 o n=>match Al H r1 with
      |some (.cells q E cs)=>(E=e/\sz=a/\o+n*a=cs.length/\(n+p.1)*c.bytes<=2^46/\n+p.1<=2^46)/\K (.sl a r 0 (n+p.1)) ((r,.cells false e (cs.drop o++p.2.1))::cut H r1)
      |_=>False
     |_=>False)
   |none=>False
  |_=>False
 |_,_=>False
section
variable{P:Program}{G:Gl}{w0:Base}{w:World}{C:Ctx}{H:Hp}
def A5l(a:Nat):∀(rounds c:Nat),c<a->Builtin.growBy a rounds c<=a+(a+768)/4:=by
 intro rounds
 induction rounds with
 |zero=>intro c h;simp[Builtin.growBy];omega
 |succ n ih=>
  intro c h;simp only[Builtin.growBy];rw[Cr (by omega)];by_cases h2:c+(c+768)/4<a
  ·exact ih _ h2
  ·cases n with
   |zero=>simp[Builtin.growBy];omega
   |succ n=>simp only[Builtin.growBy];rw[CZ (by omega)];omega
def A1R(a c:Nat)(h:c<a):Builtin.nextslicecap a c<=2*a:=by
 unfold Builtin.nextslicecap;split
 ·omega
 ·split
  ·omega
  ·have:=A5l a 4 c h;omega
def jT{t1 t2 e:TypeId}{inf:TypeInfo}{z:Value}{esz:Nat}{K:TypeDesc}(Q:P.underlying t1=some (.slice e))(d:P.info? e=some inf)(hsz:inf.size=esz)(hz:inf.zero=some z)(F:z.cells.size=esz)(D:P.underlying t2=some K)(A:(∃M,K=.slice M)\/K=.string){ts:Array TypeId}(h1:ts[0]?=some t1)(h2:ts[1]?=some t2){ty:TypeId}{base:Option Addr}{n cap m:Nat}{y:Value}(r:(Builtin.lenOf y).run P w=.ok m w)(p:cap<n+m)(N:(n+m)*inf.bytes<=2^46)(O:n+m<=2^46){a new:Hx}(u:(Builtin.firstCells esz n (.slice base n cap)).run P {w with drawn:=w.drawn+1}= .ok a.toArray {w with drawn:=w.drawn+1})(t:(Builtin.firstCells esz m y).run P {w with drawn:=w.drawn+1}= .ok new.toArray {w with drawn:=w.drawn+1})(B:a.length=n*esz)(x:new.length=m*esz):
 ∃(c:Nat)(arr:Array Value)(L:World),n+m<=c/\(Builtin.append_ ts ty #[.slice base n cap,y]).run P w=.ok (.slice (some ⟨w.heap.size,0,none⟩) (n+m) c) L/\Below w.heap.size w L/\L.heap[w.heap.size]?=some (.cells arr e (0,0))/\arr.toList.take (a++new).length=a++new/\arr.size=c*esz:=by
 have g:=A1R (n+m) cap p;have j:¬(Builtin.nextslicecap (n+m) cap*inf.bytes>2^48):=by
  have:=l22 inf.bytes g;rw[Nat.mul_assoc]at this;omega
 let q:Question:=.appendCap (n+m) cap e
 let c:=q.cut (w.tape w.drawn q)
 have hc:n+m<=c:=by show n+m<=n+m+_;omega
 refine⟨c,a.toArray++new.toArray++Builtin.zeroCells z.cells (c-(n+m)),{ {w with drawn:=w.drawn+1} with heap:=w.heap.push (.cells (a.toArray++new.toArray++Builtin.zeroCells z.cells (c-(n+m))) e)},hc,?_,?_,by simp,?_,?_⟩
 ·have v:¬(n+m<=cap):=by omega
  have s:IntKind.i64.max=9223372036854775807:=by decide
  have h:(sizeOf e).run P w=.ok esz w:=by simp[sizeOf,typeInfo,d,hsz]
  have i:∀W:World,(typeInfo e).run P W=.ok inf W:=λW=>by simp[typeInfo,d]
  have J:∀W:World,(zeroValue e).run P W=.ok z W:=λW=>by simp[zeroValue,typeInfo,d,hz]
  have f:¬(((n+m:Nat):Int)>IntKind.i64.max/\(false=true\/inf.bytes=0)):=by rw[s];omega
  rcases A with⟨M,rfl⟩|rfl
  all_goals
   unfold Builtin.append_;simp only[h1,h2,l10,l1w,l0q];rw[CN,run_underlying Q w];simp only[F3];rw[CN,h];simp only[F3];rw[CN,run_underlying D w];simp only[F3];rw[CN,gQ];simp only[F3,tL,if_false];rw[CN,r];simp only[F3,Cr v];rw[CN,i];simp only[F3];rw[Cr (by simpa using f),CN,i];simp only[F3,Cr j];rw[CN,run_choose,Cr (by simp[Question.forced])];simp only[F3];rw[CN,i];simp only[F3];rw[CN,run_askRoom];simp only[F3];rw[CN,u];simp only[F3,Bool.not_false,if_true];rw[CN,t];simp only[F3];rw[CN,J];simp only[F3];simp only[newRow,CN,run_newObj,F3,gQ];rfl
 ·refine⟨rfl,rfl,rfl,by simp,λk hk=>by simp[l27,Nat.ne_of_lt hk]⟩
 ·simp only[Array.toList_append,eU];rw[<-eU];exact List.take_left
 ·simp[Builtin.zeroCells,F,B,x];rw[<-uY,<-uY]
  congr 1;omega
end
section
variable{s x:AV}{K:AV->Hp->Prop}{y:Value}
section
variable{P:Program}{G:Gl}{w0:Base}{w:World}{C:Ctx}{H:Hp}
def SK{t1 t2 e:TypeId}{esz:Nat}{k:TypeDesc}(q:P.underlying t1=some (.slice e))(d:(sizeOf e).run P w=.ok esz w)(j:P.underlying t2=some k)(i:(∃p,k=.slice p)\/k=.string){ts:Array TypeId}(h1:ts[0]?=some t1)(h2:ts[1]?=some t2){ty:TypeId}{base:Option Addr}{n cap m:Nat}(g:(Builtin.lenOf y).run P w=.ok m w)(f:n+m<=cap){new:Hx}(h:(Builtin.firstCells esz m y).run P w=.ok new.toArray w){w':World}(c:(match base with|some a=>storeCells (a.add (n*esz)) new|none=>pure ():Sem Unit).run P w=.ok () w'):
 (Builtin.append_ ts ty #[.slice base n cap,y]).run P w=.ok (.slice base (n+m) cap) w':=by
 rcases i with⟨p,rfl⟩|rfl
 all_goals
  unfold Builtin.append_;simp only[h1,h2,l10,l1w,l0q];rw[CN,run_underlying q w];simp only[F3];rw[CN,d];simp only[F3];rw[CN,run_underlying j w];simp only[F3];rw[CN,gQ];simp only[F3,tL,if_false];rw[CN,g];simp only[F3,CZ f,Bool.not_false,if_true];rw[CN,h];simp only[F3];cases base with
  |none=>
   simp only[gQ]at c;injection c with _ c
   subst c;rfl
  |some a=>
   simp only at c;simp only[CN];rw[c];rfl
def W_{d:Is}{ys:Hx}(h:Cn C w d ys)(h1:d.all AV.one=true):∀v∈ys,v.oneCell'=true:=by
 intro v hv;obtain⟨i,e⟩:=List.getElem?_of_mem hv;have a:i<d.length:=by rw[<-h.1];exact(uZ.1 e).1
 obtain⟨y,c,hr⟩:=h.2 i _ (JC a);rw[e]at c;injection c with c
 subst c;exact hr.one (G8.1 h1 _ (Of a))
def Wd{T:Ty}(hT:eO P T){t1 t2 ty:TypeId}{y z:Value}{ts:Array TypeId}(h1:ts[0]?=some t1)(h2:ts[1]?=some t2)(hr:Rel G w0 C H w)(hs:VRel C w s y)(hx:∀(esz m:Nat)(ys:Is)(q:Bool),A0I H x=some (m,ys,q)->ys.length=m*esz->(∀s,x=.v (.string s)->esz=1)->(Builtin.lenOf z).run P w=.ok m w/\∃vs:Hx,Cn (C.sel q) w ys vs/\∀W:World,(∀k,k<w.heap.size->W.heap[k]?=w.heap[k]?)->(Builtin.firstCells esz m z).run P W=.ok vs.toArray W)(h:Xh T t1 t2 s x H (Ax H) K):
 ∃v H' u V w',K v H'/\(Builtin.append_ ts ty #[y,z]).run P w=.ok u w'/\JB G w0 C w v H' u V w':=by
 unfold Xh at h;split at h
 ·rename_i i1 i2 bg bh;split at h
  ·rename_i e esz hd;split at h
   ·rename_i ie bj;obtain⟨⟨bx,b5,ay,ah⟩,h⟩:=h;cases Q:A0I H x with
    |none=>rw[Q]at h;exact h.elim
    |some p=>
     obtain⟨m,ys,q2⟩:=p;rw[Q]at h;simp only[KX]at h;obtain⟨⟨N,a5⟩,h⟩:=h;obtain⟨hu,hc⟩:=(hT t1 i1 bg).elem_slice hd;obtain⟨u2,Y,ao⟩:=(hT t2 i2 bh).under;have X:(∃e2,u2=.slice e2)\/u2=.string:=by
      cases u2<;>simp[td]at ao<;>rw[<-ao]at ay<;>simp at ay⊢
     have a8:∀q,x=.v (.string q)->esz=1:=by
      intro q hq;subst hq;exact ah
     obtain⟨F,vs,M,D⟩:=hx esz m ys q2 Q N a8;have bp:=hT e ie bj;obtain⟨inf,zv,O,bt,bd,hz,ez⟩:=bp.info;have be:P.cellsOf e=inf.size:=by simp[Program.cellsOf,O]
     have hsz:inf.size=esz:=by rw[<-be,hc]
     have B:(sizeOf e).run P w=.ok esz w:=by simp[sizeOf,typeInfo,O,hsz]
     have bo:zv.cells.size=esz:=by
      have:=(Om (C:=C) (w:=w) (t:=e) (i:=ie) ez).1;simp at this;omega
     have ak:vs.length=m*esz:=by rw[M.1,N]
     have r:=D w (λ_ _=>rfl);have af:=D {w with drawn:=w.drawn+1} (λ_ _=>rfl);have grow:∀(base:Option Addr)(n cap:Nat)(g:Hx)(q1:Bool)(cs:Is)(Hc:Hp),Ax Hc=Ax H->Rel G w0 C Hc w->cap<n+m->(n+m)*ie.bytes<=2^46->n+m<=2^46->Cn (C.sel q1) w cs g->cs.length=n*esz->
      (Builtin.firstCells esz n (.slice base n cap)).run P {w with drawn:=w.drawn+1}= .ok g.toArray {w with drawn:=w.drawn+1}->
      ∃u V w',(Builtin.append_ ts ty #[.slice base n cap,z]).run P w=.ok u w'/\JB G w0 C w (.sl esz (Ax H) 0 (n+m)) ((Ax H,.cells false e (cs++ys))::Hc) u V w':=by
      intro base n cap g q1 cs Hc bk bn aa J L ae ar a4;have ag:g.length=n*esz:=by rw[ae.1,ar]
      obtain⟨c,arr,w',ab,f,ap,aq,ai,Z⟩:=jT (P:=P) (w:=w) (ty:=ty) hu O hsz hz bo Y X h1 h2 F aa (by rw[bd];exact J) L a4 af ag ak;refine⟨_,_,w',f,bk▸Xx bn ap e aq (λi _=>by omega) esz (n+m) c ab (by rw[Z];exact Oj _) ?_ ?_⟩
      ·rw[Z,EJ,ar,N,<-uY];exact l22 _ ab
      ·have:(cs++ys).length=(g++vs).length:=by simp[ae.1,M.1]
       rw[this,ai];exact(tH ae).append (qD M)
     split at h
     ·obtain⟨⟨J,L⟩,h⟩:=h;obtain rfl:=AA.1 hs;by_cases hm:m=0
      ·subst hm;have am:ys=[]:=lX (by simpa using N);subst am;have aj:vs=[]:=lX (by simpa using ak);subst aj;exact⟨_,_,_,C,w,h,SK (P:=P) (ty:=ty) (base:=none) (n:=0) (cap:=0) hu B Y X h1 h2 F (Oj _) r (by rfl),.v _,hr,.refl _ _ _⟩
      ·obtain⟨u,V,w',f,R⟩:=grow none 0 0 [] false [] H rfl hr (by omega) (by simpa using J) (by simpa using L) .nil (by simp) rfl;rw[Cr hm]at h;exact⟨_,_,u,V,w',h,f,by simpa using R⟩
     ·rename_i sz r1 o n;split at h
      ·rename_i q1 E cs az;obtain⟨⟨rfl,rfl,a9,J,L⟩,h⟩:=h;have ac:(cs.drop o).length=n*sz:=by simp;omega
       cases hs with
       |slz bz=>
        rename_i a;have h0:cs.drop o=[]:=lX (by rw[ac];simp);by_cases hm:m=0
        ·subst hm;have am:ys=[]:=lX (by simpa using N);subst am;have aj:vs=[]:=lX (by simpa using ak);subst aj;refine⟨_,_,_,C.put (Ax H) none,w,h,SK (P:=P) (ty:=ty) (base:=a) (n:=0) (cap:=0) hu B Y X h1 h2 F (Oj _) r (w':=w) (by cases a<;>rfl),.slz (by rw[C.put_n];simp),?_,Ctx.put_ext (hr.nx _ (Oj _)) (.refl _ _ _)⟩;have:=(hr.cut_row r1).virtual false E;simpa [h0,cut,BV] using this
        ·obtain⟨u,V,w',f,R⟩:=grow a 0 0 [] q1 [] (cut H r1) (BV _ _ _) (hr.cut_row r1) (by omega) (by simpa using J) (by simpa using L) .nil (by simp) (by
          cases a with
          |none=>rfl
          |some ad=>simp[Builtin.firstCells,loadCells,loadCellsFrom])
         exact⟨_,_,u,V,w',h,f,by simpa [h0] using R⟩
       |sl hp aa bc ax=>
        rename_i b base cap bq T' bv;rcases hr.rows r1 _ az with⟨h5,h6⟩|⟨b',d,arr,fz,hl⟩
        ·rw[h6]at hp;cases hp
        ·have e':=hl.at_.symm.trans hp;injection e' with e';injection e' with e';injection e' with e1 e2;subst e1 e2
         have e3:=hl.block.symm.trans bc;injection e3 with e3;injection e3 with e4 e5 e6
         subst e4 e5 e6;have bf:=hl.fits;by_cases A:n+m<=cap
         ·have bs:cs.length+ys.length<=o+cap*sz:=by
           rw[<-a9,N,Yq,<-uY];exact Nat.add_le_add_left (l22 _ A) _
          have bu:vs.length=ys.length:=M.1;obtain⟨w',f,a7⟩:=Ma (P:=P) vs w arr (d+o+n*sz) 0 hl.block hl.free (by omega) (W_ M a5);have a6:d+o+n*sz=d+cs.length:=by omega
          have ba:=hr.extend az hl (o:=o) (by omega) M (by omega) (by rw[<-a6];simpa using a7);refine⟨_,_,_,_,w',h,SK (P:=P) (ty:=ty) (base:=some ⟨b',d+o,none⟩) hu B Y X h1 h2 F A r (w':=w') (by simp only[Jn];exact f),?_,ba.1,ba.2⟩;have:VRel (C.put (Ax H) (some (b',d+o))) w' (.sl sz (Ax H) 0 (n+m)) (.slice (some ⟨b',d+o+0,none⟩) (n+m) cap):=by
           refine .sl (C.put_n _ _) A a7.here ?_;simp only[List.size_toArray];rw[F2 (by simp;omega)];simpa using ax
          simpa using this
         ·obtain⟨g,a3,bm⟩:=(hl.atq.drop o)
          have ag:g.length=n*sz:=by rw[a3.1,ac]
          obtain⟨u,V,w',f,R⟩:=grow (some ⟨b',d+o,none⟩) n cap g q1 (cs.drop o) (cut H r1) (BV _ _ _) (hr.cut_row r1) (by omega) J L a3 ac (by
           simp only[Builtin.firstCells];have:=run_loadCells_list (P:=P) {w with drawn:=w.drawn+1} ⟨b',d+o,none⟩ g (λj v hv=>by rw[Jn];exact bm j v hv)
           rwa[ag]at this)
          exact⟨_,_,u,V,w',h,f,R⟩
      ·exact h.elim
     ·exact h.elim
   ·exact h.elim
  ·exact h.elim
 ·exact h.elim
def rY{T:Ty}(f:eO P T){t1 t2 ty:TypeId}{y z:Value}{ts:Array TypeId}(h1:ts[0]?=some t1)(h2:ts[1]?=some t2)(hr:Rel G w0 C H w)(a:VRel C w s y)(i:VRel C w x z)(h:Xh T t1 t2 s x H (Ax H) K):
 ∃v c u e d,K v c/\(Builtin.append_ ts ty #[y,z]).run P w=.ok u d/\JB G w0 C w v c u e d:=
 Wd f h1 h2 hr a (λ_ _ _ _ h g a=>V1 hr i h g a) h
end
end
section
variable{K:AV->Hp->Prop}{a:Act}{w0:Base}{C:Ctx}{N s0:Nat}{w:World}
structure Env where
 P:Program
 G:Gl
 T:Ty
structure Env.Ok(E:Env):Prop where
 ty:eO E.P E.T
 pos:∀t i e esz,E.T t=some i->(i.d=.slice e esz\/∃n,i.d=.array n e esz)->esz≠0
 mix:E.P.follows .mixedOrders=true
def xmm(c:Bool)(a b:AV)(K:AV->Prop):Prop:=
 match a,b with
 |.v (.int k x),.v (.int d y)=>k=d/\K (.v (.int k (if c then(if y<x then y else x) else(if y>x then y else x))))
 |.v (.string s),.v (.string u)=>K (.v (.string (if(if c then(Op.bytesLess s.toList u.toList||s.toList==u.toList) else !Op.bytesLess s.toList u.toList) then s else u)))
 |_,_=>False
def mT(E:Env)(o:Op)(t:Tm)(H:Hp)(K:AV->Hp->Prop):Prop:=
 match o with
 |.move x=>K (Jb E.G t x) H
 |.assign x=>K (Jb E.G t x) H
 |.pick c a b=>match Jb E.G t c with
  |.v (.bool q)=>K (if q then Jb E.G t a else Jb E.G t b) H
  |_=>False
 |.load ty x=>H_ E.T ty (Jb E.G t x) H (λv=>K v H)
 |.store ty x y=>mR E.T ty (Jb E.G t x) (Jb E.G t y) H (λe=>K (.v undef) e)
 |.nilCheck x=>A6s (Jb E.G t x) (λv=>K v H)
 |.binOp op ty x y _=>mZ E.T op ty (Jb E.G t x) (Jb E.G t y) (λv=>K v H)
 |.unOp op _ x=>xun op (Jb E.G t x) (λv=>K v H)
 |.convert s d x=>uC E.T s d (Jb E.G t x) (λv=>K v H)
 |.makeFunc fn first cap=>K (.fn fn (first.toList.map (Jb E.G t)) (cap.toList.map (Jb E.G t))) H
 |.fieldAddr ty x f=>fB E.T ty (Jb E.G t x) f (λv=>K v H)
 |.field ty x f=>mW E.T ty (Jb E.G t x) f (λv=>K v H)
 |.indexAddr ty x i=>mV E.T ty (Jb E.G t x) (Jb E.G t i) (λv=>K v H)
 |.index ty x i=>mU E.T ty (Jb E.G t x) (Jb E.G t i) (λv=>K v H)
 |.slice ty x h g mx=>mS E.T ty (Jb E.G t x) (h.map (Jb E.G t)) (g.map (Jb E.G t)) (mx.map (Jb E.G t)) (λv=>K v H)
 |.extract x k=>match Jb E.G t x with
  |.tup vs=>KX (vs[k]?) (λv=>K v H)
  |_=>False
 |.build ty parts=>mX E.T ty (parts.toList.map λp=>(p.1,Jb E.G t p.2)) (λv=>K v H)
 |.call c=>match c.callee with
  |.builtin .len=>match c.args.toList,c.argTypes.toList with
   |[x],[ty]=>A6t E.T ty (Jb E.G t x) (λv=>K v H)
   |_,_=>False
  |.builtin .min=>match c.args.toList with
   |[x,y]=>xmm true (Jb E.G t x) (Jb E.G t y) (λv=>K v H)
   |_=>False
  |.builtin .max=>match c.args.toList with
   |[x,y]=>xmm false (Jb E.G t x) (Jb E.G t y) (λv=>K v H)
   |_=>False
  |_=>False
 |_=>False
def B0x(E:Env)(o:Op)(t:Tm)(H:Hp)(r:Nat)(K:AV->Hp->Prop):Prop:=
 match o with
 |.alloc ty=>nH E.T ty H r K
 |.box ty x=>B4t ty (Jb E.G t x) H r K
 |.buildSlice ty n parts=>Zr E.T ty n (parts.toList.map λp=>(p.1,Jb E.G t p.2)) H r K
 |.call c=>match c.callee with
  |.builtin .append=>match c.args.toList,c.argTypes.toList with
   |[s,x],[d,e]=>Xh E.T d e (Jb E.G t s) (Jb E.G t x) H r K
   |_,_=>False
  |_=>False
 |_=>False
section
variable{E:Env}{t:Tm}{H:Hp}
def WA{G:Gl}(s:St G w0 s0 C N t H a w)(x:Option Operand):A_ C w (x.map (Jb G t)) (x.map a.eval):=by
 cases x with
 |none=>trivial
 |some x=>exact AR s x
def gA{G:Gl}(s:St G w0 s0 C N t H a w)(parts:Array (Nat×Operand)):
 (parts.toList.map λp=>(p.1,Jb G t p.2)).length=(parts.toList.map λp=>(p.1,a.eval p.2)).length/\
 ∀(j:Nat)(p:Nat×AV),(parts.toList.map λp=>(p.1,Jb G t p.2))[j]?=some p->∃z,(parts.toList.map λp=>(p.1,a.eval p.2))[j]?=some (p.1,z)/\VRel C w p.2 z:=by
 refine⟨by simp,λj p c=>?_⟩;rw[vA]at c⊢;cases h:parts.toList[j]? with
 |none=>rw[h]at c;simp at c
 |some q=>rw[h]at c;simp at c;subst c;exact⟨_,rfl,AR s q.2⟩
def B29{r p k:Nat}{y:Value}(h:VRel C w (.ptr r p k) y):∃b c,y=.pointer (some ⟨b,c,none⟩):=by
 cases h with
 |ptr d=>exact⟨_,_,rfl⟩
def HK{o:Oper}{c:Call}(d:o.op=.call c)(b:Builtin)(hb:c.callee=.builtin b):execOp a.eval o=builtin b c.argTypes o.type (c.args.map λ|.const _=>true|_=>false) (c.args.map a.eval):=by
 simp only[execOp,d,resolve,hb];rfl
def uB(D:E.Ok){o:Oper}(h:mT E o.op t H K):B03 E.P E.G o t H K:=by
 intro w0 s0 C N a w s;have g:∀{sm:Sem Value}{v:AV}{u:Value},execOp a.eval o=(do pure (.value (<-sm)))->sm.run E.P w=.ok u w->VRel C w v u->K v H->
  ∃v M y O L,K v M/\((execOp a.eval o).run E.P w=.ok (.value y) L\/((execOp a.eval o).run E.P w=.ok .skip L/\y=undef))/\VRel O L v y/\Rel E.G w0 O M L/\Ext w0.own C w O L:=by
  intro sm v u he hr hv hk;exact⟨v,H,u,C,w,hk,.inl (by rw[he,CN,hr];rfl),hv,s.rel,.refl _ _ _⟩
 unfold mT at h;split at h
 ·rename_i x j;exact⟨_,H,_,C,w,h,.inl (by simp[execOp,j]),AR s x,s.rel,.refl _ _ _⟩
 ·rename_i x j;exact⟨_,H,_,C,w,h,.inl (by simp[execOp,j]),AR s x,s.rel,.refl _ _ _⟩
 ·rename_i c x y j;split at h
  ·rename_i q hq;have hc:=AR s c;rw[hq]at hc;have Q:=AA.1 hc;refine⟨_,H,if q then a.eval x else a.eval y,C,w,h,.inl (by simp[execOp,j,Q,asBool]),?_,s.rel,.refl _ _ _⟩;cases q
   ·exact AR s y
   ·exact AR s x
  ·exact h.elim
 ·rename_i ty x j;obtain⟨v,z,h1,h2,A⟩:=jA D.ty s.rel (AR s x) h;exact g (by simp only[execOp,j]) h1 h2 A
 ·rename_i ty x y j;obtain⟨M,L,h1,h2,A,Y⟩:=wN D.ty s.rel (AR s x) (AR s y) h;exact⟨_,M,undef,C,L,Y,.inr ⟨by simp only[execOp,j];rw[CN,h1];rfl,rfl⟩,.v _,h2,A⟩
 ·rename_i x j;have B:=AR s x;unfold A6s at h;split at h
  ·rename_i hq;rw[hq]at B;refine⟨_,H,a.eval x,C,w,h,.inl ?_,by rw[hq];exact B,s.rel,.refl _ _ _⟩;obtain⟨b,o',e⟩:=B29 B;simp only[execOp,j,e];rfl
  ·rename_i hq;rw[hq]at B;refine⟨_,H,a.eval x,C,w,h,.inl ?_,by rw[hq];exact B,s.rel,.refl _ _ _⟩;obtain⟨b,o',e⟩:=qG B;simp only[execOp,j,e];rfl
  ·rename_i hq;rw[hq]at B;refine⟨_,H,a.eval x,C,w,h,.inl ?_,by rw[hq];exact B,s.rel,.refl _ _ _⟩;obtain⟨X,zs,e,_⟩:=Iz.1 B;simp only[execOp,j,e];rfl
  ·rename_i hq;rw[hq]at B;refine⟨_,H,a.eval x,C,w,h,.inl ?_,by rw[hq];exact B,s.rel,.refl _ _ _⟩;obtain⟨X,zs,e,_⟩:=Iz.1 B;simp only[execOp,j,e];rfl
  ·exact h.elim
 ·rename_i op ty x y yt j;obtain⟨v,u,h1,h2,A⟩:=mY D.ty x y (AR s x) (AR s y) h;exact g (by simp only[execOp,j]) h1 h2 A
 ·rename_i op ty x j;obtain⟨v,u,h1,h2,A⟩:=A4w (P:=E.P) (AR s x) h;exact g (by simp only[execOp,j]) h1 h2 A
 ·rename_i sr d x j;obtain⟨v,u,h1,h2,A⟩:=I' D.ty (AR s x) h;exact g (by simp only[execOp,j]) h1 h2 A
 ·rename_i fn first cap j;refine⟨_,H,.func fn (first.map a.eval) (cap.map a.eval),C,w,h,.inl (by simp[execOp,j,Instr.makeFunc]),?_,s.rel,.refl _ _ _⟩;have key:∀l:List Operand,Cn C w (l.map (Jb E.G t)) (l.map a.eval):=by
   intro l
   induction l with
   |nil=>exact .nil
   |cons x l ih=>exact .cons (AR s x) ih
  refine Iz.2 ⟨first.toList.map a.eval,cap.toList.map a.eval,?_,key _,key _⟩
  congr 1<;>(apply lG;simp)
 ·rename_i ty x f j;obtain⟨v,u,h1,h2,A⟩:=wS D.ty (AR s x) h;exact g (by simp only[execOp,j]) h1 h2 A
 ·rename_i ty x f j;obtain⟨v,u,h1,h2,A⟩:=wR D.ty (AR s x) h;exact g (by simp only[execOp,j]) h1 h2 A
 ·rename_i ty x i j;obtain⟨v,u,h1,h2,A⟩:=wQ D.ty D.pos (AR s x) (AR s i) h;exact g (by simp only[execOp,j]) h1 h2 A
 ·rename_i ty x i j;obtain⟨v,u,h1,h2,A⟩:=wP D.ty D.pos (AR s x) (AR s i) h;exact g (by simp only[execOp,j]) h1 h2 A
 ·rename_i ty x lo Z mx j;obtain⟨v,u,h1,h2,A⟩:=wO D.ty D.pos (AR s x) (WA s lo) (WA s Z) (WA s mx) h;exact g (by simp only[execOp,j]) h1 h2 A
 ·rename_i x k j;have B:=AR s x;split at h
  ·rename_i vs hq;rw[hq]at B;obtain⟨X,e,R⟩:=Ds.1 B;unfold KX at h;split at h
   ·rename_i v hv;obtain⟨y,hy,hr⟩:=R.2 k v hv;refine g (sm:=Instr.extract (a.eval x) k) (by simp only[execOp,j]) ?_ hr h;rw[e];simp[Instr.extract,hy]
   ·exact h.elim
  ·exact h.elim
 ·rename_i ty parts j;obtain⟨R,hq⟩:=gA s parts;obtain⟨v,u,h1,h2,A⟩:=wT D.ty R hq h;refine g (sm:=Instr.build ty (parts.map λ(i,x)=>(i,a.eval x))) (by simp only[execOp,j]) ?_ h2 A;have:(parts.map λ(i,x)=>(i,a.eval x))=(parts.toList.map λp=>(p.1,a.eval p.2)).toArray:=by apply lG;simp
  rw[this];exact h1
 ·rename_i c j;have call:=λb hb=>HK (a:=a) j b hb;split at h
  ·rename_i hb;split at h
   ·rename_i x ty B V;obtain⟨v,u,h1,h2,A⟩:=A19 (P:=E.P) (rt:=o.type) (ts:=c.argTypes) D.ty (by rw[<-l21,V];rfl) (AR s x) h;have r:c.args.map a.eval= #[a.eval x]:=by apply lG;simp[B]
    refine g (sm:=Builtin.len_ c.argTypes o.type #[a.eval x]) (by rw[call _ hb,r];rfl) h1 h2 A
   ·exact h.elim
  ·rename_i hb;split at h
   ·rename_i x y B;have r:c.args.map a.eval= #[a.eval x,a.eval y]:=by apply lG;simp[B]
    have h1:=AR s x;have h2:=AR s y;unfold xmm at h;split at h
    ·rename_i k m k' n F J;rw[F]at h1;rw[J]at h2;obtain⟨rfl,h⟩:=h;refine g (sm:=Builtin.min_ c.argTypes o.type #[a.eval x,a.eval y]) (by rw[call _ hb,r];rfl) ?_ (.v _) h;rw[AA.1 h1,AA.1 h2];rfl
    ·rename_i m n F J;rw[F]at h1;rw[J]at h2;refine g (sm:=Builtin.min_ c.argTypes o.type #[a.eval x,a.eval y]) (by rw[call _ hb,r];rfl) ?_ (.v _) h;rw[AA.1 h1,AA.1 h2];rfl
    ·exact h.elim
   ·exact h.elim
  ·rename_i hb;split at h
   ·rename_i x y B;have r:c.args.map a.eval= #[a.eval x,a.eval y]:=by apply lG;simp[B]
    have h1:=AR s x;have h2:=AR s y;unfold xmm at h;split at h
    ·rename_i k m k' n F J;rw[F]at h1;rw[J]at h2;obtain⟨rfl,h⟩:=h;refine g (sm:=Builtin.max_ c.argTypes o.type #[a.eval x,a.eval y]) (by rw[call _ hb,r];rfl) ?_ (.v _) h;rw[AA.1 h1,AA.1 h2];rfl
    ·rename_i m n F J;rw[F]at h1;rw[J]at h2;refine g (sm:=Builtin.max_ c.argTypes o.type #[a.eval x,a.eval y]) (by rw[call _ hb,r];rfl) ?_ (.v _) h;rw[AA.1 h1,AA.1 h2];rfl
    ·exact h.elim
   ·exact h.elim
  ·exact h.elim
 ·exact h.elim
def A18(q:E.Ok){o:Oper}(h:B0x E o.op t H (Ax H) K):B03 E.P E.G o t H K:=by
 intro w0 s0 C N a w s;have fin:∀{sm:Sem Value}{v:AV}{f:Hp}{u:Value}{e:Ctx}{d:World},execOp a.eval o=(do pure (.value (<-sm)))->sm.run E.P w=.ok u d->JB E.G w0 C w v f u e d->K v f->
  ∃v f y e d,K v f/\((execOp a.eval o).run E.P w=.ok (.value y) d\/((execOp a.eval o).run E.P w=.ok .skip d/\y=undef))/\VRel e d v y/\Rel E.G w0 e f d/\Ext w0.own C w e d:=by
  intro sm v f u e d he hr g hk;exact⟨v,f,u,e,d,hk,.inl (by rw[he,CN,hr];rfl),g.1,g.2.1,g.2.2⟩
 unfold B0x at h;split at h
 ·rename_i ty k;obtain⟨v,f,y,e,d,hk,hr,g⟩:=wU q.ty s.rel h;exact fin (by simp only[execOp,k]) hr g hk
 ·rename_i ty x k;obtain⟨v,f,y,e,d,hk,hr,g⟩:=A1a (P:=E.P) s.rel (AR s x) h;exact fin (by simp only[execOp,k]) hr g hk
 ·rename_i ty n parts k;obtain⟨r,hq⟩:=gA s parts;obtain⟨v,f,y,e,d,hk,hr,g⟩:=rX q.ty r hq s.rel h;refine fin (sm:=Instr.buildSlice ty n (parts.map λ(i,x)=>(i,a.eval x))) (by simp only[execOp,k]) ?_ g hk;have:(parts.map λ(i,x)=>(i,a.eval x))=(parts.toList.map λp=>(p.1,a.eval p.2)).toArray:=by apply lG;simp
  rw[this];exact hr
 ·rename_i c k;split at h
  ·rename_i hb;split at h
   ·rename_i x y t1 t2 A m;have j:c.args.map a.eval= #[a.eval x,a.eval y]:=by apply lG;simp[A]
    obtain⟨v,f,z,e,d,hk,hr,g⟩:=rY (P:=E.P) (ty:=o.type) (ts:=c.argTypes) q.ty (t1:=t1) (t2:=t2) (by rw[<-l21,m];rfl) (by rw[<-l21,m];rfl) s.rel (AR s x) (AR s y) h;refine fin (sm:=Builtin.append_ c.argTypes o.type #[a.eval x,a.eval y]) ?_ hr g hk;rw[HK k _ hb,j];rfl
   ·exact h.elim
  ·exact h.elim
 ·exact h.elim
end
end
structure SameObj(w w':World)(b:Nat)(o':Obj):Prop where
 os:w'.os=w.os
 tape:w'.tape=w.tape
 output:w'.output=w.output
 size:w'.heap.size=w.heap.size
 here:w'.heap[b]?=some o'
 others:∀k,k≠b->w'.heap[k]?=w.heap[k]?
section
variable{P:Program}{G:Gl}{w0:Base}{C:Ctx}{H:Hp}{w w':World}{O:Nat->Prop}{r:Nat}{b o:Nat}{x y:Row}{o':Obj}
def Keep.same_obj{B:Base}(h:Keep B w)(a:SameObj w w' b o')(c:B.own b):Keep B w':=
 ⟨a.os.trans h.os,a.tape.trans h.tape,a.output.trans h.output,by rw[a.size];exact h.size,λk hk d=>(a.others k (λe=>by
  subst e;rcases c with c|c
  ·omega
  ·exact d c)).trans (h.block k hk d)⟩
def SameObj.ext(c:SameObj w w' b o')(d:∀arr T fz,w.heap[b]?≠some (.cells arr T fz))(j:∀i,¬C.F b i)(g:¬C.B b):Ext O C w C w':=
 ⟨λ_ _=>rfl,λ_ _ h=>h,λk i h=>l0s (c.others k (λe=>j i (e▸h))),λ_ h=>h,λk h=>c.others k (λe=>g (e▸h)),
  λk a t f h=>⟨a,f,(c.others k (λe=>d a t f (e▸h))).trans h,rfl⟩,λ_ _ h=>.inl h,λ_ h=>.inl h,Nat.le_of_eq c.size.symm⟩
def Rel.set_obj(h:Rel G w0 C H w)(n:Al H r=some x)(D:C.π r=some (some (b,o)))(j:SameObj w w' b o')(m:∀arr T fz,w.heap[b]?≠some (.cells arr T fz))(Q:Ext (λ_=>False) C w C w'->Sf C w' r y):Rel G w0 C (upd H r y) w'/\Ext O C w C w':=by
 have a:=h.own r x b o n D;have e:Ext O C w C w':=j.ext m a.2.1 a.2.2;have key:∀s z,Al (upd H r y) s=some z->(s=r/\z=y)\/(s≠r/\Al H s=some z):=λs z hz=>by
  by_cases f:s=r
  ·subst f;rw[Dk n]at hz;exact .inl ⟨rfl,(ZU hz).1.symm⟩
  ·rw[Ah f]at hz;exact .inr ⟨f,hz⟩
 have d:∀s z,Al (upd H r y) s=some z->∃g,Al H s=some g:=λs z hz=>by
  rcases key s z hz with⟨rfl,_⟩|⟨_,h⟩
  ·exact⟨x,n⟩
  ·exact⟨z,h⟩
 refine⟨⟨h.glob.mono e,h.below.same_obj j a.1,?_,?_,?_,?_,λk i L=>j.size▸h.fin k i L,λk K=>j.size▸h.finB k K,λk hk=>h.nx k (by rw[BV]at hk;exact hk)⟩,e⟩
 ·intro s z hz;obtain⟨g,c⟩:=d s z hz;exact h.lt s g c
 ·intro s z hz;rcases key s z hz with⟨rfl,rfl⟩|⟨q,hz⟩
  ·exact Q (j.ext m a.2.1 a.2.2)
  ·refine(h.rows s z hz).mono e (λk B hk=>j.others k (λJ=>?_));subst J;exact q (h.sep s r z x _ _ _ hz n hk D)
 ·intro s z k A hz hk;obtain⟨g,c⟩:=d s z hz;exact h.own s g k A c hk
 ·intro s F z g k A R hz c hk p;obtain⟨u,M⟩:=d s z hz;obtain⟨V,v⟩:=d F g c;exact h.sep s F u V k A R M v hk p
theorem SameObj.putObj{l:Nat}(c:l<w.heap.size)(a:Obj):SameObj w (w.putObj l a) l a:=
 ⟨rfl,rfl,rfl,by simp,World.putObj_heap_same c,λk hk=>World.putObj_heap_other (λe=>hk e)⟩
end
def uG:Tm->List Tmp->Is->Tm
 |t,p::ps,a::c=>uG ((p,a)::t) ps c
 |t,_,_=>t
def A4N{C:Ctx}{w:World}:∀(ps:List Tmp)(c:Is)(ys:Hx)(t:Tm)(tmps:Array Value),(∀p∈ps,p<tmps.size)->Cn C w c ys->V2 C w t tmps->
 V2 C w (uG t ps c) ((ps.zip ys).foldl (λt(p:Tmp×Value)=>t.setIfInBounds p.1 p.2) tmps)/\((ps.zip ys).foldl (λt(p:Tmp×Value)=>t.setIfInBounds p.1 p.2) tmps).size=tmps.size:=by
 intro ps
 induction ps with
 |nil=>intro c ys t tmps _ _ d;exact⟨d,rfl⟩
 |cons p ps ih=>
  intro c ys t tmps k j d;cases c with
  |nil=>rw[j.nil_inv];exact⟨d,rfl⟩
  |cons a c=>
   obtain⟨y,g,rfl,hv,e⟩:=j.cons_inv;simp only[List.zip_cons_cons,List.foldl_cons,uG];obtain⟨h1,h2⟩:=ih c g ((p,a)::t) (tmps.setIfInBounds p y) (λq hq=>by simpa using k q (by simp[hq])) e (λi=>by
    simp only[GY];by_cases h:i=p
    ·subst h;have f:i<tmps.size:=k i (by simp);rw[CZ rfl];simp[Zk,f];exact hv
    ·rw[Cr h];have:=d i;simp only[Zk]at this⊢;rw[Array.getElem?_setIfInBounds_ne (by omega)];exact this)
   exact⟨h1,by rw[h2];simp⟩
section
variable{P:Program}{G:Gl}{ro:Option Nat}{N:Nat}{t:Tm}{H:Hp}
def Rel.set_loop{w0:Base}{C:Ctx}{w:World}{r b:Nat}{f:Nat}{k:Tm}{ps:Array Tmp}{g i:Code}{a pend':Option (Option Code)}{O:Nat->Prop}(h:Rel G w0 C H w)(u:Al H r=some (.loop f k ps g i a))(j:C.π r=some (some (b,0))):
 ∃l:Loop,w.heap[b]?=some (.loop l)/\l.state=B1m a/\l.pending=a.join/\l.tmps.size=f/\l.params=ps/\l.assign=g/\l.body=i/\V2 C w k l.tmps/\
  ∀c:Loop,c.state=B1m pend'->c.pending=pend'.join->c.tmps=l.tmps->c.params=l.params->c.assign=l.assign->c.body=l.body->
   Rel G w0 C (upd H r (.loop f k ps g i pend')) (w.putObj b (.loop c))/\Ext O C w C (w.putObj b (.loop c)):=by
 obtain⟨v,l,h1,h2,B,D,m,n,p,q,s⟩:=h.rows r _ u;have e:=h1.symm.trans j;injection e with e;injection e with e;injection e with A M;subst A
 refine⟨l,h2,B,D,m,n,p,q,s,λc k1 F k3 J K L=>?_⟩;have d:=(l1q.1 h2).1;exact h.set_obj u j (SameObj.putObj d _) (λarr T fz hc=>by rw[h2]at hc;cases hc) (λe=>⟨v,c,j,World.putObj_heap_same d,k1,F,by rw[k3];exact m,J.trans n,K.trans p,L.trans q,by rw[k3];exact s.mono e⟩)
def Ctx.addB(C:Ctx)(b:Nat):Ctx:={C with B:=λk=>C.B k\/k=b}
theorem Rel.addB{w0:Base}{C:Ctx}{w:World}{b:Nat}(h:Rel G w0 C H w)(i:b<w.heap.size)(j:w0.own b)(hn:∀r x o,Al H r=some x->C.π r≠some (some (b,o))):Rel G w0 (C.addB b) H w/\Ext w0.own C w (C.addB b) w:=by
 have e:Ext w0.own C w (C.addB b) w:=⟨λ_ _=>rfl,λ_ _ h=>h,λ_ _ _=>rfl,λ_ h=>.inl h,λ_ _=>rfl,λ_ a _ f h=>⟨a,f,h,rfl⟩,λ_ _ h=>.inl h,λk h=>by rcases h with h|h;exact .inl h;exact .inr (h▸j),Oj _⟩
 refine⟨⟨h.glob,h.below,h.lt,λr x d=>(h.rows r x d).mono e (λ_ _ _=>rfl),λr x k o d g=>⟨(h.own r x k o d g).1,(h.own r x k o d g).2.1,λc=>?_⟩,h.sep,h.fin,λk c=>?_,h.nx⟩,e⟩
 ·rcases c with c|c
  ·exact(h.own r x k o d g).2.2 c
  ·subst c;exact hn r x o d g
 ·rcases c with c|c
  ·exact h.finB k c
  ·subst c;exact i
def B6M(Q:Exit->Tm->Hp->Prop)(t:Tm)(H:Hp):Option Code->Prop
 |none=>Q .normal t H
 |some .ret=>Q .ret t H
 |some (.exit id)=>Q (.exit id) t H
 |some (.goto l)=>Q (.goto l) t H
 |_=>False
def MN(w:World)(a:Obj):Below w.heap.size w (w.alloc a):=(Below.refl _ w).alloc (Oj _) _
end
section
variable{i j u:Nat}
def eK(ops:List Oper)(i j:Nat):Bool:=
 match ops[i]? with
 |some o=>o.after.toList.any λe=>Region.binds .any e&&Nat.beq e.on j
 |none=>false
def N0(ops:List Oper)(o:Oper):List Tmp:=
 (o.op.operands.toList.filterMap λ|.tmp t=>some t|_=>none)++
 (match o.guard with
  |some (g,_)=>((ops[g]?).bind (·.dst)).toList
  |none=>[])
def oD(ops:List Oper)(x y:Oper):Bool:=
 (match x.dst with|some d=>(N0 ops y).elem d||y.dst==some d|none=>false)||(match y.dst with|some d=>(N0 ops x).elem d|none=>false)
inductive Rch(ops:List Oper):Nat->Nat->Prop
 |one {i j:Nat} (h:eK ops i j=true):Rch ops i j
 |more {i k j:Nat} (h:eK ops i k=true) (h':Rch ops k j):Rch ops i j
def eJ{ops:List Oper}:eK ops i j=true↔∃o,ops[i]?=some o/\∃e∈o.after.toList,Region.binds .any e=true/\e.on=j:=by
 unfold eK;cases ops[i]? with
 |none=>simp
 |some o=>simp only[List.any_eq_true,J2,kY,l0y,exists_eq_left']
def Rch.mem{ops:List Oper}{L:Nat->Bool}(a:∀i j,L i=true->eK ops i j=true->L j=true)(h:Rch ops i j):L i=true->L j=true:=by
 induction h with
 |one h=>intro c;exact a _ _ c h
 |more h _ ih=>intro c;exact ih (a _ _ c h)
def Rch.mem'{ops:List Oper}{L:Nat->Bool}(a:∀i j,L i=true->eK ops i j=true->L j=true)(hr:∀j,eK ops i j=true->L j=true)(h:Rch ops i j):L j=true:=by
 cases h with
 |one h=>exact hr _ h
 |more h c=>exact c.mem a (hr _ h)
def C0n(acc:Hb)(es:List Edge):Nat:=es.foldl (λm e=>if Region.binds .any e then Nat.lor m (Nat.lor (Nat.pow 2 e.on) (acc.getD e.on 0)) else m) 0
def gN:Hb->List Oper->Hb
 |acc,[]=>acc
 |acc,o::l=>gN (acc++[C0n acc o.after.toList]) l
def Sv(ops:List Oper):Hb:=gN [] ops
def A21{acc:Hb}{ops:List Oper}{o:Oper}(r:ops[i]?=some o)(d:∀k j,(acc.getD k 0).testBit j=true->Rch ops k j):
 ∀(es:List Edge),(∀e∈es,e∈o.after.toList)->∀m:Nat,(∀j,m.testBit j=true->Rch ops i j)->∀j,(es.foldl (λm e=>if Region.binds .any e then Nat.lor m (Nat.lor (Nat.pow 2 e.on) (acc.getD e.on 0)) else m) m).testBit j=true->Rch ops i j:=by
 intro es
 induction es with
 |nil=>intro _ m hm j c;exact hm j c
 |cons e es ih=>
  intro f m hm;refine ih (λp g=>f p (by simp[g])) _ ?_;intro j c;simp only at c;split at c
  ·rename_i hb;have n:eK ops i e.on=true:=eJ.2 ⟨o,r,e,f e (by simp),hb,rfl⟩;have h:∀a b:Nat,Nat.lor a b=a|||b:=λ_ _=>rfl
   have q:∀a b:Nat,Nat.pow a b=a^b:=λ_ _=>rfl;rw[h,h,q,Nat.testBit_or,Nat.testBit_or,Nat.testBit_two_pow]at c;simp only[l1d,decide_eq_true_eq]at c;rcases c with c|c|c
   ·exact hm j c
   ·subst c;exact .one n
   ·exact .more n (d _ _ c)
  ·exact hm j c
def qC{ops:List Oper}:∀(l:List Oper)(acc:Hb),ops.drop acc.length=l->acc.length<=ops.length->(∀k j,(acc.getD k 0).testBit j=true->Rch ops k j)->∀k j,((gN acc l).getD k 0).testBit j=true->Rch ops k j:=by
 intro l
 induction l with
 |nil=>intro acc _ _ h;exact h
 |cons o l ih=>
  intro acc d f a;have e:ops[acc.length]?=some o:=by
   have:=congrArg (λl=>l[0]?) d;simpa using this
  have g:acc.length<ops.length:=(uZ.1 e).1;refine ih _ ?_ (by simp;omega) ?_
  ·rw[EJ,List.length_singleton];have:=congrArg (List.drop 1) d;simpa [Nat.add_comm] using this
  ·intro k j c;rcases Nat.lt_trichotomy k acc.length with hk|hk|hk
   ·rw[T9,l0l hk,<-T9]at c;exact a k j c
   ·subst hk;rw[T9,l0n (Oj _)]at c;simp at c;exact A21 e a _ (λ_ h=>h) 0 (by simp) j c
   ·rw[T9,l0n (by omega),l1e (by simp;omega)]at c;simp at c
def OG{ops:List Oper}{k j:Nat}(h:((Sv ops).getD k 0).testBit j=true):Rch ops k j:=
 qC ops [] rfl (D! _) (λk j h=>by simp at h) k j h
def tb(m j:Nat):Bool:=Nat.beq (Nat.land (Nat.shiftRight m j) 1) 1
def uJ(m j:Nat):tb m j=m.testBit j:=by
 unfold tb Nat.testBit;have e:Nat.land (Nat.shiftRight m j) 1=(m>>>j)&&&1:=rfl;rw[e,Nat.and_comm,Nat.one_and_eq_mod_two];rcases Nat.mod_two_eq_zero_or_one (m>>>j) with h|h<;>rw[h]<;>rfl
def iS(ms:Hb):Hb->Bool
 |[]=>true
 |[_]=>true
 |a::b::l=>Nat.blt a b&&tb (ms.getD b 0) a&&iS ms (b::l)
def A4f:Nat->List Oper->Bool
 |_,[]=>true
 |i,o::l=>o.after.toList.all (λe=>!Region.binds .any e||Nat.blt e.on i)&&A4f (i+1) l
def lQ(ops:List Oper)(m:Nat)(o:Oper):Nat->List Oper->Bool
 |_,[]=>true
 |j,p::l=>(!oD ops p o||tb m j)&&lQ ops m o (j+1) l
def B2g(ops:List Oper)(ms:Hb):Nat->List Oper->Bool
 |_,[]=>true
 |i,o::l=>lQ ops (ms.getD i 0) o 0 (ops.take i)&&B2g ops ms (i+1) l
def uO(ops:List Oper)(efs:Hb):Bool:=
 A4f 0 ops&&B2g ops (Sv ops) 0 ops&&iS (Sv ops) efs&&efs.all λe=>Nat.blt e ops.length
structure RegOk(ops:List Oper)(efs:Hb):Prop where
 back:∀(i j:Nat),eK ops i j=true->j<i
 ord:∀(i j:Nat)(o p:Oper),j<i->ops[i]?=some o->ops[j]?=some p->(∃d,p.dst=some d/\(d∈N0 ops o\/o.dst=some d))\/(∃d,o.dst=some d/\d∈N0 ops p)->Rch ops i j
 chain:∀(a e e':Nat),efs[a]?=some e->efs[a+1]?=some e'->Rch ops e' e
 inj:∀(a a' e:Nat),efs[a]?=some e->efs[a']?=some e->a=a'
 lt:∀(a e:Nat),efs[a]?=some e->e<ops.length
def wA{ms:Hb}:∀{l:Hb},iS ms l=true->∀(a c e d:Nat),a<c->l[a]?=some e->l[c]?=some d->e<d:=by
 intro l
 induction l with
 |nil=>intro _ a c e d _ h;simp at h
 |cons x l ih=>
  intro h a c e d f h1 h2;cases l with
  |nil=>
   cases c with
   |zero=>omega
   |succ c=>simp at h2
  |cons y l=>
   simp only[iS,J2,VD]at h;cases c with
   |zero=>omega
   |succ c=>
    cases a with
    |zero=>
     simp at h1;subst h1;cases c with
     |zero=>simp at h2;subst h2;exact h.1.1
     |succ c=>exact Nat.lt_trans h.1.1 (ih h.2 0 (c+1) y d (by omega) (by simp) (by simpa using h2))
    |succ a=>exact ih h.2 a c e d (by omega) (by simpa using h1) (by simpa using h2)
def A2N{ops:List Oper}:∀{l:Hb},iS (Sv ops) l=true->∀(a e c:Nat),l[a]?=some e->l[a+1]?=some c->Rch ops c e:=by
 intro l
 induction l with
 |nil=>intro _ a e c h;simp at h
 |cons x l ih=>
  intro h a e c h1 h2;cases l with
  |nil=>simp at h2
  |cons y l=>
   simp only[iS,J2,uJ]at h;cases a with
   |zero=>simp at h1 h2;subst h1 h2;exact OG h.1.2
   |succ a=>exact ih h.2 a e c (by simpa using h1) (by simpa using h2)
def A2R:∀(l:List Oper)(i:Nat),A4f i l=true->∀(k:Nat)(o:Oper),l[k]?=some o->∀e∈o.after.toList,Region.binds .any e=true->e.on<i+k:=by
 intro l
 induction l with
 |nil=>intro i _ k o h;simp at h
 |cons p l ih=>
  intro i h k o a e he hb;simp only[A4f,J2,G8]at h;cases k with
  |zero=>
   simp at a;subst a;have:=h.1 e he;simpa [hb,VD] using this
  |succ k=>
   have:=ih (i+1) h.2 k o (by simpa using a) e he hb;omega
def xD{ops:List Oper}{m:Nat}{o:Oper}:∀(l:List Oper)(j:Nat),lQ ops m o j l=true->∀(k:Nat)(p:Oper),l[k]?=some p->oD ops p o=true->m.testBit (j+k)=true:=by
 intro l
 induction l with
 |nil=>intro j _ k p h;simp at h
 |cons q l ih=>
  intro j h k p a c;simp only[lQ,J2,l1d,yL,uJ]at h;cases k with
  |zero=>
   simp at a;subst a;rcases h.1 with h1|h1
   ·rw[c]at h1;cases h1
   ·exact h1
  |succ k=>
   have:=ih (j+1) h.2 k p (by simpa using a) c;rw[show j+(k+1)=j+1+k from by omega];exact this
def A59{ops:List Oper}:∀(l:List Oper)(i:Nat),B2g ops (Sv ops) i l=true->∀(k:Nat)(o:Oper),l[k]?=some o->∀(j:Nat)(p:Oper),j<i+k->ops[j]?=some p->oD ops p o=true->Rch ops (i+k) j:=by
 intro l
 induction l with
 |nil=>intro i _ k o h;simp at h
 |cons q l ih=>
  intro i h k o a j p e c d;simp only[B2g,J2]at h;cases k with
  |zero=>
   simp at a;subst a;have:=xD _ 0 h.1 j p (by rw[tM,CZ (by simpa using e)];exact c) d;rw[Kk]at this;exact OG this
  |succ k=>
   have:=ih (i+1) h.2 k o (by simpa using a) j p (by omega) c d;rw[show i+(k+1)=i+1+k from by omega];exact this
def oI{ops:List Oper}{efs:Hb}(h:uO ops efs=true):RegOk ops efs:=by
 simp only[uO,J2,G8]at h;obtain⟨⟨⟨v,h1⟩,h2⟩,w⟩:=h;refine⟨λi j g=>?_,λi j o p x r y A=>?_,A2N h2,λa n e g k=>?_,λa e g=>?_⟩
 ·obtain⟨o,r,e,he,hb,rfl⟩:=eJ.1 g;have:=A2R ops 0 v i o r e he hb;omega
 ·have s:oD ops p o=true:=by
   unfold oD;rcases A with⟨d,q,f⟩|⟨d,q,f⟩
   ·rw[q];rcases f with f|f
    ·simp[f]
    ·simp[f]
   ·rw[q];simp[f]
  have:=A59 ops 0 h1 i o r j p (by omega) y s
  rwa[Kk]at this
 ·rcases Nat.lt_trichotomy a n with c|c|c
  ·exact absurd (wA h2 a n e e c g k) (l1g _)
  ·exact c
  ·exact absurd (wA h2 n a e e c k g) (l1g _)
 ·have:=w e (l1h g);simpa [VD] using this
def HS(ops:List Oper)(val:Nat->AV)(t:Tm)(L:Nat->Bool):Nat->Tm
 |0=>t
 |j+1=>match L j,ops[j]? with
  |true,some o=>QH (HS ops val t L j) o.dst (val j)
  |_,_=>HS ops val t L j
def TJ{t:Tm}{d:Option Tmp}{v:AV}:GY (QH t d v) u=if d=some u then v else GY t u:=by
 cases d with
 |none=>simp[QH]
 |some d=>
  simp only[QH,GY];by_cases h:u=d
  ·simp[h]
  ·rw[Cr h,Cr (λe=>h (by injection e with e;exact e.symm))]
section
variable{ops:List Oper}{efs:Hb}{val:Nat->AV}{t:Tm}{L:Nat->Bool}
def A1r(hk:RegOk ops efs)(c:∀i j,L i=true->eK ops i j=true->L j=true){o:Oper}(r:ops[i]?=some o)(hr:∀j,eK ops i j=true->L j=true)(e:L i=false)(s:u∈N0 ops o)(n:Nat)(hn:i<=n):
 GY (HS ops val t L n) u=GY (HS ops val t (λ_=>true) i) u:=by
 have h1:∀j,j<=i->GY (HS ops val t L j) u=GY (HS ops val t (λ_=>true) j) u:=by
  intro j
  induction j with
  |zero=>intro _;rfl
  |succ j ih=>
   intro v;have:=ih (by omega);simp only[HS];cases d:ops[j]? with
   |none=>cases L j<;>simpa [d] using this
   |some p=>
    by_cases a:p.dst=some u
    ·have g:=hk.ord i j o p (by omega) r d (.inl ⟨u,a,.inl s⟩);rw[g.mem' c hr];simp only[TJ,CZ a]
    ·cases f:L j
     ·simp only[TJ,Cr a];exact this
     ·simp only[TJ,Cr a];exact this
 have h2:∀j,i<=j->GY (HS ops val t L j) u=GY (HS ops val t L i) u:=by
  intro j
  induction j with
  |zero=>
   intro h;have:i=0:=by omega
   subst this;rfl
  |succ j ih=>
   intro v;by_cases q:i=j+1
   ·subst q;rfl
   ·have:=ih (by omega);simp only[HS];cases d:ops[j]? with
    |none=>cases L j<;>simpa [d] using this
    |some p=>
     cases f:L j
     ·simpa using this
     ·simp only[TJ];by_cases a:p.dst=some u
      ·exfalso;by_cases k:i=j
       ·subst k;rw[f]at e;cases e
       ·have g:=hk.ord j i p o (by omega) d r (.inr ⟨u,a,s⟩);rw[g.mem c f]at e;cases e
      ·rw[Cr a];exact this
 rw[h2 n hn,h1 i (Oj _)]
def A6U(hk:RegOk ops efs)(f:∀i j,L i=true->eK ops i j=true->L j=true){o:Oper}(r:ops[i]?=some o)(g:L i=false)(u:Nat)(n:Nat)(hn:i<n):
 GY (QH (HS ops val t L n) o.dst (val i)) u=GY (HS ops val t (λk=>if k=i then true else L k) n) u:=by
 have h1:∀j,j<=i->HS ops val t (λk=>if k=i then true else L k) j=HS ops val t L j:=by
  intro j
  induction j with
  |zero=>intro _;rfl
  |succ j ih=>
   intro x;have a:j≠i:=by omega
   simp only[HS,Cr a,ih (by omega)]
 have h2:∀j,i<j->GY (QH (HS ops val t L j) o.dst (val i)) u=GY (HS ops val t (λk=>if k=i then true else L k) j) u:=by
  intro j
  induction j with
  |zero=>intro h;omega
  |succ j ih=>
   intro x;by_cases d:i=j
   ·subst d;simp only[HS,g,if_true,r,h1 i (Oj _)]
   ·have:=ih (by omega);have a:j≠i:=λe=>d e.symm;simp only[HS,Cr a];cases s:ops[j]? with
    |none=>cases L j<;>simpa [s] using this
    |some p=>
     cases v:L j
     ·simpa using this
     ·simp only[TJ]at this⊢;by_cases c:p.dst=some u
      ·have q:o.dst≠some u:=λh=>by
        have w:=hk.ord j i p o (by omega) s r (.inl ⟨u,h,.inr c⟩);rw[w.mem f v]at g;cases g
       rw[Cr q,CZ c,CZ c]
      ·rw[Cr c,Cr c];exact this
 exact h2 n hn
end
def HU(ops:List Oper)(o:Oper)(t:Tm):Tm:=(N0 ops o).map λu=>(u,GY t u)
def A1o{ops:List Oper}{o:Oper}{t:Tm}(u:Nat):GY (HU ops o t) u=.dk\/(u∈N0 ops o/\GY (HU ops o t) u=GY t u):=by
 unfold HU
 induction N0 ops o with
 |nil=>exact .inl rfl
 |cons x l ih=>
  simp only[VC,GY];by_cases h:u=x
  ·subst h;rw[CZ rfl];exact .inr ⟨by simp,rfl⟩
  ·rw[Cr h];rcases ih with ih|⟨h1,h2⟩
   ·exact .inl ih
   ·exact .inr ⟨List.mem_cons_of_mem _ h1,h2⟩
def C08(ops:List Oper)(efs:Hb)(i m:Nat):Prop:=(∀(a e:Nat),efs[a]?=some e->Rch ops i e->a<m)/\(∀(a e:Nat),efs[a]?=some e->Rch ops e i->m<=a)
def B3D(P:Program)(G:Gl)(ro:Option Nat)(N:Nat)(ops:List Oper)(o:Oper)(t:Tm)(H:Hp)(v:AV)(c:Hp):Prop:=
 ((Gn ops t o=.run\/Gn ops t o=.dep true)/\SH P G ro N o t H (λd a=>d=v/\a=c))\/((Gn ops t o=.skip\/Gn ops t o=.dep false)/\v=.v undef/\c=H)
section
variable{P:Program}{G:Gl}{ro:Option Nat}{m N:Nat}{Q:Exit->Tm->Hp->Prop}{t:Tm}
def St.congr{w0:Base}{s0:Nat}{C:Ctx}{c:Tm}{H:Hp}{a:Act}{w:World}(s:St G w0 s0 C N t H a w)(h:∀u,GY c u=GY t u\/GY c u=.dk):St G w0 s0 C N c H a w:=
 ⟨s.rel,s.size,λu=>by
  rcases h u with e|e
  ·rw[e];exact s.tmps u
  ·rw[e];exact .dk _,s.defers,s.le⟩
def Uo(L:Nat->Bool):Nat->Nat
 |0=>0
 |j+1=>Uo L j+(if L j then 0 else 1)
def A9B{L:Nat->Bool}(e:L i=false):∀n,Uo (λk=>if k=i then true else L k) n+(if i<n then 1 else 0)=Uo L n:=by
 intro n
 induction n with
 |zero=>simp[Uo]
 |succ n ih=>
  have c:Uo (λk=>if k=i then true else L k) (n+1)=Uo (λk=>if k=i then true else L k) n+(if(if n=i then true else L n)=true then 0 else 1):=rfl;have d:Uo L (n+1)=Uo L n+(if L n=true then 0 else 1):=rfl;rw[c,d];generalize Uo (λk=>if k=i then true else L k) n=x at*;generalize Uo L n=y at*;by_cases h:n=i
  ·subst h;rw[Cr (l1g _)]at ih;rw[CZ rfl,CZ rfl,CZ (Nat.lt_succ_self _),e,Cr (by simp)];omega
  ·rw[Cr h];by_cases a:i<n
   ·rw[CZ a]at ih;rw[CZ (by omega:i<n+1)];omega
   ·rw[Cr a]at ih;rw[Cr (by omega:¬i<n+1)];omega
def vZ{L:Nat->Bool}:∀{n:Nat},Uo L n=0->∀i,i<n->L i=true:=by
 intro n
 induction n with
 |zero=>intro _ i h;omega
 |succ n ih=>
  intro h i c;simp only[Uo]at h;by_cases e:i=n
  ·subst e;by_cases a:L i=true
   ·exact a
   ·simp[a]at h
  ·exact ih (by omega) i (by omega)
def A9C{L:Nat->Bool}:∀{n:Nat},0<Uo L n->∃i,i<n/\L i=false/\∀j,j<i->L j=true:=by
 intro n
 induction n with
 |zero=>intro h;simp[Uo]at h
 |succ n ih=>
  intro h;by_cases f:0<Uo L n
  ·obtain⟨i,h1,h2,c⟩:=ih f;exact⟨i,by omega,h2,c⟩
  ·have a:Uo L n=0:=by omega
   simp only[Uo,a]at h;refine⟨n,by omega,?_,λj d=>vZ a j d⟩;cases e:L n
   ·rfl
   ·simp[e]at h
def A6V{ops:List Oper}{val:Nat->AV}{L:Nat->Bool}:∀{n:Nat},(∀i,i<n->L i=true)->HS ops val t L n=HS ops val t (λ_=>true) n:=by
 intro n
 induction n with
 |zero=>intro _;rfl
 |succ n ih=>
  intro h;simp only[HS,h n (by omega),ih (λi a=>h i (by omega))]
def A0G{id:Nat}{ops:List Oper}{efs:Hb}{val:Nat->AV}{Hs:Nat->Hp}(hm:P.follows .mixedOrders=true)(hk:RegOk ops efs)(hd:∀o∈ops,dok N o.dst)(a3:∀(i:Nat)(o:Oper),ops[i]?=some o->(∀a:Nat,efs[a]?≠some i)->∀k,k<=efs.length->C08 ops efs i k->B3D P G ro N ops o (HU ops o (HS ops val t (λ_=>true) i)) (Hs k) (val i) (Hs k))(ax:∀(a i:Nat)(o:Oper),ops[i]?=some o->efs[a]?=some i->B3D P G ro N ops o (HU ops o (HS ops val t (λ_=>true) i)) (Hs a) (val i) (Hs (a+1)))(hq:Q .normal (HS ops val t (λ_=>true) ops.length) (Hs efs.length)):Pz P G ro m N (.region id ops.toArray true) Q t (Hs 0):=by
 intro w0 s0 R a w s;refine wpIn_region_any hm ?_;have key:∀(f:Nat)(Ls:Array Bool)(C:Ctx)(a:Act)(w1:World)(k:Nat),Ls.size=ops.length->Uo (λi=>Ls.getD i false) ops.length=f->(∀i j,Ls.getD i false=true->eK ops i j=true->Ls.getD j false=true)->
  k<=efs.length->(∀(b e:Nat),efs[b]?=some e->(Ls.getD e false=true↔b<k))->St G w0 s0 C N (HS ops val t (λi=>Ls.getD i false) ops.length) (Hs k) a w1->Frm m w0.own R w C w1->
  wpAnyIn (Fe ro) 0 P .any ops.toArray (LM G w0 s0 m R N w Q) f Ls a w1:=by
  intro f
  induction f with
  |zero=>
   intro Ls C a w1 k hsz hc g ad d J ab;have A:=vZ hc;have ay:k=efs.length:=by
    rcases Nat.lt_or_ge k efs.length with h|h
    ·exfalso;have:=(d k _ (JC h)).1 (A _ (hk.lt k _ (JC h)));omega
    ·omega
   refine⟨?_,⟨C,_,_,J,ab,?_⟩⟩
   ·unfold Region.ready;rw[List.filter_eq_nil_iff];intro i K;simp only[List.size_toArray,JM]at K;have h1:=A i K;have:Ls.getD i true=true:=by
     simp only[Zk]at h1⊢;rw[l1k (by omega)]at h1⊢;exact h1
    simp[this]
   ·rw[ay,A6V A];exact hq
  |succ f ih=>
   intro Ls C a w1 k hsz hc g ad d J ab;have V:∀i,i<ops.length->Ls.getD i true=Ls.getD i false:=λi K=>by
    simp only[Zk];rw[l1k (by omega)];rfl
   refine⟨λai=>?_,λi K=>?_⟩
   ·exfalso;obtain⟨i,h1,h2,h3⟩:=A9C (L:=λi=>Ls.getD i false) (n:=ops.length) (by omega);have:i∈Region.ready .any ops.toArray Ls:=by
     unfold Region.ready;rw[l2u];refine⟨by simpa using h1,?_⟩;simp only[V i h1,h2,Bool.not_false,D_,l10,JC h1,rT,l1l];rw[Array.all_eq_true_iff_forall_mem];intro e he;cases hb:Region.binds .any e
     ·rfl
     ·simp only[Bool.not_true,Bool.false_or];exact h3 e.on (hk.back i e.on (eJ.2 ⟨_,JC h1,e,by simpa using he,hb,rfl⟩))
    rw[ai]at this;simp at this
   ·unfold Region.ready at K;rw[l2u]at K;obtain⟨p,aj⟩:=K;simp only[List.size_toArray,JM]at p;have M:ops[i]?=some ops[i]:=JC p;generalize ops[i]=o at M;simp only[V i p,l10,M,rT,l1l,J2,yL]at aj;obtain⟨r,af⟩:=aj;rw[Array.all_eq_true_iff_forall_mem]at af;have hr:∀j,eK ops i j=true->Ls.getD j false=true:=λj hj=>by
     obtain⟨o',O,e,he,hb,rfl⟩:=eJ.1 hj;rw[M]at O;injection O with O;subst O
     have:=af e (by simpa using he);simpa [hb] using this
    have c:∀k,(Ls.setIfInBounds i true).getD k false=if k=i then true else Ls.getD k false:=by
     intro k;simp only[Zk,Array.getElem?_setIfInBounds];by_cases h:i=k
     ·subst h;simp[hsz,p]
     ·rw[Cr h,Cr (λe=>h e.symm)]
    have X:(λk=>(Ls.setIfInBounds i true).getD k false)= λk=>if k=i then true else Ls.getD k false:=funext c
    have Y:St G w0 s0 C N (HU ops o (HS ops val t (λ_=>true) i)) (Hs k) a w1:=J.congr λu=>by
     rcases A1o (ops:=ops) (o:=o) (t:=HS ops val t (λ_=>true) i) u with h|⟨h1,h2⟩
     ·exact .inr h
     ·exact .inl (by rw[h2];exact(A1r hk g M hr r h1 ops.length (by omega)).symm)
    have ar:=hd o (l1h M);have next:∀(q:Nat)(C':Ctx)(y:Value)(Z:World),(q=k/\(∀b:Nat,efs[b]?≠some i)\/q=k+1/\efs[k]?=some i)->VRel C' Z (val i) y->Rel G w0 C' (Hs q) Z->Ext w0.own C w1 C' Z->
     wpAnyIn (Fe ro) 0 P .any ops.toArray (LM G w0 s0 m R N w Q) f (Ls.setIfInBounds i true) (a.put o.dst y) Z:=by
     intro q C' y Z D hv F e;refine ih (Ls.setIfInBounds i true) C' _ Z q (by simpa using hsz) ?_ ?_ ?_ ?_ ?_ (ab.trans e.frm)
     ·rw[X];have:=A9B (L:=λk=>Ls.getD k false) r ops.length;rw[CZ p]at this;omega
     ·intro x y hx ao;rw[c x]at hx;rw[c y];split
      ·rfl
      ·by_cases am:x=i
       ·subst am;exact hr y ao
       ·rw[Cr am]at hx;exact g x y hx ao
     ·rcases D with⟨rfl,_⟩|⟨rfl,h⟩
      ·exact ad
      ·exact(uZ.1 h).1
     ·intro b e' hb;rw[c e'];rcases D with⟨rfl,h⟩|⟨rfl,h⟩
      ·rw[Cr (λe:e'=i=>h b (by rw[hb,e]))];exact d b e' hb
      ·by_cases aa:e'=i
       ·subst aa;have:=hk.inj b k _ hb h;simp[this]
       ·rw[Cr aa,d b e' hb];have:b≠k:=λe=>aa (by rw[e,h]at hb;injection hb with hb;exact hb.symm);omega
     ·exact(A1t J F e hv ar).congr λu=>.inl (by rw[X];exact(A6U hk g M r u ops.length p).symm)
    have fin:∀(q:Nat),(q=k/\(∀b:Nat,efs[b]?≠some i)\/q=k+1/\efs[k]?=some i)->B3D P G ro N ops o (HU ops o (HS ops val t (λ_=>true) i)) (Hs k) (val i) (Hs q)->
     wpOpIn (Fe ro) 0 P ops.toArray (LM G w0 s0 m R N w Q) i (wpAnyIn (Fe ro) 0 P .any ops.toArray (LM G w0 s0 m R N w Q) f (Ls.setIfInBounds i true)) a w1:=by
     intro q D hG;have hg:=rJ Y.tmps ops o;unfold wpOpIn;simp only[l10,M];rcases hG with⟨ac,hA⟩|⟨ac,ak,hH⟩
     ·have hw:Region.wanted o (yielded ops.toArray a.tmps)=true:=by
       rcases ac with h|h
       ·exact hg.1 h
       ·exact hg.2.2 _ h
      rw[CZ hw];refine Rj ?_ (hA w0 s0 C a w1 _ Y);rintro a' Z ⟨v,y,C',H',rfl,⟨rfl,rfl⟩,hv,F,e⟩;exact next q C' y Z D hv F e
     ·have hw:Region.wanted o (yielded ops.toArray a.tmps)=false:=by
       rcases ac with h|h
       ·exact hg.2.1 h
       ·exact hg.2.2 _ h
      rw[Cr (by rw[hw];simp)];exact⟨λ_ _=>trivial,next q C undef w1 D (by rw[ak];exact .v _) (by rw[hH];exact J.rel) (.refl _ _ _)⟩
    by_cases K:∃b:Nat,efs[b]?=some i
    ·obtain⟨b,hb⟩:=K;have ap:b=k:=by
      have h1:¬b<k:=λh=>by
       have:=(d b i hb).2 h;rw[r]at this;cases this
      rcases Nat.eq_zero_or_pos b with h0|h0
      ·omega
      ·have ag:b-1<efs.length:=by have:=(uZ.1 hb).1;omega
       have aq:=hk.chain (b-1) _ i (JC ag) (by rw[Nat.sub_add_cancel h0];exact hb);have:=(d (b-1) _ (JC ag)).1 (aq.mem' (L:=λi=>Ls.getD i false) g hr);omega
     subst ap;exact fin (b+1) (.inr ⟨rfl,hb⟩) (ax b i o M hb)
    ·have ah:∀b:Nat,efs[b]?≠some i:=λb hb=>K ⟨b,hb⟩;refine fin k (.inl ⟨rfl,ah⟩) (a3 i o M ah k ad ⟨λb e hb ha=>(d b e hb).1 (ha.mem' (L:=λi=>Ls.getD i false) g hr),λb e hb ha=>?_⟩);rcases Nat.lt_or_ge b k with h|h
     ·have:=ha.mem (L:=λi=>Ls.getD i false) g ((d b e hb).2 h);simp only[r]at this;cases this
     ·exact h
 have H:(λi=>(Array.replicate ops.length false).getD i false)= λ_=>false:=by
  funext i
  simp only[Zk,Array.getElem?_replicate];split<;>rfl
 have az:∀n,HS ops val t (λ_=>false) n=t:=by
  intro n
  induction n with
  |zero=>rfl
  |succ n ih=>simp only[HS];exact ih
 have ae:∀n,Uo (λ_=>false) n=n:=by
  intro n
  induction n with
  |zero=>rfl
  |succ n ih=>simp[Uo,ih]
 have hb:Below w.heap.size w {w with drawn:=w.drawn+1}:=A0E w _;have e0:Ext w0.own R w R {w with drawn:=w.drawn+1}:=s.rel.ext_below hb;have hz:∀i,(Array.replicate ops.length false).getD i false=false:=λi=>congrFun H i;have:=key ops.length (Array.replicate ops.length false) R a {w with drawn:=w.drawn+1} 0 (by simp) (by rw[H];exact ae _) (λi j h=>by rw[hz]at h;cases h) (D! _) (λb e _=>by rw[hz];simp) (by rw[H,az];exact⟨s.rel.of_below hb,s.size,s.tmps.mono e0,s.defers.mono e0.B e0.keepB,gP s.le e0.grow⟩) e0.frm;simpa using this
end
end
section
variable{r:AV×Hp}{α:Type}
def B9E:Unit:=()
def B9D:Unit:=B9E
def B9C:Unit:=B9D
def B9B:Unit:=B9C
def B9A:Unit:=B9B
def B9z:Unit:=B9A
def B9y:Unit:=B9z
def B9x:Unit:=B9y
def B9w:Unit:=B9x
def B9v:Unit:=B9w
def B6t:Unit:=B9v
def B6s:Unit:=B6t
def B6r:Unit:=B6s
def B6q:Unit:=B6r
def B6p:Unit:=B6q
def B6o:Unit:=B6p
def B6n:Unit:=B6o
def B6m:Unit:=B6n
def B6l:Unit:=B6m
def B6k:Unit:=B6l
def B6j:Unit:=B6k
def B6i:Unit:=B6j
def B6h:Unit:=B6i
def B6g:Unit:=B6h
def B6f:Unit:=B6g
def B6e:Unit:=B6f
def B6d:Unit:=B6e
def B6c:Unit:=B6d
def B6b:Unit:=B6c
def B6a:Unit:=B6b
def B69:Unit:=B6a
def B68:Unit:=B69
def B67:Unit:=B68
def B66:Unit:=B67
def B65:Unit:=B66
def B64:Unit:=B65
def B63:Unit:=B64
def B62:Unit:=B63
def B61:Unit:=B62
def B60:Unit:=B61
def B5Z:Unit:=B60
def B5Y:Unit:=B5Z
def B5X:Unit:=B5Y
def B5W:Unit:=B5X
def B5V:Unit:=B5W
def B5U:Unit:=B5V
def B5T:Unit:=B5U
def B5S:Unit:=B5T
def B5R:Unit:=B5S
def B5Q:Unit:=B5R
def B5P:Unit:=B5Q
def B5O:Unit:=B5P
def B5N:Unit:=B5O
def B5M:Unit:=B5N
def B5L:Unit:=B5M
def B5K:Unit:=B5L
def B5J:Unit:=B5K
def B5I:Unit:=B5J
def B5H:Unit:=B5I
def B5G:Unit:=B5H
def B5F:Unit:=B5G
def B5E:Unit:=B5F
def B5D:Unit:=B5E
def B5C:Unit:=B5D
def B5B:Unit:=B5C
def B5A:Unit:=B5B
def B5z:Unit:=B5A
def B5y:Unit:=B5z
def B5x:Unit:=B5y
def B5w:Unit:=B5x
def B5v:Unit:=B5w
def B5u:Unit:=B5v
def B5t:Unit:=B5u
def B5s:Unit:=B5t
def B5r:Unit:=B5s
def B5q:Unit:=B5r
def B5p:Unit:=B5q
def B5o:Unit:=B5p
def B5n:Unit:=B5o
def B5m:Unit:=B5n
def B5l:Unit:=B5m
def B5k:Unit:=B5l
def B5j:Unit:=B5k
def B5i:Unit:=B5j
def B5h:Unit:=B5i
def B5g:Unit:=B5h
def B5f:Unit:=B5g
def B5e:Unit:=B5f
def B5d:Unit:=B5e
def B5c:Unit:=B5d
def B5b:Unit:=B5c
def B5a:Unit:=B5b
def B59:Unit:=B5a
def B58:Unit:=B59
def B57:Unit:=B58
def B56:Unit:=B57
def B55:Unit:=B56
def B54:Unit:=B55
def B53:Unit:=B54
def B52:Unit:=B53
def B1l:Unit:=B52
def B1k:Unit:=B1l
def B1j:Unit:=B1k
def B1i:Unit:=B1j
def B1h:Unit:=B1i
def B1g:Unit:=B1h
def B1f:Unit:=B1g
def B1e:Unit:=B1f
def B1d:Unit:=B1e
def B1c:Unit:=B1d
def B1b:Unit:=B1c
def B1a:Unit:=B1b
def B19:Unit:=B1a
def B18:Unit:=B19
def B17:Unit:=B18
def B16:Unit:=B17
def B15:Unit:=B16
def B14:Unit:=B15
def B13:Unit:=B14
def B12:Unit:=B13
def Hf:Unit:=B12
abbrev Af:=Option (AV×Hp)
abbrev KV:=AV->Hp->Af
abbrev Ru:=Hp->Af
abbrev K2:=AV->Af
abbrev B07:=Nat->Is->Hp->KV->Af
inductive BT(α:Type) where
 |leaf
 |node (k:Nat) (v:α) (l r:BT α)
def BT.get:BT α->Nat->Option α
 |.leaf,_=>none
 |.node k v l r,i=>match Nat.beq i k with
  |true=>some v
  |false=>match Nat.blt i k with
   |true=>l.get i
   |false=>r.get i
def BT.getK(b:BT α):Nat->(α->Af)->Af:=
 (λ(_:Unit)=>@BT.rec α (λ_=>Nat->(α->Af)->Af) (λ_ _=>none)
  (λk v _ _ a c i K=>@Bool.rec (λ_=>Af) (@Bool.rec (λ_=>Af) (c i K) (a i K) (Nat.blt i k)) (K v) (Nat.beq i k)) b) Hf
def BT.getK_eq(b:BT α)(i:Nat)(K:α->Af):b.getK i K=match b.get i with|some v=>K v|none=>none:=by
 induction b with
 |leaf=>rfl
 |node k v l r a c=>
  simp only[BT.getK,BT.get];cases Nat.beq i k
  ·cases Nat.blt i k
   ·exact c
   ·exact a
  ·rfl
structure Cf where
 b:Bool
 lv:Hb
 fz:Bool
 n:Nat
 rc:List (Nat×List (Nat×Nat))
structure XFn where
 n:Nat
 rs:List ResultVar
 c:Code
 lv:Hb
 fz:Bool
 rc:List (Nat×List (Nat×Nat))
inductive LK where
 |int (k:IntKind)|str|bool
abbrev Lie:=Nat×Nat×Nat×Nat
structure XE where
 ft:BT XFn
 ty:BT TI
 gl:BT Is
 imp:Nat->Bool
 lf:Nat
 eqt:BT (List LK)
 lie:List Lie
 up:Nat
 ne:Nat->Bool
 lm:Nat->Bool
 ov:Nat->Bool
def fN(n:Nat)(K:Nat->Af):Af:=@Nat.rec (λ_=>Af) (K 0) (λm _=>K (Nat.succ m)) n
def fI(z:Int)(K:Int->Af):Af:=@Int.rec (λ_=>Af) (λn=>fN n λn=>K (.ofNat n)) (λn=>fN n λn=>K (.negSucc n)) z
def ck(b:Bool)(K:Af):Af:=@Bool.rec (λ_=>Af) none K b
def D5(n:Nat)(K:Nat->Af):fN n K=K n:=by cases n<;>rfl
def Ug(z:Int)(K:Int->Af):fI z K=K z:=by cases z<;>simp[fI,D5]
def ckS(b:Bool)(K:Af):Af:=(λ(_:Unit)=>@Bool.rec (λ_=>Af) none K b) Hf
def fNS(n:Nat)(K:Nat->Af):Af:=(λ(_:Unit)=>@Nat.rec (λ_=>Af) (K 0) (λm _=>K (Nat.succ m)) n) Hf
def RM(a:List α):List α->(List α->Af)->Af:=
 (λ(_:Unit)=>@List.rec α (λ_=>List α->(List α->Af)->Af) (λl K=>K l) (λx _ ih l K=>ih l λy=>K (x::y)) a) Hf
def A3V(l:List α):Nat->(Nat->Af)->Af:=(λ(_:Unit)=>@List.rec α (λ_=>Nat->(Nat->Af)->Af) (λn K=>K n) (λ_ _ ih n K=>ih (Nat.succ n) K) l) Hf
def A91(n:Nat)(K:Nat->Af):fNS n K=K n:=D5 n K
def I6(a l:List α):∀K:List α->Af,RM a l K=K (a++l):=by
 induction a with
 |nil=>intro K;rfl
 |cons x a ih=>intro K;exact ih _
def A8L(l:List α):∀(n:Nat)(K:Nat->Af),A3V l n K=K (n+l.length):=by
 induction l with
 |nil=>intro n K;rfl
 |cons a l ih=>
  intro n K;have:A3V (a::l) n K=A3V l (Nat.succ n) K:=rfl;rw[this,ih]
  congr 1
  simp;omega
def Br{b:Bool}{K:Af}(h:ck b K=some r):b=true/\K=some r:=by cases b;cases h;exact⟨rfl,h⟩
def KL{b:Bool}{K:Af}(h:ckS b K=some r):b=true/\K=some r:=Br h
def gtm(t:Tm):Nat->K2->Af:=
 (λ(_:Unit)=>@List.rec (Nat×AV) (λ_=>Nat->K2->Af) (λ_ K=>K .dk)
  (λp _ ih=>@Prod.rec Nat AV (λ_=>Nat->K2->Af) (λk v i K=>@Bool.rec (λ_=>Af) (ih i K) (K v) (Nat.beq i k)) p) t) Hf
def To(t:Tm)(i:Nat)(K:K2):gtm t i K=K (GY t i):=by
 induction t with
 |nil=>rfl
 |cons p t ih=>
  obtain⟨k,v⟩:=p;simp only[gtm,GY];cases h:Nat.beq i k
  ·rw[Cr (λe=>by rw[e,ZX]at h;cases h)];exact ih
  ·rw[CZ (Xz h)]
def IN(H:Hp):Nat->(Row->Af)->Af:=
 @List.rec (Nat×Row) (λ_=>Nat->(Row->Af)->Af) (λ_ _=>none)
  (λp _ ih=>@Prod.rec Nat Row (λ_=>Nat->(Row->Af)->Af) (λk v i K=>@Bool.rec (λ_=>Af) (ih i K) (K v) (Nat.beq i k)) p) H
def HC{H:Hp}{i:Nat}{K:Row->Af}(a:K .gone=none)(h:IN H i K=some r):∃x,Al H i=some x/\K x=some r:=by
 induction H with
 |nil=>cases h
 |cons p H ih=>
  obtain⟨k,v⟩:=p;simp only[IN]at h;simp only[Al];cases hb:Nat.beq i k
  ·rw[hb]at h;rw[Cr (λe=>by rw[e,ZX]at hb;cases hb)];exact ih h
  ·rw[hb]at h;rw[CZ (Xz hb)];cases v with
   |gone=>exact absurd (a▸h) (by simp)
   |_=>exact⟨_,rfl,h⟩
def JI(H:Hp):Nat->Row->Ru->Af:=
 @List.rec (Nat×Row) (λ_=>Nat->Row->Ru->Af) (λ_ _ K=>K [])
  (λp l ih=>@Prod.rec Nat Row (λ_=>Nat->Row->Ru->Af) (λk x r y K=>@Bool.rec (λ_=>Af) (ih r y λa=>K ((k,x)::a)) (K ((k,y)::l)) (Nat.beq r k)) p) H
def C5(H:Hp)(r:Nat)(y:Row):∀K:Ru,JI H r y K=K (upd H r y):=by
 induction H with
 |nil=>intro K;rfl
 |cons p H ih=>
  intro K;obtain⟨k,x⟩:=p;simp only[JI,upd];cases hb:Nat.beq r k
  ·rw[Cr (λe=>by rw[e,ZX]at hb;cases hb)];exact ih _
  ·rw[CZ (Xz hb)]
def HV(H:Hp)(K:Nat->Af):Af:=
 @List.rec (Nat×Row) (λ_=>Af) (K 0) (λp _ _=>@Prod.rec Nat Row (λ_=>Af) (λk _=>fN (Nat.succ k) K) p) H
def BW(H:Hp)(K:Nat->Af):HV H K=K (Ax H):=by
 cases H with
 |nil=>rfl
 |cons p H=>obtain⟨k,x⟩:=p;exact D5 (k+1) K
def WX(a:List α):List α->(List α->Af)->Af:=
 @List.rec α (λ_=>List α->(List α->Af)->Af) (λl K=>K l) (λx _ ih l K=>ih l λy=>K (x::y)) a
def LR(a l:List α):∀K:List α->Af,WX a l K=K (a++l):=by
 induction a with
 |nil=>intro K;rfl
 |cons x a ih=>intro K;exact ih _
def D0(n:Nat):List α->List α:=
 @Nat.rec (λ_=>List α->List α) (λl=>l) (λ_ ih l=>@List.rec α (λ_=>List α) [] (λ_ l _=>ih l) l) n
def C9(n:Nat):∀l:List α,D0 n l=l.drop n:=by
 induction n with
 |zero=>intro l;rfl
 |succ n ih=>
  intro l;cases l with
  |nil=>rfl
  |cons a l=>exact ih l
def RK(n:Nat):List α->(List α->Af)->Af:=
 @Nat.rec (λ_=>List α->(List α->Af)->Af) (λ_ K=>K []) (λ_ ih l K=>@List.rec α (λ_=>Af) (K []) (λa l _=>ih l λc=>K (a::c)) l) n
def NB(n:Nat):∀(l:List α)(K:List α->Af),RK n l K=K (l.take n):=by
 induction n with
 |zero=>intro l K;rfl
 |succ n ih=>
  intro l K;cases l with
  |nil=>rfl
  |cons a l=>exact ih l _
def HD(l:List α):Nat->(Nat->Af)->Af:=@List.rec α (λ_=>Nat->(Nat->Af)->Af) (λn K=>K n) (λ_ _ ih n K=>fN (Nat.succ n) λm=>ih m K) l
def Cs(l:List α):∀(n:Nat)(K:Nat->Af),HD l n K=K (n+l.length):=by
 induction l with
 |nil=>intro n K;rfl
 |cons a l ih=>
  intro n K;have:HD (a::l) n K=fN (Nat.succ n) λm=>HD l m K:=rfl;rw[this,D5,ih]
  congr 1
  simp;omega
def B2S(vs:Is):Is->(Is->Af)->Af:=
 @List.rec AV (λ_=>Is->(Is->Af)->Af) (λl K=>K l) (λv _ ih l K=>@List.rec AV (λ_=>Af) none (λ_ l _=>ih l λa=>K (v::a)) l) vs
def A5o(vs:Is):∀(l:Is)(K:Is->Af)(r:AV×Hp),B2S vs l K=some r->vs.length<=l.length/\K (vs++l.drop vs.length)=some r:=by
 induction vs with
 |nil=>intro l K r h;exact⟨D! _,h⟩
 |cons v vs ih=>
  intro l K r h;cases l with
  |nil=>cases h
  |cons a l=>
   obtain⟨h1,h2⟩:=ih l _ r h;exact⟨by simpa using h1,h2⟩
def B2R(vs:Is):∀(l:Is)(K:Is->Af),vs.length<=l.length->B2S vs l K=K (vs++l.drop vs.length):=by
 induction vs with
 |nil=>intro l K h;rfl
 |cons v vs ih=>
  intro l K h;cases l with
  |nil=>simp at h
  |cons a l=>exact ih l _ (by simpa using h)
def DN(n:Nat):Is->Is->(Is->Af)->Af:=
 @Nat.rec (λ_=>Is->Is->(Is->Af)->Af) (λvs l K=>B2S vs l K) (λ_ ih vs l K=>@List.rec AV (λ_=>Af) none (λa l _=>ih vs l λc=>K (a::c)) l) n
def Lh(n:Nat):∀(vs l:Is)(K:Is->Af)(r:AV×Hp),DN n vs l K=some r->n+vs.length<=l.length/\K (splice l n vs)=some r:=by
 induction n with
 |zero=>
  intro vs l K r h;obtain⟨h1,h2⟩:=A5o vs l K r h;exact⟨by omega,by simpa [splice] using h2⟩
 |succ n ih=>
  intro vs l K r h;cases l with
  |nil=>cases h
  |cons a l=>
   obtain⟨h1,h2⟩:=ih vs l _ r h;refine⟨by simp;omega,?_⟩;have:splice (a::l) (n+1) vs=a::splice l n vs:=by simp[splice,Nat.add_right_comm]
   rw[this];exact h2
def IP(n:Nat):∀(vs l:Is)(K:Is->Af),n+vs.length<=l.length->DN n vs l K=K (splice l n vs):=by
 induction n with
 |zero=>
  intro vs l K h;have:=B2R vs l K (by omega);have e:DN 0 vs l K=B2S vs l K:=rfl;rw[e,this];simp[splice]
 |succ n ih=>
  intro vs l K h;cases l with
  |nil=>simp at h
  |cons a l=>
   have:splice (a::l) (n+1) vs=a::splice l n vs:=by simp[splice,Nat.add_right_comm]
   rw[this];exact ih vs l _ (by simp at h;omega)
def iN(z:Int)(K:Nat->Af):Af:=@Int.rec (λ_=>Af) (λn=>fN n K) (λ_=>none) z
def Vn{z:Int}{K:Nat->Af}(h:iN z K=some r):∃n:Nat,z=n/\K n=some r:=by
 cases z with
 |ofNat n=>exact⟨n,rfl,by simpa [iN,D5] using h⟩
 |negSucc n=>cases h
def JH(n:Nat)(K:Nat->Af):iN n K=K n:=D5 n K
def lH(a b:Int):Bool:=@Int.rec (λ_=>Bool) (λm=>@Int.rec (λ_=>Bool) (λn=>Nat.ble m n) (λ_=>false) b) (λm=>@Int.rec (λ_=>Bool) (λ_=>true) (λn=>Nat.ble n m) b) a
def yO(a b:Int):Bool:=@Int.rec (λ_=>Bool) (λm=>@Int.rec (λ_=>Bool) (λn=>Nat.beq m n) (λ_=>false) b) (λm=>@Int.rec (λ_=>Bool) (λ_=>false) (λn=>Nat.beq m n) b) a
def KE(a b:Int):lH a b=decide (a<=b):=by
 cases a<;>cases b<;>simp only[lH]
 ·rw[kZ];simp[eT]
 ·rw[kZ];simp;omega
 ·rw[kZ];simp;omega
 ·rw[kZ];simp[eT];omega
def L0(a b:Int):yO a b=decide (a=b):=by
 cases a<;>cases b<;>simp only[yO]
 ·rw[kZ];simp[kY,Int.ofNat_inj]
 ·rw[kZ];simp
 ·rw[kZ];simp
 ·rw[kZ];simp[kY]
def bB(b:Bool)(K:K2):Af:=@Bool.rec (λ_=>Af) (K (.v (.bool false))) (K (.v (.bool true))) b
def MM(b:Bool)(K:K2):bB b K=K (.v (.bool b)):=by cases b<;>rfl
end
section
variable{v:AV}{K:K2}{i:TI}{α:Type}
def FI(n:Nat):List α->(List α->Af)->Af:=
 @Nat.rec (λ_=>List α->(List α->Af)->Af) (λ_ K=>K []) (λ_ ih l K=>@List.rec α (λ_=>Af) none (λa l _=>ih l λc=>K (a::c)) l) n
def KG(n:Nat):∀(l:List α)(K:List α->Af)(r:AV×Hp),FI n l K=some r->n<=l.length/\K (l.take n)=some r:=by
 induction n with
 |zero=>intro l K r h;exact⟨D! _,h⟩
 |succ n ih=>
  intro l K r h;cases l with
  |nil=>cases h
  |cons a l=>
   obtain⟨h1,h2⟩:=ih l _ r h;exact⟨by simpa using h1,h2⟩
def MH(n:Nat):∀(l:List α)(K:List α->Af),n<=l.length->FI n l K=K (l.take n):=by
 induction n with
 |zero=>intro l K _;rfl
 |succ n ih=>
  intro l K h;cases l with
  |nil=>simp at h
  |cons a l=>exact ih l _ (by simpa using h)
def hdK(l:Is)(K:K2):Af:=@List.rec AV (λ_=>Af) none (λa _ _=>K a) l
def Z'{l:Is}{r:AV×Hp}(h:hdK l K=some r):∃a c,l=a::c/\K a=some r:=by
 cases l with
 |nil=>cases h
 |cons a l=>exact⟨a,l,rfl,h⟩
def Ku(x:Row)(K:TypeId->Is->Af):Af:=match x with|.cells _ e cs=>K e cs|_=>none
def fJ(x:Row)(K:Bool->TypeId->Is->Af):Af:=match x with|.cells q e cs=>K q e cs|_=>none
def A4b(v:AV)(H:Hp)(K:Is->Af):Af:=
 match v with
 |.ptr r p k=>IN H r λx=>Ku x λ_ cs=>K (D0 (Nat.add p k) cs)
 |.iptr cs=>K cs
 |_=>none
section
variable{T:Ty}{H:Hp}{r:AV×Hp}
def Jf{i:Nat}{K:TypeId->Is->Af}(h:(IN H i λx=>Ku x K)=some r):∃q e cs,Al H i=some (.cells q e cs)/\K e cs=some r:=by
 obtain⟨x,h1,h2⟩:=HC rfl h;unfold Ku at h2;split at h2
 ·exact⟨_,_,_,h1,h2⟩
 ·cases h2
def TO{i:Nat}{K:Bool->TypeId->Is->Af}(h:(IN H i λx=>fJ x K)=some r):∃q e cs,Al H i=some (.cells q e cs)/\K q e cs=some r:=by
 obtain⟨x,h1,h2⟩:=HC rfl h;unfold fJ at h2;split at h2
 ·exact⟨_,_,_,h1,h2⟩
 ·cases h2
def jL(i:TI)(cs:Is)(K:K2):Af:=@Bool.rec (λ_=>Af) (hdK cs K) (FI i.size cs λc=>K (.agg c)) i.d.isAgg
def Vy{ty:TypeId}{cs:Is}(e:T ty=some i)(h:jL i cs K=some r):∃v,K v=some r/\WO T ty cs (λf=>f=v):=by
 unfold jL at h;cases c:i.d.isAgg
 ·rw[c]at h;obtain⟨a,l,rfl,h2⟩:=Z' h;exact⟨a,h2,by simp[WO,e,c]⟩
 ·rw[c]at h;obtain⟨h1,h2⟩:=KG _ _ _ _ h;exact⟨_,h2,by simp[WO,e,c,h1]⟩
def A7(i:TI)(v:AV)(H:Hp)(K:K2):Af:=A4b v H λcs=>jL i cs K
def A0t{ty:TypeId}(d:T ty=some i)(h:A7 i v H K=some r):∃u,K u=some r/\H_ T ty v H (λf=>f=u):=by
 unfold A7 A4b at h;split at h
 ·obtain⟨q,e,cs,h1,h2⟩:=Jf h;rw[C9]at h2;obtain⟨u,a,c⟩:=Vy (T:=T) (ty:=ty) d h2;exact⟨u,a,by simp only[H_,h1];exact c⟩
 ·obtain⟨u,a,c⟩:=Vy (T:=T) (ty:=ty) d h;exact⟨u,a,c⟩
 ·cases h
def PI(l:Is):Bool:=@List.rec AV (λ_=>Bool) true (λa _ ih=>@Bool.rec (λ_=>Bool) false ih (AV.one a)) l
def Gu(l:Is):PI l=l.all AV.one:=by
 induction l with
 |nil=>rfl
 |cons a l ih=>
  have e:PI (a::l)=@Bool.rec (λ_=>Bool) false (PI l) (AV.one a):=rfl;rw[e,l2j,<-ih];cases AV.one a<;>rfl
def Hz(a:AV)(K:Is->Af):Af:=match a with|.agg cs=>K cs|a=>K [a]
def CQ(a:AV)(K:Is->Af):Hz a K=K (B2 a):=by cases a<;>rfl
def Dr(i:TI)(p v:AV)(H:Hp)(K:Ru):Af:=
 match p with
 |.ptr s p k=>IN H s λx=>fJ x λq e cs=>Hz v λvs=>HD vs 0 λn=>ck (Nat.beq n i.size) (ck (PI vs) (DN (Nat.add p k) vs cs λa=>JI H s (.cells q e a) K))
 |_=>none
def A9b{ty:TypeId}{p v:AV}{K:Ru}(j:T ty=some i)(h:Dr i p v H K=some r):∃c,K c=some r/\mR T ty p v H (λa=>a=c):=by
 unfold Dr at h;split at h
 ·obtain⟨q,e,cs,h1,h2⟩:=TO h;rw[CQ,Cs]at h2;obtain⟨f,h2⟩:=Br h2;obtain⟨d,h2⟩:=Br h2;obtain⟨g,h2⟩:=Lh _ _ _ _ _ h2;rw[C5]at h2;rw[Gu]at d;refine⟨_,h2,?_⟩;simp only[mR,h1,j];exact⟨by have:=Xz f;omega,d,g,rfl⟩
 ·cases h
def Ba(ty:TypeId)(i:TI)(H:Hp)(K:KV):Af:=Hz i.zero λcs=>HV H λs=>K (.ptr s 0 0) ((s,.cells true ty cs)::H)
def A0z{ty:TypeId}{K:KV}(d:T ty=some i)(h:Ba ty i H K=some r):∃v c,K v c=some r/\nH T ty H (Ax H) (λe a=>e=v/\a=c):=by
 rw[Ba,CQ,BW]at h;exact⟨_,_,h,by simp[nH,d]⟩
def Hd(ty:TypeId)(v:AV)(H:Hp)(K:KV):Af:=Hz v λcs=>ck (PI cs) (HV H λs=>K (.ptr s 0 0) ((s,.cells true ty cs)::H))
def A5H{ty:TypeId}{K:KV}(h:Hd ty v H K=some r):∃u c,K u c=some r/\B4t ty v H (Ax H) (λd a=>d=u/\a=c):=by
 rw[Hd,CQ]at h;obtain⟨h1,h⟩:=Br h;rw[BW]at h;rw[Gu]at h1;exact⟨_,_,h,h1,rfl,rfl⟩
def YX(l:List (Nat×Nat×AV)):Is->(Is->Af)->Af:=
 @List.rec (Nat×Nat×AV) (λ_=>Is->(Is->Af)->Af) (λcs K=>K cs)
  (λp _ ih cs K=>Hz p.2.2 λvs=>HD vs 0 λn=>ck (Nat.beq n p.2.1) (ck (PI vs) (DN p.1 vs cs λa=>ih a K))) l
def WV{place:Nat->Option (Nat×Nat)}:∀(l:List (Nat×Nat×AV))(ps:List (Nat×AV))(cs:Is)(K:Is->Af),(ps.map λp=>(place p.1).map λq=>(q.1,q.2,p.2))=l.map some->YX l cs K=some r->∃c,K c=some r/\Sd place ps cs=some c:=by
 intro l
 induction l with
 |nil=>
  intro ps cs K he h;cases ps with
  |nil=>exact⟨cs,h,rfl⟩
  |cons p ps=>simp at he
 |cons x l ih=>
  intro ps cs K he h;cases ps with
  |nil=>simp at he
  |cons p ps=>
   simp only[VC,List.cons.injEq]at he;obtain⟨d,f⟩:=he;cases hq:place p.1 with
   |none=>rw[hq]at d;simp at d
   |some q=>
    rw[hq]at d;simp only[rT,l0y]at d;have s:YX (x::l) cs K=Hz x.2.2 λvs=>HD vs 0 λn=>ck (Nat.beq n x.2.1) (ck (PI vs) (DN x.1 vs cs λc=>YX l c K)):=rfl;rw[s,CQ,Cs]at h;obtain⟨e,h⟩:=Br h;obtain⟨g,h⟩:=Br h;obtain⟨j,h⟩:=Lh _ _ _ _ _ h;rw[Gu]at g;obtain⟨c,k,m⟩:=ih ps _ K f h;refine⟨c,k,?_⟩;obtain⟨i,a⟩:=p;subst d;have e:=Xz e;simp only[Sd,hq];rw[CZ ⟨by simpa using e,j,g⟩];exact m
def BZ(i:TI)(l:List (Nat×Nat×AV))(K:K2):Af:=Hz i.zero λz=>YX l z λcs=>K (.agg cs)
def Qk(i:TI)(j:Nat):Option (Nat×Nat):=
 match i.d with
 |.struct c=>(c[j]?).map λf=>(f.1,f.2.1)
 |.array _ _ a=>some (j*a,a)
 |.slice _ a=>some (j*a,a)
 |_=>none
def zT(i:TI):Bool:=
 match i.d with
 |.struct c=>c.all λf=>f.2.1 !=0
 |.array _ _ a=>a !=0
 |_=>false
def A0y{ty:TypeId}{l:List (Nat×Nat×AV)}{ps:List (Nat×AV)}(m:T ty=some i)(hb:zT i=true)(he:(ps.map λp=>(Qk i p.1).map λq=>(q.1,q.2,p.2))=l.map some)(h:BZ i l K=some r):
 ∃v,K v=some r/\mX T ty ps (λs=>s=v):=by
 rw[BZ,CQ]at h;obtain⟨g,h1,h2⟩:=WV l ps _ _ he h;refine⟨_,h1,?_⟩;unfold mX;rw[m];simp only;unfold zT at hb;cases c:i.d with
 |struct k=>
  rw[c]at hb;simp only;refine⟨hb,?_⟩;have:Qk i= λj=>(k[j]?).map λf=>(f.1,f.2.1):=by funext j;simp[Qk,c]
  rw[this]at h2;rw[h2];rfl
 |array n e a=>
  rw[c]at hb;simp only;refine⟨by simpa using hb,?_⟩;have:Qk i= λj=>some (j*a,a):=by funext j;simp[Qk,c]
  rw[this]at h2;rw[h2];rfl
 |_=>rw[c]at hb;cases hb
end
end
section
variable{a:AV}{K:K2}{op:BinOp}{i:TI}
section
variable{T:Ty}{H:Hp}{r:AV×Hp}
def B2O(z:Int)(K:Int->Af):Af:=
 @Int.rec (λ_=>Af) (λn=>fN n λn=>@Bool.rec (λ_=>Af) (fI (IntKind.i64.wrap (.ofNat n)) K) (K (.ofNat n)) (Nat.blt n 9223372036854775808))
  (λn=>fN n λn=>@Bool.rec (λ_=>Af) (fI (IntKind.i64.wrap (.negSucc n)) K) (K (.negSucc n)) (Nat.blt n 9223372036854775808)) z
def B2N(z:Int)(K:Int->Af):B2O z K=K (IntKind.i64.wrap z):=by
 have key:∀x:Int, -9223372036854775808<=x->x<9223372036854775808->IntKind.i64.wrap x=x:=λx h1 h2=>by
  simp only[IntKind.wrap,IntKind.bits,IntKind.signed];have c:(2^64:Int)=18446744073709551616:=by decide
  have d:(2^(64-1):Int)=9223372036854775808:=by decide
  simp only[c,d,D_,decide_eq_true_eq];split<;>omega
 cases z with
 |ofNat n=>
  simp only[B2O,D5];cases h:Nat.blt n 9223372036854775808
  ·simp only[Ug]
  ·rw[VD]at h;rw[key _ (by simp only[Int.ofNat_eq_natCast];omega) (by simp only[Int.ofNat_eq_natCast];omega)]
 |negSucc n=>
  simp only[B2O,D5];cases h:Nat.blt n 9223372036854775808
  ·simp only[Ug]
  ·rw[VD]at h;rw[key _ (by omega) (by omega)]
def N9(k:IntKind)(z:Int)(K:Int->Af):Af:=match k with|.i64=>B2O z K|k=>fI (k.wrap z) K
def HZ(k:IntKind)(z:Int)(K:Int->Af):N9 k z K=K (k.wrap z):=by
 cases k<;>first|exact B2N _ _|exact Ug _ _
abbrev IT:=IntKind->Int->Int->K2->Af
def B2G:IT:=λk a b K=>N9 k (Int.add a b) λz=>K (.v (.int k z))
def C0K:IT:=λk a b K=>N9 k (Int.sub a b) λz=>K (.v (.int k z))
def C0Q:IT:=λk a b K=>N9 k (Int.mul a b) λz=>K (.v (.int k z))
def C0O:IT:=λk a b K=>ck (!yO b 0) (N9 k (Int.tdiv a b) λz=>K (.v (.int k z)))
def C0N:IT:=λk a b K=>ck (!yO b 0) (fI (Int.tmod a b) λz=>K (.v (.int k z)))
def B2F:IT:=λk a b K=>fI (k.wrap ((BitVec.ofInt k.bits a&&&BitVec.ofInt k.bits b).toNat)) λz=>K (.v (.int k z))
def iOr:IT:=λk a b K=>fI (k.wrap ((BitVec.ofInt k.bits a|||BitVec.ofInt k.bits b).toNat)) λz=>K (.v (.int k z))
def B2E:IT:=λk a b K=>fI (k.wrap ((BitVec.ofInt k.bits a^^^BitVec.ofInt k.bits b).toNat)) λz=>K (.v (.int k z))
def C0W:IT:=λk a b K=>fI (k.wrap ((BitVec.ofInt k.bits a&&& ~~~BitVec.ofInt k.bits b).toNat)) λz=>K (.v (.int k z))
def C0V:IT:=λ_ a b K=>bB (yO a b) K
def C0P:IT:=λ_ a b K=>bB (!yO a b) K
def C0R:IT:=λ_ a b K=>bB (!lH b a) K
def C0S:IT:=λ_ a b K=>bB (lH a b) K
def C0T:IT:=λ_ a b K=>bB (!lH a b) K
def C0U:IT:=λ_ a b K=>bB (lH b a) K
def C0M:IT:=λk a b K=>ck (lH 0 b) (N9 k (a*2^(min b.toNat k.bits)) λz=>K (.v (.int k z)))
def C0L:IT:=λk a b K=>ck (lH 0 b) (fI (a.fdiv (2^(min b.toNat k.bits))) λz=>K (.v (.int k z)))
def A2y(op:BinOp):IT:=match op with
 |.add=>B2G|.sub=>C0K|.mul=>C0Q|.quo=>C0O|.rem=>C0N|.and=>B2F|.or=>iOr|.xor=>B2E|.andNot=>C0W
 |.eql=>C0V|.neq=>C0P|.lss=>C0R|.leq=>C0S|.gtr=>C0T|.geq=>C0U|.shl=>C0M|.shr=>C0L
def vR{k:IntKind}{a b:Int}(h:A2y op k a b K=some r):∃v,K (.v v)=some r/\(if Ig op then fX op k a b=some v else kF op k a b=some v):=by
 have hq:∀{x:Af},ck (!yO b 0) x=some r->b≠0/\x=some r:=λh=>by
  obtain⟨h1,h2⟩:=Br h;refine⟨λe=>?_,h2⟩;subst e;simp[L0]at h1
 have c:∀{x:Af},ck (lH 0 b) x=some r->0<=b/\x=some r:=λh=>by
  obtain⟨h1,h2⟩:=Br h;rw[KE]at h1;exact⟨by simpa using h1,h2⟩
 cases op<;>simp only[A2y,B2G,C0K,C0Q,C0O,C0N,B2F,iOr,B2E,C0W,C0V,C0P,C0R,C0S,C0T,C0U,C0M,C0L,HZ,Ug,MM]at h<;>try (cases h;done)
 case add=>exact⟨_,h,rfl⟩
 case sub=>exact⟨_,h,rfl⟩
 case mul=>exact⟨_,h,rfl⟩
 case quo=>
  obtain⟨h1,h2⟩:=hq h;exact⟨_,h2,by simp[Ig,kF,h1]⟩
 case rem=>
  obtain⟨h1,h2⟩:=hq h;exact⟨_,h2,by simp[Ig,kF,h1]⟩
 case and=>exact⟨_,h,rfl⟩
 case or=>exact⟨_,h,rfl⟩
 case xor=>exact⟨_,h,rfl⟩
 case andNot=>exact⟨_,h,rfl⟩
 case shl=>
  obtain⟨h1,h2⟩:=c h;exact⟨_,h2,by simp only[Ig,if_true,fX];rw[Cr (by omega)]⟩
 case shr=>
  obtain⟨h1,h2⟩:=c h;exact⟨_,h2,by simp only[Ig,if_true,fX];rw[Cr (by omega)]⟩
 case eql=>exact⟨_,h,by simp only[Ig,kF,L0];rw[show(a==b)=decide (a=b) from by by_cases e:a=b<;>simp[e]];simp⟩
 case neq=>exact⟨_,h,by simp only[Ig,kF,L0,bne];rw[show(a==b)=decide (a=b) from by by_cases e:a=b<;>simp[e]];simp⟩
 case lss=>exact⟨_,h,by simp only[Ig,kF,KE];rw[show(!decide (b<=a))=decide (a<b) from by rw[kZ];simp];simp⟩
 case leq=>exact⟨_,h,by simp[Ig,kF,KE]⟩
 case gtr=>exact⟨_,h,by simp only[Ig,kF,KE];rw[show(!decide (a<=b))=decide (a>b) from by rw[kZ];simp];simp⟩
 case geq=>exact⟨_,h,by simp[Ig,kF,KE]⟩
def F'(a:Ha):Ha->Bool:=
 @List.rec UInt8 (λ_=>Ha->Bool) (λb=>@List.rec UInt8 (λ_=>Bool) true (λ_ _ _=>false) b)
  (λx _ ih b=>@List.rec UInt8 (λ_=>Bool) false (λy l _=>@Bool.rec (λ_=>Bool) false (ih l) (Nat.beq x.toNat y.toNat)) b) a
def PU(a:Ha):∀b,F' a b=(a==b):=by
 induction a with
 |nil=>intro b;cases b<;>rfl
 |cons x a ih=>
  intro b;cases b with
  |nil=>rfl
  |cons y b=>
   have e:F' (x::a) (y::b)=@Bool.rec (λ_=>Bool) false (F' a b) (Nat.beq x.toNat y.toNat):=rfl;rw[e,ih];cases h:Nat.beq x.toNat y.toNat
   ·have:x≠y:=λe=>by rw[e,ZX]at h;cases h
    simp[this]
   ·have:x=y:=UInt8.toNat_inj.1 (Xz h);simp[this]
def ltB(a:Ha):Ha->Bool:=
 @List.rec UInt8 (λ_=>Ha->Bool) (λb=>@List.rec UInt8 (λ_=>Bool) false (λ_ _ _=>true) b)
  (λx _ ih b=>@List.rec UInt8 (λ_=>Bool) false (λy l _=>@Bool.rec (λ_=>Bool) (@Bool.rec (λ_=>Bool) false (ih l) (Nat.beq x.toNat y.toNat)) true (Nat.blt x.toNat y.toNat)) b) a
def yE(a:Ha):∀b,ltB a b=Op.bytesLess a b:=by
 induction a with
 |nil=>intro b;cases b<;>rfl
 |cons x a ih=>
  intro b;cases b with
  |nil=>rfl
  |cons y b=>
   have e:ltB (x::a) (y::b)=@Bool.rec (λ_=>Bool) (@Bool.rec (λ_=>Bool) false (ltB a b) (Nat.beq x.toNat y.toNat)) true (Nat.blt x.toNat y.toNat):=rfl;rw[e,ih,Op.bytesLess];have h1:(Nat.blt x.toNat y.toNat)=decide (x<y):=by
    rw[kZ];simp[VD,UInt8.lt_iff_toNat_lt]
   have h2:(Nat.beq x.toNat y.toNat)=(x==y):=by
    rw[kZ];simp[kY,UInt8.toNat_inj]
   rw[h1,h2];cases decide (x<y)
   ·cases (x==y)<;>rfl
   ·rfl
def B8c(op:BinOp)(a b:ByteArray)(K:K2):Af:=
 match op with
 |.add=>WX a.data.toList b.data.toList λl=>ck (Nat.blt l.length 9223372036854775808) (K (.v (.string ⟨⟨l⟩⟩)))
 |.eql=>bB (F' a.data.toList b.data.toList) K
 |.neq=>bB (!F' a.data.toList b.data.toList) K
 |.lss=>bB (ltB a.data.toList b.data.toList) K
 |.leq=>bB (ltB a.data.toList b.data.toList||F' a.data.toList b.data.toList) K
 |.gtr=>bB (!(ltB a.data.toList b.data.toList||F' a.data.toList b.data.toList)) K
 |.geq=>bB (!ltB a.data.toList b.data.toList) K
 |_=>none
def Wk(a:ByteArray):a.toList=a.data.toList:=ByteArray.toList_eq a
def A5x{a b:ByteArray}(h:B8c op a b K=some r):∃v,K (.v v)=some r/\A53 op a b=some v:=by
 cases op<;>simp only[B8c,MM,LR,PU,yE]at h<;>try (cases h;done)
 case add=>
  obtain⟨h1,h2⟩:=Br h;refine⟨_,h2,?_⟩;rw[VD]at h1;have c:IntKind.i64.max=9223372036854775807:=by decide
  have d:a.size+b.size=(a.data.toList++b.data.toList).length:=by rw[EJ];rfl
  simp only[A53];rw[Cr (by rw[c];omega)]
  congr 2
 all_goals exact⟨_,h,by simp[A53,Wk]⟩
def Ap(i:TI)(op:BinOp)(a b:AV)(K:K2):Af:=
 match a,b with
 |.v (.int k m),.v (.int c n)=>@Bool.rec (λ_=>Af) (ck (decide (k=c)) (A2y op k m n K)) (A2y op k m n K) (Ig op)
 |.v (.string s),.v (.string u)=>B8c op s u K
 |.v (.bool p),.v (.bool q)=>match i.d,op with
  |.bool,.eql=>bB (p==q) K
  |.bool,.neq=>bB (!(p==q)) K
  |_,_=>none
 |a,b=>match U! i.d a b,op with
  |some q,.eql=>bB q K
  |some q,.neq=>bB (!q) K
  |_,_=>none
def vV{ty:TypeId}{a b:AV}(g:T ty=some i)(h:Ap i op a b K=some r):∃v,K v=some r/\mZ T op ty a b (λt=>t=v):=by
 unfold Ap at h;split at h
 ·rename_i k m u n;cases f:Ig op
  ·rw[f]at h;obtain⟨h1,h2⟩:=Br h;obtain⟨v,e,c⟩:=vR h2;rw[f]at c;exact⟨_,e,by simp only[mZ,f,tL,if_false];exact⟨by simpa using h1,by simp only[tL,if_false]at c;rw[c];rfl⟩⟩
  ·rw[f]at h;obtain⟨v,e,c⟩:=vR h;rw[f]at c;exact⟨_,e,by simp only[mZ,f,if_true];simp only[if_true]at c;rw[c];rfl⟩
 ·obtain⟨v,e,c⟩:=A5x h;exact⟨_,e,by simp only[mZ];rw[c];rfl⟩
 ·rename_i p q;split at h
  ·rename_i j;rw[MM]at h;exact⟨_,h,by simp only[mZ];exact⟨⟨i,g,j⟩,trivial⟩⟩
  ·rename_i j;rw[MM]at h;exact⟨_,h,by simp only[mZ];exact⟨⟨i,g,j⟩,trivial⟩⟩
  ·cases h
 ·rename_i h1 h2 e;have s:∀Kp:AV->Prop,(∃q,U! i.d a b=some q/\((op=.eql/\Kp (.v (.bool q)))\/(op=.neq/\Kp (.v (.bool (!q))))))->mZ T op ty a b Kp:=λKp hk=>by
   obtain⟨q,hq,hk⟩:=hk;unfold mZ;split
   ·exact(h1 _ _ _ _ rfl rfl).elim
   ·exact(h2 _ _ rfl rfl).elim
   ·exact(e _ _ rfl rfl).elim
   ·rw[g];simp only[hq];rcases hk with⟨rfl,hk⟩|⟨rfl,hk⟩<;>exact hk
  cases hq:U! i.d a b with
  |none=>rw[hq]at h;cases h
  |some q=>
   rw[hq]at h;cases op<;>first|(cases h;done)|skip
   ·simp only[MM]at h;exact⟨_,h,s _ ⟨q,hq,.inl ⟨rfl,rfl⟩⟩⟩
   ·simp only[MM]at h;exact⟨_,h,s _ ⟨q,hq,.inr ⟨rfl,rfl⟩⟩⟩
def PA(op:UnOp)(a:AV)(K:K2):Af:=
 match op,a with
 |.neg,.v (.int k n)=>N9 k (Int.sub 0 n) λz=>K (.v (.int k z))
 |.xor,.v (.int k n)=>fI (k.wrap ((BitVec.ofInt k.bits (if k.signed then-1 else k.max)^^^BitVec.ofInt k.bits n).toNat)) λz=>K (.v (.int k z))
 |.not,.v (.bool b)=>bB (!b) K
 |_,_=>none
def A9a{op:UnOp}(h:PA op a K=some r):∃v,K v=some r/\xun op a (λc=>c=v):=by
 unfold PA at h;split at h
 ·rw[HZ]at h;exact⟨_,h,rfl⟩
 ·rw[Ug]at h;exact⟨_,h,rfl⟩
 ·rw[MM]at h;exact⟨_,h,rfl⟩
 ·cases h
def Im(i j:TI)(a:AV)(K:K2):Af:=
 match j.d,a with
 |.int k,.v (.int _ n)=>N9 k n λz=>K (.v (.int k z))
 |.string,.v (.string s)=>match i.d with|.string=>K (.v (.string s))|_=>none
 |_,_=>none
def A2G{s d:TypeId}{i j:TI}(e:T s=some i)(f:T d=some j)(h:Im i j a K=some r):∃v,K v=some r/\uC T s d a (λk=>k=v):=by
 unfold Im at h;split at h
 ·rename_i c;rw[HZ]at h;exact⟨_,h,by simp only[uC,e,f,c]⟩
 ·rename_i c;split at h
  ·rename_i g;exact⟨_,h,by simp only[uC,e,f,c,g];exact⟨trivial,trivial⟩⟩
  ·cases h
 ·cases h
end
end
section
variable{a ix v x:AV}{K:K2}{fs:List (Nat×Nat×TypeId)}{f ft off sz:Nat}{i j:TI}
section
variable{T:Ty}{H:Hp}{r:AV×Hp}
def Cl(off:Nat)(v:AV)(K:K2):Af:=
 match v with
 |.ptr s p k=>fN (Nat.add (Nat.add p k) off) λo=>K (.ptr s o 0)
 |.iptr cs=>K (.iptr (D0 off cs))
 |_=>none
def A9r{ty:TypeId}(c:T ty=some i)(e:i.d=.struct fs)(g:fs[f]?=some (off,sz,ft))(hz:sz≠0)(h:Cl off v K=some r):∃u,K u=some r/\fB T ty v f (λk=>k=u):=by
 unfold Cl at h;split at h
 ·rw[D5]at h;refine⟨_,h,?_⟩;simp only[fB,c,e,g];exact⟨hz,_,0,by simp[Yq],rfl⟩
 ·rw[C9]at h;refine⟨_,h,?_⟩;simp only[fB,c,e,g];exact⟨hz,trivial⟩
 ·cases h
def iO(off:Nat)(j:TI)(v:AV)(K:K2):Af:=
 match v with
 |.agg cs=>jL j (D0 off cs) K
 |_=>none
def A5F{ty:TypeId}(c:T ty=some i)(e:i.d=.struct fs)(g:fs[f]?=some (off,sz,ft))(k:T ft=some j)(h:iO off j v K=some r):∃u,K u=some r/\mW T ty v f (λm=>m=u):=by
 unfold iO at h;split at h
 ·rw[C9]at h;obtain⟨u,h1,h2⟩:=Vy (T:=T) (ty:=ft) k h;exact⟨u,h1,by simp only[mW,c,e,g];exact h2⟩
 ·cases h
def yN(a:AV)(K:Int->Af):Af:=match a with|.v (.int _ n)=>K n|_=>none
def OL{K:Int->Af}(h:yN a K=some r):∃k n,a=.v (.int k n)/\K n=some r:=by
 unfold yN at h;split at h
 ·exact⟨_,_,rfl,h⟩
 ·cases h
def Dh(i:TI)(x ix:AV)(K:K2):Af:=
 yN ix λz=>iN z λn=>match i.d,x with
  |.slice _ e,.list m cs=>ck (Nat.blt n m) (RK e (D0 (Nat.mul n e) cs) λc=>K (.iptr c))
  |.slice _ e,.sl _ s o m=>ck (Nat.blt n m) (fN (Nat.add o (Nat.mul n e)) λp=>K (.ptr s p 0))
  |.array m _ e,.ptr s p k=>ck (Nat.blt n m) (fN (Nat.add (Nat.add p k) (Nat.mul n e)) λq=>K (.ptr s q 0))
  |.array m _ e,.iptr cs=>ck (Nat.blt n m) (RK e (D0 (Nat.mul n e) cs) λc=>K (.iptr c))
  |_,_=>none
def A9o{ty:TypeId}(e:T ty=some i)(h:Dh i x ix K=some r):∃u,K u=some r/\mV T ty x ix (λg=>g=u):=by
 unfold Dh at h;obtain⟨k,z,rfl,d⟩:=OL h;clear h;obtain⟨n,rfl,h⟩:=Vn d;clear d;unfold mV;rw[e];simp only;split at h
 ·rename_i c;obtain⟨h1,h⟩:=Br h;rw[NB,C9]at h;rw[VD]at h1;exact⟨_,h,by simp only[c,eS];exact⟨⟨by omega,by omega⟩,rfl⟩⟩
 ·rename_i c;obtain⟨h1,h⟩:=Br h;rw[D5]at h;rw[VD]at h1;exact⟨_,h,by simp only[c,eS];exact⟨⟨by omega,by omega⟩,rfl⟩⟩
 ·rename_i c;obtain⟨h1,h⟩:=Br h;rw[D5]at h;rw[VD]at h1;exact⟨_,h,by simp only[c,eS];exact⟨⟨by omega,by omega⟩,_,0,by simp[Yq],rfl⟩⟩
 ·rename_i c;obtain⟨h1,h⟩:=Br h;rw[NB,C9]at h;rw[VD]at h1;exact⟨_,h,by simp only[c,eS];exact⟨⟨by omega,by omega⟩,rfl⟩⟩
 ·cases h
def B4m(l:Ha)(K:K2):Af:=@List.rec UInt8 (λ_=>Af) none (λb _ _=>fN b.toNat λn=>K (.v (.int .u8 (.ofNat n)))) l
def dV(i j:TI)(x ix:AV)(K:K2):Af:=
 yN ix λz=>iN z λn=>match i.d,x with
  |.string,.v (.string s)=>B4m (D0 n s.data.toList) K
  |.array m _ c,.agg cs=>ck (Nat.blt n m) (jL j (D0 (Nat.mul n c) cs) K)
  |_,_=>none
def dN(i:TI):Option TypeId:=match i.d with|.array _ e _=>some e|.slice e _=>some e|_=>none
def A5E{ty:TypeId}(t:T ty=some i)(w:∀e,dN i=some e->T e=some j)(h:dV i j x ix K=some r):∃u,K u=some r/\mU T ty x ix (λA=>A=u):=by
 unfold dV at h;obtain⟨k,z,rfl,g⟩:=OL h;clear h;obtain⟨n,rfl,h⟩:=Vn g;clear g;unfold mU;rw[t];simp only;split at h
 ·rename_i s c;rw[C9]at h;cases d:s.data.toList.drop n with
  |nil=>rw[d]at h;cases h
  |cons b l=>
   rw[d]at h;have h:(fN b.toNat λn=>K (.v (.int .u8 (.ofNat n))))=some r:=h;rw[D5]at h;have y:n<s.data.toList.length:=by
    have:=congrArg List.length d;simp at this;simp;omega
   have hb:s.data.toList[n]?=some b:=by
    have:=congrArg (λl=>l[0]?) d;simpa using this
   refine⟨_,h,?_⟩;simp only[c,eS];refine⟨⟨by omega,?_⟩,?_⟩
   ·have:s.size=s.data.toList.length:=rfl;omega
   ·rw[T9,hb];rfl
 ·rename_i m e p cs c;obtain⟨h1,h⟩:=Br h;rw[C9]at h;rw[VD]at h1;obtain⟨u,h2,q⟩:=Vy (T:=T) (ty:=e) (w e (by simp[dN,c])) h;exact⟨u,h2,by simp only[c,eS];exact⟨⟨by omega,by omega⟩,q⟩⟩
 ·cases h
def VT(x:Option AV)(d:Nat)(K:Nat->Af):Af:=
 match x with
 |none=>fN d K
 |some a=>yN a λz=>iN z K
def Iy{x:Option AV}{d:Nat}{K:Nat->Af}(h:VT x d K=some r):∃n:Nat,XM x d=some (n:Int)/\K n=some r:=by
 unfold VT at h;split at h
 ·rw[D5]at h;exact⟨d,rfl,h⟩
 ·obtain⟨k,z,rfl,h1⟩:=OL h;obtain⟨n,rfl,h2⟩:=Vn h1;exact⟨n,rfl,h2⟩
def EI(i:TI)(x:AV)(k g mx:Option AV)(K:K2):Af:=
 match i.d,x with
 |.string,.v (.string s)=>ck mx.isNone (VT k 0 λl=>HD s.data.toList 0 λm=>VT g m λh=>ck (Nat.ble l h&&Nat.ble h m) (RK (Nat.sub h l) (D0 l s.data.toList) λb=>K (.v (.string ⟨⟨b⟩⟩))))
 |.slice _ e,.list m cs=>VT k 0 λl=>VT g m λh=>VT mx m λx=>ck ((mx.isNone||g.isSome)&&(Nat.ble l h&&(Nat.ble h x&&Nat.ble x m))) (fN (Nat.sub h l) λn=>RK (Nat.mul n e) (D0 (Nat.mul l e) cs) λc=>K (.list n c))
 |.slice _ e,.sl sz s o m=>ck (Nat.beq e sz) (VT k 0 λl=>VT g m λh=>VT mx m λx=>ck ((mx.isNone||g.isSome)&&(Nat.ble l h&&(Nat.ble h x&&Nat.ble x m))) (fN (Nat.add o (Nat.mul l e)) λp=>fN (Nat.sub h l) λn=>K (.sl sz s p n)))
 |.slice _ _,.v (.slice none 0 0)=>ck mx.isNone (VT k 0 λl=>VT g 0 λh=>ck (Nat.beq l 0&&Nat.beq h 0) (K (.v (.slice none 0 0))))
 |_,_=>none
def A0j{ty:TypeId}{w t mx:Option AV}(A:T ty=some i)(h:EI i x w t mx K=some r):∃u,K u=some r/\mS T ty x w t mx (λB=>B=u):=by
 unfold EI at h;unfold mS;rw[A];simp only;split at h
 ·rename_i s c;obtain⟨k,h⟩:=Br h;obtain⟨l,d,h⟩:=Iy h;rw[Cs]at h;obtain⟨n,hn,h⟩:=Iy h;obtain⟨h1,h⟩:=Br h;rw[NB,C9]at h;simp only[J2,eT]at h1;have hz:0+s.data.toList.length=s.size:=Kk _;rw[hz]at hn h1;refine⟨_,h,?_⟩;simp only[c,d,hn,KX,eS];refine⟨k,⟨by omega,by omega,by omega⟩,?_⟩
  congr 2
  apply ByteArray.ext;apply lG;simp only[ByteArray.data_extract,Array.toList_extract,List.extract];rfl
 ·rename_i e g m cs c;obtain⟨l,d,h⟩:=Iy h;obtain⟨n,hn,h⟩:=Iy h;obtain⟨y,q,h⟩:=Iy h;obtain⟨h1,h⟩:=Br h;rw[D5,NB,C9]at h;simp only[J2,eT]at h1;refine⟨_,h,?_⟩;have p:((n:Int)-l).toNat=n-l:=by omega
  simp only[c,d,hn,q,KX,eS,p];refine⟨⟨by omega,by omega,by omega,by omega⟩,λhm=>?_,rfl⟩;cases mx with
  |none=>simp at hm
  |some _=>simpa using h1.1
 ·rename_i e g sz s o m c;obtain⟨k,h⟩:=Br h;obtain⟨l,d,h⟩:=Iy h;obtain⟨n,hn,h⟩:=Iy h;obtain⟨y,q,h⟩:=Iy h;obtain⟨h1,h⟩:=Br h;rw[D5,D5]at h;simp only[J2,eT]at h1;refine⟨_,h,?_⟩;have p:((n:Int)-l).toNat=n-l:=by omega
  simp only[c,d,hn,q,KX,eS,p];refine⟨Xz k,⟨by omega,by omega,by omega,by omega⟩,λhm=>?_,rfl⟩;cases mx with
  |none=>simp at hm
  |some _=>simpa using h1.1
 ·rename_i e g c;obtain⟨k,h⟩:=Br h;obtain⟨l,d,h⟩:=Iy h;obtain⟨n,hn,h⟩:=Iy h;obtain⟨h1,h⟩:=Br h;simp only[J2,kY]at h1;refine⟨_,h,?_⟩;simp only[c,d,hn,KX];exact⟨k,⟨by omega,by omega⟩,trivial⟩
 ·cases h
def Ci(v:AV)(k:Nat)(K:K2):Af:=match v with|.tup vs=>hdK (D0 k vs) K|_=>none
def A5G{k:Nat}(h:Ci v k K=some r):∃vs u,v=.tup vs/\vs[k]?=some u/\K u=some r:=by
 unfold Ci at h;split at h
 ·rename_i vs;rw[C9]at h;obtain⟨a,l,c,h⟩:=Z' h;refine⟨vs,a,rfl,?_,h⟩;have:=congrArg (λl=>l[0]?) c;simpa using this
 ·cases h
def Bh(i:TI)(x:AV)(K:K2):Af:=
 match i.d,x with
 |.string,.v (.string s)=>HD s.data.toList 0 λn=>K (.v (.int .i64 (.ofNat n)))
 |.slice _ _,.list n _=>K (.v (.int .i64 (.ofNat n)))
 |.slice _ _,.sl _ _ _ n=>K (.v (.int .i64 (.ofNat n)))
 |.slice _ _,.v (.slice none 0 0)=>K (.v (.int .i64 (.ofNat 0)))
 |.array n _ _,_=>K (.v (.int .i64 (.ofNat n)))
 |_,_=>none
def A5D{ty:TypeId}(d:T ty=some i)(h:Bh i x K=some r):∃u,K u=some r/\A6t T ty x (λe=>e=u):=by
 unfold Bh at h;unfold A6t;rw[d];simp only;split at h
 ·rename_i s c;rw[Cs]at h;refine⟨_,h,?_⟩;simp only[c];rw[Kk];rfl
 ·rename_i c;exact⟨_,h,by simp only[c];rfl⟩
 ·rename_i c;exact⟨_,h,by simp only[c];rfl⟩
 ·rename_i c;exact⟨_,h,by simp only[c];rfl⟩
 ·rename_i c;exact⟨_,h,by simp only[c];rfl⟩
 ·cases h
def zF(c:Bool)(a b:AV)(K:K2):Af:=
 match a,b with
 |.v (.int k x),.v (.int d y)=>ck (decide (k=d)) (@Bool.rec (λ_=>Af) (@Bool.rec (λ_=>Af) (K (.v (.int k y))) (K (.v (.int k x))) (lH y x)) (@Bool.rec (λ_=>Af) (K (.v (.int k y))) (K (.v (.int k x))) (lH x y)) c)
 |.v (.string s),.v (.string u)=>@Bool.rec (λ_=>Af) (K (.v (.string u))) (K (.v (.string s))) (@Bool.rec (λ_=>Bool) (!ltB s.data.toList u.data.toList) (ltB s.data.toList u.data.toList||F' s.data.toList u.data.toList) c)
 |_,_=>none
def A0p{c:Bool}{a b:AV}(h:zF c a b K=some r):∃u,K u=some r/\xmm c a b (λg=>g=u):=by
 unfold zF at h;split at h
 ·rename_i k x e y;obtain⟨h1,h⟩:=Br h;simp only[xmm];have hk:k=e:=by simpa using h1
  cases c
  ·rw[KE]at h;by_cases d:y<=x
   ·rw[Ki d]at h;exact⟨_,h,hk,by rw[Cr (by simp),Cr (by omega)]⟩
   ·rw[KD d]at h;exact⟨_,h,hk,by rw[Cr (by simp),CZ (by omega)]⟩
  ·rw[KE x y]at h;by_cases d:x<=y
   ·rw[Ki d]at h;exact⟨_,h,hk,by rw[CZ rfl,Cr (by omega)]⟩
   ·rw[KD d]at h;exact⟨_,h,hk,by rw[CZ rfl,CZ (by omega)]⟩
 ·rename_i s u;simp only[xmm];cases c
  ·simp only[yE,Wk]at h⊢;cases hb:(!Op.bytesLess s.data.toList u.data.toList)<;>(rw[hb]at h;exact⟨_,h,rfl⟩)
  ·simp only[yE,PU,Wk]at h⊢;cases hb:(Op.bytesLess s.data.toList u.data.toList||s.data.toList==u.data.toList)<;>(rw[hb]at h;exact⟨_,h,rfl⟩)
 ·cases h
end
end
end Go.Abs
end
