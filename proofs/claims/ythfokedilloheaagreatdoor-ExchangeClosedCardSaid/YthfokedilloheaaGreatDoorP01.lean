import Derived.RangeFuncIn
import Derived.RangeFuncStops
import Derived.RangeFuncLeaves
import Derived.OrdersIn
import Derived.Test.YthfokedilloheaaGreatDoorP00
set_option linter.all false
set_option maxHeartbeats 100000000
noncomputable section
namespace Go.Abs
open Go.RowKit
section
variable{K:AV->Hp->Prop}
def KJ(G:Gl)(w0:Base)(C:Ctx)(w:World)(v:AV)(H:Hp)(y:Value)(C':Ctx)(w':World):Prop:=VRel C' w' v y/\Rel G w0 C' H w'/\Ext w0.own C w C' w'
def eZ(w:World)(o:Obj):Below w.heap.size w {w with heap:=w.heap.push o}:=
 ⟨rfl,rfl,rfl,by simp,λk a=>by simp[l2c,Nat.ne_of_lt a]⟩
def A2l(w:World)(B:Nat):Below B w {w with drawn:=w.drawn+1}:=⟨rfl,rfl,rfl,LH _,λ_ _=>rfl⟩
section
variable{P:Program}{G:Gl}{w0:Base}{w:World}{C:Ctx}{H:Hp}
def A5G(hr:Rel G w0 C H w)(T:TypeId){cs:Is}{arr:Array Value}(hv:CF C w cs arr.toList):
 KJ G w0 C w (.ptr (Ar H) 0 0) ((Ar H,.cells true T cs)::H) (.pointer (some ⟨w.heap.size,0,none⟩)) (C.put (Ar H) (some (w.heap.size,0))) {w with heap:=w.heap.push (.cells arr T)}:=by
 have hb:=eZ w (.cells arr T);have a:arr.size=cs.length:=by simpa using hv.1
 refine⟨?_,hr.new (q:=true) hb (arr:=arr) (fz:=(0,0)) (by simp) (λi _=>by omega) (by omega) (by rw[l25 (by simp;omega)];exact hv) (λ_=>a),hr.new_ext hb⟩;have:VRel (C.put (Ar H) (some (w.heap.size,0))) {w with heap:=w.heap.push (.cells arr T)} (.ptr (Ar H) 0 0) (.pointer (some ⟨w.heap.size,0+(0+0),none⟩)):=.ptr (C.put_n _ _);simpa using this
def Zu(hr:Rel G w0 C H w){w':World}(hb:Below w.heap.size w w')(T:TypeId){cs:Is}{arr:Array Value}{fz:Nat×Nat}(c:w'.heap[w.heap.size]?=some (.cells arr T fz))(Rl:∀i,i<arr.size->¬(fz.1<=i/\i<fz.2))(sz n cap:Nat)(a:n<=cap)(hsz:cap*sz<=arr.size)(b:cs.length<=arr.size)(hv:CF (C.sel false) w cs (arr.toList.take cs.length)):
 KJ G w0 C w (.sl sz (Ar H) 0 n) ((Ar H,.cells false T cs)::H) (.slice (some ⟨w.heap.size,0,none⟩) n cap) (C.put (Ar H) (some (w.heap.size,0))) w':=by
 refine⟨?_,hr.new (q:=false) hb c Rl b hv (λh=>by cases h),hr.new_ext hb⟩;have:VRel (C.put (Ar H) (some (w.heap.size,0))) w' (.sl sz (Ar H) 0 n) (.slice (some ⟨w.heap.size,0+0,none⟩) n cap):=.sl (C.put_n _ _) a c (by omega);simpa using this
def sG(T:Ty)(ty:TypeId)(H:Hp)(r:Nat)(K:AV->Hp->Prop):Prop:=
 match T ty with
 |some i=>K (.ptr r 0 0) ((r,.cells true ty (B0 i.zero))::H)
 |none=>False
def Pu{t:TypeId}{i:TI}{z:Value}(a:tQ z=i.zero):CF C w (B0 i.zero) z.cells.toList:=by
 rw[<-a];cases z with
 |agg cs=>exact yY _ (by simp)
 |_=>exact .cons (.v _) .nil
def I!{T:Ty}(e:jX P T){ty:TypeId}(hr:Rel G w0 C H w)(h:sG T ty H (Ar H) K):∃v a y c b,K v a/\(Instr.alloc ty true (.tuple #[])).run P w=.ok y b/\KJ G w0 C w v a y c b:=by
 unfold sG at h;split at h
 ·rename_i i hi;obtain⟨z,hz,d⟩:=(e ty i hi).run_zero (P:=P) w;refine⟨_,_,_,_,_,h,?_,A5G hr ty (Pu (t:=ty) d)⟩;simp[Instr.alloc,hz,newVar,newRow]
 ·exact h.elim
def B6V(ty:TypeId)(a:AV)(H:Hp)(r:Nat)(K:AV->Hp->Prop):Prop:=(B0 a).all AV.one=true/\K (.ptr r 0 0) ((r,.cells true ty (B0 a))::H)
def A2Y{ty:TypeId}{a:AV}{y:Value}(hr:Rel G w0 C H w)(e:VRel C w a y)(h:B6V ty a H (Ar H) K):∃v b z d c,K v b/\(Instr.box ty y).run P w=.ok z c/\KJ G w0 C w v b z d c:=by
 obtain⟨h1,h⟩:=h;refine⟨_,_,_,_,_,h,?_,A5G hr ty (e.cells h1).1⟩;simp[Instr.box,newVar,newRow]
def Yo:Nat->Is->Is
 |0,_=>[]
 |n+1,z=>z++Yo n z
def fL(z:Array Value):∀n,(Array.range (n*z.size)).map (λi=>z[i%z.size]!)=((List.range n).flatMap λ_=>z.toList).toArray:=by
 intro n;apply qK;simp only[Array.toList_map,Array.toList_range]
 induction n with
 |zero=>simp
 |succ n ih=>
  rw[List.range_succ,l2l,<-ih,Nat.succ_mul,List.range_add,XS]
  congr 1
  simp only[List.map_map,oK,List.flatMap_nil,US];apply l0p;intro j;by_cases a:j<z.size
  ·simp[a,Nat.mod_eq_of_lt a]
  ·simp[a]
def gI(z:Is):∀n,Yo n z=(List.range n).flatMap λ_=>z:=by
 intro n
 induction n with
 |zero=>rfl
 |succ n ih=>rw[List.range_succ_eq_map];simp[Yo,ih,List.flatMap_map]
def Zw{cs:Is}{zs:Hx}(h:CF C w cs zs):∀n,CF C w ((List.range n).flatMap λ_=>cs) ((List.range n).flatMap λ_=>zs):=by
 intro n
 induction n with
 |zero=>exact .nil
 |succ n ih=>
  rw[List.range_succ,l2l,l2l];refine ih.append ?_;simpa using h
def Yn(z:Is):∀n,(Yo n z).length=n*z.length:=by
 intro n
 induction n with
 |zero=>simp[Yo]
 |succ n ih=>simp[Yo,ih,Nat.succ_mul,Nat.add_comm]
def jU{place:Nat->Option (Nat×Nat)}:∀(ps:List (Nat×AV))(cs r:Is),Tp place ps cs=some r->r.length=cs.length:=by
 intro ps
 induction ps with
 |nil=>intro cs r h;simp[Tp]at h;subst h;rfl
 |cons p ps ih=>
  intro cs r h;obtain⟨i,a⟩:=p;simp only[Tp]at h;split at h
  ·cases h
  ·split at h
   ·rename_i hc;rw[ih _ _ h,FX hc.2.1]
   ·cases h
def fV(T:Ty)(ty:TypeId)(n:Nat)(ps:List (Nat×AV))(H:Hp)(r:Nat)(K:AV->Hp->Prop):Prop:=
 match T ty with
 |some i=>match i.d with
  |.slice e a=>match T e with
   |some b=>a≠0/\(B0 b.zero).length=a/\n*a<=2^24/\Mm (Tp (λj=>some (j*a,a)) ps (Yo n (B0 b.zero))) λcs=>K (.sl a r 0 n) ((r,.cells false e cs)::H)
   |none=>False
  |_=>False
 |none=>False
def wG{T:Ty}(O:jX P T){ty:TypeId}{n:Nat}{ps:List (Nat×AV)}{m:List (Nat×Value)}(c:ps.length=m.length)(hq:∀(j:Nat)(p:Nat×AV),ps[j]?=some p->∃z,m[j]?=some (p.1,z)/\VRel C w p.2 z)(hr:Rel G w0 C H w)(h:fV T ty n ps H (Ar H) K):
 ∃v N y V R,K v N/\(Instr.buildSlice ty n m.toArray).run P w=.ok y R/\KJ G w0 C w v N y V R:=by
 unfold fV at h;split at h
 ·rename_i i hi;have ok:=O ty i hi;split at h
  ·rename_i e a Y;split at h
   ·rename_i k A;obtain⟨d,F,Q,h⟩:=h;obtain⟨Z,hc⟩:=ok.elem_slice Y;have M:=O e k A;obtain⟨z,hz,X⟩:=M.run_zero (P:=P) w;have hsz:(sizeOf e).run P w=.ok a w:=by rw[<-hc];exact BZ w (by rw[hc];exact d)
    have f:CF C w (B0 k.zero) z.cells.toList:=Pu (t:=e) X;have J:z.cells.size=a:=by have:=f.1;simp at this;omega
    cases g:Tp (λj=>some (j*a,a)) ps (Yo n (B0 k.zero)) with
    |none=>rw[g]at h;exact h.elim
    |some r=>
     rw[g]at h;have L:CF C w (Yo n (B0 k.zero)) ((List.range n).flatMap λ_=>z.cells.toList):=by rw[gI];exact Zw f n
     obtain⟨q,h1,h2⟩:=jA (C:=C) (w:=w) ps m _ _ r c hq L g;have b:¬(n*a>2^24):=by omega
     have D:q.length=n*a:=by rw[h2.1,jU _ _ _ g,Yn,F]
     have u:CF (C.sel false) w r q:=h2;have key:=Zu hr (eZ w (.cells q.toArray e)) e (cs:=r) (arr:=q.toArray) (fz:=(0,0)) (by simp) (λi _=>by omega) a n n (LH _) (by simp[D]) (by simp;exact Nat.le_of_eq h2.1.symm) (by rw[l25 (by simp;exact Nat.le_of_eq h2.1)];simpa using u);refine⟨_,_,_,_,_,h,?_,key⟩;unfold Instr.buildSlice;rw[Dn,run_underlying Z w];simp only[FY];rw[Dn,hsz];simp only[FY,CD b,pure_bind];by_cases s:n*a=0
     ·have B:n=0:=by rcases Nat.mul_eq_zero.1 s with h|h;exact h;exact absurd h d
      subst B;rw[Dr s];simp only[List.range_zero,List.flatMap_nil]at h1;rw[show(Array.map (λx=>(#[]:Array Value)[x%(#[]:Array Value).size]!) (Array.range (0*a)))= #[] from by rw[Nat.zero_mul];apply qK;simp,h1];simp[newRow]
     ·rw[CD s,Dn,hz];simp only[FY];have:=fL z.cells n;rw[J]at this⊢;rw[this,h1];simp[newRow]
   ·exact h.elim
  ·exact h.elim
 ·exact h.elim
end
end
section
variable{q q':Bool}{aZ:Is}{ys:Hx}
def A2p(H:Hp)(x:AV):Option (Nat×Is×Bool):=
 match x with
 |.list m cs=>some (m,cs,true)
 |.sl sz r o m=>match Ai H r with
  |some (.cells q _ cs)=>some (m,(cs.drop o).take (m*sz),q)
  |_=>none
 |.v (.slice none 0 0)=>some (0,[],true)
 |.v (.string s)=>some (s.size,s.data.toList.map λb=>.v (.int .u8 b.toNat),true)
 |_=>none
section
variable{P:Program}{G:Gl}{w0:Base}{w:World}{C:Ctx}{H:Hp}
def Xy{x:AV}{y:Value}{m:Nat}{ys:Is}{esz:Nat}(hr:Rel G w0 C H w)(A:VRel C w x y)(h:A2p H x=some (m,ys,q))(N:ys.length=m*esz)(hs:∀s,x=.v (.string s)->esz=1):
 (Builtin.lenOf y).run P w=.ok m w/\∃vs:Hx,CF (C.sel q) w ys vs/\∀W:World,(∀k,k<w.heap.size->W.heap[k]?=w.heap[k]?)->(Builtin.firstCells esz m y).run P W=.ok vs.toArray W:=by
 have mem:∀(D:Ctx)(b o:Nat)(cs:Is),Nf D w b o cs->cs.length=m*esz->(0<cs.length->b<w.heap.size)->∃vs:Hx,CF D w cs vs/\∀W:World,(∀k,k<w.heap.size->W.heap[k]?=w.heap[k]?)->(loadCells ⟨b,o,none⟩ (m*esz)).run P W=.ok vs.toArray W:=by
  intro D b o cs hc t hb;obtain⟨vs,h1,h2⟩:=hc;refine⟨vs,h1,λW n=>?_⟩;have K:vs.length=m*esz:=by rw[h1.1,t]
  have:=run_loadCells_list (P:=P) W ⟨b,o,none⟩ vs (λj v hv=>by
   rw[Kl];have hj:j<vs.length:=(zE.1 hv).1;rw[l0t (w:=w) (n b (hb (by rw[<-h1.1];omega)))];exact h2 j v hv)
  rwa[K]at this
 unfold A2p at h;split at h
 ·rename_i O cs;injection h with h;injection h with d c;injection c with c g;subst d c g
  cases A with
  |list0=>
   refine⟨rfl,[],.nil,λW _=>?_⟩;rename_i a cap;cases a with
   |none=>rfl
   |some Q=>simp[Builtin.firstCells,loadCells,loadCellsFrom]
  |list p vs Y B hv=>
   rename_i cap b o;obtain⟨i,h1,h2⟩:=mem C.bare b o cs (vQ vs B hv) N (λu=>hr.fin b _ (Y 0 u));exact⟨rfl,i,(h1.up rfl rfl),λW n=>h2 W n⟩
 ·rename_i sz r o O;split at h
  ·rename_i q' E cs J;injection h with h;injection h with d c;injection c with c g;subst d c g
   cases A with
   |slz aa=>
    have:((cs.drop o).take (0*sz))=[]:=by simp
    rw[this];rename_i a;refine⟨rfl,[],.nil,λW _=>?_⟩;cases a with
    |none=>rfl
    |some Q=>simp[Builtin.firstCells,loadCells,loadCellsFrom]
   |sl u p Z M=>
    rcases hr.rows r _ J with⟨h5,X⟩|⟨R,f,L,V,F⟩
    ·rw[X]at u;cases u
    ·have e:=F.at_.symm.trans u;injection e with e;injection e with e;injection e with d c;subst d c
     obtain⟨i,h1,h2⟩:=mem (C.sel q') R (f+o) _ ((F.atq.drop o).take (O*sz)) N (λ_=>F.lt);exact⟨rfl,i,h1,λW n=>h2 W n⟩
  ·cases h
 ·injection h with h;injection h with d c;injection c with c g;subst d c g
  obtain rfl:=AM.1 A;exact⟨rfl,[],.nil,λW _=>rfl⟩
 ·rename_i s;injection h with h;injection h with d c;injection c with c g;subst d c g
  obtain rfl:=AM.1 A;have:=hs s rfl;subst this;refine⟨rfl,s.data.toList.map λb=>.int .u8 b.toNat,?_,λW _=>?_⟩
  ·have:=Xc (C:=C.sel true) (w:=w) (s.data.toList.map λb=>Value.int .u8 b.toNat);simpa [l1y] using this
  ·simp only[Builtin.firstCells,mJ]
   congr 1
   have:s.extract 0 s.size=s:=by
    apply ByteArray.ext;simp
   rw[this];obtain⟨⟨l⟩⟩:=s;simp only[List.map_toArray]
 ·cases h
def xR(h:CF (C.sel q) w aZ ys):CF (C.sel q') w aZ ys:=h
def uL(h:CF (C.sel q') w aZ ys):CF (C.sel q) w aZ ys:=h
def Rel.virtual(hr:Rel G w0 C H w)(q:Bool)(E:TypeId):Rel G w0 (C.put (Ar H) none) ((Ar H,.cells q E [])::H) w:=by
 have g:C.π (Ar H)=none:=hr.nx _ (LH _);have e:Ext w0.own C w (C.put (Ar H) none) w:=Ctx.put_ext g (.refl _ _ _);refine⟨hr.glob,hr.below,?_,?_,?_,?_,hr.fin,hr.finB,?_⟩
 ·intro r x a;simp only[Ai]at a;split at a
  ·rename_i h;subst h;rw[C.put_n];simp
  ·rw[e.π r (hr.lt r x a)];exact hr.lt r x a
 ·intro r x a;simp only[Ai]at a;split at a
  ·rename_i h;subst h;injection a with a;subst a
   exact Or.inl ⟨rfl,C.put_n _ none⟩
  ·exact(hr.rows r x a).mono e (λ_ _ _=>rfl)
 ·intro r x b o a c;simp only[Ai]at a;split at a
  ·rename_i h;subst h;rw[C.put_n]at c;cases c
  ·rename_i h;rw[C.put_ne _ h]at c;exact hr.own r x b o a c
 ·intro r j x k b o i a f c d;simp only[Ai]at a f;split at a
  ·rename_i h;subst h;rw[C.put_n]at c;cases c
  ·rename_i h1;split at f
   ·rename_i h;subst h;rw[C.put_n]at d;cases d
   ·rename_i h2;rw[C.put_ne _ h1]at c;rw[C.put_ne _ h2]at d;exact hr.sep r j x k b o i a f c d
 ·intro r h;have h:Ar H+1<=r:=h;rw[C.put_ne _ (by omega)];exact hr.nx r (by omega)
def Rel.extend(hr:Rel G w0 C H w){w':World}{r1:Nat}{E:TypeId}{cs aZ:Is}{b base o:Nat}{arr:Array Value}{fz:Nat×Nat}(B:Ai H r1=some (.cells q E cs))(r:Laid C w r1 q E cs b base arr fz)(ho:o<=cs.length)(hv:CF (C.sel q') w aZ ys)(M:base+cs.length+aZ.length<=arr.size)(p:SameBut w w' b E (splice arr.toList (base+cs.length) ys).toArray fz):
 Rel G w0 (C.put (Ar H) (some (b,base+o))) ((Ar H,.cells false E (cs.drop o++aZ))::cut H r1) w'/\Ext w0.own C w (C.put (Ar H) (some (b,base+o))) w':=by
 have F:C.π (Ar H)=none:=hr.nx _ (LH _);have g:=hr.own r1 _ b base B r.at_;have Y:ys.length=aZ.length:=hv.1;have hsz:(splice arr.toList (base+cs.length) ys).toArray.size=arr.size:=by
  simp only[List.size_toArray];rw[FX (by simp;omega)];simp
 have Q:Ext w0.own C w C w':=p.ext r.block hsz g.2.1 g.2.2;have e:Ext w0.own C w (C.put (Ar H) (some (b,base+o))) w':=Ctx.put_ext F Q;have a:∀s x,Ai (cut H r1) s=some x->s≠r1/\Ai H s=some x:=λs x c=>by
  by_cases p:s=r1
  ·subst p;rw[MP]at c;cases c
  ·rw[Qw p]at c;exact⟨p,c⟩
 refine⟨⟨hr.glob.mono e,?_,?_,?_,?_,?_,λk i X=>p.size▸hr.fin k i X,λk V=>p.size▸hr.finB k V,λk O=>by
  have O:Ar H+1<=k:=O;rw[C.put_ne _ (by omega)];exact hr.nx k (by omega)⟩,e⟩
 ·exact hr.below.same p g.1
 ·intro s x c;simp only[Ai]at c;split at c
  ·rename_i h;subst h;rw[C.put_n];simp
  ·rw[e.π s (hr.lt s x (a s x c).2)];exact hr.lt s x (a s x c).2
 ·intro s x c;simp only[Ai]at c;split at c
  ·rename_i h;subst h;injection c with c;subst c
   refine Or.inr ⟨b,base+o,_,fz,C.put_n _ _,p.here,by rw[hsz];exact r.free,by rw[hsz];simp;omega,?_,λh=>by cases h⟩;have u:CF ((C.put (Ar H) (some (b,base+o))).sel false) w' cs _:=r.vals.mono (e.sel q);have K:CF ((C.put (Ar H) (some (b,base+o))).sel false) w' aZ ys:=hv.mono (e.sel q');have J:((splice arr.toList (base+cs.length) ys).drop (base+o)).take (cs.drop o++aZ).length=((arr.toList.drop base).take cs.length).drop o++ys:=by
    apply l0p;intro j;simp only[Ez,l0u];rw[zD];by_cases N:j<cs.length-o+aZ.length
    ·rw[Dr N,qJ,Py (by simp;omega)];by_cases h1:j<cs.length-o
     ·rw[Dr (by omega),l0m (by simp;omega),qJ,zD,Dr (by omega),qJ]
      congr 1;omega
     ·rw[CD (by omega),Dr (by omega),l0o (by simp;omega)]
      congr 1
      simp;omega
    ·rw[CD N]
     symm
     rw[List.getElem?_eq_none_iff];simp;omega
   simp only[];rw[J];exact(u.drop o).append K
  ·refine(hr.rows s x (a s x c).2).mono e (λk D d=>p.others k (λR=>?_));subst R;exact(a s x c).1 (hr.sep s r1 x _ _ _ _ (a s x c).2 B d r.at_)
 ·intro s x k Z c d;simp only[Ai]at c;split at c
  ·rename_i h;subst h;rw[C.put_n]at d;injection d with d;injection d with d;injection d with t L;subst t
   exact g
  ·rename_i m;rw[C.put_ne _ m]at d;exact hr.own s x k Z (a s x c).2 d
 ·intro s y x A k o1 o2 c n d f;simp only[Ai]at c n;split at c
  ·rename_i h;subst h;rw[C.put_n]at d;injection d with d;injection d with d;injection d with t L;subst t
   split at n
   ·rename_i h;exact h.symm
   ·rename_i m;rw[C.put_ne _ m]at f;exact absurd (hr.sep y r1 A _ _ _ _ (a y A n).2 B f r.at_) (a y A n).1
  ·rename_i m;split at n
   ·rename_i h;subst h;rw[C.put_n]at f;injection f with f;injection f with f;injection f with t L;subst t
    rw[C.put_ne _ m]at d;exact absurd (hr.sep s r1 x _ _ _ _ (a s x c).2 B d r.at_) (a s x c).1
   ·rename_i v;rw[C.put_ne _ m]at d;rw[C.put_ne _ v]at f;exact hr.sep s y x A k o1 o2 (a s x c).2 (a y A n).2 d f
end
end
def Zl(T:Ty)(t1 t2:TypeId)(s x:AV)(H:Hp)(r:Nat)(K:AV->Hp->Prop):Prop:=
 match T t1,T t2 with
 |some i1,some i2=>match i1.d with
  |.slice e a=>match T e with
   |some b=>(a≠0/\(B0 b.zero).length=a/\(match i2.d with|.slice .. =>True|.string=>True|_=>False)/\(match x with|.v (.string _)=>a=1|_=>True))/\Mm (A2p H x) λp=>
    (p.2.1.length=p.1*a/\p.2.1.all AV.one=true)/\(match s with
     |.v (.slice none 0 0)=>(p.1*b.bytes<=2^46/\p.1<=2^46)/\(if p.1=0 then K (.v (.slice none 0 0)) H else K (.sl a r 0 p.1) ((r,.cells false e p.2.1)::H))
     |.sl sz r1 o n=>match Ai H r1 with
      |some (.cells q E cs)=>(E=e/\sz=a/\o+n*a=cs.length/\(n+p.1)*b.bytes<=2^46/\n+p.1<=2^46)/\K (.sl a r 0 (n+p.1)) ((r,.cells false e (cs.drop o++p.2.1))::cut H r1)
      |_=>False
     |_=>False)
   |none=>False
  |_=>False
 |_,_=>False
section
variable{P:Program}{G:Gl}{w0:Base}{w:World}{C:Ctx}{H:Hp}
def A7z(a:Nat):∀(rounds c:Nat),c<a->Builtin.growBy a rounds c<=a+(a+768)/4:=by
 intro rounds
 induction rounds with
 |zero=>intro c h;simp[Builtin.growBy];omega
 |succ n ih=>
  intro c h;simp only[Builtin.growBy];rw[CD (by omega)];by_cases h2:c+(c+768)/4<a
  ·exact ih _ h2
  ·cases n with
   |zero=>simp[Builtin.growBy];omega
   |succ n=>simp only[Builtin.growBy];rw[Dr (by omega)];omega
def A3M(a b:Nat)(h:b<a):Builtin.nextslicecap a b<=2*a:=by
 unfold Builtin.nextslicecap;split
 ·omega
 ·split
  ·omega
  ·have:=A7z a 4 b h;omega
def oX{t1 t2 e:TypeId}{inf:TypeInfo}{z:Value}{esz:Nat}{J:TypeDesc}(Q:P.underlying t1=some (.slice e))(b:P.info? e=some inf)(hsz:inf.size=esz)(hz:inf.zero=some z)(D:z.cells.size=esz)(B:P.underlying t2=some J)(x:(∃L,J=.slice L)\/J=.string){ts:Array TypeId}(h1:ts[0]?=some t1)(h2:ts[1]?=some t2){ty:TypeId}{base:Option Addr}{n cap m:Nat}{y:Value}(p:(Builtin.lenOf y).run P w=.ok m w)(j:cap<n+m)(M:(n+m)*inf.bytes<=2^46)(N:n+m<=2^46){a new:Hx}(t:(Builtin.firstCells esz n (.slice base n cap)).run P {w with drawn:=w.drawn+1}= .ok a.toArray {w with drawn:=w.drawn+1})(s:(Builtin.firstCells esz m y).run P {w with drawn:=w.drawn+1}= .ok new.toArray {w with drawn:=w.drawn+1})(A:a.length=n*esz)(v:new.length=m*esz):
 ∃(c:Nat)(arr:Array Value)(K:World),n+m<=c/\(Builtin.append_ ts ty #[.slice base n cap,y]).run P w=.ok (.slice (some ⟨w.heap.size,0,none⟩) (n+m) c) K/\Below w.heap.size w K/\K.heap[w.heap.size]?=some (.cells arr e (0,0))/\arr.toList.take (a++new).length=a++new/\arr.size=c*esz:=by
 have f:=A3M (n+m) cap j;have i:¬(Builtin.nextslicecap (n+m) cap*inf.bytes>2^48):=by
  have:=l28 inf.bytes f;rw[Nat.mul_assoc]at this;omega
 let q:Question:=.appendCap (n+m) cap e
 let c:=q.cut (w.tape w.drawn q)
 have hc:n+m<=c:=by show n+m<=n+m+_;omega
 refine⟨c,a.toArray++new.toArray++Builtin.zeroCells z.cells (c-(n+m)),{ {w with drawn:=w.drawn+1} with heap:=w.heap.push (.cells (a.toArray++new.toArray++Builtin.zeroCells z.cells (c-(n+m))) e)},hc,?_,?_,by simp,?_,?_⟩
 ·have u:¬(n+m<=cap):=by omega
  have r:IntKind.i64.max=9223372036854775807:=by decide
  have g:(sizeOf e).run P w=.ok esz w:=by simp[sizeOf,typeInfo,b,hsz]
  have h:∀W:World,(typeInfo e).run P W=.ok inf W:=λW=>by simp[typeInfo,b]
  have F:∀W:World,(zeroValue e).run P W=.ok z W:=λW=>by simp[zeroValue,typeInfo,b,hz]
  have d:¬(((n+m:Nat):Int)>IntKind.i64.max/\(false=true\/inf.bytes=0)):=by rw[r];omega
  rcases x with⟨L,rfl⟩|rfl
  all_goals
   unfold Builtin.append_;simp only[h1,h2,l15,l21,l0r];rw[Dn,run_underlying Q w];simp only[FY];rw[Dn,g];simp only[FY];rw[Dn,run_underlying B w];simp only[FY];rw[Dn,mJ];simp only[FY,xT,if_false];rw[Dn,p];simp only[FY,CD u];rw[Dn,h];simp only[FY];rw[CD (by simpa using d),Dn,h];simp only[FY,CD i];rw[Dn,run_choose,CD (by simp[Question.forced])];simp only[FY];rw[Dn,h];simp only[FY];rw[Dn,run_askRoom];simp only[FY];rw[Dn,t];simp only[FY,Bool.not_false,if_true];rw[Dn,s];simp only[FY];rw[Dn,F];simp only[FY];simp only[newRow,Dn,run_newObj,FY,mJ];rfl
 ·refine⟨rfl,rfl,rfl,by simp,λk O=>by simp[l2c,Nat.ne_of_lt O]⟩
 ·simp only[Array.toList_append,eK];rw[<-eK];exact List.take_left
 ·simp[Builtin.zeroCells,D,A,v];rw[<-l1e,<-l1e]
  congr 1;omega
end
section
variable{s x:AV}{K:AV->Hp->Prop}{y:Value}
section
variable{P:Program}{G:Gl}{w0:Base}{w:World}{C:Ctx}{H:Hp}
def TU{t1 t2 e:TypeId}{esz:Nat}{j:TypeDesc}(p:P.underlying t1=some (.slice e))(c:(sizeOf e).run P w=.ok esz w)(i:P.underlying t2=some j)(h:(∃k,j=.slice k)\/j=.string){ts:Array TypeId}(h1:ts[0]?=some t1)(h2:ts[1]?=some t2){ty:TypeId}{base:Option Addr}{n cap m:Nat}(f:(Builtin.lenOf y).run P w=.ok m w)(d:n+m<=cap){new:Hx}(g:(Builtin.firstCells esz m y).run P w=.ok new.toArray w){w':World}(b:(match base with|some a=>storeCells (a.add (n*esz)) new|none=>pure ():Sem Unit).run P w=.ok () w'):
 (Builtin.append_ ts ty #[.slice base n cap,y]).run P w=.ok (.slice base (n+m) cap) w':=by
 rcases h with⟨k,rfl⟩|rfl
 all_goals
  unfold Builtin.append_;simp only[h1,h2,l15,l21,l0r];rw[Dn,run_underlying p w];simp only[FY];rw[Dn,c];simp only[FY];rw[Dn,run_underlying i w];simp only[FY];rw[Dn,mJ];simp only[FY,xT,if_false];rw[Dn,f];simp only[FY,Dr d,Bool.not_false,if_true];rw[Dn,g];simp only[FY];cases base with
  |none=>
   simp only[mJ]at b;injection b with _ b
   subst b;rfl
  |some a=>
   simp only at b;simp only[Dn];rw[b];rfl
def A1r{c:Is}{ys:Hx}(h:CF C w c ys)(h1:c.all AV.one=true):∀v∈ys,v.oneCell'=true:=by
 intro v hv;obtain⟨i,hi⟩:=List.getElem?_of_mem hv;have a:i<c.length:=by rw[<-h.1];exact(zE.1 hi).1
 obtain⟨y,b,hr⟩:=h.2 i _ (KL a);rw[hi]at b;injection b with b
 subst b;exact hr.one (G9.1 h1 _ (NT a))
def Yc{T:Ty}(hT:jX P T){t1 t2 ty:TypeId}{y z:Value}{ts:Array TypeId}(h1:ts[0]?=some t1)(h2:ts[1]?=some t2)(hr:Rel G w0 C H w)(hs:VRel C w s y)(hx:∀(esz m:Nat)(ys:Is)(q:Bool),A2p H x=some (m,ys,q)->ys.length=m*esz->(∀s,x=.v (.string s)->esz=1)->(Builtin.lenOf z).run P w=.ok m w/\∃vs:Hx,CF (C.sel q) w ys vs/\∀W:World,(∀k,k<w.heap.size->W.heap[k]?=w.heap[k]?)->(Builtin.firstCells esz m z).run P W=.ok vs.toArray W)(h:Zl T t1 t2 s x H (Ar H) K):
 ∃v H' u V w',K v H'/\(Builtin.append_ ts ty #[y,z]).run P w=.ok u w'/\KJ G w0 C w v H' u V w':=by
 unfold Zl at h;split at h
 ·rename_i i1 i2 bg bh;split at h
  ·rename_i e esz hd;split at h
   ·rename_i ie bj;obtain⟨⟨bx,b5,ay,ah⟩,h⟩:=h;cases Q:A2p H x with
    |none=>rw[Q]at h;exact h.elim
    |some p=>
     obtain⟨m,ys,q2⟩:=p;rw[Q]at h;simp only[Mm]at h;obtain⟨⟨N,a5⟩,h⟩:=h;obtain⟨hu,hc⟩:=(hT t1 i1 bg).elem_slice hd;obtain⟨u2,Y,ao⟩:=(hT t2 i2 bh).under;have X:(∃e2,u2=.slice e2)\/u2=.string:=by
      cases u2<;>simp[td]at ao<;>rw[<-ao]at ay<;>simp at ay⊢
     have a8:∀q,x=.v (.string q)->esz=1:=by
      intro q hq;subst hq;exact ah
     obtain⟨F,vs,M,D⟩:=hx esz m ys q2 Q N a8;have bp:=hT e ie bj;obtain⟨inf,zv,O,bt,bd,hz,ez⟩:=bp.info;have be:P.cellsOf e=inf.size:=by simp[Program.cellsOf,O]
     have hsz:inf.size=esz:=by rw[<-be,hc]
     have B:(sizeOf e).run P w=.ok esz w:=by simp[sizeOf,typeInfo,O,hsz]
     have bo:zv.cells.size=esz:=by
      have:=(Pu (C:=C) (w:=w) (t:=e) (i:=ie) ez).1;simp at this;omega
     have ak:vs.length=m*esz:=by rw[M.1,N]
     have r:=D w (λ_ _=>rfl);have af:=D {w with drawn:=w.drawn+1} (λ_ _=>rfl);have grow:∀(base:Option Addr)(n cap:Nat)(g:Hx)(q1:Bool)(cs:Is)(Hc:Hp),Ar Hc=Ar H->Rel G w0 C Hc w->cap<n+m->(n+m)*ie.bytes<=2^46->n+m<=2^46->CF (C.sel q1) w cs g->cs.length=n*esz->
      (Builtin.firstCells esz n (.slice base n cap)).run P {w with drawn:=w.drawn+1}= .ok g.toArray {w with drawn:=w.drawn+1}->
      ∃u V w',(Builtin.append_ ts ty #[.slice base n cap,z]).run P w=.ok u w'/\KJ G w0 C w (.sl esz (Ar H) 0 (n+m)) ((Ar H,.cells false e (cs++ys))::Hc) u V w':=by
      intro base n cap g q1 cs Hc bk bn aa J L ae ar a4;have ag:g.length=n*esz:=by rw[ae.1,ar]
      obtain⟨c,arr,w',ab,f,ap,aq,ai,Z⟩:=oX (P:=P) (w:=w) (ty:=ty) hu O hsz hz bo Y X h1 h2 F aa (by rw[bd];exact J) L a4 af ag ak;refine⟨_,_,w',f,bk▸Zu bn ap e aq (λi _=>by omega) esz (n+m) c ab (by rw[Z];exact LH _) ?_ ?_⟩
      ·rw[Z,Ez,ar,N,<-l1e];exact l28 _ ab
      ·have:(cs++ys).length=(g++vs).length:=by simp[ae.1,M.1]
       rw[this,ai];exact(xR ae).append (uL M)
     split at h
     ·obtain⟨⟨J,L⟩,h⟩:=h;obtain rfl:=AM.1 hs;by_cases hm:m=0
      ·subst hm;have am:ys=[]:=kC (by simpa using N);subst am;have aj:vs=[]:=kC (by simpa using ak);subst aj;exact⟨_,_,_,C,w,h,TU (P:=P) (ty:=ty) (base:=none) (n:=0) (cap:=0) hu B Y X h1 h2 F (LH _) r (by rfl),.v _,hr,.refl _ _ _⟩
      ·obtain⟨u,V,w',f,R⟩:=grow none 0 0 [] false [] H rfl hr (by omega) (by simpa using J) (by simpa using L) .nil (by simp) rfl;rw[CD hm]at h;exact⟨_,_,u,V,w',h,f,by simpa using R⟩
     ·rename_i sz r1 o n;split at h
      ·rename_i q1 E cs az;obtain⟨⟨rfl,rfl,a9,J,L⟩,h⟩:=h;have ac:(cs.drop o).length=n*sz:=by simp;omega
       cases hs with
       |slz bz=>
        rename_i a;have h0:cs.drop o=[]:=kC (by rw[ac];simp);by_cases hm:m=0
        ·subst hm;have am:ys=[]:=kC (by simpa using N);subst am;have aj:vs=[]:=kC (by simpa using ak);subst aj;refine⟨_,_,_,C.put (Ar H) none,w,h,TU (P:=P) (ty:=ty) (base:=a) (n:=0) (cap:=0) hu B Y X h1 h2 F (LH _) r (w':=w) (by cases a<;>rfl),.slz (by rw[C.put_n];simp),?_,Ctx.put_ext (hr.nx _ (LH _)) (.refl _ _ _)⟩;have:=(hr.cut_row r1).virtual false E;simpa [h0,cut,B1] using this
        ·obtain⟨u,V,w',f,R⟩:=grow a 0 0 [] q1 [] (cut H r1) (B1 _ _ _) (hr.cut_row r1) (by omega) (by simpa using J) (by simpa using L) .nil (by simp) (by
          cases a with
          |none=>rfl
          |some ad=>simp[Builtin.firstCells,loadCells,loadCellsFrom])
         exact⟨_,_,u,V,w',h,f,by simpa [h0] using R⟩
       |sl hp aa bc ax=>
        rename_i b base cap bq T' bv;rcases hr.rows r1 _ az with⟨h5,h6⟩|⟨b',d,arr,fz,hl⟩
        ·rw[h6]at hp;cases hp
        ·have e':=hl.at_.symm.trans hp;injection e' with e';injection e' with e';injection e' with e1 e2;subst e1 e2
         have e3:=hl.block.symm.trans bc;injection e3 with e3;injection e3 with e4 e5 e6
         subst e4 e5 e6;have bf:=hl.fits;by_cases A:n+m<=cap
         ·have bs:cs.length+ys.length<=o+cap*sz:=by
           rw[<-a9,N,kE,<-l1e];exact Nat.add_le_add_left (l28 _ A) _
          have bu:vs.length=ys.length:=M.1;obtain⟨w',f,a7⟩:=Nh (P:=P) vs w arr (d+o+n*sz) 0 hl.block hl.free (by omega) (A1r M a5);have a6:d+o+n*sz=d+cs.length:=by omega
          have ba:=hr.extend az hl (o:=o) (by omega) M (by omega) (by rw[<-a6];simpa using a7);refine⟨_,_,_,_,w',h,TU (P:=P) (ty:=ty) (base:=some ⟨b',d+o,none⟩) hu B Y X h1 h2 F A r (w':=w') (by simp only[Kl];exact f),?_,ba.1,ba.2⟩;have:VRel (C.put (Ar H) (some (b',d+o))) w' (.sl sz (Ar H) 0 (n+m)) (.slice (some ⟨b',d+o+0,none⟩) (n+m) cap):=by
           refine .sl (C.put_n _ _) A a7.here ?_;simp only[List.size_toArray];rw[FX (by simp;omega)];simpa using ax
          simpa using this
         ·obtain⟨g,a3,bm⟩:=(hl.atq.drop o)
          have ag:g.length=n*sz:=by rw[a3.1,ac]
          obtain⟨u,V,w',f,R⟩:=grow (some ⟨b',d+o,none⟩) n cap g q1 (cs.drop o) (cut H r1) (B1 _ _ _) (hr.cut_row r1) (by omega) J L a3 ac (by
           simp only[Builtin.firstCells];have:=run_loadCells_list (P:=P) {w with drawn:=w.drawn+1} ⟨b',d+o,none⟩ g (λj v hv=>by rw[Kl];exact bm j v hv)
           rwa[ag]at this)
          exact⟨_,_,u,V,w',h,f,R⟩
      ·exact h.elim
     ·exact h.elim
   ·exact h.elim
  ·exact h.elim
 ·exact h.elim
def wI{T:Ty}(e:jX P T){t1 t2 ty:TypeId}{y z:Value}{ts:Array TypeId}(h1:ts[0]?=some t1)(h2:ts[1]?=some t2)(hr:Rel G w0 C H w)(a:VRel C w s y)(g:VRel C w x z)(h:Zl T t1 t2 s x H (Ar H) K):
 ∃v b u d c,K v b/\(Builtin.append_ ts ty #[y,z]).run P w=.ok u c/\KJ G w0 C w v b u d c:=
 Yc e h1 h2 hr a (λ_ _ _ _ h f a=>Xy hr g h f a) h
end
end
section
variable{K:AV->Hp->Prop}{a:Act}{w0:Base}{C:Ctx}{N s0:Nat}{w:World}
structure Env where
 P:Program
 G:Gl
 T:Ty
structure Env.Ok(E:Env):Prop where
 ty:jX E.P E.T
 pos:∀t i e esz,E.T t=some i->(i.d=.slice e esz\/∃n,i.d=.array n e esz)->esz≠0
 mix:E.P.follows .mixedOrders=true
def xmm(c:Bool)(a b:AV)(K:AV->Prop):Prop:=
 match a,b with
 |.v (.int k x),.v (.int d y)=>k=d/\K (.v (.int k (if c then(if y<x then y else x) else(if y>x then y else x))))
 |.v (.string s),.v (.string u)=>K (.v (.string (if(if c then(Op.bytesLess s.toList u.toList||s.toList==u.toList) else !Op.bytesLess s.toList u.toList) then s else u)))
 |_,_=>False
def rZ(E:Env)(o:Op)(t:Tm)(H:Hp)(K:AV->Hp->Prop):Prop:=
 match o with
 |.move x=>K (JP E.G t x) H
 |.assign x=>K (JP E.G t x) H
 |.pick c a b=>match JP E.G t c with
  |.v (.bool q)=>K (if q then JP E.G t a else JP E.G t b) H
  |_=>False
 |.load ty x=>A0s E.T ty (JP E.G t x) H (λv=>K v H)
 |.store ty x y=>rW E.T ty (JP E.G t x) (JP E.G t y) H (λe=>K (.v undef) e)
 |.nilCheck x=>A8C (JP E.G t x) (λv=>K v H)
 |.binOp op ty x y _=>sF E.T op ty (JP E.G t x) (JP E.G t y) (λv=>K v H)
 |.unOp op _ x=>xun op (JP E.G t x) (λv=>K v H)
 |.convert s d x=>yG E.T s d (JP E.G t x) (λv=>K v H)
 |.makeFunc fn first cap=>K (.fn fn (first.toList.map (JP E.G t)) (cap.toList.map (JP E.G t))) H
 |.fieldAddr ty x f=>kL E.T ty (JP E.G t x) f (λv=>K v H)
 |.field ty x f=>sC E.T ty (JP E.G t x) f (λv=>K v H)
 |.indexAddr ty x i=>sB E.T ty (JP E.G t x) (JP E.G t i) (λv=>K v H)
 |.index ty x i=>sA E.T ty (JP E.G t x) (JP E.G t i) (λv=>K v H)
 |.slice ty x g hi mx=>rY E.T ty (JP E.G t x) (g.map (JP E.G t)) (hi.map (JP E.G t)) (mx.map (JP E.G t)) (λv=>K v H)
 |.extract x k=>match JP E.G t x with
  |.tup vs=>Mm (vs[k]?) (λv=>K v H)
  |_=>False
 |.build ty parts=>sD E.T ty (parts.toList.map λp=>(p.1,JP E.G t p.2)) (λv=>K v H)
 |.call c=>match c.callee with
  |.builtin .len=>match c.args.toList,c.argTypes.toList with
   |[x],[ty]=>A8D E.T ty (JP E.G t x) (λv=>K v H)
   |_,_=>False
  |.builtin .min=>match c.args.toList with
   |[x,y]=>xmm true (JP E.G t x) (JP E.G t y) (λv=>K v H)
   |_=>False
  |.builtin .max=>match c.args.toList with
   |[x,y]=>xmm false (JP E.G t x) (JP E.G t y) (λv=>K v H)
   |_=>False
  |_=>False
 |_=>False
def B2Y(E:Env)(o:Op)(t:Tm)(H:Hp)(r:Nat)(K:AV->Hp->Prop):Prop:=
 match o with
 |.alloc ty=>sG E.T ty H r K
 |.box ty x=>B6V ty (JP E.G t x) H r K
 |.buildSlice ty n parts=>fV E.T ty n (parts.toList.map λp=>(p.1,JP E.G t p.2)) H r K
 |.call c=>match c.callee with
  |.builtin .append=>match c.args.toList,c.argTypes.toList with
   |[s,x],[b,d]=>Zl E.T b d (JP E.G t s) (JP E.G t x) H r K
   |_,_=>False
  |_=>False
 |_=>False
section
variable{E:Env}{t:Tm}{H:Hp}
def Yy{G:Gl}(s:St G w0 s0 C N t H a w)(x:Option Operand):A02 C w (x.map (JP G t)) (x.map a.eval):=by
 cases x with
 |none=>trivial
 |some x=>exact Bb s x
def lP{G:Gl}(s:St G w0 s0 C N t H a w)(parts:Array (Nat×Operand)):
 (parts.toList.map λp=>(p.1,JP G t p.2)).length=(parts.toList.map λp=>(p.1,a.eval p.2)).length/\
 ∀(j:Nat)(p:Nat×AV),(parts.toList.map λp=>(p.1,JP G t p.2))[j]?=some p->∃z,(parts.toList.map λp=>(p.1,a.eval p.2))[j]?=some (p.1,z)/\VRel C w p.2 z:=by
 refine⟨by simp,λj p b=>?_⟩;rw[xU]at b⊢;cases h:parts.toList[j]? with
 |none=>rw[h]at b;simp at b
 |some q=>rw[h]at b;simp at b;subst b;exact⟨_,rfl,Bb s q.2⟩
def B4A{r p k:Nat}{y:Value}(h:VRel C w (.ptr r p k) y):∃b c,y=.pointer (some ⟨b,c,none⟩):=by
 cases h with
 |ptr d=>exact⟨_,_,rfl⟩
def IF{o:Oper}{c:Call}(d:o.op=.call c)(b:Builtin)(hb:c.callee=.builtin b):execOp a.eval o=builtin b c.argTypes o.type (c.args.map λ|.const _=>true|_=>false) (c.args.map a.eval):=by
 simp only[execOp,d,resolve,hb];rfl
def yF(D:E.Ok){o:Oper}(h:rZ E o.op t H K):B2w E.P E.G o t H K:=by
 intro w0 s0 C N a w s;have g:∀{sm:Sem Value}{v:AV}{u:Value},execOp a.eval o=(do pure (.value (<-sm)))->sm.run E.P w=.ok u w->VRel C w v u->K v H->
  ∃v M y O L,K v M/\((execOp a.eval o).run E.P w=.ok (.value y) L\/((execOp a.eval o).run E.P w=.ok .skip L/\y=undef))/\VRel O L v y/\Rel E.G w0 O M L/\Ext w0.own C w O L:=by
  intro sm v u he hr hv Z;exact⟨v,H,u,C,w,Z,.inl (by rw[he,Dn,hr];rfl),hv,s.rel,.refl _ _ _⟩
 unfold rZ at h;split at h
 ·rename_i x j;exact⟨_,H,_,C,w,h,.inl (by simp[execOp,j]),Bb s x,s.rel,.refl _ _ _⟩
 ·rename_i x j;exact⟨_,H,_,C,w,h,.inl (by simp[execOp,j]),Bb s x,s.rel,.refl _ _ _⟩
 ·rename_i c x y j;split at h
  ·rename_i q hq;have hc:=Bb s c;rw[hq]at hc;have Q:=AM.1 hc;refine⟨_,H,if q then a.eval x else a.eval y,C,w,h,.inl (by simp[execOp,j,Q,asBool]),?_,s.rel,.refl _ _ _⟩;cases q
   ·exact Bb s y
   ·exact Bb s x
  ·exact h.elim
 ·rename_i ty x j;obtain⟨v,z,h1,h2,A⟩:=nZ D.ty s.rel (Bb s x) h;exact g (by simp only[execOp,j]) h1 h2 A
 ·rename_i ty x y j;obtain⟨M,L,h1,h2,A,Y⟩:=G! D.ty s.rel (Bb s x) (Bb s y) h;exact⟨_,M,undef,C,L,Y,.inr ⟨by simp only[execOp,j];rw[Dn,h1];rfl,rfl⟩,.v _,h2,A⟩
 ·rename_i x j;have B:=Bb s x;unfold A8C at h;split at h
  ·rename_i hq;rw[hq]at B;refine⟨_,H,a.eval x,C,w,h,.inl ?_,by rw[hq];exact B,s.rel,.refl _ _ _⟩;obtain⟨b,o',e⟩:=B4A B;simp only[execOp,j,e];rfl
  ·rename_i hq;rw[hq]at B;refine⟨_,H,a.eval x,C,w,h,.inl ?_,by rw[hq];exact B,s.rel,.refl _ _ _⟩;obtain⟨b,o',e⟩:=uT B;simp only[execOp,j,e];rfl
  ·rename_i hq;rw[hq]at B;refine⟨_,H,a.eval x,C,w,h,.inl ?_,by rw[hq];exact B,s.rel,.refl _ _ _⟩;obtain⟨X,zs,e,_⟩:=Ju.1 B;simp only[execOp,j,e];rfl
  ·rename_i hq;rw[hq]at B;refine⟨_,H,a.eval x,C,w,h,.inl ?_,by rw[hq];exact B,s.rel,.refl _ _ _⟩;obtain⟨X,zs,e,_⟩:=Ju.1 B;simp only[execOp,j,e];rfl
  ·exact h.elim
 ·rename_i op ty x y yt j;obtain⟨v,u,h1,h2,A⟩:=sE D.ty x y (Bb s x) (Bb s y) h;exact g (by simp only[execOp,j]) h1 h2 A
 ·rename_i op ty x j;obtain⟨v,u,h1,h2,A⟩:=A6A (P:=E.P) (Bb s x) h;exact g (by simp only[execOp,j]) h1 h2 A
 ·rename_i sr d x j;obtain⟨v,u,h1,h2,A⟩:=A0t D.ty (Bb s x) h;exact g (by simp only[execOp,j]) h1 h2 A
 ·rename_i fn first cap j;refine⟨_,H,.func fn (first.map a.eval) (cap.map a.eval),C,w,h,.inl (by simp[execOp,j,Instr.makeFunc]),?_,s.rel,.refl _ _ _⟩;have key:∀l:List Operand,CF C w (l.map (JP E.G t)) (l.map a.eval):=by
   intro l
   induction l with
   |nil=>exact .nil
   |cons x l ih=>exact .cons (Bb s x) ih
  refine Ju.2 ⟨first.toList.map a.eval,cap.toList.map a.eval,?_,key _,key _⟩
  congr 1<;>(apply qK;simp)
 ·rename_i ty x f j;obtain⟨v,u,h1,h2,A⟩:=H_ D.ty (Bb s x) h;exact g (by simp only[execOp,j]) h1 h2 A
 ·rename_i ty x f j;obtain⟨v,u,h1,h2,A⟩:=H? D.ty (Bb s x) h;exact g (by simp only[execOp,j]) h1 h2 A
 ·rename_i ty x i j;obtain⟨v,u,h1,h2,A⟩:=H! D.ty D.pos (Bb s x) (Bb s i) h;exact g (by simp only[execOp,j]) h1 h2 A
 ·rename_i ty x i j;obtain⟨v,u,h1,h2,A⟩:=G_ D.ty D.pos (Bb s x) (Bb s i) h;exact g (by simp only[execOp,j]) h1 h2 A
 ·rename_i ty x lo hi mx j;obtain⟨v,u,h1,h2,A⟩:=G? D.ty D.pos (Bb s x) (Yy s lo) (Yy s hi) (Yy s mx) h;exact g (by simp only[execOp,j]) h1 h2 A
 ·rename_i x k j;have B:=Bb s x;split at h
  ·rename_i vs hq;rw[hq]at B;obtain⟨X,e,R⟩:=DJ.1 B;unfold Mm at h;split at h
   ·rename_i v hv;obtain⟨y,hy,hr⟩:=R.2 k v hv;refine g (sm:=Instr.extract (a.eval x) k) (by simp only[execOp,j]) ?_ hr h;rw[e];simp[Instr.extract,hy]
   ·exact h.elim
  ·exact h.elim
 ·rename_i ty parts j;obtain⟨R,hq⟩:=lP s parts;obtain⟨v,u,h1,h2,A⟩:=I' D.ty R hq h;refine g (sm:=Instr.build ty (parts.map λ(i,x)=>(i,a.eval x))) (by simp only[execOp,j]) ?_ h2 A;have:(parts.map λ(i,x)=>(i,a.eval x))=(parts.toList.map λp=>(p.1,a.eval p.2)).toArray:=by apply qK;simp
  rw[this];exact h1
 ·rename_i c j;have call:=λb hb=>IF (a:=a) j b hb;split at h
  ·rename_i hb;split at h
   ·rename_i x ty B V;obtain⟨v,u,h1,h2,A⟩:=A2X (P:=E.P) (rt:=o.type) (ts:=c.argTypes) D.ty (by rw[<-l27,V];rfl) (Bb s x) h;have r:c.args.map a.eval= #[a.eval x]:=by apply qK;simp[B]
    refine g (sm:=Builtin.len_ c.argTypes o.type #[a.eval x]) (by rw[call _ hb,r];rfl) h1 h2 A
   ·exact h.elim
  ·rename_i hb;split at h
   ·rename_i x y B;have r:c.args.map a.eval= #[a.eval x,a.eval y]:=by apply qK;simp[B]
    have h1:=Bb s x;have h2:=Bb s y;unfold xmm at h;split at h
    ·rename_i k m k' n F J;rw[F]at h1;rw[J]at h2;obtain⟨rfl,h⟩:=h;refine g (sm:=Builtin.min_ c.argTypes o.type #[a.eval x,a.eval y]) (by rw[call _ hb,r];rfl) ?_ (.v _) h;rw[AM.1 h1,AM.1 h2];rfl
    ·rename_i m n F J;rw[F]at h1;rw[J]at h2;refine g (sm:=Builtin.min_ c.argTypes o.type #[a.eval x,a.eval y]) (by rw[call _ hb,r];rfl) ?_ (.v _) h;rw[AM.1 h1,AM.1 h2];rfl
    ·exact h.elim
   ·exact h.elim
  ·rename_i hb;split at h
   ·rename_i x y B;have r:c.args.map a.eval= #[a.eval x,a.eval y]:=by apply qK;simp[B]
    have h1:=Bb s x;have h2:=Bb s y;unfold xmm at h;split at h
    ·rename_i k m k' n F J;rw[F]at h1;rw[J]at h2;obtain⟨rfl,h⟩:=h;refine g (sm:=Builtin.max_ c.argTypes o.type #[a.eval x,a.eval y]) (by rw[call _ hb,r];rfl) ?_ (.v _) h;rw[AM.1 h1,AM.1 h2];rfl
    ·rename_i m n F J;rw[F]at h1;rw[J]at h2;refine g (sm:=Builtin.max_ c.argTypes o.type #[a.eval x,a.eval y]) (by rw[call _ hb,r];rfl) ?_ (.v _) h;rw[AM.1 h1,AM.1 h2];rfl
    ·exact h.elim
   ·exact h.elim
  ·exact h.elim
 ·exact h.elim
def A2W(q:E.Ok){o:Oper}(h:B2Y E o.op t H (Ar H) K):B2w E.P E.G o t H K:=by
 intro w0 s0 C N a w s;have fin:∀{sm:Sem Value}{v:AV}{e:Hp}{u:Value}{d:Ctx}{b:World},execOp a.eval o=(do pure (.value (<-sm)))->sm.run E.P w=.ok u b->KJ E.G w0 C w v e u d b->K v e->
  ∃v e y d b,K v e/\((execOp a.eval o).run E.P w=.ok (.value y) b\/((execOp a.eval o).run E.P w=.ok .skip b/\y=undef))/\VRel d b v y/\Rel E.G w0 d e b/\Ext w0.own C w d b:=by
  intro sm v e u d b he hr f g;exact⟨v,e,u,d,b,g,.inl (by rw[he,Dn,hr];rfl),f.1,f.2.1,f.2.2⟩
 unfold B2Y at h;split at h
 ·rename_i ty k;obtain⟨v,e,y,d,b,g,hr,f⟩:=I! q.ty s.rel h;exact fin (by simp only[execOp,k]) hr f g
 ·rename_i ty x k;obtain⟨v,e,y,d,b,g,hr,f⟩:=A2Y (P:=E.P) s.rel (Bb s x) h;exact fin (by simp only[execOp,k]) hr f g
 ·rename_i ty n parts k;obtain⟨r,hq⟩:=lP s parts;obtain⟨v,e,y,d,b,g,hr,f⟩:=wG q.ty r hq s.rel h;refine fin (sm:=Instr.buildSlice ty n (parts.map λ(i,x)=>(i,a.eval x))) (by simp only[execOp,k]) ?_ f g;have:(parts.map λ(i,x)=>(i,a.eval x))=(parts.toList.map λp=>(p.1,a.eval p.2)).toArray:=by apply qK;simp
  rw[this];exact hr
 ·rename_i c k;split at h
  ·rename_i hb;split at h
   ·rename_i x y t1 t2 A m;have j:c.args.map a.eval= #[a.eval x,a.eval y]:=by apply qK;simp[A]
    obtain⟨v,e,z,d,b,g,hr,f⟩:=wI (P:=E.P) (ty:=o.type) (ts:=c.argTypes) q.ty (t1:=t1) (t2:=t2) (by rw[<-l27,m];rfl) (by rw[<-l27,m];rfl) s.rel (Bb s x) (Bb s y) h;refine fin (sm:=Builtin.append_ c.argTypes o.type #[a.eval x,a.eval y]) ?_ hr f g;rw[IF k _ hb,j];rfl
   ·exact h.elim
  ·exact h.elim
 ·exact h.elim
end
end
structure SameObj(w w':World)(b:Nat)(o':Obj):Prop where
 os:w'.os=w.os
 tape:w'.tape=w.tape
 output:w'.output=w.output
 size:w'.heap.size=w.heap.size
 here:w'.heap[b]?=some o'
 others:∀k,k≠b->w'.heap[k]?=w.heap[k]?
section
variable{P:Program}{G:Gl}{w0:Base}{C:Ctx}{H:Hp}{w w':World}{O:Nat->Prop}{r:Nat}{b o:Nat}{x y:Row}{o':Obj}
def Keep.same_obj{B:Base}(h:Keep B w)(a:SameObj w w' b o')(c:B.own b):Keep B w':=
 ⟨a.os.trans h.os,a.tape.trans h.tape,a.output.trans h.output,by rw[a.size];exact h.size,λk f d=>(a.others k (λe=>by
  subst e;rcases c with c|c
  ·omega
  ·exact d c)).trans (h.block k f d)⟩
def SameObj.ext(c:SameObj w w' b o')(d:∀arr T fz,w.heap[b]?≠some (.cells arr T fz))(j:∀i,¬C.F b i)(g:¬C.B b):Ext O C w C w':=
 ⟨λ_ _=>rfl,λ_ _ h=>h,λk i h=>l0t (c.others k (λe=>j i (e▸h))),λ_ h=>h,λk h=>c.others k (λe=>g (e▸h)),
  λk a t f h=>⟨a,f,(c.others k (λe=>d a t f (e▸h))).trans h,rfl⟩,λ_ _ h=>.inl h,λ_ h=>.inl h,Nat.le_of_eq c.size.symm⟩
def Rel.set_obj(h:Rel G w0 C H w)(p:Ai H r=some x)(F:C.π r=some (some (b,o)))(m:SameObj w w' b o')(n:∀arr T fz,w.heap[b]?≠some (.cells arr T fz))(R:Ext (λ_=>False) C w C w'->Ts C w' r y):Rel G w0 C (upd H r y) w'/\Ext O C w C w':=by
 have a:=h.own r x b o p F;have e:Ext O C w C w':=m.ext n a.2.1 a.2.2;have key:∀s z,Ai (upd H r y) s=some z->(s=r/\z=y)\/(s≠r/\Ai H s=some z):=λs z hz=>by
  by_cases g:s=r
  ·subst g;rw[BF p]at hz;exact .inl ⟨rfl,(iF hz).1.symm⟩
  ·rw[Ag g]at hz;exact .inr ⟨g,hz⟩
 have d:∀s z,Ai (upd H r y) s=some z->∃j,Ai H s=some j:=λs z hz=>by
  rcases key s z hz with⟨rfl,_⟩|⟨_,h⟩
  ·exact⟨x,p⟩
  ·exact⟨z,h⟩
 refine⟨⟨h.glob.mono e,h.below.same_obj m a.1,?_,?_,?_,?_,λk i M=>m.size▸h.fin k i M,λk L=>m.size▸h.finB k L,λk f=>h.nx k (by rw[B1]at f;exact f)⟩,e⟩
 ·intro s z hz;obtain⟨j,c⟩:=d s z hz;exact h.lt s j c
 ·intro s z hz;rcases key s z hz with⟨rfl,rfl⟩|⟨v,hz⟩
  ·exact R (m.ext n a.2.1 a.2.2)
  ·refine(h.rows s z hz).mono e (λk D f=>m.others k (λK=>?_));subst K;exact v (h.sep s r z x _ _ _ hz p f F)
 ·intro s z k B hz f;obtain⟨j,c⟩:=d s z hz;exact h.own s j k B c f
 ·intro s J z j k B V hz c f q;obtain⟨u,Q⟩:=d s z hz;obtain⟨X,A⟩:=d J j c;exact h.sep s J u X k B V Q A f q
theorem SameObj.putObj{l:Nat}(d:l<w.heap.size)(a:Obj):SameObj w (w.putObj l a) l a:=
 ⟨rfl,rfl,rfl,by simp,World.putObj_heap_same d,λk c=>World.putObj_heap_other (λe=>c e)⟩
end
def yL:Tm->List Tmp->Is->Tm
 |t,p::ps,a::c=>yL ((p,a)::t) ps c
 |t,_,_=>t
def A6V{C:Ctx}{w:World}:∀(ps:List Tmp)(c:Is)(ys:Hx)(t:Tm)(tmps:Array Value),(∀p∈ps,p<tmps.size)->CF C w c ys->Xz C w t tmps->
 Xz C w (yL t ps c) ((ps.zip ys).foldl (λt(p:Tmp×Value)=>t.setIfInBounds p.1 p.2) tmps)/\((ps.zip ys).foldl (λt(p:Tmp×Value)=>t.setIfInBounds p.1 p.2) tmps).size=tmps.size:=by
 intro ps
 induction ps with
 |nil=>intro c ys t tmps _ _ d;exact⟨d,rfl⟩
 |cons p ps ih=>
  intro c ys t tmps j h d;cases c with
  |nil=>rw[h.nil_inv];exact⟨d,rfl⟩
  |cons a c=>
   obtain⟨y,g,rfl,hv,e⟩:=h.cons_inv;simp only[List.zip_cons_cons,List.foldl_cons,yL];obtain⟨h1,h2⟩:=ih c g ((p,a)::t) (tmps.setIfInBounds p y) (λq hq=>by simpa using j q (by simp[hq])) e (λi=>by
    simp only[HW];by_cases hi:i=p
    ·subst hi;have f:i<tmps.size:=j i (by simp);rw[Dr rfl];simp[fJ,f];exact hv
    ·rw[CD hi];have:=d i;simp only[fJ]at this⊢;rw[Array.getElem?_setIfInBounds_ne (by omega)];exact this)
   exact⟨h1,by rw[h2];simp⟩
section
variable{P:Program}{G:Gl}{ro:Option Nat}{N:Nat}{t:Tm}{H:Hp}
def Rel.set_loop{w0:Base}{C:Ctx}{w:World}{r b:Nat}{f:Nat}{k:Tm}{ps:Array Tmp}{g i:Code}{a pend':Option (Option Code)}{O:Nat->Prop}(h:Rel G w0 C H w)(u:Ai H r=some (.loop f k ps g i a))(j:C.π r=some (some (b,0))):
 ∃l:Loop,w.heap[b]?=some (.loop l)/\l.state=B3W a/\l.pending=a.join/\l.tmps.size=f/\l.params=ps/\l.assign=g/\l.body=i/\Xz C w k l.tmps/\
  ∀c:Loop,c.state=B3W pend'->c.pending=pend'.join->c.tmps=l.tmps->c.params=l.params->c.assign=l.assign->c.body=l.body->
   Rel G w0 C (upd H r (.loop f k ps g i pend')) (w.putObj b (.loop c))/\Ext O C w C (w.putObj b (.loop c)):=by
 obtain⟨v,l,h1,h2,B,D,m,n,p,q,s⟩:=h.rows r _ u;have e:=h1.symm.trans j;injection e with e;injection e with e;injection e with A M;subst A
 refine⟨l,h2,B,D,m,n,p,q,s,λc k1 F k3 J K L=>?_⟩;have d:=(l1v.1 h2).1;exact h.set_obj u j (SameObj.putObj d _) (λarr T fz hc=>by rw[h2]at hc;cases hc) (λe=>⟨v,c,j,World.putObj_heap_same d,k1,F,by rw[k3];exact m,J.trans n,K.trans p,L.trans q,by rw[k3];exact s.mono e⟩)
def Ctx.addB(C:Ctx)(b:Nat):Ctx:={C with B:=λk=>C.B k\/k=b}
theorem Rel.addB{w0:Base}{C:Ctx}{w:World}{b:Nat}(h:Rel G w0 C H w)(i:b<w.heap.size)(j:w0.own b)(hn:∀r x o,Ai H r=some x->C.π r≠some (some (b,o))):Rel G w0 (C.addB b) H w/\Ext w0.own C w (C.addB b) w:=by
 have e:Ext w0.own C w (C.addB b) w:=⟨λ_ _=>rfl,λ_ _ h=>h,λ_ _ _=>rfl,λ_ h=>.inl h,λ_ _=>rfl,λ_ a _ f h=>⟨a,f,h,rfl⟩,λ_ _ h=>.inl h,λk h=>by rcases h with h|h;exact .inl h;exact .inr (h▸j),LH _⟩
 refine⟨⟨h.glob,h.below,h.lt,λr x d=>(h.rows r x d).mono e (λ_ _ _=>rfl),λr x k o d g=>⟨(h.own r x k o d g).1,(h.own r x k o d g).2.1,λc=>?_⟩,h.sep,h.fin,λk c=>?_,h.nx⟩,e⟩
 ·rcases c with c|c
  ·exact(h.own r x k o d g).2.2 c
  ·subst c;exact hn r x o d g
 ·rcases c with c|c
  ·exact h.finB k c
  ·subst c;exact i
def B9a(Q:Exit->Tm->Hp->Prop)(t:Tm)(H:Hp):Option Code->Prop
 |none=>Q .normal t H
 |some .ret=>Q .ret t H
 |some (.exit id)=>Q (.exit id) t H
 |some (.goto l)=>Q (.goto l) t H
 |_=>False
def NM(w:World)(a:Obj):Below w.heap.size w (w.alloc a):=(Below.refl _ w).alloc (LH _) _
end
section
variable{i j u:Nat}
def jT(ops:List Oper)(i j:Nat):Bool:=
 match ops[i]? with
 |some o=>o.after.toList.any λe=>Region.binds .any e&&Nat.beq e.on j
 |none=>false
def OB(ops:List Oper)(o:Oper):List Tmp:=
 (o.op.operands.toList.filterMap λ|.tmp t=>some t|_=>none)++
 (match o.guard with
  |some (g,_)=>((ops[g]?).bind (·.dst)).toList
  |none=>[])
def sY(ops:List Oper)(x y:Oper):Bool:=
 (match x.dst with|some d=>(OB ops y).elem d||y.dst==some d|none=>false)||(match y.dst with|some d=>(OB ops x).elem d|none=>false)
inductive Rch(ops:List Oper):Nat->Nat->Prop
 |one {i j:Nat} (h:jT ops i j=true):Rch ops i j
 |more {i k j:Nat} (h:jT ops i k=true) (h':Rch ops k j):Rch ops i j
def jS{ops:List Oper}:jT ops i j=true↔∃o,ops[i]?=some o/\∃e∈o.after.toList,Region.binds .any e=true/\e.on=j:=by
 unfold jT;cases ops[i]? with
 |none=>simp
 |some o=>simp only[List.any_eq_true,KK,rE,l0z,exists_eq_left']
def Rch.mem{ops:List Oper}{L:Nat->Bool}(a:∀i j,L i=true->jT ops i j=true->L j=true)(h:Rch ops i j):L i=true->L j=true:=by
 induction h with
 |one h=>intro hi;exact a _ _ hi h
 |more h _ ih=>intro hi;exact ih (a _ _ hi h)
def Rch.mem'{ops:List Oper}{L:Nat->Bool}(a:∀i j,L i=true->jT ops i j=true->L j=true)(hr:∀j,jT ops i j=true->L j=true)(h:Rch ops i j):L j=true:=by
 cases h with
 |one h=>exact hr _ h
 |more h b=>exact b.mem a (hr _ h)
def C2Q(acc:Hb)(es:List Edge):Nat:=es.foldl (λm e=>if Region.binds .any e then Nat.lor m (Nat.lor (Nat.pow 2 e.on) (acc.getD e.on 0)) else m) 0
def mG:Hb->List Oper->Hb
 |acc,[]=>acc
 |acc,o::l=>mG (acc++[C2Q acc o.after.toList]) l
def TG(ops:List Oper):Hb:=mG [] ops
def A3W{acc:Hb}{ops:List Oper}{o:Oper}(r:ops[i]?=some o)(d:∀k j,(acc.getD k 0).testBit j=true->Rch ops k j):
 ∀(es:List Edge),(∀e∈es,e∈o.after.toList)->∀m:Nat,(∀j,m.testBit j=true->Rch ops i j)->∀j,(es.foldl (λm e=>if Region.binds .any e then Nat.lor m (Nat.lor (Nat.pow 2 e.on) (acc.getD e.on 0)) else m) m).testBit j=true->Rch ops i j:=by
 intro es
 induction es with
 |nil=>intro _ m hm j c;exact hm j c
 |cons e es ih=>
  intro f m hm;refine ih (λp g=>f p (by simp[g])) _ ?_;intro j c;simp only at c;split at c
  ·rename_i hb;have n:jT ops i e.on=true:=jS.2 ⟨o,r,e,f e (by simp),hb,rfl⟩;have h:∀a b:Nat,Nat.lor a b=a|||b:=λ_ _=>rfl
   have q:∀a b:Nat,Nat.pow a b=a^b:=λ_ _=>rfl;rw[h,h,q,Nat.testBit_or,Nat.testBit_or,Nat.testBit_two_pow]at c;simp only[l1i,decide_eq_true_eq]at c;rcases c with c|c|c
   ·exact hm j c
   ·subst c;exact .one n
   ·exact .more n (d _ _ c)
  ·exact hm j c
def uK{ops:List Oper}:∀(l:List Oper)(acc:Hb),ops.drop acc.length=l->acc.length<=ops.length->(∀k j,(acc.getD k 0).testBit j=true->Rch ops k j)->∀k j,((mG acc l).getD k 0).testBit j=true->Rch ops k j:=by
 intro l
 induction l with
 |nil=>intro acc _ _ h;exact h
 |cons o l ih=>
  intro acc d f a;have e:ops[acc.length]?=some o:=by
   have:=congrArg (λl=>l[0]?) d;simpa using this
  have g:acc.length<ops.length:=(zE.1 e).1;refine ih _ ?_ (by simp;omega) ?_
  ·rw[Ez,List.length_singleton];have:=congrArg (List.drop 1) d;simpa [Nat.add_comm] using this
  ·intro k j b;rcases Nat.lt_trichotomy k acc.length with c|c|c
   ·rw[UT,l0m c,<-UT]at b;exact a k j b
   ·subst c;rw[UT,l0o (LH _)]at b;simp at b;exact A3W e a _ (λ_ h=>h) 0 (by simp) j b
   ·rw[UT,l0o (by omega),l1j (by simp;omega)]at b;simp at b
def PR{ops:List Oper}{k j:Nat}(h:((TG ops).getD k 0).testBit j=true):Rch ops k j:=
 uK ops [] rfl (l1h _) (λk j h=>by simp at h) k j h
def tb(m j:Nat):Bool:=Nat.beq (Nat.land (Nat.shiftRight m j) 1) 1
def yO(m j:Nat):tb m j=m.testBit j:=by
 unfold tb Nat.testBit;have e:Nat.land (Nat.shiftRight m j) 1=(m>>>j)&&&1:=rfl;rw[e,Nat.and_comm,Nat.one_and_eq_mod_two];rcases Nat.mod_two_eq_zero_or_one (m>>>j) with h|h<;>rw[h]<;>rfl
def nN(ms:Hb):Hb->Bool
 |[]=>true
 |[_]=>true
 |a::b::l=>Nat.blt a b&&tb (ms.getD b 0) a&&nN ms (b::l)
def A6h:Nat->List Oper->Bool
 |_,[]=>true
 |i,o::l=>o.after.toList.all (λe=>!Region.binds .any e||Nat.blt e.on i)&&A6h (i+1) l
def qU(ops:List Oper)(m:Nat)(o:Oper):Nat->List Oper->Bool
 |_,[]=>true
 |j,p::l=>(!sY ops p o||tb m j)&&qU ops m o (j+1) l
def B4L(ops:List Oper)(ms:Hb):Nat->List Oper->Bool
 |_,[]=>true
 |i,o::l=>qU ops (ms.getD i 0) o 0 (ops.take i)&&B4L ops ms (i+1) l
def yT(ops:List Oper)(efs:Hb):Bool:=
 A6h 0 ops&&B4L ops (TG ops) 0 ops&&nN (TG ops) efs&&efs.all λe=>Nat.blt e ops.length
structure RegOk(ops:List Oper)(efs:Hb):Prop where
 back:∀(i j:Nat),jT ops i j=true->j<i
 ord:∀(i j:Nat)(o p:Oper),j<i->ops[i]?=some o->ops[j]?=some p->(∃d,p.dst=some d/\(d∈OB ops o\/o.dst=some d))\/(∃d,o.dst=some d/\d∈OB ops p)->Rch ops i j
 chain:∀(a e e':Nat),efs[a]?=some e->efs[a+1]?=some e'->Rch ops e' e
 inj:∀(a a' e:Nat),efs[a]?=some e->efs[a']?=some e->a=a'
 lt:∀(a e:Nat),efs[a]?=some e->e<ops.length
def C?{ms:Hb}:∀{l:Hb},nN ms l=true->∀(a b e c:Nat),a<b->l[a]?=some e->l[b]?=some c->e<c:=by
 intro l
 induction l with
 |nil=>intro _ a b e c _ h;simp at h
 |cons x l ih=>
  intro h a b e c d h1 h2;cases l with
  |nil=>
   cases b with
   |zero=>omega
   |succ b=>simp at h2
  |cons y l=>
   simp only[nN,KK,Xe]at h;cases b with
   |zero=>omega
   |succ b=>
    cases a with
    |zero=>
     simp at h1;subst h1;cases b with
     |zero=>simp at h2;subst h2;exact h.1.1
     |succ b=>exact Nat.lt_trans h.1.1 (ih h.2 0 (b+1) y c (by omega) (by simp) (by simpa using h2))
    |succ a=>exact ih h.2 a b e c (by omega) (by simpa using h1) (by simpa using h2)
def A4F{ops:List Oper}:∀{l:Hb},nN (TG ops) l=true->∀(a e b:Nat),l[a]?=some e->l[a+1]?=some b->Rch ops b e:=by
 intro l
 induction l with
 |nil=>intro _ a e b h;simp at h
 |cons x l ih=>
  intro h a e b h1 h2;cases l with
  |nil=>simp at h2
  |cons y l=>
   simp only[nN,KK,yO]at h;cases a with
   |zero=>simp at h1 h2;subst h1 h2;exact PR h.1.2
   |succ a=>exact ih h.2 a e b (by simpa using h1) (by simpa using h2)
def A4L:∀(l:List Oper)(i:Nat),A6h i l=true->∀(k:Nat)(o:Oper),l[k]?=some o->∀e∈o.after.toList,Region.binds .any e=true->e.on<i+k:=by
 intro l
 induction l with
 |nil=>intro i _ k o h;simp at h
 |cons p l ih=>
  intro i h k o a e he hb;simp only[A6h,KK,G9]at h;cases k with
  |zero=>
   simp at a;subst a;have:=h.1 e he;simpa [hb,Xe] using this
  |succ k=>
   have:=ih (i+1) h.2 k o (by simpa using a) e he hb;omega
def K_{ops:List Oper}{m:Nat}{o:Oper}:∀(l:List Oper)(j:Nat),qU ops m o j l=true->∀(k:Nat)(p:Oper),l[k]?=some p->sY ops p o=true->m.testBit (j+k)=true:=by
 intro l
 induction l with
 |nil=>intro j _ k p h;simp at h
 |cons q l ih=>
  intro j h k p a b;simp only[qU,KK,l1i,l19,yO]at h;cases k with
  |zero=>
   simp at a;subst a;rcases h.1 with h1|h1
   ·rw[b]at h1;cases h1
   ·exact h1
  |succ k=>
   have:=ih (j+1) h.2 k p (by simpa using a) b;rw[show j+(k+1)=j+1+k from by omega];exact this
def A7h{ops:List Oper}:∀(l:List Oper)(i:Nat),B4L ops (TG ops) i l=true->∀(k:Nat)(o:Oper),l[k]?=some o->∀(j:Nat)(p:Oper),j<i+k->ops[j]?=some p->sY ops p o=true->Rch ops (i+k) j:=by
 intro l
 induction l with
 |nil=>intro i _ k o h;simp at h
 |cons q l ih=>
  intro i h k o a j p d b c;simp only[B4L,KK]at h;cases k with
  |zero=>
   simp at a;subst a;have:=K_ _ 0 h.1 j p (by rw[zD,Dr (by simpa using d)];exact b) c;rw[Kk]at this;exact PR this
  |succ k=>
   have:=ih (i+1) h.2 k o (by simpa using a) j p (by omega) b c;rw[show i+(k+1)=i+1+k from by omega];exact this
def tA{ops:List Oper}{efs:Hb}(h:yT ops efs=true):RegOk ops efs:=by
 simp only[yT,KK,G9]at h;obtain⟨⟨⟨s,h1⟩,h2⟩,v⟩:=h;refine⟨λi j f=>?_,λi j o p w q x y=>?_,A4F h2,λa k e f g=>?_,λa e f=>?_⟩
 ·obtain⟨o,q,e,he,hb,rfl⟩:=jS.1 f;have:=A4L ops 0 s i o q e he hb;omega
 ·have r:sY ops p o=true:=by
   unfold sY;rcases y with⟨d,n,c⟩|⟨d,n,c⟩
   ·rw[n];rcases c with c|c
    ·simp[c]
    ·simp[c]
   ·rw[n];simp[c]
  have:=A7h ops 0 h1 i o q j p (by omega) x r
  rwa[Kk]at this
 ·rcases Nat.lt_trichotomy a k with b|b|b
  ·exact absurd (C? h2 a k e e b f g) (l1l _)
  ·exact b
  ·exact absurd (C? h2 k a e e b g f) (l1l _)
 ·have:=v e (l1m f);simpa [Xe] using this
def IN(ops:List Oper)(val:Nat->AV)(t:Tm)(L:Nat->Bool):Nat->Tm
 |0=>t
 |j+1=>match L j,ops[j]? with
  |true,some o=>RS (IN ops val t L j) o.dst (val j)
  |_,_=>IN ops val t L j
def Vd{t:Tm}{d:Option Tmp}{v:AV}:HW (RS t d v) u=if d=some u then v else HW t u:=by
 cases d with
 |none=>simp[RS]
 |some d=>
  simp only[RS,HW];by_cases h:u=d
  ·simp[h]
  ·rw[CD h,CD (λe=>h (by injection e with e;exact e.symm))]
section
variable{ops:List Oper}{efs:Hb}{val:Nat->AV}{t:Tm}{L:Nat->Bool}
def A3l(k:RegOk ops efs)(b:∀i j,L i=true->jT ops i j=true->L j=true){o:Oper}(q:ops[i]?=some o)(hr:∀j,jT ops i j=true->L j=true)(hi:L i=false)(r:u∈OB ops o)(n:Nat)(hn:i<=n):
 HW (IN ops val t L n) u=HW (IN ops val t (λ_=>true) i) u:=by
 have h1:∀j,j<=i->HW (IN ops val t L j) u=HW (IN ops val t (λ_=>true) j) u:=by
  intro j
  induction j with
  |zero=>intro _;rfl
  |succ j ih=>
   intro s;have:=ih (by omega);simp only[IN];cases c:ops[j]? with
   |none=>cases L j<;>simpa [c] using this
   |some p=>
    by_cases a:p.dst=some u
    ·have e:=k.ord i j o p (by omega) q c (.inl ⟨u,a,.inl r⟩);rw[e.mem' b hr];simp only[Vd,Dr a]
    ·cases d:L j
     ·simp only[Vd,CD a];exact this
     ·simp only[Vd,CD a];exact this
 have h2:∀j,i<=j->HW (IN ops val t L j) u=HW (IN ops val t L i) u:=by
  intro j
  induction j with
  |zero=>
   intro h;have:i=0:=by omega
   subst this;rfl
  |succ j ih=>
   intro s;by_cases g:i=j+1
   ·subst g;rfl
   ·have:=ih (by omega);simp only[IN];cases c:ops[j]? with
    |none=>cases L j<;>simpa [c] using this
    |some p=>
     cases d:L j
     ·simpa using this
     ·simp only[Vd];by_cases a:p.dst=some u
      ·exfalso;by_cases f:i=j
       ·subst f;rw[d]at hi;cases hi
       ·have e:=k.ord j i p o (by omega) c q (.inr ⟨u,a,r⟩);rw[e.mem b d]at hi;cases hi
      ·rw[CD a];exact this
 rw[h2 n hn,h1 i (LH _)]
def A9p(w:RegOk ops efs)(d:∀i j,L i=true->jT ops i j=true->L j=true){o:Oper}(g:ops[i]?=some o)(hi:L i=false)(u:Nat)(n:Nat)(hn:i<n):
 HW (RS (IN ops val t L n) o.dst (val i)) u=HW (IN ops val t (λk=>if k=i then true else L k) n) u:=by
 have h1:∀j,j<=i->IN ops val t (λk=>if k=i then true else L k) j=IN ops val t L j:=by
  intro j
  induction j with
  |zero=>intro _;rfl
  |succ j ih=>
   intro v;have a:j≠i:=by omega
   simp only[IN,CD a,ih (by omega)]
 have h2:∀j,i<j->HW (RS (IN ops val t L j) o.dst (val i)) u=HW (IN ops val t (λk=>if k=i then true else L k) j) u:=by
  intro j
  induction j with
  |zero=>intro h;omega
  |succ j ih=>
   intro v;by_cases c:i=j
   ·subst c;simp only[IN,hi,if_true,g,h1 i (LH _)]
   ·have:=ih (by omega);have a:j≠i:=λe=>c e.symm;simp only[IN,CD a];cases q:ops[j]? with
    |none=>cases L j<;>simpa [q] using this
    |some p=>
     cases r:L j
     ·simpa using this
     ·simp only[Vd]at this⊢;by_cases b:p.dst=some u
      ·have f:o.dst≠some u:=λh=>by
        have s:=w.ord j i p o (by omega) q g (.inl ⟨u,h,.inr b⟩);rw[s.mem d r]at hi;cases hi
       rw[CD f,Dr b,Dr b]
      ·rw[CD b,CD b];exact this
 exact h2 n hn
end
def IU(ops:List Oper)(o:Oper)(t:Tm):Tm:=(OB ops o).map λu=>(u,HW t u)
def A3h{ops:List Oper}{o:Oper}{t:Tm}(u:Nat):HW (IU ops o t) u=.dk\/(u∈OB ops o/\HW (IU ops o t) u=HW t u):=by
 unfold IU
 induction OB ops o with
 |nil=>exact .inl rfl
 |cons x l ih=>
  simp only[XC,HW];by_cases h:u=x
  ·subst h;rw[Dr rfl];exact .inr ⟨by simp,rfl⟩
  ·rw[CD h];rcases ih with ih|⟨h1,h2⟩
   ·exact .inl ih
   ·exact .inr ⟨List.mem_cons_of_mem _ h1,h2⟩
def C2B(ops:List Oper)(efs:Hb)(i m:Nat):Prop:=(∀(a e:Nat),efs[a]?=some e->Rch ops i e->a<m)/\(∀(a e:Nat),efs[a]?=some e->Rch ops e i->m<=a)
def B5X(P:Program)(G:Gl)(ro:Option Nat)(N:Nat)(ops:List Oper)(o:Oper)(t:Tm)(H:Hp)(v:AV)(H':Hp):Prop:=
 ((Hf ops t o=.run\/Hf ops t o=.dep true)/\TR P G ro N o t H (λb a=>b=v/\a=H'))\/((Hf ops t o=.skip\/Hf ops t o=.dep false)/\v=.v undef/\H'=H)
section
variable{P:Program}{G:Gl}{ro:Option Nat}{m N:Nat}{Q:Exit->Tm->Hp->Prop}{t:Tm}
def St.congr{w0:Base}{s0:Nat}{C:Ctx}{b:Tm}{H:Hp}{a:Act}{w:World}(s:St G w0 s0 C N t H a w)(h:∀u,HW b u=HW t u\/HW b u=.dk):St G w0 s0 C N b H a w:=
 ⟨s.rel,s.size,λu=>by
  rcases h u with e|e
  ·rw[e];exact s.tmps u
  ·rw[e];exact .dk _,s.defers,s.le⟩
def VJ(L:Nat->Bool):Nat->Nat
 |0=>0
 |j+1=>VJ L j+(if L j then 0 else 1)
def B1Z{L:Nat->Bool}(hi:L i=false):∀n,VJ (λk=>if k=i then true else L k) n+(if i<n then 1 else 0)=VJ L n:=by
 intro n
 induction n with
 |zero=>simp[VJ]
 |succ n ih=>
  have b:VJ (λk=>if k=i then true else L k) (n+1)=VJ (λk=>if k=i then true else L k) n+(if(if n=i then true else L n)=true then 0 else 1):=rfl;have c:VJ L (n+1)=VJ L n+(if L n=true then 0 else 1):=rfl;rw[b,c];generalize VJ (λk=>if k=i then true else L k) n=x at*;generalize VJ L n=y at*;by_cases h:n=i
  ·subst h;rw[CD (l1l _)]at ih;rw[Dr rfl,Dr rfl,Dr (Nat.lt_succ_self _),hi,CD (by simp)];omega
  ·rw[CD h];by_cases a:i<n
   ·rw[Dr a]at ih;rw[Dr (by omega:i<n+1)];omega
   ·rw[CD a]at ih;rw[CD (by omega:¬i<n+1)];omega
def C!{L:Nat->Bool}:∀{n:Nat},VJ L n=0->∀i,i<n->L i=true:=by
 intro n
 induction n with
 |zero=>intro _ i h;omega
 |succ n ih=>
  intro h i hi;simp only[VJ]at h;by_cases e:i=n
  ·subst e;by_cases a:L i=true
   ·exact a
   ·simp[a]at h
  ·exact ih (by omega) i (by omega)
def B20{L:Nat->Bool}:∀{n:Nat},0<VJ L n->∃i,i<n/\L i=false/\∀j,j<i->L j=true:=by
 intro n
 induction n with
 |zero=>intro h;simp[VJ]at h
 |succ n ih=>
  intro h;by_cases e:0<VJ L n
  ·obtain⟨i,h1,h2,b⟩:=ih e;exact⟨i,by omega,h2,b⟩
  ·have a:VJ L n=0:=by omega
   simp only[VJ,a]at h;refine⟨n,by omega,?_,λj c=>C! a j c⟩;cases d:L n
   ·rfl
   ·simp[d]at h
def A9q{ops:List Oper}{val:Nat->AV}{L:Nat->Bool}:∀{n:Nat},(∀i,i<n->L i=true)->IN ops val t L n=IN ops val t (λ_=>true) n:=by
 intro n
 induction n with
 |zero=>intro _;rfl
 |succ n ih=>
  intro h;simp only[IN,h n (by omega),ih (λi hi=>h i (by omega))]
def A2n{id:Nat}{ops:List Oper}{efs:Hb}{val:Nat->AV}{Hs:Nat->Hp}(hm:P.follows .mixedOrders=true)(hk:RegOk ops efs)(hd:∀o∈ops,dok N o.dst)(a3:∀(i:Nat)(o:Oper),ops[i]?=some o->(∀a:Nat,efs[a]?≠some i)->∀k,k<=efs.length->C2B ops efs i k->B5X P G ro N ops o (IU ops o (IN ops val t (λ_=>true) i)) (Hs k) (val i) (Hs k))(ax:∀(a i:Nat)(o:Oper),ops[i]?=some o->efs[a]?=some i->B5X P G ro N ops o (IU ops o (IN ops val t (λ_=>true) i)) (Hs a) (val i) (Hs (a+1)))(hq:Q .normal (IN ops val t (λ_=>true) ops.length) (Hs efs.length)):QA P G ro m N (.region id ops.toArray true) Q t (Hs 0):=by
 intro w0 s0 O a w s;refine wpIn_region_any hm ?_;have key:∀(f:Nat)(Ls:Array Bool)(C:Ctx)(a:Act)(w1:World)(k:Nat),Ls.size=ops.length->VJ (λi=>Ls.getD i false) ops.length=f->(∀i j,Ls.getD i false=true->jT ops i j=true->Ls.getD j false=true)->
  k<=efs.length->(∀(b e:Nat),efs[b]?=some e->(Ls.getD e false=true↔b<k))->St G w0 s0 C N (IN ops val t (λi=>Ls.getD i false) ops.length) (Hs k) a w1->Frm m w0.own O w C w1->
  wpAnyIn (Fe ro) 0 P .any ops.toArray (MT G w0 s0 m O N w Q) f Ls a w1:=by
  intro f
  induction f with
  |zero=>
   intro Ls C a w1 k hsz hc g ad d J ab;have A:=C! hc;have ay:k=efs.length:=by
    rcases Nat.lt_or_ge k efs.length with h|h
    ·exfalso;have:=(d k _ (KL h)).1 (A _ (hk.lt k _ (KL h)));omega
    ·omega
   refine⟨?_,⟨C,_,_,J,ab,?_⟩⟩
   ·unfold Region.ready;rw[List.filter_eq_nil_iff];intro i hi;simp only[List.size_toArray,KT]at hi;have h1:=A i hi;have:Ls.getD i true=true:=by
     simp only[fJ]at h1⊢;rw[l1p (by omega)]at h1⊢;exact h1
    simp[this]
   ·rw[ay,A9q A];exact hq
  |succ f ih=>
   intro Ls C a w1 k hsz hc g ad d J ab;have R:∀i,i<ops.length->Ls.getD i true=Ls.getD i false:=λi hi=>by
    simp only[fJ];rw[l1p (by omega)];rfl
   refine⟨λai=>?_,λi hi=>?_⟩
   ·exfalso;obtain⟨i,h1,h2,h3⟩:=B20 (L:=λi=>Ls.getD i false) (n:=ops.length) (by omega);have:i∈Region.ready .any ops.toArray Ls:=by
     unfold Region.ready;rw[l2z];refine⟨by simpa using h1,?_⟩;simp only[R i h1,h2,Bool.not_false,l1b,l15,KL h1,zC,l1q];rw[Array.all_eq_true_iff_forall_mem];intro e he;cases hb:Region.binds .any e
     ·rfl
     ·simp only[Bool.not_true,Bool.false_or];exact h3 e.on (hk.back i e.on (jS.2 ⟨_,KL h1,e,by simpa using he,hb,rfl⟩))
    rw[ai]at this;simp at this
   ·unfold Region.ready at hi;rw[l2z]at hi;obtain⟨p,aj⟩:=hi;simp only[List.size_toArray,KT]at p;have K:ops[i]?=some ops[i]:=KL p;generalize ops[i]=o at K;simp only[R i p,l15,K,zC,l1q,KK,l19]at aj;obtain⟨r,af⟩:=aj;rw[Array.all_eq_true_iff_forall_mem]at af;have hr:∀j,jT ops i j=true->Ls.getD j false=true:=λj hj=>by
     obtain⟨o',M,e,he,hb,rfl⟩:=jS.1 hj;rw[K]at M;injection M with M;subst M
     have:=af e (by simpa using he);simpa [hb] using this
    have c:∀k,(Ls.setIfInBounds i true).getD k false=if k=i then true else Ls.getD k false:=by
     intro k;simp only[fJ,Array.getElem?_setIfInBounds];by_cases h:i=k
     ·subst h;simp[hsz,p]
     ·rw[CD h,CD (λe=>h e.symm)]
    have V:(λk=>(Ls.setIfInBounds i true).getD k false)= λk=>if k=i then true else Ls.getD k false:=funext c
    have X:St G w0 s0 C N (IU ops o (IN ops val t (λ_=>true) i)) (Hs k) a w1:=J.congr λu=>by
     rcases A3h (ops:=ops) (o:=o) (t:=IN ops val t (λ_=>true) i) u with h|⟨h1,h2⟩
     ·exact .inr h
     ·exact .inl (by rw[h2];exact(A3l hk g K hr r h1 ops.length (by omega)).symm)
    have ar:=hd o (l1m K);have next:∀(q:Nat)(Z:Ctx)(y:Value)(Y:World),(q=k/\(∀b:Nat,efs[b]?≠some i)\/q=k+1/\efs[k]?=some i)->VRel Z Y (val i) y->Rel G w0 Z (Hs q) Y->Ext w0.own C w1 Z Y->
     wpAnyIn (Fe ro) 0 P .any ops.toArray (MT G w0 s0 m O N w Q) f (Ls.setIfInBounds i true) (a.put o.dst y) Y:=by
     intro q Z y Y D hv F e;refine ih (Ls.setIfInBounds i true) Z _ Y q (by simpa using hsz) ?_ ?_ ?_ ?_ ?_ (ab.trans e.frm)
     ·rw[V];have:=B1Z (L:=λk=>Ls.getD k false) r ops.length;rw[Dr p]at this;omega
     ·intro x y hx ao;rw[c x]at hx;rw[c y];split
      ·rfl
      ·by_cases am:x=i
       ·subst am;exact hr y ao
       ·rw[CD am]at hx;exact g x y hx ao
     ·rcases D with⟨rfl,_⟩|⟨rfl,h⟩
      ·exact ad
      ·exact(zE.1 h).1
     ·intro b e' hb;rw[c e'];rcases D with⟨rfl,h⟩|⟨rfl,h⟩
      ·rw[CD (λe:e'=i=>h b (by rw[hb,e]))];exact d b e' hb
      ·by_cases aa:e'=i
       ·subst aa;have:=hk.inj b k _ hb h;simp[this]
       ·rw[CD aa,d b e' hb];have:b≠k:=λe=>aa (by rw[e,h]at hb;injection hb with hb;exact hb.symm);omega
     ·exact(A3n J F e hv ar).congr λu=>.inl (by rw[V];exact(A9p hk g K r u ops.length p).symm)
    have fin:∀(q:Nat),(q=k/\(∀b:Nat,efs[b]?≠some i)\/q=k+1/\efs[k]?=some i)->B5X P G ro N ops o (IU ops o (IN ops val t (λ_=>true) i)) (Hs k) (val i) (Hs q)->
     wpOpIn (Fe ro) 0 P ops.toArray (MT G w0 s0 m O N w Q) i (wpAnyIn (Fe ro) 0 P .any ops.toArray (MT G w0 s0 m O N w Q) f (Ls.setIfInBounds i true)) a w1:=by
     intro q D hG;have hg:=vV X.tmps ops o;unfold wpOpIn;simp only[l15,K];rcases hG with⟨ac,hA⟩|⟨ac,ak,hH⟩
     ·have hw:Region.wanted o (yielded ops.toArray a.tmps)=true:=by
       rcases ac with h|h
       ·exact hg.1 h
       ·exact hg.2.2 _ h
      rw[Dr hw];refine Sx ?_ (hA w0 s0 C a w1 _ X);rintro a' Y ⟨v,y,Z,H',rfl,⟨rfl,rfl⟩,hv,F,e⟩;exact next q Z y Y D hv F e
     ·have hw:Region.wanted o (yielded ops.toArray a.tmps)=false:=by
       rcases ac with h|h
       ·exact hg.2.1 h
       ·exact hg.2.2 _ h
      rw[CD (by rw[hw];simp)];exact⟨λ_ _=>trivial,next q C undef w1 D (by rw[ak];exact .v _) (by rw[hH];exact J.rel) (.refl _ _ _)⟩
    by_cases hi:∃b:Nat,efs[b]?=some i
    ·obtain⟨b,hb⟩:=hi;have ap:b=k:=by
      have h1:¬b<k:=λh=>by
       have:=(d b i hb).2 h;rw[r]at this;cases this
      rcases Nat.eq_zero_or_pos b with h0|h0
      ·omega
      ·have ag:b-1<efs.length:=by have:=(zE.1 hb).1;omega
       have aq:=hk.chain (b-1) _ i (KL ag) (by rw[Nat.sub_add_cancel h0];exact hb);have:=(d (b-1) _ (KL ag)).1 (aq.mem' (L:=λi=>Ls.getD i false) g hr);omega
     subst ap;exact fin (b+1) (.inr ⟨rfl,hb⟩) (ax b i o K hb)
    ·have ah:∀b:Nat,efs[b]?≠some i:=λb hb=>hi ⟨b,hb⟩;refine fin k (.inl ⟨rfl,ah⟩) (a3 i o K ah k ad ⟨λb e hb ha=>(d b e hb).1 (ha.mem' (L:=λi=>Ls.getD i false) g hr),λb e hb ha=>?_⟩);rcases Nat.lt_or_ge b k with h|h
     ·have:=ha.mem (L:=λi=>Ls.getD i false) g ((d b e hb).2 h);simp only[r]at this;cases this
     ·exact h
 have H:(λi=>(Array.replicate ops.length false).getD i false)= λ_=>false:=by
  funext i
  simp only[fJ,Array.getElem?_replicate];split<;>rfl
 have az:∀n,IN ops val t (λ_=>false) n=t:=by
  intro n
  induction n with
  |zero=>rfl
  |succ n ih=>simp only[IN];exact ih
 have ae:∀n,VJ (λ_=>false) n=n:=by
  intro n
  induction n with
  |zero=>rfl
  |succ n ih=>simp[VJ,ih]
 have hb:Below w.heap.size w {w with drawn:=w.drawn+1}:=A2l w _;have e0:Ext w0.own O w O {w with drawn:=w.drawn+1}:=s.rel.ext_below hb;have hz:∀i,(Array.replicate ops.length false).getD i false=false:=λi=>congrFun H i;have:=key ops.length (Array.replicate ops.length false) O a {w with drawn:=w.drawn+1} 0 (by simp) (by rw[H];exact ae _) (λi j h=>by rw[hz]at h;cases h) (l1h _) (λb e _=>by rw[hz];simp) (by rw[H,az];exact⟨s.rel.of_below hb,s.size,s.tmps.mono e0,s.defers.mono e0.B e0.keepB,fG s.le e0.grow⟩) e0.frm;simpa using this
end
end
section
variable{r:AV×Hp}{b:Bool}{α:Type}
def C29:Unit:=()
def C28:Unit:=C29
def C27:Unit:=C28
def C26:Unit:=C27
def C25:Unit:=C26
def C24:Unit:=C25
def C23:Unit:=C24
def C22:Unit:=C23
def C21:Unit:=C22
def C20:Unit:=C21
def B8U:Unit:=C20
def B8T:Unit:=B8U
def B8S:Unit:=B8T
def B8R:Unit:=B8S
def B8Q:Unit:=B8R
def B8P:Unit:=B8Q
def B8O:Unit:=B8P
def B8N:Unit:=B8O
def B8M:Unit:=B8N
def B8L:Unit:=B8M
def B8K:Unit:=B8L
def B8J:Unit:=B8K
def B8I:Unit:=B8J
def B8H:Unit:=B8I
def B8G:Unit:=B8H
def B8F:Unit:=B8G
def B8E:Unit:=B8F
def B8D:Unit:=B8E
def B8C:Unit:=B8D
def B8B:Unit:=B8C
def B8A:Unit:=B8B
def B8z:Unit:=B8A
def B8y:Unit:=B8z
def B8x:Unit:=B8y
def B8w:Unit:=B8x
def B8v:Unit:=B8w
def B8u:Unit:=B8v
def B8t:Unit:=B8u
def B8s:Unit:=B8t
def B8r:Unit:=B8s
def B8q:Unit:=B8r
def B8p:Unit:=B8q
def B8o:Unit:=B8p
def B8n:Unit:=B8o
def B8m:Unit:=B8n
def B8l:Unit:=B8m
def B8k:Unit:=B8l
def B8j:Unit:=B8k
def B8i:Unit:=B8j
def B8h:Unit:=B8i
def B8g:Unit:=B8h
def B8f:Unit:=B8g
def B8e:Unit:=B8f
def B8d:Unit:=B8e
def B8c:Unit:=B8d
def B8b:Unit:=B8c
def B8a:Unit:=B8b
def B89:Unit:=B8a
def B88:Unit:=B89
def B87:Unit:=B88
def B86:Unit:=B87
def B85:Unit:=B86
def B84:Unit:=B85
def B83:Unit:=B84
def B82:Unit:=B83
def B81:Unit:=B82
def B80:Unit:=B81
def B7Z:Unit:=B80
def B7Y:Unit:=B7Z
def B7X:Unit:=B7Y
def B7W:Unit:=B7X
def B7V:Unit:=B7W
def B7U:Unit:=B7V
def B7T:Unit:=B7U
def B7S:Unit:=B7T
def B7R:Unit:=B7S
def B7Q:Unit:=B7R
def B7P:Unit:=B7Q
def B7O:Unit:=B7P
def B7N:Unit:=B7O
def B7M:Unit:=B7N
def B7L:Unit:=B7M
def B7K:Unit:=B7L
def B7J:Unit:=B7K
def B7I:Unit:=B7J
def B7H:Unit:=B7I
def B7G:Unit:=B7H
def B7F:Unit:=B7G
def B7E:Unit:=B7F
def B7D:Unit:=B7E
def B7C:Unit:=B7D
def B7B:Unit:=B7C
def B7A:Unit:=B7B
def B7z:Unit:=B7A
def B7y:Unit:=B7z
def B7x:Unit:=B7y
def B7w:Unit:=B7x
def B7v:Unit:=B7w
def B7u:Unit:=B7v
def B7t:Unit:=B7u
def B3V:Unit:=B7t
def B3U:Unit:=B3V
def B3T:Unit:=B3U
def B3S:Unit:=B3T
def B3R:Unit:=B3S
def B3Q:Unit:=B3R
def B3P:Unit:=B3Q
def B3O:Unit:=B3P
def B3N:Unit:=B3O
def B3M:Unit:=B3N
def B3L:Unit:=B3M
def B3K:Unit:=B3L
def B3J:Unit:=B3K
def B3I:Unit:=B3J
def B3H:Unit:=B3I
def B3G:Unit:=B3H
def B3F:Unit:=B3G
def B3E:Unit:=B3F
def B3D:Unit:=B3E
def B3C:Unit:=B3D
def Ic:Unit:=B3C
abbrev Af:=Option (AV×Hp)
abbrev KV:=AV->Hp->Af
abbrev Ru:=Hp->Af
abbrev K2:=AV->Af
abbrev B2y:=Nat->Is->Hp->KV->Af
inductive BT(α:Type) where
 |leaf
 |node (k:Nat) (v:α) (l r:BT α)
def BT.get:BT α->Nat->Option α
 |.leaf,_=>none
 |.node k v l r,i=>match Nat.beq i k with
  |true=>some v
  |false=>match Nat.blt i k with
   |true=>l.get i
   |false=>r.get i
def BT.getK(b:BT α):Nat->(α->Af)->Af:=
 (λ(_:Unit)=>@BT.rec α (λ_=>Nat->(α->Af)->Af) (λ_ _=>none)
  (λk v _ _ a c i K=>@Bool.rec (λ_=>Af) (@Bool.rec (λ_=>Af) (c i K) (a i K) (Nat.blt i k)) (K v) (Nat.beq i k)) b) Ic
def BT.getK_eq(b:BT α)(i:Nat)(K:α->Af):b.getK i K=match b.get i with|some v=>K v|none=>none:=by
 induction b with
 |leaf=>rfl
 |node k v l r a c=>
  simp only[BT.getK,BT.get];cases Nat.beq i k
  ·cases Nat.blt i k
   ·exact c
   ·exact a
  ·rfl
structure Cf where
 b:Bool
 lv:Hb
 fz:Bool
 n:Nat
 rc:List (Nat×List (Nat×Nat))
structure XFn where
 n:Nat
 rs:List ResultVar
 c:Code
 lv:Hb
 fz:Bool
 rc:List (Nat×List (Nat×Nat))
inductive LK where
 |int (k:IntKind)|str|bool
abbrev Lie:=Nat×Nat×Nat×Nat
structure XE where
 ft:BT XFn
 ty:BT TI
 gl:BT Is
 imp:Nat->Bool
 lf:Nat
 eqt:BT (List LK)
 lie:List Lie
 up:Nat
 ne:Nat->Bool
 lm:Nat->Bool
 ov:Nat->Bool
def fN(n:Nat)(K:Nat->Af):Af:=@Nat.rec (λ_=>Af) (K 0) (λm _=>K (Nat.succ m)) n
def fI(z:Int)(K:Int->Af):Af:=@Int.rec (λ_=>Af) (λn=>fN n λn=>K (.ofNat n)) (λn=>fN n λn=>K (.negSucc n)) z
def ck(b:Bool)(K:Af):Af:=@Bool.rec (λ_=>Af) none K b
def Ef(n:Nat)(K:Nat->Af):fN n K=K n:=by cases n<;>rfl
def VC(z:Int)(K:Int->Af):fI z K=K z:=by cases z<;>simp[fI,Ef]
def ckS(b:Bool)(K:Af):Af:=(λ(_:Unit)=>@Bool.rec (λ_=>Af) none K b) Ic
def fNS(n:Nat)(K:Nat->Af):Af:=(λ(_:Unit)=>@Nat.rec (λ_=>Af) (K 0) (λm _=>K (Nat.succ m)) n) Ic
def Ta(a:List α):List α->(List α->Af)->Af:=
 (λ(_:Unit)=>@List.rec α (λ_=>List α->(List α->Af)->Af) (λl K=>K l) (λx _ ih l K=>ih l λy=>K (x::y)) a) Ic
def A5X(l:List α):Nat->(Nat->Af)->Af:=(λ(_:Unit)=>@List.rec α (λ_=>Nat->(Nat->Af)->Af) (λn K=>K n) (λ_ _ ih n K=>ih (Nat.succ n) K) l) Ic
def B1o(n:Nat)(K:Nat->Af):fNS n K=K n:=Ef n K
def Jx(a l:List α):∀K:List α->Af,Ta a l K=K (a++l):=by
 induction a with
 |nil=>intro K;rfl
 |cons x a ih=>intro K;exact ih _
def B1d(l:List α):∀(n:Nat)(K:Nat->Af),A5X l n K=K (n+l.length):=by
 induction l with
 |nil=>intro n K;rfl
 |cons a l ih=>
  intro n K;have:A5X (a::l) n K=A5X l (Nat.succ n) K:=rfl;rw[this,ih]
  congr 1
  simp;omega
def B4{K:Af}(h:ck b K=some r):b=true/\K=some r:=by cases b;cases h;exact⟨rfl,h⟩
def LZ{K:Af}(h:ckS b K=some r):b=true/\K=some r:=B4 h
def gtm(t:Tm):Nat->K2->Af:=
 (λ(_:Unit)=>@List.rec (Nat×AV) (λ_=>Nat->K2->Af) (λ_ K=>K .dk)
  (λp _ ih=>@Prod.rec Nat AV (λ_=>Nat->K2->Af) (λk v i K=>@Bool.rec (λ_=>Af) (ih i K) (K v) (Nat.beq i k)) p) t) Ic
def UE(t:Tm)(i:Nat)(K:K2):gtm t i K=K (HW t i):=by
 induction t with
 |nil=>rfl
 |cons p t ih=>
  obtain⟨k,v⟩:=p;simp only[gtm,HW];cases h:Nat.beq i k
  ·rw[CD (λe=>by rw[e,oH]at h;cases h)];exact ih
  ·rw[Dr (Zy h)]
def IQ(H:Hp):Nat->(Row->Af)->Af:=
 @List.rec (Nat×Row) (λ_=>Nat->(Row->Af)->Af) (λ_ _=>none)
  (λp _ ih=>@Prod.rec Nat Row (λ_=>Nat->(Row->Af)->Af) (λk v i K=>@Bool.rec (λ_=>Af) (ih i K) (K v) (Nat.beq i k)) p) H
def I4{H:Hp}{i:Nat}{K:Row->Af}(a:K .gone=none)(h:IQ H i K=some r):∃x,Ai H i=some x/\K x=some r:=by
 induction H with
 |nil=>cases h
 |cons p H ih=>
  obtain⟨k,v⟩:=p;simp only[IQ]at h;simp only[Ai];cases hb:Nat.beq i k
  ·rw[hb]at h;rw[CD (λe=>by rw[e,oH]at hb;cases hb)];exact ih h
  ·rw[hb]at h;rw[Dr (Zy hb)];cases v with
   |gone=>exact absurd (a▸h) (by simp)
   |_=>exact⟨_,rfl,h⟩
def LJ(H:Hp):Nat->Row->Ru->Af:=
 @List.rec (Nat×Row) (λ_=>Nat->Row->Ru->Af) (λ_ _ K=>K [])
  (λp l ih=>@Prod.rec Nat Row (λ_=>Nat->Row->Ru->Af) (λk x r y K=>@Bool.rec (λ_=>Af) (ih r y λa=>K ((k,x)::a)) (K ((k,y)::l)) (Nat.beq r k)) p) H
def Dg(H:Hp)(r:Nat)(y:Row):∀K:Ru,LJ H r y K=K (upd H r y):=by
 induction H with
 |nil=>intro K;rfl
 |cons p H ih=>
  intro K;obtain⟨k,x⟩:=p;simp only[LJ,upd];cases hb:Nat.beq r k
  ·rw[CD (λe=>by rw[e,oH]at hb;cases hb)];exact ih _
  ·rw[Dr (Zy hb)]
def It(H:Hp)(K:Nat->Af):Af:=
 @List.rec (Nat×Row) (λ_=>Af) (K 0) (λp _ _=>@Prod.rec Nat Row (λ_=>Af) (λk _=>fN (Nat.succ k) K) p) H
def Ca(H:Hp)(K:Nat->Af):It H K=K (Ar H):=by
 cases H with
 |nil=>rfl
 |cons p H=>obtain⟨k,x⟩:=p;exact Ef (k+1) K
def YX(a:List α):List α->(List α->Af)->Af:=
 @List.rec α (λ_=>List α->(List α->Af)->Af) (λl K=>K l) (λx _ ih l K=>ih l λy=>K (x::y)) a
def MZ(a l:List α):∀K:List α->Af,YX a l K=K (a++l):=by
 induction a with
 |nil=>intro K;rfl
 |cons x a ih=>intro K;exact ih _
def Do(n:Nat):List α->List α:=
 @Nat.rec (λ_=>List α->List α) (λl=>l) (λ_ ih l=>@List.rec α (λ_=>List α) [] (λ_ l _=>ih l) l) n
def C9(n:Nat):∀l:List α,Do n l=l.drop n:=by
 induction n with
 |zero=>intro l;rfl
 |succ n ih=>
  intro l;cases l with
  |nil=>rfl
  |cons a l=>exact ih l
def SY(n:Nat):List α->(List α->Af)->Af:=
 @Nat.rec (λ_=>List α->(List α->Af)->Af) (λ_ K=>K []) (λ_ ih l K=>@List.rec α (λ_=>Af) (K []) (λa l _=>ih l λc=>K (a::c)) l) n
def OE(n:Nat):∀(l:List α)(K:List α->Af),SY n l K=K (l.take n):=by
 induction n with
 |zero=>intro l K;rfl
 |succ n ih=>
  intro l K;cases l with
  |nil=>rfl
  |cons a l=>exact ih l _
def HQ(l:List α):Nat->(Nat->Af)->Af:=@List.rec α (λ_=>Nat->(Nat->Af)->Af) (λn K=>K n) (λ_ _ ih n K=>fN (Nat.succ n) λm=>ih m K) l
def Cs(l:List α):∀(n:Nat)(K:Nat->Af),HQ l n K=K (n+l.length):=by
 induction l with
 |nil=>intro n K;rfl
 |cons a l ih=>
  intro n K;have:HQ (a::l) n K=fN (Nat.succ n) λm=>HQ l m K:=rfl;rw[this,Ef,ih]
  congr 1
  simp;omega
def B5i(vs:Is):Is->(Is->Af)->Af:=
 @List.rec AV (λ_=>Is->(Is->Af)->Af) (λl K=>K l) (λv _ ih l K=>@List.rec AV (λ_=>Af) none (λ_ l _=>ih l λa=>K (v::a)) l) vs
def A7D(vs:Is):∀(l:Is)(K:Is->Af)(r:AV×Hp),B5i vs l K=some r->vs.length<=l.length/\K (vs++l.drop vs.length)=some r:=by
 induction vs with
 |nil=>intro l K r h;exact⟨l1h _,h⟩
 |cons v vs ih=>
  intro l K r h;cases l with
  |nil=>cases h
  |cons a l=>
   obtain⟨h1,h2⟩:=ih l _ r h;exact⟨by simpa using h1,h2⟩
def B5h(vs:Is):∀(l:Is)(K:Is->Af),vs.length<=l.length->B5i vs l K=K (vs++l.drop vs.length):=by
 induction vs with
 |nil=>intro l K h;rfl
 |cons v vs ih=>
  intro l K h;cases l with
  |nil=>simp at h
  |cons a l=>exact ih l _ (by simpa using h)
def Ey(n:Nat):Is->Is->(Is->Af)->Af:=
 @Nat.rec (λ_=>Is->Is->(Is->Af)->Af) (λvs l K=>B5i vs l K) (λ_ ih vs l K=>@List.rec AV (λ_=>Af) none (λa l _=>ih vs l λc=>K (a::c)) l) n
def OG(n:Nat):∀(vs l:Is)(K:Is->Af)(r:AV×Hp),Ey n vs l K=some r->n+vs.length<=l.length/\K (splice l n vs)=some r:=by
 induction n with
 |zero=>
  intro vs l K r h;obtain⟨h1,h2⟩:=A7D vs l K r h;exact⟨by omega,by simpa [splice] using h2⟩
 |succ n ih=>
  intro vs l K r h;cases l with
  |nil=>cases h
  |cons a l=>
   obtain⟨h1,h2⟩:=ih vs l _ r h;refine⟨by simp;omega,?_⟩;have:splice (a::l) (n+1) vs=a::splice l n vs:=by simp[splice,Nat.add_right_comm]
   rw[this];exact h2
def Ix(n:Nat):∀(vs l:Is)(K:Is->Af),n+vs.length<=l.length->Ey n vs l K=K (splice l n vs):=by
 induction n with
 |zero=>
  intro vs l K h;have:=B5h vs l K (by omega);have e:Ey 0 vs l K=B5i vs l K:=rfl;rw[e,this];simp[splice]
 |succ n ih=>
  intro vs l K h;cases l with
  |nil=>simp at h
  |cons a l=>
   have:splice (a::l) (n+1) vs=a::splice l n vs:=by simp[splice,Nat.add_right_comm]
   rw[this];exact ih vs l _ (by simp at h;omega)
def iN(z:Int)(K:Nat->Af):Af:=@Int.rec (λ_=>Af) (λn=>fN n K) (λ_=>none) z
def Xh{z:Int}{K:Nat->Af}(h:iN z K=some r):∃n:Nat,z=n/\K n=some r:=by
 cases z with
 |ofNat n=>exact⟨n,rfl,by simpa [iN,Ef] using h⟩
 |negSucc n=>cases h
def Kr(n:Nat)(K:Nat->Af):iN n K=K n:=Ef n K
def qL(a b:Int):Bool:=@Int.rec (λ_=>Bool) (λm=>@Int.rec (λ_=>Bool) (λn=>Nat.ble m n) (λ_=>false) b) (λm=>@Int.rec (λ_=>Bool) (λ_=>true) (λn=>Nat.ble n m) b) a
def ieq(a b:Int):Bool:=@Int.rec (λ_=>Bool) (λm=>@Int.rec (λ_=>Bool) (λn=>Nat.beq m n) (λ_=>false) b) (λm=>@Int.rec (λ_=>Bool) (λ_=>false) (λn=>Nat.beq m n) b) a
def LI(a b:Int):qL a b=decide (a<=b):=by
 cases a<;>cases b<;>simp only[qL]
 ·rw[uQ];simp[kD]
 ·rw[uQ];simp;omega
 ·rw[uQ];simp;omega
 ·rw[uQ];simp[kD];omega
def QX(a b:Int):ieq a b=decide (a=b):=by
 cases a<;>cases b<;>simp only[ieq]
 ·rw[uQ];simp[rE,Int.ofNat_inj]
 ·rw[uQ];simp
 ·rw[uQ];simp
 ·rw[uQ];simp[rE]
def bB(b:Bool)(K:K2):Af:=@Bool.rec (λ_=>Af) (K (.v (.bool false))) (K (.v (.bool true))) b
def OX(b:Bool)(K:K2):bB b K=K (.v (.bool b)):=by cases b<;>rfl
end
section
variable{v:AV}{K:K2}{i:TI}{α:Type}
def EL(n:Nat):List α->(List α->Af)->Af:=
 @Nat.rec (λ_=>List α->(List α->Af)->Af) (λ_ K=>K []) (λ_ ih l K=>@List.rec α (λ_=>Af) none (λa l _=>ih l λb=>K (a::b)) l) n
def LM(n:Nat):∀(l:List α)(K:List α->Af)(r:AV×Hp),EL n l K=some r->n<=l.length/\K (l.take n)=some r:=by
 induction n with
 |zero=>intro l K r h;exact⟨l1h _,h⟩
 |succ n ih=>
  intro l K r h;cases l with
  |nil=>cases h
  |cons a l=>
   obtain⟨h1,h2⟩:=ih l _ r h;exact⟨by simpa using h1,h2⟩
def KZ(n:Nat):∀(l:List α)(K:List α->Af),n<=l.length->EL n l K=K (l.take n):=by
 induction n with
 |zero=>intro l K _;rfl
 |succ n ih=>
  intro l K h;cases l with
  |nil=>simp at h
  |cons a l=>exact ih l _ (by simpa using h)
def hdK(l:Is)(K:K2):Af:=@List.rec AV (λ_=>Af) none (λa _ _=>K a) l
def A1B{l:Is}{r:AV×Hp}(h:hdK l K=some r):∃a b,l=a::b/\K a=some r:=by
 cases l with
 |nil=>cases h
 |cons a l=>exact⟨a,l,rfl,h⟩
def Kq(x:Row)(K:TypeId->Is->Af):Af:=match x with|.cells _ e cs=>K e cs|_=>none
def gH(x:Row)(K:Bool->TypeId->Is->Af):Af:=match x with|.cells q e cs=>K q e cs|_=>none
def A6d(v:AV)(H:Hp)(K:Is->Af):Af:=
 match v with
 |.ptr r p k=>IQ H r λx=>Kq x λ_ cs=>K (Do (Nat.add p k) cs)
 |.iptr cs=>K cs
 |_=>none
section
variable{T:Ty}{H:Hp}{r:AV×Hp}
def JU{i:Nat}{K:TypeId->Is->Af}(h:(IQ H i λx=>Kq x K)=some r):∃q e cs,Ai H i=some (.cells q e cs)/\K e cs=some r:=by
 obtain⟨x,h1,h2⟩:=I4 rfl h;unfold Kq at h2;split at h2
 ·exact⟨_,_,_,h1,h2⟩
 ·cases h2
def Vi{i:Nat}{K:Bool->TypeId->Is->Af}(h:(IQ H i λx=>gH x K)=some r):∃q e cs,Ai H i=some (.cells q e cs)/\K q e cs=some r:=by
 obtain⟨x,h1,h2⟩:=I4 rfl h;unfold gH at h2;split at h2
 ·exact⟨_,_,_,h1,h2⟩
 ·cases h2
def oP(i:TI)(cs:Is)(K:K2):Af:=@Bool.rec (λ_=>Af) (hdK cs K) (EL i.size cs λc=>K (.agg c)) i.d.isAgg
def Xq{ty:TypeId}{cs:Is}(c:T ty=some i)(h:oP i cs K=some r):∃v,K v=some r/\YO T ty cs (λe=>e=v):=by
 unfold oP at h;cases b:i.d.isAgg
 ·rw[b]at h;obtain⟨a,l,rfl,h2⟩:=A1B h;exact⟨a,h2,by simp[YO,c,b]⟩
 ·rw[b]at h;obtain⟨h1,h2⟩:=LM _ _ _ _ h;exact⟨_,h2,by simp[YO,c,b,h1]⟩
def AE(i:TI)(v:AV)(H:Hp)(K:K2):Af:=A6d v H λcs=>oP i cs K
def A27{ty:TypeId}(c:T ty=some i)(h:AE i v H K=some r):∃u,K u=some r/\A0s T ty v H (λd=>d=u):=by
 unfold AE A6d at h;split at h
 ·obtain⟨q,e,cs,h1,h2⟩:=JU h;rw[C9]at h2;obtain⟨u,a,b⟩:=Xq (T:=T) (ty:=ty) c h2;exact⟨u,a,by simp only[A0s,h1];exact b⟩
 ·obtain⟨u,a,b⟩:=Xq (T:=T) (ty:=ty) c h;exact⟨u,a,b⟩
 ·cases h
def NQ(l:Is):Bool:=@List.rec AV (λ_=>Bool) true (λa _ ih=>@Bool.rec (λ_=>Bool) false ih (AV.one a)) l
def FN(l:Is):NQ l=l.all AV.one:=by
 induction l with
 |nil=>rfl
 |cons a l ih=>
  have e:NQ (a::l)=@Bool.rec (λ_=>Bool) false (NQ l) (AV.one a):=rfl;rw[e,oG,<-ih];cases AV.one a<;>rfl
def He(a:AV)(K:Is->Af):Af:=match a with|.agg cs=>K cs|a=>K [a]
def CM(a:AV)(K:Is->Af):He a K=K (B0 a):=by cases a<;>rfl
def DN(i:TI)(p v:AV)(H:Hp)(K:Ru):Af:=
 match p with
 |.ptr s p k=>IQ H s λx=>gH x λq e cs=>He v λvs=>HQ vs 0 λn=>ck (Nat.beq n i.size) (ck (NQ vs) (Ey (Nat.add p k) vs cs λa=>LJ H s (.cells q e a) K))
 |_=>none
def B1x{ty:TypeId}{p v:AV}{K:Ru}(g:T ty=some i)(h:DN i p v H K=some r):∃b,K b=some r/\rW T ty p v H (λa=>a=b):=by
 unfold DN at h;split at h
 ·obtain⟨q,e,cs,h1,h2⟩:=Vi h;rw[CM,Cs]at h2;obtain⟨d,h2⟩:=B4 h2;obtain⟨c,h2⟩:=B4 h2;obtain⟨f,h2⟩:=OG _ _ _ _ _ h2;rw[Dg]at h2;rw[FN]at c;refine⟨_,h2,?_⟩;simp only[rW,h1,g];exact⟨by have:=Zy d;omega,c,f,rfl⟩
 ·cases h
def Bw(ty:TypeId)(i:TI)(H:Hp)(K:KV):Af:=He i.zero λcs=>It H λs=>K (.ptr s 0 0) ((s,.cells true ty cs)::H)
def A2c{ty:TypeId}{K:KV}(c:T ty=some i)(h:Bw ty i H K=some r):∃v b,K v b=some r/\sG T ty H (Ar H) (λd a=>d=v/\a=b):=by
 rw[Bw,CM,Ca]at h;exact⟨_,_,h,by simp[sG,c]⟩
def GZ(ty:TypeId)(v:AV)(H:Hp)(K:KV):Af:=He v λcs=>ck (NQ cs) (It H λs=>K (.ptr s 0 0) ((s,.cells true ty cs)::H))
def A7U{ty:TypeId}{K:KV}(h:GZ ty v H K=some r):∃u b,K u b=some r/\B6V ty v H (Ar H) (λc a=>c=u/\a=b):=by
 rw[GZ,CM]at h;obtain⟨h1,h⟩:=B4 h;rw[Ca]at h;rw[FN]at h1;exact⟨_,_,h,h1,rfl,rfl⟩
def eT(l:List (Nat×Nat×AV)):Is->(Is->Af)->Af:=
 @List.rec (Nat×Nat×AV) (λ_=>Is->(Is->Af)->Af) (λcs K=>K cs)
  (λp _ ih cs K=>He p.2.2 λvs=>HQ vs 0 λn=>ck (Nat.beq n p.2.1) (ck (NQ vs) (Ey p.1 vs cs λa=>ih a K))) l
def YU{place:Nat->Option (Nat×Nat)}:∀(l:List (Nat×Nat×AV))(ps:List (Nat×AV))(cs:Is)(K:Is->Af),(ps.map λp=>(place p.1).map λq=>(q.1,q.2,p.2))=l.map some->eT l cs K=some r->∃b,K b=some r/\Tp place ps cs=some b:=by
 intro l
 induction l with
 |nil=>
  intro ps cs K he h;cases ps with
  |nil=>exact⟨cs,h,rfl⟩
  |cons p ps=>simp at he
 |cons x l ih=>
  intro ps cs K he h;cases ps with
  |nil=>simp at he
  |cons p ps=>
   simp only[XC,List.cons.injEq]at he;obtain⟨c,e⟩:=he;cases hq:place p.1 with
   |none=>rw[hq]at c;simp at c
   |some q=>
    rw[hq]at c;simp only[zC,l0z]at c;have m:eT (x::l) cs K=He x.2.2 λvs=>HQ vs 0 λn=>ck (Nat.beq n x.2.1) (ck (NQ vs) (Ey x.1 vs cs λb=>eT l b K)):=rfl;rw[m,CM,Cs]at h;obtain⟨d,h⟩:=B4 h;obtain⟨f,h⟩:=B4 h;obtain⟨g,h⟩:=OG _ _ _ _ _ h;rw[FN]at f;obtain⟨b,j,k⟩:=ih ps _ K e h;refine⟨b,j,?_⟩;obtain⟨i,a⟩:=p;subst c;have d:=Zy d;simp only[Tp,hq];rw[Dr ⟨by simpa using d,g,f⟩];exact k
def BR(i:TI)(l:List (Nat×Nat×AV))(K:K2):Af:=He i.zero λz=>eT l z λcs=>K (.agg cs)
def Rp(i:TI)(j:Nat):Option (Nat×Nat):=
 match i.d with
 |.struct b=>(b[j]?).map λf=>(f.1,f.2.1)
 |.array _ _ a=>some (j*a,a)
 |.slice _ a=>some (j*a,a)
 |_=>none
def Y!(i:TI):Bool:=
 match i.d with
 |.struct b=>b.all λf=>f.2.1 !=0
 |.array _ _ a=>a !=0
 |_=>false
def A2a{ty:TypeId}{l:List (Nat×Nat×AV)}{ps:List (Nat×AV)}(k:T ty=some i)(hb:Y! i=true)(he:(ps.map λp=>(Rp i p.1).map λq=>(q.1,q.2,p.2))=l.map some)(h:BR i l K=some r):
 ∃v,K v=some r/\sD T ty ps (λm=>m=v):=by
 rw[BR,CM]at h;obtain⟨c,h1,h2⟩:=YU l ps _ _ he h;refine⟨_,h1,?_⟩;unfold sD;rw[k];simp only;unfold Y! at hb;cases b:i.d with
 |struct g=>
  rw[b]at hb;simp only;refine⟨hb,?_⟩;have:Rp i= λj=>(g[j]?).map λf=>(f.1,f.2.1):=by funext j;simp[Rp,b]
  rw[this]at h2;rw[h2];rfl
 |array n e a=>
  rw[b]at hb;simp only;refine⟨by simpa using hb,?_⟩;have:Rp i= λj=>some (j*a,a):=by funext j;simp[Rp,b]
  rw[this]at h2;rw[h2];rfl
 |_=>rw[b]at hb;cases hb
end
end
section
variable{a:AV}{K:K2}{op:BinOp}{i:TI}
section
variable{T:Ty}{H:Hp}{r:AV×Hp}
def B5e(z:Int)(K:Int->Af):Af:=
 @Int.rec (λ_=>Af) (λn=>fN n λn=>@Bool.rec (λ_=>Af) (fI (IntKind.i64.wrap (.ofNat n)) K) (K (.ofNat n)) (Nat.blt n 9223372036854775808))
  (λn=>fN n λn=>@Bool.rec (λ_=>Af) (fI (IntKind.i64.wrap (.negSucc n)) K) (K (.negSucc n)) (Nat.blt n 9223372036854775808)) z
def B5d(z:Int)(K:Int->Af):B5e z K=K (IntKind.i64.wrap z):=by
 have key:∀x:Int, -9223372036854775808<=x->x<9223372036854775808->IntKind.i64.wrap x=x:=λx h1 h2=>by
  simp only[IntKind.wrap,IntKind.bits,IntKind.signed];have b:(2^64:Int)=18446744073709551616:=by decide
  have c:(2^(64-1):Int)=9223372036854775808:=by decide
  simp only[b,c,l1b,decide_eq_true_eq];split<;>omega
 cases z with
 |ofNat n=>
  simp only[B5e,Ef];cases h:Nat.blt n 9223372036854775808
  ·simp only[VC]
  ·rw[Xe]at h;rw[key _ (by simp only[Int.ofNat_eq_natCast];omega) (by simp only[Int.ofNat_eq_natCast];omega)]
 |negSucc n=>
  simp only[B5e,Ef];cases h:Nat.blt n 9223372036854775808
  ·simp only[VC]
  ·rw[Xe]at h;rw[key _ (by omega) (by omega)]
def MQ(k:IntKind)(z:Int)(K:Int->Af):Af:=match k with|.i64=>B5e z K|k=>fI (k.wrap z) K
def HP(k:IntKind)(z:Int)(K:Int->Af):MQ k z K=K (k.wrap z):=by
 cases k<;>first|exact B5d _ _|exact VC _ _
abbrev IT:=IntKind->Int->Int->K2->Af
def B57:IT:=λk a b K=>MQ k (Int.add a b) λz=>K (.v (.int k z))
def C3h:IT:=λk a b K=>MQ k (Int.sub a b) λz=>K (.v (.int k z))
def C3n:IT:=λk a b K=>MQ k (Int.mul a b) λz=>K (.v (.int k z))
def C3l:IT:=λk a b K=>ck (!ieq b 0) (MQ k (Int.tdiv a b) λz=>K (.v (.int k z)))
def C3k:IT:=λk a b K=>ck (!ieq b 0) (fI (Int.tmod a b) λz=>K (.v (.int k z)))
def B56:IT:=λk a b K=>fI (k.wrap ((BitVec.ofInt k.bits a&&&BitVec.ofInt k.bits b).toNat)) λz=>K (.v (.int k z))
def iOr:IT:=λk a b K=>fI (k.wrap ((BitVec.ofInt k.bits a|||BitVec.ofInt k.bits b).toNat)) λz=>K (.v (.int k z))
def B55:IT:=λk a b K=>fI (k.wrap ((BitVec.ofInt k.bits a^^^BitVec.ofInt k.bits b).toNat)) λz=>K (.v (.int k z))
def C3t:IT:=λk a b K=>fI (k.wrap ((BitVec.ofInt k.bits a&&& ~~~BitVec.ofInt k.bits b).toNat)) λz=>K (.v (.int k z))
def C3s:IT:=λ_ a b K=>bB (ieq a b) K
def C3m:IT:=λ_ a b K=>bB (!ieq a b) K
def C3o:IT:=λ_ a b K=>bB (!qL b a) K
def C3p:IT:=λ_ a b K=>bB (qL a b) K
def C3q:IT:=λ_ a b K=>bB (!qL a b) K
def C3r:IT:=λ_ a b K=>bB (qL b a) K
def C3j:IT:=λk a b K=>ck (qL 0 b) (MQ k (a*2^(min b.toNat k.bits)) λz=>K (.v (.int k z)))
def C3i:IT:=λk a b K=>ck (qL 0 b) (fI (a.fdiv (2^(min b.toNat k.bits))) λz=>K (.v (.int k z)))
def A4q(op:BinOp):IT:=match op with
 |.add=>B57|.sub=>C3h|.mul=>C3n|.quo=>C3l|.rem=>C3k|.and=>B56|.or=>iOr|.xor=>B55|.andNot=>C3t
 |.eql=>C3s|.neq=>C3m|.lss=>C3o|.leq=>C3p|.gtr=>C3q|.geq=>C3r|.shl=>C3j|.shr=>C3i
def A!{k:IntKind}{a b:Int}(h:A4q op k a b K=some r):∃v,K (.v v)=some r/\(if Jb op then lL op k a b=some v else pM op k a b=some v):=by
 have hq:∀{x:Af},ck (!ieq b 0) x=some r->b≠0/\x=some r:=λh=>by
  obtain⟨h1,h2⟩:=B4 h;refine⟨λe=>?_,h2⟩;subst e;simp[QX]at h1
 have c:∀{x:Af},ck (qL 0 b) x=some r->0<=b/\x=some r:=λh=>by
  obtain⟨h1,h2⟩:=B4 h;rw[LI]at h1;exact⟨by simpa using h1,h2⟩
 cases op<;>simp only[A4q,B57,C3h,C3n,C3l,C3k,B56,iOr,B55,C3t,C3s,C3m,C3o,C3p,C3q,C3r,C3j,C3i,HP,VC,OX]at h<;>try (cases h;done)
 case add=>exact⟨_,h,rfl⟩
 case sub=>exact⟨_,h,rfl⟩
 case mul=>exact⟨_,h,rfl⟩
 case quo=>
  obtain⟨h1,h2⟩:=hq h;exact⟨_,h2,by simp[Jb,pM,h1]⟩
 case rem=>
  obtain⟨h1,h2⟩:=hq h;exact⟨_,h2,by simp[Jb,pM,h1]⟩
 case and=>exact⟨_,h,rfl⟩
 case or=>exact⟨_,h,rfl⟩
 case xor=>exact⟨_,h,rfl⟩
 case andNot=>exact⟨_,h,rfl⟩
 case shl=>
  obtain⟨h1,h2⟩:=c h;exact⟨_,h2,by simp only[Jb,if_true,lL];rw[CD (by omega)]⟩
 case shr=>
  obtain⟨h1,h2⟩:=c h;exact⟨_,h2,by simp only[Jb,if_true,lL];rw[CD (by omega)]⟩
 case eql=>exact⟨_,h,by simp only[Jb,pM,QX];rw[show(a==b)=decide (a=b) from by by_cases e:a=b<;>simp[e]];simp⟩
 case neq=>exact⟨_,h,by simp only[Jb,pM,QX,bne];rw[show(a==b)=decide (a=b) from by by_cases e:a=b<;>simp[e]];simp⟩
 case lss=>exact⟨_,h,by simp only[Jb,pM,LI];rw[show(!decide (b<=a))=decide (a<b) from by rw[uQ];simp];simp⟩
 case leq=>exact⟨_,h,by simp[Jb,pM,LI]⟩
 case gtr=>exact⟨_,h,by simp only[Jb,pM,LI];rw[show(!decide (a<=b))=decide (a>b) from by rw[uQ];simp];simp⟩
 case geq=>exact⟨_,h,by simp[Jb,pM,LI]⟩
def eqB(a:Ha):Ha->Bool:=
 @List.rec UInt8 (λ_=>Ha->Bool) (λb=>@List.rec UInt8 (λ_=>Bool) true (λ_ _ _=>false) b)
  (λx _ ih b=>@List.rec UInt8 (λ_=>Bool) false (λy l _=>@Bool.rec (λ_=>Bool) false (ih l) (Nat.beq x.toNat y.toNat)) b) a
def QZ(a:Ha):∀b,eqB a b=(a==b):=by
 induction a with
 |nil=>intro b;cases b<;>rfl
 |cons x a ih=>
  intro b;cases b with
  |nil=>rfl
  |cons y b=>
   have e:eqB (x::a) (y::b)=@Bool.rec (λ_=>Bool) false (eqB a b) (Nat.beq x.toNat y.toNat):=rfl;rw[e,ih];cases h:Nat.beq x.toNat y.toNat
   ·have:x≠y:=λe=>by rw[e,oH]at h;cases h
    simp[this]
   ·have:x=y:=UInt8.toNat_inj.1 (Zy h);simp[this]
def ltB(a:Ha):Ha->Bool:=
 @List.rec UInt8 (λ_=>Ha->Bool) (λb=>@List.rec UInt8 (λ_=>Bool) false (λ_ _ _=>true) b)
  (λx _ ih b=>@List.rec UInt8 (λ_=>Bool) false (λy l _=>@Bool.rec (λ_=>Bool) (@Bool.rec (λ_=>Bool) false (ih l) (Nat.beq x.toNat y.toNat)) true (Nat.blt x.toNat y.toNat)) b) a
def P_(a:Ha):∀b,ltB a b=Op.bytesLess a b:=by
 induction a with
 |nil=>intro b;cases b<;>rfl
 |cons x a ih=>
  intro b;cases b with
  |nil=>rfl
  |cons y b=>
   have e:ltB (x::a) (y::b)=@Bool.rec (λ_=>Bool) (@Bool.rec (λ_=>Bool) false (ltB a b) (Nat.beq x.toNat y.toNat)) true (Nat.blt x.toNat y.toNat):=rfl;rw[e,ih,Op.bytesLess];have h1:(Nat.blt x.toNat y.toNat)=decide (x<y):=by
    rw[uQ];simp[Xe,UInt8.lt_iff_toNat_lt]
   have h2:(Nat.beq x.toNat y.toNat)=(x==y):=by
    rw[uQ];simp[rE,UInt8.toNat_inj]
   rw[h1,h2];cases decide (x<y)
   ·cases (x==y)<;>rfl
   ·rfl
def C0x(op:BinOp)(a b:ByteArray)(K:K2):Af:=
 match op with
 |.add=>YX a.data.toList b.data.toList λl=>ck (Nat.blt l.length 9223372036854775808) (K (.v (.string ⟨⟨l⟩⟩)))
 |.eql=>bB (eqB a.data.toList b.data.toList) K
 |.neq=>bB (!eqB a.data.toList b.data.toList) K
 |.lss=>bB (ltB a.data.toList b.data.toList) K
 |.leq=>bB (ltB a.data.toList b.data.toList||eqB a.data.toList b.data.toList) K
 |.gtr=>bB (!(ltB a.data.toList b.data.toList||eqB a.data.toList b.data.toList)) K
 |.geq=>bB (!ltB a.data.toList b.data.toList) K
 |_=>none
def Yj(a:ByteArray):a.toList=a.data.toList:=ByteArray.toList_eq a
def A7L{a b:ByteArray}(h:C0x op a b K=some r):∃v,K (.v v)=some r/\A78 op a b=some v:=by
 cases op<;>simp only[C0x,OX,MZ,QZ,P_]at h<;>try (cases h;done)
 case add=>
  obtain⟨h1,h2⟩:=B4 h;refine⟨_,h2,?_⟩;rw[Xe]at h1;have c:IntKind.i64.max=9223372036854775807:=by decide
  have d:a.size+b.size=(a.data.toList++b.data.toList).length:=by rw[Ez];rfl
  simp only[A78];rw[CD (by rw[c];omega)]
  congr 2
 all_goals exact⟨_,h,by simp[A78,Yj]⟩
def As(i:TI)(op:BinOp)(a b:AV)(K:K2):Af:=
 match a,b with
 |.v (.int k m),.v (.int c n)=>@Bool.rec (λ_=>Af) (ck (decide (k=c)) (A4q op k m n K)) (A4q op k m n K) (Jb op)
 |.v (.string s),.v (.string u)=>C0x op s u K
 |.v (.bool p),.v (.bool q)=>match i.d,op with
  |.bool,.eql=>bB (p==q) K
  |.bool,.neq=>bB (!(p==q)) K
  |_,_=>none
 |a,b=>match A1j i.d a b,op with
  |some q,.eql=>bB q K
  |some q,.neq=>bB (!q) K
  |_,_=>none
def B!{ty:TypeId}{a b:AV}(j:T ty=some i)(h:As i op a b K=some r):∃v,K v=some r/\sF T op ty a b (λu=>u=v):=by
 unfold As at h;split at h
 ·rename_i k m w n;cases g:Jb op
  ·rw[g]at h;obtain⟨h1,h2⟩:=B4 h;obtain⟨v,e,c⟩:=A! h2;rw[g]at c;exact⟨_,e,by simp only[sF,g,xT,if_false];exact⟨by simpa using h1,by simp only[xT,if_false]at c;rw[c];rfl⟩⟩
  ·rw[g]at h;obtain⟨v,e,c⟩:=A! h;rw[g]at c;exact⟨_,e,by simp only[sF,g,if_true];simp only[if_true]at c;rw[c];rfl⟩
 ·obtain⟨v,e,c⟩:=A7L h;exact⟨_,e,by simp only[sF];rw[c];rfl⟩
 ·rename_i p q;split at h
  ·rename_i s;rw[OX]at h;exact⟨_,h,by simp only[sF];exact⟨⟨i,j,s⟩,trivial⟩⟩
  ·rename_i s;rw[OX]at h;exact⟨_,h,by simp only[sF];exact⟨⟨i,j,s⟩,trivial⟩⟩
  ·cases h
 ·rename_i h1 h2 e;have t:∀Kp:AV->Prop,(∃q,A1j i.d a b=some q/\((op=.eql/\Kp (.v (.bool q)))\/(op=.neq/\Kp (.v (.bool (!q))))))->sF T op ty a b Kp:=λKp f=>by
   obtain⟨q,hq,f⟩:=f;unfold sF;split
   ·exact(h1 _ _ _ _ rfl rfl).elim
   ·exact(h2 _ _ rfl rfl).elim
   ·exact(e _ _ rfl rfl).elim
   ·rw[j];simp only[hq];rcases f with⟨rfl,f⟩|⟨rfl,f⟩<;>exact f
  cases hq:A1j i.d a b with
  |none=>rw[hq]at h;cases h
  |some q=>
   rw[hq]at h;cases op<;>first|(cases h;done)|skip
   ·simp only[OX]at h;exact⟨_,h,t _ ⟨q,hq,.inl ⟨rfl,rfl⟩⟩⟩
   ·simp only[OX]at h;exact⟨_,h,t _ ⟨q,hq,.inr ⟨rfl,rfl⟩⟩⟩
def MB(op:UnOp)(a:AV)(K:K2):Af:=
 match op,a with
 |.neg,.v (.int k n)=>MQ k (Int.sub 0 n) λz=>K (.v (.int k z))
 |.xor,.v (.int k n)=>fI (k.wrap ((BitVec.ofInt k.bits (if k.signed then-1 else k.max)^^^BitVec.ofInt k.bits n).toNat)) λz=>K (.v (.int k z))
 |.not,.v (.bool b)=>bB (!b) K
 |_,_=>none
def B1w{op:UnOp}(h:MB op a K=some r):∃v,K v=some r/\xun op a (λb=>b=v):=by
 unfold MB at h;split at h
 ·rw[HP]at h;exact⟨_,h,rfl⟩
 ·rw[VC]at h;exact⟨_,h,rfl⟩
 ·rw[OX]at h;exact⟨_,h,rfl⟩
 ·cases h
def Hj(i j:TI)(a:AV)(K:K2):Af:=
 match j.d,a with
 |.int k,.v (.int _ n)=>MQ k n λz=>K (.v (.int k z))
 |.string,.v (.string s)=>match i.d with|.string=>K (.v (.string s))|_=>none
 |_,_=>none
def A4w{s d:TypeId}{i j:TI}(hi:T s=some i)(c:T d=some j)(h:Hj i j a K=some r):∃v,K v=some r/\yG T s d a (λf=>f=v):=by
 unfold Hj at h;split at h
 ·rename_i b;rw[HP]at h;exact⟨_,h,by simp only[yG,hi,c,b]⟩
 ·rename_i b;split at h
  ·rename_i e;exact⟨_,h,by simp only[yG,hi,c,b,e];exact⟨trivial,trivial⟩⟩
  ·cases h
 ·cases h
end
end
section
variable{a ix v x:AV}{K:K2}{fs:List (Nat×Nat×TypeId)}{f ft off sz:Nat}{i j:TI}
section
variable{T:Ty}{H:Hp}{r:AV×Hp}
def CL(off:Nat)(v:AV)(K:K2):Af:=
 match v with
 |.ptr s p k=>fN (Nat.add (Nat.add p k) off) λo=>K (.ptr s o 0)
 |.iptr cs=>K (.iptr (Do off cs))
 |_=>none
def B1M{ty:TypeId}(b:T ty=some i)(c:i.d=.struct fs)(e:fs[f]?=some (off,sz,ft))(hz:sz≠0)(h:CL off v K=some r):∃u,K u=some r/\kL T ty v f (λg=>g=u):=by
 unfold CL at h;split at h
 ·rw[Ef]at h;refine⟨_,h,?_⟩;simp only[kL,b,c,e];exact⟨hz,_,0,by simp[kE],rfl⟩
 ·rw[C9]at h;refine⟨_,h,?_⟩;simp only[kL,b,c,e];exact⟨hz,trivial⟩
 ·cases h
def B1L(off:Nat)(j:TI)(v:AV)(K:K2):Af:=
 match v with
 |.agg cs=>oP j (Do off cs) K
 |_=>none
def A7S{ty:TypeId}(b:T ty=some i)(c:i.d=.struct fs)(e:fs[f]?=some (off,sz,ft))(g:T ft=some j)(h:B1L off j v K=some r):∃u,K u=some r/\sC T ty v f (λk=>k=u):=by
 unfold B1L at h;split at h
 ·rw[C9]at h;obtain⟨u,h1,h2⟩:=Xq (T:=T) (ty:=ft) g h;exact⟨u,h1,by simp only[sC,b,c,e];exact h2⟩
 ·cases h
def R?(a:AV)(K:Int->Af):Af:=match a with|.v (.int _ n)=>K n|_=>none
def Qa{K:Int->Af}(h:R? a K=some r):∃k n,a=.v (.int k n)/\K n=some r:=by
 unfold R? at h;split at h
 ·exact⟨_,_,rfl,h⟩
 ·cases h
def D1(i:TI)(x ix:AV)(K:K2):Af:=
 R? ix λz=>iN z λn=>match i.d,x with
  |.slice _ b,.list m cs=>ck (Nat.blt n m) (SY b (Do (Nat.mul n b) cs) λc=>K (.iptr c))
  |.slice _ b,.sl _ s o m=>ck (Nat.blt n m) (fN (Nat.add o (Nat.mul n b)) λp=>K (.ptr s p 0))
  |.array m _ b,.ptr s p k=>ck (Nat.blt n m) (fN (Nat.add (Nat.add p k) (Nat.mul n b)) λq=>K (.ptr s q 0))
  |.array m _ b,.iptr cs=>ck (Nat.blt n m) (SY b (Do (Nat.mul n b) cs) λc=>K (.iptr c))
  |_,_=>none
def B1H{ty:TypeId}(d:T ty=some i)(h:D1 i x ix K=some r):∃u,K u=some r/\sB T ty x ix (λe=>e=u):=by
 unfold D1 at h;obtain⟨k,z,rfl,c⟩:=Qa h;clear h;obtain⟨n,rfl,h⟩:=Xh c;clear c;unfold sB;rw[d];simp only;split at h
 ·rename_i b;obtain⟨h1,h⟩:=B4 h;rw[OE,C9]at h;rw[Xe]at h1;exact⟨_,h,by simp only[b,mI];exact⟨⟨by omega,by omega⟩,rfl⟩⟩
 ·rename_i b;obtain⟨h1,h⟩:=B4 h;rw[Ef]at h;rw[Xe]at h1;exact⟨_,h,by simp only[b,mI];exact⟨⟨by omega,by omega⟩,rfl⟩⟩
 ·rename_i b;obtain⟨h1,h⟩:=B4 h;rw[Ef]at h;rw[Xe]at h1;exact⟨_,h,by simp only[b,mI];exact⟨⟨by omega,by omega⟩,_,0,by simp[kE],rfl⟩⟩
 ·rename_i b;obtain⟨h1,h⟩:=B4 h;rw[OE,C9]at h;rw[Xe]at h1;exact⟨_,h,by simp only[b,mI];exact⟨⟨by omega,by omega⟩,rfl⟩⟩
 ·cases h
def B6N(l:Ha)(K:K2):Af:=@List.rec UInt8 (λ_=>Af) none (λb _ _=>fN b.toNat λn=>K (.v (.int .u8 (.ofNat n)))) l
def jI(i j:TI)(x ix:AV)(K:K2):Af:=
 R? ix λz=>iN z λn=>match i.d,x with
  |.string,.v (.string s)=>B6N (Do n s.data.toList) K
  |.array m _ b,.agg cs=>ck (Nat.blt n m) (oP j (Do (Nat.mul n b) cs) K)
  |_,_=>none
def jD(i:TI):Option TypeId:=match i.d with|.array _ e _=>some e|.slice e _=>some e|_=>none
def A7R{ty:TypeId}(t:T ty=some i)(w:∀e,jD i=some e->T e=some j)(h:jI i j x ix K=some r):∃u,K u=some r/\sA T ty x ix (λA=>A=u):=by
 unfold jI at h;obtain⟨k,z,rfl,g⟩:=Qa h;clear h;obtain⟨n,rfl,h⟩:=Xh g;clear g;unfold sA;rw[t];simp only;split at h
 ·rename_i s c;rw[C9]at h;cases d:s.data.toList.drop n with
  |nil=>rw[d]at h;cases h
  |cons b l=>
   rw[d]at h;have h:(fN b.toNat λn=>K (.v (.int .u8 (.ofNat n))))=some r:=h;rw[Ef]at h;have y:n<s.data.toList.length:=by
    have:=congrArg List.length d;simp at this;simp;omega
   have hb:s.data.toList[n]?=some b:=by
    have:=congrArg (λl=>l[0]?) d;simpa using this
   refine⟨_,h,?_⟩;simp only[c,mI];refine⟨⟨by omega,?_⟩,?_⟩
   ·have:s.size=s.data.toList.length:=rfl;omega
   ·rw[UT,hb];rfl
 ·rename_i m e p cs c;obtain⟨h1,h⟩:=B4 h;rw[C9]at h;rw[Xe]at h1;obtain⟨u,h2,q⟩:=Xq (T:=T) (ty:=e) (w e (by simp[jD,c])) h;exact⟨u,h2,by simp only[c,mI];exact⟨⟨by omega,by omega⟩,q⟩⟩
 ·cases h
def XV(x:Option AV)(d:Nat)(K:Nat->Af):Af:=
 match x with
 |none=>fN d K
 |some a=>R? a λz=>iN z K
def Jt{x:Option AV}{d:Nat}{K:Nat->Af}(h:XV x d K=some r):∃n:Nat,ZG x d=some (n:Int)/\K n=some r:=by
 unfold XV at h;split at h
 ·rw[Ef]at h;exact⟨d,rfl,h⟩
 ·obtain⟨k,z,rfl,h1⟩:=Qa h;obtain⟨n,rfl,h2⟩:=Xh h1;exact⟨n,rfl,h2⟩
def DS(i:TI)(x:AV)(g hi mx:Option AV)(K:K2):Af:=
 match i.d,x with
 |.string,.v (.string s)=>ck mx.isNone (XV g 0 λl=>HQ s.data.toList 0 λm=>XV hi m λh=>ck (Nat.ble l h&&Nat.ble h m) (SY (Nat.sub h l) (Do l s.data.toList) λb=>K (.v (.string ⟨⟨b⟩⟩))))
 |.slice _ e,.list m cs=>XV g 0 λl=>XV hi m λh=>XV mx m λx=>ck ((mx.isNone||hi.isSome)&&(Nat.ble l h&&(Nat.ble h x&&Nat.ble x m))) (fN (Nat.sub h l) λn=>SY (Nat.mul n e) (Do (Nat.mul l e) cs) λc=>K (.list n c))
 |.slice _ e,.sl sz s o m=>ck (Nat.beq e sz) (XV g 0 λl=>XV hi m λh=>XV mx m λx=>ck ((mx.isNone||hi.isSome)&&(Nat.ble l h&&(Nat.ble h x&&Nat.ble x m))) (fN (Nat.add o (Nat.mul l e)) λk=>fN (Nat.sub h l) λn=>K (.sl sz s k n)))
 |.slice _ _,.v (.slice none 0 0)=>ck mx.isNone (XV g 0 λl=>XV hi 0 λh=>ck (Nat.beq l 0&&Nat.beq h 0) (K (.v (.slice none 0 0))))
 |_,_=>none
def A1W{ty:TypeId}{q hi mx:Option AV}(t:T ty=some i)(h:DS i x q hi mx K=some r):∃u,K u=some r/\rY T ty x q hi mx (λw=>w=u):=by
 unfold DS at h;unfold rY;rw[t];simp only;split at h
 ·rename_i s b;obtain⟨g,h⟩:=B4 h;obtain⟨l,c,h⟩:=Jt h;rw[Cs]at h;obtain⟨n,hn,h⟩:=Jt h;obtain⟨h1,h⟩:=B4 h;rw[OE,C9]at h;simp only[KK,kD]at h1;have hz:0+s.data.toList.length=s.size:=Kk _;rw[hz]at hn h1;refine⟨_,h,?_⟩;simp only[b,c,hn,Mm,mI];refine⟨g,⟨by omega,by omega,by omega⟩,?_⟩
  congr 2
  apply ByteArray.ext;apply qK;simp only[ByteArray.data_extract,Array.toList_extract,List.extract];rfl
 ·rename_i e d m cs b;obtain⟨l,c,h⟩:=Jt h;obtain⟨n,hn,h⟩:=Jt h;obtain⟨y,p,h⟩:=Jt h;obtain⟨h1,h⟩:=B4 h;rw[Ef,OE,C9]at h;simp only[KK,kD]at h1;refine⟨_,h,?_⟩;have k:((n:Int)-l).toNat=n-l:=by omega
  simp only[b,c,hn,p,Mm,mI,k];refine⟨⟨by omega,by omega,by omega,by omega⟩,λhm=>?_,rfl⟩;cases mx with
  |none=>simp at hm
  |some _=>simpa using h1.1
 ·rename_i e d sz s o m b;obtain⟨g,h⟩:=B4 h;obtain⟨l,c,h⟩:=Jt h;obtain⟨n,hn,h⟩:=Jt h;obtain⟨y,p,h⟩:=Jt h;obtain⟨h1,h⟩:=B4 h;rw[Ef,Ef]at h;simp only[KK,kD]at h1;refine⟨_,h,?_⟩;have k:((n:Int)-l).toNat=n-l:=by omega
  simp only[b,c,hn,p,Mm,mI,k];refine⟨Zy g,⟨by omega,by omega,by omega,by omega⟩,λhm=>?_,rfl⟩;cases mx with
  |none=>simp at hm
  |some _=>simpa using h1.1
 ·rename_i e d b;obtain⟨g,h⟩:=B4 h;obtain⟨l,c,h⟩:=Jt h;obtain⟨n,hn,h⟩:=Jt h;obtain⟨h1,h⟩:=B4 h;simp only[KK,rE]at h1;refine⟨_,h,?_⟩;simp only[b,c,hn,Mm];exact⟨g,⟨by omega,by omega⟩,trivial⟩
 ·cases h
def CV(v:AV)(k:Nat)(K:K2):Af:=match v with|.tup vs=>hdK (Do k vs) K|_=>none
def A7T{k:Nat}(h:CV v k K=some r):∃vs u,v=.tup vs/\vs[k]?=some u/\K u=some r:=by
 unfold CV at h;split at h
 ·rename_i vs;rw[C9]at h;obtain⟨a,l,b,h⟩:=A1B h;refine⟨vs,a,rfl,?_,h⟩;have:=congrArg (λl=>l[0]?) b;simpa using this
 ·cases h
def Bp(i:TI)(x:AV)(K:K2):Af:=
 match i.d,x with
 |.string,.v (.string s)=>HQ s.data.toList 0 λn=>K (.v (.int .i64 (.ofNat n)))
 |.slice _ _,.list n _=>K (.v (.int .i64 (.ofNat n)))
 |.slice _ _,.sl _ _ _ n=>K (.v (.int .i64 (.ofNat n)))
 |.slice _ _,.v (.slice none 0 0)=>K (.v (.int .i64 (.ofNat 0)))
 |.array n _ _,_=>K (.v (.int .i64 (.ofNat n)))
 |_,_=>none
def A7Q{ty:TypeId}(c:T ty=some i)(h:Bp i x K=some r):∃u,K u=some r/\A8D T ty x (λd=>d=u):=by
 unfold Bp at h;unfold A8D;rw[c];simp only;split at h
 ·rename_i s b;rw[Cs]at h;refine⟨_,h,?_⟩;simp only[b];rw[Kk];rfl
 ·rename_i b;exact⟨_,h,by simp only[b];rfl⟩
 ·rename_i b;exact⟨_,h,by simp only[b];rfl⟩
 ·rename_i b;exact⟨_,h,by simp only[b];rfl⟩
 ·rename_i b;exact⟨_,h,by simp only[b];rfl⟩
 ·cases h
def eMM(c:Bool)(a b:AV)(K:K2):Af:=
 match a,b with
 |.v (.int k x),.v (.int d y)=>ck (decide (k=d)) (@Bool.rec (λ_=>Af) (@Bool.rec (λ_=>Af) (K (.v (.int k y))) (K (.v (.int k x))) (qL y x)) (@Bool.rec (λ_=>Af) (K (.v (.int k y))) (K (.v (.int k x))) (qL x y)) c)
 |.v (.string s),.v (.string u)=>@Bool.rec (λ_=>Af) (K (.v (.string u))) (K (.v (.string s))) (@Bool.rec (λ_=>Bool) (!ltB s.data.toList u.data.toList) (ltB s.data.toList u.data.toList||eqB s.data.toList u.data.toList) c)
 |_,_=>none
def A22{c:Bool}{a b:AV}(h:eMM c a b K=some r):∃u,K u=some r/\xmm c a b (λm=>m=u):=by
 unfold eMM at h;split at h
 ·rename_i k x g y;obtain⟨h1,h⟩:=B4 h;simp only[xmm];have e:k=g:=by simpa using h1
  cases c
  ·rw[LI]at h;by_cases d:y<=x
   ·rw[GI d]at h;exact⟨_,h,e,by rw[CD (by simp),CD (by omega)]⟩
   ·rw[HN d]at h;exact⟨_,h,e,by rw[CD (by simp),Dr (by omega)]⟩
  ·rw[LI x y]at h;by_cases d:x<=y
   ·rw[GI d]at h;exact⟨_,h,e,by rw[Dr rfl,CD (by omega)]⟩
   ·rw[HN d]at h;exact⟨_,h,e,by rw[Dr rfl,Dr (by omega)]⟩
 ·rename_i s u;simp only[xmm];cases c
  ·simp only[P_,Yj]at h⊢;cases hb:(!Op.bytesLess s.data.toList u.data.toList)<;>(rw[hb]at h;exact⟨_,h,rfl⟩)
  ·simp only[P_,QZ,Yj]at h⊢;cases hb:(Op.bytesLess s.data.toList u.data.toList||s.data.toList==u.data.toList)<;>(rw[hb]at h;exact⟨_,h,rfl⟩)
 ·cases h
end
end
end Go.Abs
end
