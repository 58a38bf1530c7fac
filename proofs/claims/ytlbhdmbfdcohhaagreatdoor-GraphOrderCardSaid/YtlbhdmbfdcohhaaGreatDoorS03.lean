import Derived.RangeFuncIn
import Derived.RangeFuncStops
import Derived.RangeFuncLeaves
import Derived.OrdersIn
import Derived.Test.YtlbhdmbfdcohhaaGreatDoorS02
set_option linter.all false
set_option maxHeartbeats 100000000
noncomputable section
namespace Go.Abs
open Go.RowKit
section
variable {P:Program} {G:Gl} {w0:Base} {w:World} {C:Ctx} {H:Hp}
theorem QV {t1 t2 e:TypeId} {esz:Nat} {u2:TypeDesc} (hu:P.underlying t1=some (.slice e)) (hsize:(sizeOf e).run P w= .ok esz w)
 (hu2:P.underlying t2=some u2) (hnz:(∃e2,u2= .slice e2)∨u2= .string) {ts:Array TypeId} (h1:ts[0]?=some t1) (h2:ts[1]?=some t2) {ty:TypeId} {base:Option Addr} {n cap m:Nat} {y:Value} (hlen:(Builtin.lenOf y).run P w= .ok m w)
 (hcap:n+m≤cap) {new:List Value} (hnew:(Builtin.firstCells esz m y).run P w= .ok new.toArray w) {w':World}
 (hst:(match base with|some a=>storeCells (a.add (n*esz)) new|none=>pure ():Sem Unit).run P w= .ok () w'):
 (Builtin.append_ ts ty #[.slice base n cap,y]).run P w= .ok (.slice base (n+m) cap) w':=by
 rcases hnz with⟨e2,rfl⟩|rfl
 all_goals
  unfold Builtin.append_
  simp only[h1,h2,l10,l1w,l0q]
  rw[CI,run_underlying hu w]
  simp only[EO]
  rw[CI,hsize]
  simp only[EO]
  rw[CI,run_underlying hu2 w]
  simp only[EO]
  rw[CI,Y9]
  simp only[EO,l0z,if_false]
  rw[CI,hlen]
  simp only[EO,if_pos hcap,Bool.not_false,if_true]
  rw[CI,hnew]
  simp only[EO]
  cases base with
  |none=>
   simp only[Y9] at hst
   injection hst with _ hst
   subst hst
   rfl
  |some a=>
   simp only at hst
   simp only[CI]
   rw[hst]
   rfl
theorem A6L {aZ:List AV} {ys:List Value} (h:Cj C w aZ ys) (h1:aZ.all AV.one=true):∀v∈ys,v.oneCell'=true:=by
 intro v hv
 obtain⟨i,hi⟩:=List.getElem?_of_mem hv
 have hlt:i<aZ.length:=by rw[←h.1];exact(l0j.1 hi).1
 obtain⟨y,hy,hr⟩:=h.2 i _ (Kq hlt)
 rw[hi] at hy
 injection hy with hy
 subst hy
 exact hr.one (HB.1 h1 _ (QE hlt))
theorem A2F {T:Ty} (hT:XT P T) {t1 t2 ty:TypeId} {s x:AV} {y z:Value} {ts:Array TypeId} (h1:ts[0]?=some t1) (h2:ts[1]?=some t2) {K:AV→Hp→Prop} (hr:Rel G w0 C H w) (hs:VRel C w s y) (hx:VRel C w x z) (h:WC T t1 t2 s x H (A2 H) K):
 ∃v H' u C' w',K v H'∧(Builtin.append_ ts ty #[y,z]).run P w= .ok u w'∧J9 G w0 C w v H' u C' w':=by
 unfold WC at h
 split at h
 ·rename_i i1 i2 hi1 hi2
  split at h
  ·rename_i e esz hd
   split at h
   ·rename_i ie hie
    obtain⟨⟨hne,hzl,hk2,hstr0⟩,h⟩:=h
    cases hsrc:A9v H x with
    |none=>rw[hsrc] at h;exact h.elim
    |some p=>
     obtain⟨m,ys,q2⟩:=p
     rw[hsrc] at h
     simp only[Kn] at h
     obtain⟨⟨hyl,hone⟩,h⟩:=h
     obtain⟨hu,hc⟩:=(hT t1 i1 hi1).elem_slice hd
     obtain⟨u2,hu2,eu2⟩:=(hT t2 i2 hi2).under
     have hnz:(∃e2,u2= .slice e2)∨u2= .string:=by
      cases u2<;>simp[td] at eu2<;>rw[←eu2] at hk2<;>simp at hk2⊢
     have hstr:∀q,x= .v (.string q)→esz=1:=by
      intro q hq
      subst hq
      exact hstr0
     obtain⟨hlen,vs,hvs,hfirst⟩:=Wr (P:=P) (esz:=esz) hr hx hsrc hyl hstr
     have oke:=hT e ie hie
     obtain⟨inf,zv,hinf,hsz0,hby,hz,ez⟩:=oke.info
     have hcz:P.cellsOf e=inf.size:=by simp[Program.cellsOf,hinf]
     have hsz:inf.size=esz:=by rw[←hcz,hc]
     have hsize:(sizeOf e).run P w= .ok esz w:=by simp[sizeOf,typeInfo,hinf,hsz]
     have hzs:zv.cells.size=esz:=by
      have:=(Nh (C:=C) (w:=w) (t:=e) (i:=ie) ez).1
      simp at this
      omega
     have hvl:vs.length=m*esz:=by rw[hvs.1,hyl]
     have hnew0:=hfirst w (λ_ _=>rfl)
     have hnew1:=hfirst {w with drawn:=w.drawn+1} (λ_ _=>rfl)
     have grow:∀(base:Option Addr) (n cap:Nat) (old:List Value) (q1:Bool) (cs:List AV) (Hc:Hp),A2 Hc=A2 H→Rel G w0 C Hc w→cap<n+m→(n+m)*ie.bytes≤2^46→n+m≤2^46→Cj (C.sel q1) w cs old→cs.length=n*esz→
      (Builtin.firstCells esz n (.slice base n cap)).run P {w with drawn:=w.drawn+1}= .ok old.toArray {w with drawn:=w.drawn+1}→
      ∃u C' w',(Builtin.append_ ts ty #[.slice base n cap,z]).run P w= .ok u w'∧J9 G w0 C w (.sl esz (A2 H) 0 (n+m)) ((A2 H,.cells false e (cs++ys))::Hc) u C' w':=by
      intro base n cap old q1 cs Hc hlc hrc hcap hb1 hb2 hlr hcl hold
      have hol:old.length=n*esz:=by rw[hlr.1,hcl]
      obtain⟨c,arr,w',hcge,hrun,hbel,hblk,htake,hasz⟩:=Zx (P:=P) (w:=w) (ty:=ty) hu hinf hsz hz hzs hu2 hnz h1 h2 hlen hcap (by rw[hby];exact hb1) hb2 hold hnew1 hol hvl
      refine⟨_,_,w',hrun,hlc▸Vr hrc hbel e hblk (λi _=>by omega) esz (n+m) c hcge (by rw[hasz];exact OV _) ?_ ?_⟩
      ·rw[hasz,Fl,hcl,hyl,←l19];exact l22 _ hcge
      ·have:(cs++ys).length=(old++vs).length:=by simp[hlr.1,hvs.1]
       rw[this,htake]
       exact(A3c hlr).append (A1O hvs)
     split at h
     ·obtain⟨⟨hb1,hb2⟩,h⟩:=h
      obtain rfl:=AI.1 hs
      by_cases hm:m=0
      ·subst hm
       have hy0:ys=[]:=l1s (by simpa using hyl)
       subst hy0
       have hv0:vs=[]:=l1s (by simpa using hvl)
       subst hv0
       refine⟨_,_,_,C.put (A2 H) none,w,h,QV (P:=P) (ty:=ty) (base:=none) (n:=0) (cap:=0) hu hsize hu2 hnz h1 h2 hlen (OV _) hnew0 (by rfl),.slz (by rw[C.put_n];simp),hr.virtual false e,Ctx.put_ext (hr.nx _ (OV _)) (.refl _ _ _)⟩
      ·obtain⟨u,C',w',hrun,hst⟩:=grow none 0 0 [] false [] H rfl hr (by omega) (by simpa using hb1) (by simpa using hb2) .nil (by simp) rfl
       exact⟨_,_,u,C',w',h,hrun,by simpa using hst⟩
     ·rename_i sz r1 o n
      split at h
      ·rename_i q1 E cs hlk
       obtain⟨⟨rfl,rfl,htip,hb1,hb2⟩,h⟩:=h
       have hdl:(cs.drop o).length=n*sz:=by simp;omega
       cases hs with
       |slz hrn=>
        rename_i a
        have h0:cs.drop o=[]:=l1s (by rw[hdl];simp)
        by_cases hm:m=0
        ·subst hm
         have hy0:ys=[]:=l1s (by simpa using hyl)
         subst hy0
         have hv0:vs=[]:=l1s (by simpa using hvl)
         subst hv0
         refine⟨_,_,_,C.put (A2 H) none,w,h,QV (P:=P) (ty:=ty) (base:=a) (n:=0) (cap:=0) hu hsize hu2 hnz h1 h2 hlen (OV _) hnew0 (w':=w) (by cases a<;>rfl),.slz (by rw[C.put_n];simp),?_,Ctx.put_ext (hr.nx _ (OV _)) (.refl _ _ _)⟩
         have:=(hr.cut_row r1).virtual false E
         simpa [h0,cut,BY] using this
        ·obtain⟨u,C',w',hrun,hst⟩:=grow a 0 0 [] q1 [] (cut H r1) (BY _ _ _) (hr.cut_row r1) (by omega) (by simpa using hb1) (by simpa using hb2) .nil (by simp) (by
          cases a with
          |none=>rfl
          |some ad=>simp[Builtin.firstCells,loadCells,loadCellsFrom])
         exact⟨_,_,u,C',w',h,hrun,by simpa [h0] using hst⟩
       |sl hp hcap hbk hfit=>
        rename_i b base cap arr' T' fz'
        rcases hr.rows r1 _ hlk with⟨h5,h6⟩|⟨b',base',arr,fz,hl⟩
        ·rw[h6] at hp;cases hp
        ·have e':=hl.at_.symm.trans hp
         injection e' with e';injection e' with e';injection e' with e1 e2;subst e1 e2
         have e3:=hl.block.symm.trans hbk
         injection e3 with e3;injection e3 with e4 e5 e6
         subst e4 e5 e6
         have hfits:=hl.fits
         by_cases hroom:n+m≤cap
         ·have hsum:cs.length+ys.length≤o+cap*sz:=by
           rw[←htip,hyl,Xk,←l19]
           exact Nat.add_le_add_left (l22 _ hroom) _
          have hys':vs.length=ys.length:=hvs.1
          obtain⟨w',hrun,hsb⟩:=Lm (P:=P) vs w arr (base'+o+n*sz) 0 hl.block hl.free (by omega) (A6L hvs hone)
          have hpos:base'+o+n*sz=base'+cs.length:=by omega
          have hx2:=hr.extend hlk hl (o:=o) (by omega) hvs (by omega) (by rw[←hpos];simpa using hsb)
          refine⟨_,_,_,_,w',h,QV (P:=P) (ty:=ty) (base:=some ⟨b',base'+o,none⟩) hu hsize hu2 hnz h1 h2 hlen hroom hnew0 (w':=w') (by simp only[I7];exact hrun),?_,hx2.1,hx2.2⟩
          have:VRel (C.put (A2 H) (some (b',base'+o))) w' (.sl sz (A2 H) 0 (n+m)) (.slice (some ⟨b',base'+o+0,none⟩) (n+m) cap):=by
           refine .sl (C.put_n _ _) hroom hsb.here ?_
           simp only[List.size_toArray]
           rw[EN (by simp;omega)]
           simpa using hfit
          simpa using this
         ·obtain⟨old,ho1,ho2⟩:=(hl.atq.drop o)
          have hol:old.length=n*sz:=by rw[ho1.1,hdl]
          obtain⟨u,C',w',hrun,hst⟩:=grow (some ⟨b',base'+o,none⟩) n cap old q1 (cs.drop o) (cut H r1) (BY _ _ _) (hr.cut_row r1) (by omega) hb1 hb2 ho1 hdl (by
           simp only[Builtin.firstCells]
           have:=run_loadCells_list (P:=P) {w with drawn:=w.drawn+1} ⟨b',base'+o,none⟩ old (λj v hv=>by rw[I7];exact ho2 j v hv)
           rwa[hol] at this)
          exact⟨_,_,u,C',w',h,hrun,hst⟩
      ·exact h.elim
     ·exact h.elim
   ·exact h.elim
  ·exact h.elim
 ·exact h.elim
end
structure Env where
 P:Program
 G:Gl
 T:Ty
structure Env.Ok (E:Env):Prop where
 ty:XT E.P E.T
 pos:∀t i e esz,E.T t=some i→(i.d= .slice e esz∨∃n,i.d= .array n e esz)→esz≠0
 mix:E.P.follows .mixedOrders=true
def xmm (isMin:Bool) (a b:AV) (K:AV→Prop):Prop:=
 match a,b with
 | .v (.int k x),.v (.int k' y)=>k=k'∧K (.v (.int k (if isMin then(if y<x then y else x) else(if y>x then y else x))))
 | .v (.string s),.v (.string u)=>K (.v (.string (if(if isMin then(Op.bytesLess s.toList u.toList||s.toList==u.toList) else !Op.bytesLess s.toList u.toList) then s else u)))
 |_,_=>False
def xop (E:Env) (o:Op) (t:Tm) (H:Hp) (K:AV→Hp→Prop):Prop:=
 match o with
 | .move x=>K (Kw E.G t x) H
 | .assign x=>K (Kw E.G t x) H
 | .pick c a b=>match Kw E.G t c with
  | .v (.bool q)=>K (if q then Kw E.G t a else Kw E.G t b) H
  |_=>False
 | .load ty x=>A5U E.T ty (Kw E.G t x) H (λv=>K v H)
 | .store ty x y=>A0H E.T ty (Kw E.G t x) (Kw E.G t y) H (λH'=>K (.v undef) H')
 | .nilCheck x=>B2y (Kw E.G t x) (λv=>K v H)
 | .binOp op ty x y _=>A0P E.T op ty (Kw E.G t x) (Kw E.G t y) (λv=>K v H)
 | .unOp op _ x=>xun op (Kw E.G t x) (λv=>K v H)
 | .convert s d x=>A3s E.T s d (Kw E.G t x) (λv=>K v H)
 | .makeFunc fn first cap=>K (.fn fn (first.toList.map (Kw E.G t)) (cap.toList.map (Kw E.G t))) H
 | .fieldAddr ty x f=>XY E.T ty (Kw E.G t x) f (λv=>K v H)
 | .field ty x f=>A0M E.T ty (Kw E.G t x) f (λv=>K v H)
 | .indexAddr ty x i=>A0L E.T ty (Kw E.G t x) (Kw E.G t i) (λv=>K v H)
 | .index ty x i=>A0K E.T ty (Kw E.G t x) (Kw E.G t i) (λv=>K v H)
 | .slice ty x lo hi mx=>A0I E.T ty (Kw E.G t x) (lo.map (Kw E.G t)) (hi.map (Kw E.G t)) (mx.map (Kw E.G t)) (λv=>K v H)
 | .extract x k=>match Kw E.G t x with
  | .tup vs=>Kn (vs[k]?) (λv=>K v H)
  |_=>False
 | .build ty parts=>A0N E.T ty (parts.toList.map λp=>(p.1,Kw E.G t p.2)) (λv=>K v H)
 | .call c=>match c.callee with
  | .builtin .len=>match c.args.toList,c.argTypes.toList with
   |[x],[ty]=>B2z E.T ty (Kw E.G t x) (λv=>K v H)
   |_,_=>False
  | .builtin .min=>match c.args.toList with
   |[x,y]=>xmm true (Kw E.G t x) (Kw E.G t y) (λv=>K v H)
   |_=>False
  | .builtin .max=>match c.args.toList with
   |[x,y]=>xmm false (Kw E.G t x) (Kw E.G t y) (λv=>K v H)
   |_=>False
  |_=>False
 |_=>False
def B5Z (E:Env) (o:Op) (t:Tm) (H:Hp) (r:Nat) (K:AV→Hp→Prop):Prop:=
 match o with
 | .alloc ty=>A0Q E.T ty H r K
 | .box ty x=>B9s ty (Kw E.G t x) H r K
 | .buildSlice ty n parts=>WB E.T ty n (parts.toList.map λp=>(p.1,Kw E.G t p.2)) H r K
 | .call c=>match c.callee with
  | .builtin .append=>match c.args.toList,c.argTypes.toList with
   |[s,x],[t1,t2]=>WC E.T t1 t2 (Kw E.G t s) (Kw E.G t x) H r K
   |_,_=>False
  |_=>False
 |_=>False
section
variable {E:Env} {t:Tm} {H:Hp}
theorem Uv {G:Gl} {w0:Base} {w:World} {s0:Nat} {C:Ctx} {N:Nat} {a:Act} (s:St G w0 s0 C N t H a w) (x:Option Operand):A5A C w (x.map (Kw G t)) (x.map a.eval):=by
 cases x with
 |none=>trivial
 |some x=>exact AW s x
theorem Yx {G:Gl} {w0:Base} {w:World} {s0:Nat} {C:Ctx} {N:Nat} {a:Act} (s:St G w0 s0 C N t H a w) (parts:Array (Nat×Operand)):
 (parts.toList.map λp=>(p.1,Kw G t p.2)).length=(parts.toList.map λp=>(p.1,a.eval p.2)).length∧
 ∀(j:Nat) (p:Nat×AV),(parts.toList.map λp=>(p.1,Kw G t p.2))[j]?=some p→∃z,(parts.toList.map λp=>(p.1,a.eval p.2))[j]?=some (p.1,z)∧VRel C w p.2 z:=by
 refine⟨by simp,λj p hp=> ?_⟩
 rw[l0a] at hp⊢
 cases h:parts.toList[j]? with
 |none=>rw[h] at hp;simp at hp
 |some q=>rw[h] at hp;simp at hp;subst hp;exact⟨_,rfl,AW s q.2⟩
theorem B7w {C:Ctx} {w:World} {r p k:Nat} {y:Value} (h:VRel C w (.ptr r p k) y):∃b o',y= .pointer (some ⟨b,o',none⟩):=by
 cases h with
 |ptr hp=>exact⟨_,_,rfl⟩
theorem HW {a:Act} {o:Oper} {c:Call} (ho:o.op= .call c) (b:Builtin) (hb:c.callee= .builtin b):execOp a.eval o=builtin b c.argTypes o.type (c.args.map λ| .const _=>true|_=>false) (c.args.map a.eval):=by
 simp only[execOp,ho,resolve,hb]
 rfl
theorem A3r (hE:E.Ok) {o:Oper} {K:AV→Hp→Prop} (h:xop E o.op t H K):B5J E.P E.G o t H K:=by
 intro w0 s0 C N a w s
 have pure1:∀{sm:Sem Value} {v:AV} {u:Value},execOp a.eval o=(do pure (.value (←sm)))→sm.run E.P w= .ok u w→VRel C w v u→K v H→
  ∃v H' y C' w',K v H'∧((execOp a.eval o).run E.P w= .ok (.value y) w'∨((execOp a.eval o).run E.P w= .ok .skip w'∧y=undef))∧VRel C' w' v y∧Rel E.G w0 C' H' w'∧Ext w0.own C w C' w':=by
  intro sm v u he hr hv hk
  exact⟨v,H,u,C,w,hk,.inl (by rw[he,CI,hr];rfl),hv,s.rel,.refl _ _ _⟩
 unfold xop at h
 split at h
 ·rename_i x ho
  exact⟨_,H,_,C,w,h,.inl (by simp[execOp,ho]),AW s x,s.rel,.refl _ _ _⟩
 ·rename_i x ho
  exact⟨_,H,_,C,w,h,.inl (by simp[execOp,ho]),AW s x,s.rel,.refl _ _ _⟩
 ·rename_i c x y ho
  split at h
  ·rename_i q hq
   have hc:=AW s c
   rw[hq] at hc
   have hc':=AI.1 hc
   refine⟨_,H,if q then a.eval x else a.eval y,C,w,h,.inl (by simp[execOp,ho,hc',asBool]),?_,s.rel,.refl _ _ _⟩
   cases q
   ·exact AW s y
   ·exact AW s x
  ·exact h.elim
 ·rename_i ty x ho
  obtain⟨v,z,h1,h2,h3⟩:=Za hE.ty s.rel (AW s x) h
  exact pure1 (by simp only[execOp,ho]) h1 h2 h3
 ·rename_i ty x y ho
  obtain⟨H',w',h1,h2,h3,h4⟩:=A4h hE.ty s.rel (AW s x) (AW s y) h
  exact⟨_,H',undef,C,w',h4,.inr ⟨by simp only[execOp,ho];rw[CI,h1];rfl,rfl⟩,.v _,h2,h3⟩
 ·rename_i x ho
  have hx:=AW s x
  unfold B2y at h
  split at h
  ·rename_i hq
   rw[hq] at hx
   refine⟨_,H,a.eval x,C,w,h,.inl ?_,by rw[hq];exact hx,s.rel,.refl _ _ _⟩
   obtain⟨b,o',e⟩:=B7w hx
   simp only[execOp,ho,e];rfl
  ·rename_i hq
   rw[hq] at hx
   refine⟨_,H,a.eval x,C,w,h,.inl ?_,by rw[hq];exact hx,s.rel,.refl _ _ _⟩
   obtain⟨b,o',e⟩:=A1T hx
   simp only[execOp,ho,e];rfl
  ·rename_i hq
   rw[hq] at hx
   refine⟨_,H,a.eval x,C,w,h,.inl ?_,by rw[hq];exact hx,s.rel,.refl _ _ _⟩
   obtain⟨ys,zs,e,_⟩:=HH.1 hx
   simp only[execOp,ho,e];rfl
  ·rename_i hq
   rw[hq] at hx
   refine⟨_,H,a.eval x,C,w,h,.inl ?_,by rw[hq];exact hx,s.rel,.refl _ _ _⟩
   obtain⟨ys,zs,e,_⟩:=HH.1 hx
   simp only[execOp,ho,e];rfl
  ·exact h.elim
 ·rename_i op ty x y yt ho
  obtain⟨v,u,h1,h2,h3⟩:=A0O hE.ty x y (AW s x) (AW s y) h
  exact pure1 (by simp only[execOp,ho]) h1 h2 h3
 ·rename_i op ty x ho
  obtain⟨v,u,h1,h2,h3⟩:=B0O (P:=E.P) (AW s x) h
  exact pure1 (by simp only[execOp,ho]) h1 h2 h3
 ·rename_i sr d x ho
  obtain⟨v,u,h1,h2,h3⟩:=A5V hE.ty (AW s x) h
  exact pure1 (by simp only[execOp,ho]) h1 h2 h3
 ·rename_i fn first cap ho
  refine⟨_,H,.func fn (first.map a.eval) (cap.map a.eval),C,w,h,.inl (by simp[execOp,ho,Instr.makeFunc]),?_,s.rel,.refl _ _ _⟩
  have key:∀l:List Operand,Cj C w (l.map (Kw E.G t)) (l.map a.eval):=by
   intro l
   induction l with
   |nil=>exact .nil
   |cons x l ih=>exact .cons (AW s x) ih
  refine HH.2 ⟨first.toList.map a.eval,cap.toList.map a.eval,?_,key _,key _⟩
  congr 1<;>(apply l0c;simp)
 ·rename_i ty x f ho
  obtain⟨v,u,h1,h2,h3⟩:=A4m hE.ty (AW s x) h
  exact pure1 (by simp only[execOp,ho]) h1 h2 h3
 ·rename_i ty x f ho
  obtain⟨v,u,h1,h2,h3⟩:=A4l hE.ty (AW s x) h
  exact pure1 (by simp only[execOp,ho]) h1 h2 h3
 ·rename_i ty x i ho
  obtain⟨v,u,h1,h2,h3⟩:=A4k hE.ty hE.pos (AW s x) (AW s i) h
  exact pure1 (by simp only[execOp,ho]) h1 h2 h3
 ·rename_i ty x i ho
  obtain⟨v,u,h1,h2,h3⟩:=A4j hE.ty hE.pos (AW s x) (AW s i) h
  exact pure1 (by simp only[execOp,ho]) h1 h2 h3
 ·rename_i ty x lo hi mx ho
  obtain⟨v,u,h1,h2,h3⟩:=A4i hE.ty hE.pos (AW s x) (Uv s lo) (Uv s hi) (Uv s mx) h
  exact pure1 (by simp only[execOp,ho]) h1 h2 h3
 ·rename_i x k ho
  have hx:=AW s x
  split at h
  ·rename_i vs hq
   rw[hq] at hx
   obtain⟨ys,e,hl⟩:=DI.1 hx
   unfold Kn at h
   split at h
   ·rename_i v hv
    obtain⟨y,hy,hr⟩:=hl.2 k v hv
    refine pure1 (sm:=Instr.extract (a.eval x) k) (by simp only[execOp,ho]) ?_ hr h
    rw[e]
    simp[Instr.extract,hy]
   ·exact h.elim
  ·exact h.elim
 ·rename_i ty parts ho
  obtain⟨hl,hq⟩:=Yx s parts
  obtain⟨v,u,h1,h2,h3⟩:=A4n hE.ty hl hq h
  refine pure1 (sm:=Instr.build ty (parts.map λ(i,x)=>(i,a.eval x))) (by simp only[execOp,ho]) ?_ h2 h3
  have:(parts.map λ(i,x)=>(i,a.eval x))=(parts.toList.map λp=>(p.1,a.eval p.2)).toArray:=by apply l0c;simp
  rw[this];exact h1
 ·rename_i c ho
  have call:= λb hb=>HW (a:=a) ho b hb
  split at h
  ·rename_i hb
   split at h
   ·rename_i x ty hx hty
    obtain⟨v,u,h1,h2,h3⟩:=A7W (P:=E.P) (rt:=o.type) (ts:=c.argTypes) hE.ty (by rw[←l21,hty];rfl) (AW s x) h
    have hargs:c.args.map a.eval= #[a.eval x]:=by apply l0c;simp[hx]
    refine pure1 (sm:=Builtin.len_ c.argTypes o.type #[a.eval x]) (by rw[call _ hb,hargs];rfl) h1 h2 h3
   ·exact h.elim
  ·rename_i hb
   split at h
   ·rename_i x y hx
    have hargs:c.args.map a.eval= #[a.eval x,a.eval y]:=by apply l0c;simp[hx]
    have h1:=AW s x
    have h2:=AW s y
    unfold xmm at h
    split at h
    ·rename_i k m k' n e1 e2
     rw[e1] at h1
     rw[e2] at h2
     obtain⟨rfl,h⟩:=h
     refine pure1 (sm:=Builtin.min_ c.argTypes o.type #[a.eval x,a.eval y]) (by rw[call _ hb,hargs];rfl) ?_ (.v _) h
     rw[AI.1 h1,AI.1 h2];rfl
    ·rename_i m n e1 e2
     rw[e1] at h1
     rw[e2] at h2
     refine pure1 (sm:=Builtin.min_ c.argTypes o.type #[a.eval x,a.eval y]) (by rw[call _ hb,hargs];rfl) ?_ (.v _) h
     rw[AI.1 h1,AI.1 h2];rfl
    ·exact h.elim
   ·exact h.elim
  ·rename_i hb
   split at h
   ·rename_i x y hx
    have hargs:c.args.map a.eval= #[a.eval x,a.eval y]:=by apply l0c;simp[hx]
    have h1:=AW s x
    have h2:=AW s y
    unfold xmm at h
    split at h
    ·rename_i k m k' n e1 e2
     rw[e1] at h1
     rw[e2] at h2
     obtain⟨rfl,h⟩:=h
     refine pure1 (sm:=Builtin.max_ c.argTypes o.type #[a.eval x,a.eval y]) (by rw[call _ hb,hargs];rfl) ?_ (.v _) h
     rw[AI.1 h1,AI.1 h2];rfl
    ·rename_i m n e1 e2
     rw[e1] at h1
     rw[e2] at h2
     refine pure1 (sm:=Builtin.max_ c.argTypes o.type #[a.eval x,a.eval y]) (by rw[call _ hb,hargs];rfl) ?_ (.v _) h
     rw[AI.1 h1,AI.1 h2];rfl
    ·exact h.elim
   ·exact h.elim
  ·exact h.elim
 ·exact h.elim
theorem A7V (hE:E.Ok) {o:Oper} {K:AV→Hp→Prop} (h:B5Z E o.op t H (A2 H) K):B5J E.P E.G o t H K:=by
 intro w0 s0 C N a w s
 have fin:∀{sm:Sem Value} {v:AV} {H':Hp} {u:Value} {C':Ctx} {w':World},execOp a.eval o=(do pure (.value (←sm)))→sm.run E.P w= .ok u w'→J9 E.G w0 C w v H' u C' w'→K v H'→
  ∃v H' y C' w',K v H'∧((execOp a.eval o).run E.P w= .ok (.value y) w'∨((execOp a.eval o).run E.P w= .ok .skip w'∧y=undef))∧VRel C' w' v y∧Rel E.G w0 C' H' w'∧Ext w0.own C w C' w':=by
  intro sm v H' u C' w' he hr hs hk
  exact⟨v,H',u,C',w',hk,.inl (by rw[he,CI,hr];rfl),hs.1,hs.2.1,hs.2.2⟩
 unfold B5Z at h
 split at h
 ·rename_i ty ho
  obtain⟨v,H',y,C',w',hk,hr,hs⟩:=A4o hE.ty s.rel h
  exact fin (by simp only[execOp,ho]) hr hs hk
 ·rename_i ty x ho
  obtain⟨v,H',y,C',w',hk,hr,hs⟩:=A7X (P:=E.P) s.rel (AW s x) h
  exact fin (by simp only[execOp,ho]) hr hs hk
 ·rename_i ty n parts ho
  obtain⟨hl,hq⟩:=Yx s parts
  obtain⟨v,H',y,C',w',hk,hr,hs⟩:=A2E hE.ty hl hq s.rel h
  refine fin (sm:=Instr.buildSlice ty n (parts.map λ(i,x)=>(i,a.eval x))) (by simp only[execOp,ho]) ?_ hs hk
  have:(parts.map λ(i,x)=>(i,a.eval x))=(parts.toList.map λp=>(p.1,a.eval p.2)).toArray:=by apply l0c;simp
  rw[this];exact hr
 ·rename_i c ho
  split at h
  ·rename_i hb
   split at h
   ·rename_i x y t1 t2 hx hty
    have hargs:c.args.map a.eval= #[a.eval x,a.eval y]:=by apply l0c;simp[hx]
    obtain⟨v,H',z,C',w',hk,hr,hs⟩:=A2F (P:=E.P) (ty:=o.type) (ts:=c.argTypes) hE.ty (t1:=t1) (t2:=t2) (by rw[←l21,hty];rfl) (by rw[←l21,hty];rfl) s.rel (AW s x) (AW s y) h
    refine fin (sm:=Builtin.append_ c.argTypes o.type #[a.eval x,a.eval y]) ?_ hr hs hk
    rw[HW ho _ hb,hargs]
    rfl
   ·exact h.elim
  ·exact h.elim
 ·exact h.elim
end
structure SameObj (w w':World) (b:Nat) (o':Obj):Prop where
 os:w'.os=w.os
 tape:w'.tape=w.tape
 output:w'.output=w.output
 size:w'.heap.size=w.heap.size
 here:w'.heap[b]?=some o'
 others:∀k,k≠b→w'.heap[k]?=w.heap[k]?
section
variable {P:Program} {G:Gl} {w0:Base} {C:Ctx} {H:Hp} {w w':World} {O:Nat→Prop} {r:Nat} {b o:Nat} {x y:Row} {o':Obj}
theorem Keep.same_obj {B:Base} (h:Keep B w) (hs:SameObj w w' b o') (ho:B.own b):Keep B w':=
 ⟨hs.os.trans h.os,hs.tape.trans h.tape,hs.output.trans h.output,by rw[hs.size];exact h.size,λk hk hU=>(hs.others k (λe=>by
  subst e
  rcases ho with ho|ho
  ·omega
  ·exact hU ho)).trans (h.block k hk hU)⟩
theorem SameObj.ext (hs:SameObj w w' b o') (hnc:∀arr T fz,w.heap[b]?≠some (.cells arr T fz)) (hF:∀i,¬C.F b i) (hB:¬C.B b):Ext O C w C w':=
 ⟨λ_ _=>rfl,λ_ _ h=>h,λk i h=>l0s (hs.others k (λe=>hF i (e▸h))),λ_ h=>h,λk h=>hs.others k (λe=>hB (e▸h)),
  λk a t f h=>⟨a,f,(hs.others k (λe=>hnc a t f (e▸h))).trans h,rfl⟩,λ_ _ h=> .inl h,λ_ h=> .inl h,Nat.le_of_eq hs.size.symm⟩
theorem Rel.set_obj (h:Rel G w0 C H w) (hl:Aq H r=some x) (hp:C.π r=some (some (b,o))) (hs:SameObj w w' b o') (hnc:∀arr T fz,w.heap[b]?≠some (.cells arr T fz))
 (hy:Ext (λ_=>False) C w C w'→QA C w' r y):Rel G w0 C (upd H r y) w'∧Ext O C w C w':=by
 have hown:=h.own r x b o hl hp
 have e:Ext O C w C w':=hs.ext hnc hown.2.1 hown.2.2
 have key:∀s z,Aq (upd H r y) s=some z→(s=r∧z=y)∨(s≠r∧Aq H s=some z):= λs z hz=>by
  by_cases hsr:s=r
  ·subst hsr
   rw[Ed hl] at hz
   exact .inl ⟨rfl,(Xi hz).1.symm⟩
  ·rw[Ap hsr] at hz;exact .inr ⟨hsr,hz⟩
 have old:∀s z,Aq (upd H r y) s=some z→∃z',Aq H s=some z':= λs z hz=>by
  rcases key s z hz with⟨rfl,_⟩|⟨_,h⟩
  ·exact⟨x,hl⟩
  ·exact⟨z,h⟩
 refine⟨⟨h.glob.mono e,h.below.same_obj hs hown.1,?_,?_,?_,?_,λk i hF=>hs.size▸h.fin k i hF,λk hB=>hs.size▸h.finB k hB,λk hk=>h.nx k (by rw[BY] at hk;exact hk)⟩,e⟩
 ·intro s z hz
  obtain⟨z',hz'⟩:=old s z hz
  exact h.lt s z' hz'
 ·intro s z hz
  rcases key s z hz with⟨rfl,rfl⟩|⟨hne,hz⟩
  ·exact hy (hs.ext hnc hown.2.1 hown.2.2)
  ·refine(h.rows s z hz).mono e (λk base hk=>hs.others k (λek=> ?_))
   subst ek
   exact hne (h.sep s r z x _ _ _ hz hl hk hp)
 ·intro s z k o1 hz hk
  obtain⟨z',hz'⟩:=old s z hz
  exact h.own s z' k o1 hz' hk
 ·intro s s' z z' k o1 o2 hz hz' hk hk'
  obtain⟨u,hu⟩:=old s z hz
  obtain⟨u',hu'⟩:=old s' z' hz'
  exact h.sep s s' u u' k o1 o2 hu hu' hk hk'
theorem SameObj.putObj {l:Nat} (hl:l<w.heap.size) (ob:Obj):SameObj w (w.putObj l ob) l ob:=
 ⟨rfl,rfl,rfl,by simp,World.putObj_heap_same hl,λk hk=>World.putObj_heap_other (λe=>hk e)⟩
end
def A3u:Tm→List Tmp→List AV→Tm
 |t,p::ps,a::aZ=>A3u ((p,a)::t) ps aZ
 |t,_,_=>t
theorem B14 {C:Ctx} {w:World}:∀(ps:List Tmp) (aZ:List AV) (ys:List Value) (t:Tm) (tmps:Array Value),(∀p∈ps,p<tmps.size)→Cj C w aZ ys→Tx C w t tmps→
 Tx C w (A3u t ps aZ) ((ps.zip ys).foldl (λt (p:Tmp×Value)=>t.setIfInBounds p.1 p.2) tmps)∧((ps.zip ys).foldl (λt (p:Tmp×Value)=>t.setIfInBounds p.1 p.2) tmps).size=tmps.size:=by
 intro ps
 induction ps with
 |nil=>intro aZ ys t tmps _ _ ht;exact⟨ht,rfl⟩
 |cons p ps ih=>
  intro aZ ys t tmps hp hl ht
  cases aZ with
  |nil=>rw[hl.nil_inv];exact⟨ht,rfl⟩
  |cons a aZ=>
   obtain⟨y,ys',rfl,hv,hl'⟩:=hl.cons_inv
   simp only[List.zip_cons_cons,List.foldl_cons,A3u]
   obtain⟨h1,h2⟩:=ih aZ ys' ((p,a)::t) (tmps.setIfInBounds p y) (λq hq=>by simpa using hp q (by simp[hq])) hl' (λi=>by
    simp only[Gn]
    by_cases hi:i=p
    ·subst hi
     have hlt:i<tmps.size:=hp i (by simp)
     rw[if_pos rfl]
     simp[Zk,hlt]
     exact hv
    ·rw[if_neg hi]
     have:=ht i
     simp only[Zk] at this⊢
     rw[Array.getElem?_setIfInBounds_ne (by omega)]
     exact this)
   exact⟨h1,by rw[h2];simp⟩
section
variable {P:Program} {G:Gl} {ro:Option Nat} {N:Nat} {t:Tm} {H:Hp}
theorem Rel.set_loop {w0:Base} {C:Ctx} {w:World} {r b:Nat} {N':Nat} {t':Tm} {ps:Array Tmp} {aZ bd:Code} {pend pend':Option (Option Code)} {O:Nat→Prop} (h:Rel G w0 C H w) (hl:Aq H r=some (.loop N' t' ps aZ bd pend)) (hp:C.π r=some (some (b,0))):
 ∃l:Loop,w.heap[b]?=some (.loop l)∧l.state=B6P pend∧l.pending=pend.join∧l.tmps.size=N'∧l.params=ps∧l.assign=aZ∧l.body=bd∧Tx C w t' l.tmps∧
  ∀l':Loop,l'.state=B6P pend'→l'.pending=pend'.join→l'.tmps=l.tmps→l'.params=l.params→l'.assign=l.assign→l'.body=l.body→
   Rel G w0 C (upd H r (.loop N' t' ps aZ bd pend')) (w.putObj b (.loop l'))∧Ext O C w C (w.putObj b (.loop l')):=by
 obtain⟨b',l,h1,h2,h3,h4,h5,h6,h7,h8,h9⟩:=h.rows r _ hl
 have e:=h1.symm.trans hp
 injection e with e;injection e with e;injection e with e1 e2;subst e1
 refine⟨l,h2,h3,h4,h5,h6,h7,h8,h9,λl' k1 k2 k3 k4 k5 k6=> ?_⟩
 have hlt:=(l1q.1 h2).1
 exact h.set_obj hl hp (SameObj.putObj hlt _) (λarr T fz hc=>by rw[h2] at hc;cases hc) (λe=>⟨b',l',hp,World.putObj_heap_same hlt,k1,k2,by rw[k3];exact h5,k4.trans h6,k5.trans h7,k6.trans h8,by rw[k3];exact h9.mono e⟩)
def Ctx.addB (C:Ctx) (b:Nat):Ctx:={C with B:= λk=>C.B k∨k=b}
theorem Rel.addB {w0:Base} {C:Ctx} {w:World} {b:Nat} (h:Rel G w0 C H w) (hlt:b<w.heap.size) (ho:w0.own b) (hn:∀r x o,Aq H r=some x→C.π r≠some (some (b,o))):Rel G w0 (C.addB b) H w∧Ext w0.own C w (C.addB b) w:=by
 have e:Ext w0.own C w (C.addB b) w:=⟨λ_ _=>rfl,λ_ _ h=>h,λ_ _ _=>rfl,λ_ h=> .inl h,λ_ _=>rfl,λ_ a _ f h=>⟨a,f,h,rfl⟩,λ_ _ h=> .inl h,λk h=>by rcases h with h|h;exact .inl h;exact .inr (h▸ho),OV _⟩
 refine⟨⟨h.glob,h.below,h.lt,λr x hx=>(h.rows r x hx).mono e (λ_ _ _=>rfl),λr x k o hx hp=>⟨(h.own r x k o hx hp).1,(h.own r x k o hx hp).2.1,λhB=> ?_⟩,h.sep,h.fin,λk hB=> ?_,h.nx⟩,e⟩
 ·rcases hB with hB|hB
  ·exact(h.own r x k o hx hp).2.2 hB
  ·subst hB;exact hn r x o hx hp
 ·rcases hB with hB|hB
  ·exact h.finB k hB
  ·subst hB;exact hlt
def C1M (Q:Exit→Tm→Hp→Prop) (t:Tm) (H:Hp):Option Code→Prop
 |none=>Q .normal t H
 |some .ret=>Q .ret t H
 |some (.exit id)=>Q (.exit id) t H
 |some (.goto l)=>Q (.goto l) t H
 |_=>False
theorem LD (w:World) (ob:Obj):Below w.heap.size w (w.alloc ob):=(Below.refl _ w).alloc (OV _) _
end
def XJ (ops:List Oper) (i j:Nat):Bool:=
 match ops[i]? with
 |some o=>o.after.toList.any λe=>Region.binds .any e&&Nat.beq e.on j
 |none=>false
def M0 (ops:List Oper) (o:Oper):List Tmp:=
 (o.op.operands.toList.filterMap λ| .tmp t=>some t|_=>none)++
 (match o.guard with
  |some (g,_)=>((ops[g]?).bind (·.dst)).toList
  |none=>[])
def A17 (ops:List Oper) (x y:Oper):Bool:=
 (match x.dst with|some d=>(M0 ops y).elem d||y.dst==some d|none=>false)||(match y.dst with|some d=>(M0 ops x).elem d|none=>false)
inductive Rch (ops:List Oper):Nat→Nat→Prop
 |one {i j:Nat} (h:XJ ops i j=true):Rch ops i j
 |more {i k j:Nat} (h:XJ ops i k=true) (h':Rch ops k j):Rch ops i j
theorem XI {ops:List Oper} {i j:Nat}:XJ ops i j=true↔∃o,ops[i]?=some o∧∃e∈o.after.toList,Region.binds .any e=true∧e.on=j:=by
 unfold XJ
 cases ops[i]? with
 |none=>simp
 |some o=>simp only[List.any_eq_true,Jm,l13,l0y,exists_eq_left']
theorem Rch.mem {ops:List Oper} {L:Nat→Bool} (hcl:∀i j,L i=true→XJ ops i j=true→L j=true) {i j:Nat} (h:Rch ops i j):L i=true→L j=true:=by
 induction h with
 |one h=>intro hi;exact hcl _ _ hi h
 |more h _ ih=>intro hi;exact ih (hcl _ _ hi h)
theorem Rch.mem' {ops:List Oper} {L:Nat→Bool} (hcl:∀i j,L i=true→XJ ops i j=true→L j=true) {i:Nat} (hr:∀j,XJ ops i j=true→L j=true) {j:Nat} (h:Rch ops i j):L j=true:=by
 cases h with
 |one h=>exact hr _ h
 |more h h'=>exact h'.mem hcl (hr _ h)
def C4Z (acc:List Nat) (es:List Edge):Nat:=es.foldl (λm e=>if Region.binds .any e then Nat.lor m (Nat.lor (Nat.pow 2 e.on) (acc.getD e.on 0)) else m) 0
def Y8:List Nat→List Oper→List Nat
 |acc,[]=>acc
 |acc,o::l=>Y8 (acc++[C4Z acc o.after.toList]) l
def QM (ops:List Oper):List Nat:=Y8 [] ops
theorem A8N {acc:List Nat} {ops:List Oper} {i:Nat} {o:Oper} (ho:ops[i]?=some o) (hacc:∀k j,(acc.getD k 0).testBit j=true→Rch ops k j):
 ∀(es:List Edge),(∀e∈es,e∈o.after.toList)→∀m:Nat,(∀j,m.testBit j=true→Rch ops i j)→∀j,(es.foldl (λm e=>if Region.binds .any e then Nat.lor m (Nat.lor (Nat.pow 2 e.on) (acc.getD e.on 0)) else m) m).testBit j=true→Rch ops i j:=by
 intro es
 induction es with
 |nil=>intro _ m hm j hj;exact hm j hj
 |cons e es ih=>
  intro hes m hm
  refine ih (λe' he'=>hes e' (by simp[he'])) _ ?_
  intro j hj
  simp only at hj
  split at hj
  ·rename_i hb
   have ha:XJ ops i e.on=true:=XI.2 ⟨o,ho,e,hes e (by simp),hb,rfl⟩
   have e1:∀a b:Nat,Nat.lor a b=a|||b:= λ_ _=>rfl
   have e2:∀a b:Nat,Nat.pow a b=a^b:= λ_ _=>rfl
   rw[e1,e1,e2,Nat.testBit_or,Nat.testBit_or,Nat.testBit_two_pow] at hj
   simp only[l1d,decide_eq_true_eq] at hj
   rcases hj with hj|hj|hj
   ·exact hm j hj
   ·subst hj;exact .one ha
   ·exact .more ha (hacc _ _ hj)
  ·exact hm j hj
theorem A1M {ops:List Oper}:∀(l:List Oper) (acc:List Nat),ops.drop acc.length=l→acc.length≤ops.length→(∀k j,(acc.getD k 0).testBit j=true→Rch ops k j)→∀k j,((Y8 acc l).getD k 0).testBit j=true→Rch ops k j:=by
 intro l
 induction l with
 |nil=>intro acc _ _ h;exact h
 |cons o l ih=>
  intro acc hd hle hacc
  have ho:ops[acc.length]?=some o:=by
   have:=congrArg (λl=>l[0]?) hd
   simpa using this
  have hlt:acc.length<ops.length:=(l0j.1 ho).1
  refine ih _ ?_ (by simp;omega) ?_
  ·rw[Fl,List.length_singleton]
   have:=congrArg (List.drop 1) hd
   simpa [Nat.add_comm] using this
  ·intro k j hj
   rcases Nat.lt_trichotomy k acc.length with hk|hk|hk
   ·rw[TW,l0l hk,←TW] at hj
    exact hacc k j hj
   ·subst hk
    rw[TW,l0n (OV _)] at hj
    simp at hj
    exact A8N ho hacc _ (λ_ h=>h) 0 (by simp) j hj
   ·rw[TW,l0n (by omega),l1e (by simp;omega)] at hj
    simp at hj
theorem Nv {ops:List Oper} {k j:Nat} (h:((QM ops).getD k 0).testBit j=true):Rch ops k j:=
 A1M ops [] rfl (l1c _) (λk j h=>by simp at h) k j h
def tb (m j:Nat):Bool:=Nat.beq (Nat.land (Nat.shiftRight m j) 1) 1
theorem A3x (m j:Nat):tb m j=m.testBit j:=by
 unfold tb Nat.testBit
 have e:Nat.land (Nat.shiftRight m j) 1=(m>>>j)&&&1:=rfl
 rw[e,Nat.and_comm,Nat.one_and_eq_mod_two]
 rcases Nat.mod_two_eq_zero_or_one (m>>>j) with h|h<;>rw[h]<;>rfl
def YV (ms:List Nat):List Nat→Bool
 |[]=>true
 |[_]=>true
 |a::b::l=>Nat.blt a b&&tb (ms.getD b 0) a&&YV ms (b::l)
def B0B:Nat→List Oper→Bool
 |_,[]=>true
 |i,o::l=>o.after.toList.all (λe=> !Region.binds .any e||Nat.blt e.on i)&&B0B (i+1) l
def A0i (ops:List Oper) (m:Nat) (o:Oper):Nat→List Oper→Bool
 |_,[]=>true
 |j,p::l=>(!A17 ops p o||tb m j)&&A0i ops m o (j+1) l
def B7D (ops:List Oper) (ms:List Nat):Nat→List Oper→Bool
 |_,[]=>true
 |i,o::l=>A0i ops (ms.getD i 0) o 0 (ops.take i)&&B7D ops ms (i+1) l
def A3C (ops:List Oper) (efs:List Nat):Bool:=
 B0B 0 ops&&B7D ops (QM ops) 0 ops&&YV (QM ops) efs&&efs.all λe=>Nat.blt e ops.length
structure RegOk (ops:List Oper) (efs:List Nat):Prop where
 back:∀(i j:Nat),XJ ops i j=true→j<i
 ord:∀(i j:Nat) (o p:Oper),j<i→ops[i]?=some o→ops[j]?=some p→(∃d,p.dst=some d∧(d∈M0 ops o∨o.dst=some d))∨(∃d,o.dst=some d∧d∈M0 ops p)→Rch ops i j
 chain:∀(a e e':Nat),efs[a]?=some e→efs[a+1]?=some e'→Rch ops e' e
 inj:∀(a a' e:Nat),efs[a]?=some e→efs[a']?=some e→a=a'
 lt:∀(a e:Nat),efs[a]?=some e→e<ops.length
theorem A47 {ms:List Nat}:∀{l:List Nat},YV ms l=true→∀(a a' e e':Nat),a<a'→l[a]?=some e→l[a']?=some e'→e<e':=by
 intro l
 induction l with
 |nil=>intro _ a a' e e' _ h;simp at h
 |cons x l ih=>
  intro h a a' e e' hlt h1 h2
  cases l with
  |nil=>
   cases a' with
   |zero=>omega
   |succ a'=>simp at h2
  |cons y l=>
   simp only[YV,Jm,UK] at h
   cases a' with
   |zero=>omega
   |succ a'=>
    cases a with
    |zero=>
     simp at h1
     subst h1
     cases a' with
     |zero=>simp at h2;subst h2;exact h.1.1
     |succ a'=>exact Nat.lt_trans h.1.1 (ih h.2 0 (a'+1) y e' (by omega) (by simp) (by simpa using h2))
    |succ a=>exact ih h.2 a a' e e' (by omega) (by simpa using h1) (by simpa using h2)
theorem A9l {ops:List Oper}:∀{l:List Nat},YV (QM ops) l=true→∀(a e e':Nat),l[a]?=some e→l[a+1]?=some e'→Rch ops e' e:=by
 intro l
 induction l with
 |nil=>intro _ a e e' h;simp at h
 |cons x l ih=>
  intro h a e e' h1 h2
  cases l with
  |nil=>simp at h2
  |cons y l=>
   simp only[YV,Jm,A3x] at h
   cases a with
   |zero=>simp at h1 h2;subst h1 h2;exact Nv h.1.2
   |succ a=>exact ih h.2 a e e' (by simpa using h1) (by simpa using h2)
theorem A9r:∀(l:List Oper) (i:Nat),B0B i l=true→∀(k:Nat) (o:Oper),l[k]?=some o→∀e∈o.after.toList,Region.binds .any e=true→e.on<i+k:=by
 intro l
 induction l with
 |nil=>intro i _ k o h;simp at h
 |cons p l ih=>
  intro i h k o ho e he hb
  simp only[B0B,Jm,HB] at h
  cases k with
  |zero=>
   simp at ho;subst ho
   have:=h.1 e he
   simpa [hb,UK] using this
  |succ k=>
   have:=ih (i+1) h.2 k o (by simpa using ho) e he hb
   omega
theorem A4w {ops:List Oper} {m:Nat} {o:Oper}:∀(l:List Oper) (j:Nat),A0i ops m o j l=true→∀(k:Nat) (p:Oper),l[k]?=some p→A17 ops p o=true→m.testBit (j+k)=true:=by
 intro l
 induction l with
 |nil=>intro j _ k p h;simp at h
 |cons q l ih=>
  intro j h k p hp hs
  simp only[A0i,Jm,l1d,l14,A3x] at h
  cases k with
  |zero=>
   simp at hp;subst hp
   rcases h.1 with h1|h1
   ·rw[hs] at h1;cases h1
   ·exact h1
  |succ k=>
   have:=ih (j+1) h.2 k p (by simpa using hp) hs
   rw[show j+(k+1)=j+1+k from by omega];exact this
theorem B1p {ops:List Oper}:∀(l:List Oper) (i:Nat),B7D ops (QM ops) i l=true→∀(k:Nat) (o:Oper),l[k]?=some o→∀(j:Nat) (p:Oper),j<i+k→ops[j]?=some p→A17 ops p o=true→Rch ops (i+k) j:=by
 intro l
 induction l with
 |nil=>intro i _ k o h;simp at h
 |cons q l ih=>
  intro i h k o ho j p hj hp hs
  simp only[B7D,Jm] at h
  cases k with
  |zero=>
   simp at ho;subst ho
   have:=A4w _ 0 h.1 j p (by rw[l0m,if_pos (by simpa using hj)];exact hp) hs
   rw[KF] at this
   exact Nv this
  |succ k=>
   have:=ih (i+1) h.2 k o (by simpa using ho) j p (by omega) hp hs
   rw[show i+(k+1)=i+1+k from by omega];exact this
theorem A1b {ops:List Oper} {efs:List Nat} (h:A3C ops efs=true):RegOk ops efs:=by
 simp only[A3C,Jm,HB] at h
 obtain⟨⟨⟨h0,h1⟩,h2⟩,h3⟩:=h
 refine⟨λi j ha=> ?_,λi j o p hji ho hp hs=> ?_,A9l h2,λa a' e ha ha'=> ?_,λa e ha=> ?_⟩
 ·obtain⟨o,ho,e,he,hb,rfl⟩:=XI.1 ha
  have:=A9r ops 0 h0 i o ho e he hb
  omega
 ·have hsh:A17 ops p o=true:=by
   unfold A17
   rcases hs with⟨d,hd,hl⟩|⟨d,hd,hl⟩
   ·rw[hd]
    rcases hl with hl|hl
    ·simp[hl]
    ·simp[hl]
   ·rw[hd]
    simp[hl]
  have:=B1p ops 0 h1 i o ho j p (by omega) hp hsh
  rwa[KF] at this
 ·rcases Nat.lt_trichotomy a a' with hlt|hlt|hlt
  ·exact absurd (A47 h2 a a' e e hlt ha ha') (l1g _)
  ·exact hlt
  ·exact absurd (A47 h2 a' a e e hlt ha' ha) (l1g _)
 ·have:=h3 e (l1h ha)
  simpa [UK] using this
def GN (ops:List Oper) (val:Nat→AV) (t:Tm) (L:Nat→Bool):Nat→Tm
 |0=>t
 |j+1=>match L j,ops[j]? with
  |true,some o=>PG (GN ops val t L j) o.dst (val j)
  |_,_=>GN ops val t L j
theorem RK {t:Tm} {d:Option Tmp} {v:AV} {u:Nat}:Gn (PG t d v) u=if d=some u then v else Gn t u:=by
 cases d with
 |none=>simp[PG]
 |some d=>
  simp only[PG,Gn]
  by_cases h:u=d
  ·simp[h]
  ·rw[if_neg h,if_neg (λe=>h (by injection e with e;exact e.symm))]
section
variable {ops:List Oper} {efs:List Nat} {val:Nat→AV} {t:Tm} {L:Nat→Bool}
theorem A8g (hk:RegOk ops efs) (hcl:∀i j,L i=true→XJ ops i j=true→L j=true) {i:Nat} {o:Oper} (ho:ops[i]?=some o) (hr:∀j,XJ ops i j=true→L j=true) (hi:L i=false) {u:Nat} (hu:u∈M0 ops o) (n:Nat) (hn:i≤n):
 Gn (GN ops val t L n) u=Gn (GN ops val t (λ_=>true) i) u:=by
 have h1:∀j,j≤i→Gn (GN ops val t L j) u=Gn (GN ops val t (λ_=>true) j) u:=by
  intro j
  induction j with
  |zero=>intro _;rfl
  |succ j ih=>
   intro hj
   have:=ih (by omega)
   simp only[GN]
   cases hp:ops[j]? with
   |none=>cases L j<;>simpa [hp] using this
   |some p=>
    by_cases hd:p.dst=some u
    ·have ha:=hk.ord i j o p (by omega) ho hp (.inl ⟨u,hd,.inl hu⟩)
     rw[ha.mem' hcl hr]
     simp only[RK,if_pos hd]
    ·cases hL:L j
     ·simp only[RK,if_neg hd];exact this
     ·simp only[RK,if_neg hd];exact this
 have h2:∀j,i≤j→Gn (GN ops val t L j) u=Gn (GN ops val t L i) u:=by
  intro j
  induction j with
  |zero=>
   intro h
   have:i=0:=by omega
   subst this;rfl
  |succ j ih=>
   intro hj
   by_cases hji:i=j+1
   ·subst hji;rfl
   ·have:=ih (by omega)
    simp only[GN]
    cases hp:ops[j]? with
    |none=>cases L j<;>simpa [hp] using this
    |some p=>
     cases hL:L j
     ·simpa using this
     ·simp only[RK]
      by_cases hd:p.dst=some u
      ·exfalso
       by_cases hij:i=j
       ·subst hij;rw[hL] at hi;cases hi
       ·have ha:=hk.ord j i p o (by omega) hp ho (.inr ⟨u,hd,hu⟩)
        rw[ha.mem hcl hL] at hi;cases hi
      ·rw[if_neg hd];exact this
 rw[h2 n hn,h1 i (OV _)]
theorem B30 (hk:RegOk ops efs) (hcl:∀i j,L i=true→XJ ops i j=true→L j=true) {i:Nat} {o:Oper} (ho:ops[i]?=some o) (hi:L i=false) (u:Nat) (n:Nat) (hn:i<n):
 Gn (PG (GN ops val t L n) o.dst (val i)) u=Gn (GN ops val t (λk=>if k=i then true else L k) n) u:=by
 have h1:∀j,j≤i→GN ops val t (λk=>if k=i then true else L k) j=GN ops val t L j:=by
  intro j
  induction j with
  |zero=>intro _;rfl
  |succ j ih=>
   intro hj
   have hne:j≠i:=by omega
   simp only[GN,if_neg hne,ih (by omega)]
 have h2:∀j,i<j→Gn (PG (GN ops val t L j) o.dst (val i)) u=Gn (GN ops val t (λk=>if k=i then true else L k) j) u:=by
  intro j
  induction j with
  |zero=>intro h;omega
  |succ j ih=>
   intro hj
   by_cases hij:i=j
   ·subst hij
    simp only[GN,hi,if_true,ho,h1 i (OV _)]
   ·have:=ih (by omega)
    have hne:j≠i:= λe=>hij e.symm
    simp only[GN,if_neg hne]
    cases hp:ops[j]? with
    |none=>cases L j<;>simpa [hp] using this
    |some p=>
     cases hL:L j
     ·simpa using this
     ·simp only[RK] at this⊢
      by_cases hd:p.dst=some u
      ·have hod:o.dst≠some u:= λh=>by
        have ha:=hk.ord j i p o (by omega) hp ho (.inl ⟨u,h,.inr hd⟩)
        rw[ha.mem hcl hL] at hi;cases hi
       rw[if_neg hod,if_pos hd,if_pos hd]
      ·rw[if_neg hd,if_neg hd];exact this
 exact h2 n hn
end
def GU (ops:List Oper) (o:Oper) (t:Tm):Tm:=(M0 ops o).map λu=>(u,Gn t u)
theorem A8d {ops:List Oper} {o:Oper} {t:Tm} (u:Nat):Gn (GU ops o t) u= .dk∨(u∈M0 ops o∧Gn (GU ops o t) u=Gn t u):=by
 unfold GU
 induction M0 ops o with
 |nil=>exact .inl rfl
 |cons x l ih=>
  simp only[XS,Gn]
  by_cases h:u=x
  ·subst h;rw[if_pos rfl];exact .inr ⟨by simp,rfl⟩
  ·rw[if_neg h]
   rcases ih with ih|⟨h1,h2⟩
   ·exact .inl ih
   ·exact .inr ⟨List.mem_cons_of_mem _ h1,h2⟩
def C4J (ops:List Oper) (efs:List Nat) (i m:Nat):Prop:=(∀(a e:Nat),efs[a]?=some e→Rch ops i e→a<m)∧(∀(a e:Nat),efs[a]?=some e→Rch ops e i→m≤a)
def B8O (P:Program) (G:Gl) (ro:Option Nat) (N:Nat) (ops:List Oper) (o:Oper) (t:Tm) (H:Hp) (v:AV) (H':Hp):Prop:=
 ((FA ops t o= .run∨FA ops t o= .dep true)∧Ss P G ro N o t H (λv' H''=>v'=v∧H''=H'))∨((FA ops t o= .skip∨FA ops t o= .dep false)∧v= .v undef∧H'=H)
section
variable {P:Program} {G:Gl} {ro:Option Nat} {m N:Nat} {Q:Exit→Tm→Hp→Prop} {t:Tm}
theorem St.congr {w0:Base} {s0:Nat} {C:Ctx} {t':Tm} {H:Hp} {a:Act} {w:World} (s:St G w0 s0 C N t H a w) (h:∀u,Gn t' u=Gn t u∨Gn t' u= .dk):St G w0 s0 C N t' H a w:=
 ⟨s.rel,s.size,λu=>by
  rcases h u with e|e
  ·rw[e];exact s.tmps u
  ·rw[e];exact .dk _,s.defers,s.le⟩
def Sp (L:Nat→Bool):Nat→Nat
 |0=>0
 |j+1=>Sp L j+(if L j then 0 else 1)
theorem B5j {L:Nat→Bool} {i:Nat} (hi:L i=false):∀n,Sp (λk=>if k=i then true else L k) n+(if i<n then 1 else 0)=Sp L n:=by
 intro n
 induction n with
 |zero=>simp[Sp]
 |succ n ih=>
  have e1:Sp (λk=>if k=i then true else L k) (n+1)=Sp (λk=>if k=i then true else L k) n+(if(if n=i then true else L n)=true then 0 else 1):=rfl
  have e2:Sp L (n+1)=Sp L n+(if L n=true then 0 else 1):=rfl
  rw[e1,e2]
  generalize Sp (λk=>if k=i then true else L k) n=x at*
  generalize Sp L n=y at*
  by_cases h:n=i
  ·subst h
   rw[if_neg (l1g _)] at ih
   rw[if_pos rfl,if_pos rfl,if_pos (Nat.lt_succ_self _),hi,if_neg (by simp)]
   omega
  ·rw[if_neg h]
   by_cases hlt:i<n
   ·rw[if_pos hlt] at ih
    rw[if_pos (by omega:i<n+1)];omega
   ·rw[if_neg hlt] at ih
    rw[if_neg (by omega:¬i<n+1)];omega
theorem A46 {L:Nat→Bool}:∀{n:Nat},Sp L n=0→∀i,i<n→L i=true:=by
 intro n
 induction n with
 |zero=>intro _ i h;omega
 |succ n ih=>
  intro h i hi
  simp only[Sp] at h
  by_cases e:i=n
  ·subst e
   by_cases hl:L i=true
   ·exact hl
   ·simp[hl] at h
  ·exact ih (by omega) i (by omega)
theorem B5k {L:Nat→Bool}:∀{n:Nat},0<Sp L n→∃i,i<n∧L i=false∧∀j,j<i→L j=true:=by
 intro n
 induction n with
 |zero=>intro h;simp[Sp] at h
 |succ n ih=>
  intro h
  by_cases hp:0<Sp L n
  ·obtain⟨i,h1,h2,h3⟩:=ih hp
   exact⟨i,by omega,h2,h3⟩
  ·have h0:Sp L n=0:=by omega
   simp only[Sp,h0] at h
   refine⟨n,by omega,?_,λj hj=>A46 h0 j hj⟩
   cases hl:L n
   ·rfl
   ·simp[hl] at h
theorem B31 {ops:List Oper} {val:Nat→AV} {L:Nat→Bool}:∀{n:Nat},(∀i,i<n→L i=true)→GN ops val t L n=GN ops val t (λ_=>true) n:=by
 intro n
 induction n with
 |zero=>intro _;rfl
 |succ n ih=>
  intro h
  simp only[GN,h n (by omega),ih (λi hi=>h i (by omega))]
theorem A7u {id:Nat} {ops:List Oper} {efs:List Nat} {val:Nat→AV} {Hs:Nat→Hp} (hm:P.follows .mixedOrders=true) (hk:RegOk ops efs) (hd:∀o∈ops,dok N o.dst)
 (hop:∀(i:Nat) (o:Oper),ops[i]?=some o→(∀a:Nat,efs[a]?≠some i)→∀k,k≤efs.length→C4J ops efs i k→B8O P G ro N ops o (GU ops o (GN ops val t (λ_=>true) i)) (Hs k) (val i) (Hs k))
 (hef:∀(a i:Nat) (o:Oper),ops[i]?=some o→efs[a]?=some i→B8O P G ro N ops o (GU ops o (GN ops val t (λ_=>true) i)) (Hs a) (val i) (Hs (a+1)))
 (hq:Q .normal (GN ops val t (λ_=>true) ops.length) (Hs efs.length)):QI P G ro m N (.region id ops.toArray true) Q t (Hs 0):=by
 intro w0 s0 C0 a w s
 refine wpIn_region_any hm ?_
 have key:∀(f:Nat) (Ls:Array Bool) (C:Ctx) (a:Act) (w1:World) (k:Nat),Ls.size=ops.length→Sp (λi=>Ls.getD i false) ops.length=f→(∀i j,Ls.getD i false=true→XJ ops i j=true→Ls.getD j false=true)→
  k≤efs.length→(∀(b e:Nat),efs[b]?=some e→(Ls.getD e false=true↔b<k))→St G w0 s0 C N (GN ops val t (λi=>Ls.getD i false) ops.length) (Hs k) a w1→Frm m w0.own C0 w C w1→
  wpAnyIn (Fe ro) 0 P .any ops.toArray (KW G w0 s0 m C0 N w Q) f Ls a w1:=by
  intro f
  induction f with
  |zero=>
   intro Ls C a w1 k hsz hc hcl hkl hpp hst hfr
   have hall:=A46 hc
   have hke:k=efs.length:=by
    rcases Nat.lt_or_ge k efs.length with h|h
    ·exfalso
     have:=(hpp k _ (Kq h)).1 (hall _ (hk.lt k _ (Kq h)))
     omega
    ·omega
   refine⟨?_,⟨C,_,_,hst,hfr,?_⟩⟩
   ·unfold Region.ready
    rw[List.filter_eq_nil_iff]
    intro i hi
    simp only[List.size_toArray,Ju] at hi
    have h1:=hall i hi
    have:Ls.getD i true=true:=by
     simp only[Zk] at h1⊢
     rw[l1k (by omega)] at h1⊢
     exact h1
    simp[this]
   ·rw[hke,B31 hall];exact hq
  |succ f ih=>
   intro Ls C a w1 k hsz hc hcl hkl hpp hst hfr
   have getT:∀i,i<ops.length→Ls.getD i true=Ls.getD i false:= λi hi=>by
    simp only[Zk]
    rw[l1k (by omega)];rfl
   refine⟨λhnil=> ?_,λi hi=> ?_⟩
   ·exfalso
    obtain⟨i,h1,h2,h3⟩:=B5k (L:= λi=>Ls.getD i false) (n:=ops.length) (by omega)
    have:i∈Region.ready .any ops.toArray Ls:=by
     unfold Region.ready
     rw[List.mem_filter]
     refine⟨by simpa using h1,?_⟩
     simp only[getT i h1,h2,Bool.not_false,l16,l10,Kq h1,l0x,l1l]
     rw[Array.all_eq_true_iff_forall_mem]
     intro e he
     cases hb:Region.binds .any e
     ·rfl
     ·simp only[Bool.not_true,Bool.false_or]
      exact h3 e.on (hk.back i e.on (XI.2 ⟨_,Kq h1,e,by simpa using he,hb,rfl⟩))
    rw[hnil] at this
    simp at this
   ·unfold Region.ready at hi
    rw[List.mem_filter] at hi
    obtain⟨hin,hrd⟩:=hi
    simp only[List.size_toArray,Ju] at hin
    have ho:ops[i]?=some ops[i]:=Kq hin
    generalize ops[i]=o at ho
    simp only[getT i hin,l10,ho,l0x,l1l,Jm,l14] at hrd
    obtain⟨hLi,hed⟩:=hrd
    rw[Array.all_eq_true_iff_forall_mem] at hed
    have hr:∀j,XJ ops i j=true→Ls.getD j false=true:= λj hj=>by
     obtain⟨o',ho',e,he,hb,rfl⟩:=XI.1 hj
     rw[ho] at ho';injection ho' with ho';subst ho'
     have:=hed e (by simpa using he)
     simpa [hb] using this
    have hset':∀k,(Ls.setIfInBounds i true).getD k false=if k=i then true else Ls.getD k false:=by
     intro k
     simp only[Zk,Array.getElem?_setIfInBounds]
     by_cases h:i=k
     ·subst h;simp[hsz,hin]
     ·rw[if_neg h,if_neg (λe=>h e.symm)]
    have hset:(λk=>(Ls.setIfInBounds i true).getD k false)= λk=>if k=i then true else Ls.getD k false:=funext hset'
    have hstr:St G w0 s0 C N (GU ops o (GN ops val t (λ_=>true) i)) (Hs k) a w1:=hst.congr λu=>by
     rcases A8d (ops:=ops) (o:=o) (t:=GN ops val t (λ_=>true) i) u with h|⟨h1,h2⟩
     ·exact .inr h
     ·exact .inl (by rw[h2];exact(A8g hk hcl ho hr hLi h1 ops.length (by omega)).symm)
    have hdo:=hd o (l1h ho)
    have next:∀(k':Nat) (C':Ctx) (y:Value) (w':World),(k'=k∧(∀b:Nat,efs[b]?≠some i)∨k'=k+1∧efs[k]?=some i)→VRel C' w' (val i) y→Rel G w0 C' (Hs k') w'→Ext w0.own C w1 C' w'→
     wpAnyIn (Fe ro) 0 P .any ops.toArray (KW G w0 s0 m C0 N w Q) f (Ls.setIfInBounds i true) (a.put o.dst y) w':=by
     intro k' C' y w' hk' hv hrel e
     refine ih (Ls.setIfInBounds i true) C' _ w' k' (by simpa using hsz) ?_ ?_ ?_ ?_ ?_ (hfr.trans e.frm)
     ·rw[hset]
      have:=B5j (L:= λk=>Ls.getD k false) hLi ops.length
      rw[if_pos hin] at this
      omega
     ·intro x y hx hxy
      rw[hset' x] at hx
      rw[hset' y]
      split
      ·rfl
      ·by_cases hxi:x=i
       ·subst hxi;exact hr y hxy
       ·rw[if_neg hxi] at hx;exact hcl x y hx hxy
     ·rcases hk' with⟨rfl,_⟩|⟨rfl,h⟩
      ·exact hkl
      ·exact(l0j.1 h).1
     ·intro b e' hb
      rw[hset' e']
      rcases hk' with⟨rfl,h⟩|⟨rfl,h⟩
      ·rw[if_neg (λe:e'=i=>h b (by rw[hb,e]))];exact hpp b e' hb
      ·by_cases hbi:e'=i
       ·subst hbi
        have:=hk.inj b k _ hb h
        simp[this]
       ·rw[if_neg hbi,hpp b e' hb]
        have:b≠k:= λe=>hbi (by rw[e,h] at hb;injection hb with hb;exact hb.symm)
        omega
     ·exact(A8i hst hrel e hv hdo).congr λu=> .inl (by rw[hset];exact(B30 hk hcl ho hLi u ops.length hin).symm)
    have fin:∀(k':Nat),(k'=k∧(∀b:Nat,efs[b]?≠some i)∨k'=k+1∧efs[k]?=some i)→B8O P G ro N ops o (GU ops o (GN ops val t (λ_=>true) i)) (Hs k) (val i) (Hs k')→
     wpOpIn (Fe ro) 0 P ops.toArray (KW G w0 s0 m C0 N w Q) i (wpAnyIn (Fe ro) 0 P .any ops.toArray (KW G w0 s0 m C0 N w Q) f (Ls.setIfInBounds i true)) a w1:=by
     intro k' hk' hG
     have hg:=A2t hstr.tmps ops o
     unfold wpOpIn
     simp only[l10,ho]
     rcases hG with⟨hgd,hA⟩|⟨hgd,hval,hH⟩
     ·have hw:Region.wanted o (yielded ops.toArray a.tmps)=true:=by
       rcases hgd with h|h
       ·exact hg.1 h
       ·exact hg.2.2 _ h
      rw[if_pos hw]
      refine PY ?_ (hA w0 s0 C a w1 _ hstr)
      rintro a' w' ⟨v,y,C',H',rfl,⟨rfl,rfl⟩,hv,hrel,e⟩
      exact next k' C' y w' hk' hv hrel e
     ·have hw:Region.wanted o (yielded ops.toArray a.tmps)=false:=by
       rcases hgd with h|h
       ·exact hg.2.1 h
       ·exact hg.2.2 _ h
      rw[if_neg (by rw[hw];simp)]
      exact⟨λ_ _=>trivial,next k' C undef w1 hk' (by rw[hval];exact .v _) (by rw[hH];exact hst.rel) (.refl _ _ _)⟩
    by_cases hi:∃b:Nat,efs[b]?=some i
    ·obtain⟨b,hb⟩:=hi
     have hbk:b=k:=by
      have h1:¬b<k:= λh=>by
       have:=(hpp b i hb).2 h
       rw[hLi] at this;cases this
      rcases Nat.eq_zero_or_pos b with h0|h0
      ·omega
      ·have hlt:b-1<efs.length:=by have:=(l0j.1 hb).1;omega
       have hc':=hk.chain (b-1) _ i (Kq hlt) (by rw[Nat.sub_add_cancel h0];exact hb)
       have:=(hpp (b-1) _ (Kq hlt)).1 (hc'.mem' (L:= λi=>Ls.getD i false) hcl hr)
       omega
     subst hbk
     exact fin (b+1) (.inr ⟨rfl,hb⟩) (hef b i o ho hb)
    ·have hne:∀b:Nat,efs[b]?≠some i:= λb hb=>hi ⟨b,hb⟩
     refine fin k (.inl ⟨rfl,hne⟩) (hop i o ho hne k hkl ⟨λb e hb ha=>(hpp b e hb).1 (ha.mem' (L:= λi=>Ls.getD i false) hcl hr),λb e hb ha=> ?_⟩)
     rcases Nat.lt_or_ge b k with h|h
     ·have:=ha.mem (L:= λi=>Ls.getD i false) hcl ((hpp b e hb).2 h)
      simp only[hLi] at this;cases this
     ·exact h
 have hrep:(λi=>(Array.replicate ops.length false).getD i false)= λ_=>false:=by
  funext i
  simp only[Zk,Array.getElem?_replicate]
  split<;>rfl
 have hno:∀n,GN ops val t (λ_=>false) n=t:=by
  intro n
  induction n with
  |zero=>rfl
  |succ n ih=>simp only[GN];exact ih
 have hcnt:∀n,Sp (λ_=>false) n=n:=by
  intro n
  induction n with
  |zero=>rfl
  |succ n ih=>simp[Sp,ih]
 have hb:Below w.heap.size w {w with drawn:=w.drawn+1}:=A7s w _
 have e0:Ext w0.own C0 w C0 {w with drawn:=w.drawn+1}:=s.rel.ext_below hb
 have hz:∀i,(Array.replicate ops.length false).getD i false=false:= λi=>congrFun hrep i
 have:=key ops.length (Array.replicate ops.length false) C0 a {w with drawn:=w.drawn+1} 0 (by simp) (by rw[hrep];exact hcnt _) (λi j h=>by rw[hz] at h;cases h) (l1c _) (λb e _=>by rw[hz];simp) (by rw[hrep,hno];exact⟨s.rel.of_below hb,s.size,s.tmps.mono e0,s.defers.mono e0.B e0.keepB,l1m s.le e0.grow⟩) e0.frm
 simpa using this
end
end Go.Abs
end
