import Derived.Test.YtlbhdmbfdcohhaaGreatDoorR01
set_option linter.all false
set_option maxHeartbeats 100000000
noncomputable section
namespace Go.Abs
open Go.RowKit
def xun (op:UnOp) (a:AV) (K:AV→Prop):Prop:=
 match op,a with
 | .neg,.v (.int k n)=>K (.v (.int k (k.wrap (0-n))))
 | .xor,.v (.int k n)=>K (.v (.int k (k.wrap ((BitVec.ofInt k.bits (if k.signed then-1 else k.max)^^^BitVec.ofInt k.bits n).toNat))))
 | .not,.v (.bool b)=>K (.v (.bool !b))
 |_,_=>False
theorem B0v {P:Program} {C:Ctx} {w:World} {op:UnOp} {a:AV} {y:Value} {K:AV→Prop} (ha:VRel C w a y) (h:xun op a K):∃v u,(Op.unary op y).run P w= .ok u w∧VRel C w v u∧K v:=by
 unfold xun at h
 split at h
 ·obtain rfl:=AL.1 ha;exact⟨_,_,rfl,.v _,h⟩
 ·obtain rfl:=AL.1 ha;exact⟨_,_,rfl,.v _,h⟩
 ·obtain rfl:=AL.1 ha;exact⟨_,_,rfl,.v _,h⟩
 ·exact h.elim
def B2h (a:AV) (K:AV→Prop):Prop:=
 match a with
 | .ptr .. =>K a
 | .iptr .. =>K a
 | .fn (.func _) _ _=>K a
 | .fn (.yield _) _ _=>K a
 |_=>False
def A38 (T:Ty) (src dst:TypeId) (a:AV) (K:AV→Prop):Prop:=
 match T src,T dst with
 |some i,some j=>match j.d,a with
  | .int k,.v (.int _ n)=>K (.v (.int k (k.wrap n)))
  | .string,.v (.string s)=>(match i.d with| .string=>True|_=>False)∧K (.v (.string s))
  |_,_=>False
 |_,_=>False
theorem A5w {P:Program} {T:Ty} (hT:Xv P T) {C:Ctx} {w:World} {src dst:TypeId} {a:AV} {y:Value} {K:AV→Prop} (ha:VRel C w a y) (h:A38 T src dst a K):∃v u,(convert src dst y).run P w= .ok u w∧VRel C w v u∧K v:=by
 unfold A38 at h
 split at h
 ·rename_i i j hi hj
  obtain⟨u1,hu1,e1⟩:=(hT src i hi).under
  obtain⟨u2,hu2,e2⟩:=(hT dst j hj).under
  split at h
  ·rename_i k _ n hd
   obtain rfl:=AL.1 ha
   rw[hd] at e2
   have hu2':u2= .int k:=by cases u2<;>simp[td] at e2;rw[e2]
   subst hu2'
   refine⟨_,_,?_,.v _,h⟩
   unfold convert
   rw[C4,run_underlying hu1 w]
   simp only[E3,C4,run_underlying hu2 w]
   rfl
  ·rename_i s hd
   obtain rfl:=AL.1 ha
   obtain⟨hi',h⟩:=h
   rw[hd] at e2
   have hu2':u2= .string:=by cases u2<;>simp[td] at e2;rfl
   subst hu2'
   refine⟨_,_,?_,.v _,h⟩
   unfold convert
   rw[C4,run_underlying hu1 w]
   simp only[E3,C4,run_underlying hu2 w]
   rfl
  ·exact h.elim
 ·exact h.elim
def X1 (T:Ty) (ty:TypeId) (a:AV) (f:Nat) (K:AV→Prop):Prop:=
 match T ty with
 |some i=>match i.d with
  | .struct fs=>match fs[f]? with
   |some (off,sz,_)=>sz≠0∧(match a with
    | .ptr r p k=>∃p' k',p'+k'=p+(k+off)∧K (.ptr r p' k')
    | .iptr cs=>K (.iptr (cs.drop off))
    |_=>False)
   |none=>False
  |_=>False
 |none=>False
theorem Yj {C:Ctx} {w:World} {cs:List AV} {b o:Nat} (h:VRel C w (.iptr cs) (.pointer (some ⟨b,o,none⟩))) (k:Nat):VRel C w (.iptr (cs.drop k)) (.pointer (some ⟨b,o+k,none⟩)):=by
 cases h with
 |iptr vs hF hc hv=>
  refine .iptr (λi=>vs (k+i)) (λi hi=> ?_) (λi hi=> ?_) (λi hi=> ?_)
  ·rw[Xt];exact hF _ (by simp at hi;omega)
  ·rw[Xt];exact hc _ (by simp at hi;omega)
  ·rw[List.getElem_drop];exact hv _ (by simp at hi;omega)
theorem A3v {C:Ctx} {w:World} {cs:List AV} {b o:Nat} (h:VRel C w (.iptr cs) (.pointer (some ⟨b,o,none⟩))) (k:Nat):VRel C w (.iptr (cs.take k)) (.pointer (some ⟨b,o,none⟩)):=by
 cases h with
 |iptr vs hF hc hv=>
  refine .iptr vs (λi hi=> ?_) (λi hi=> ?_) (λi hi=> ?_)
  ·exact hF _ (by simp at hi;omega)
  ·exact hc _ (by simp at hi;omega)
  ·rw[List.getElem_take];exact hv _ (by simp at hi;omega)
theorem A1v {C:Ctx} {w:World} {cs:List AV} {y:Value} (h:VRel C w (.iptr cs) y):∃b o,y= .pointer (some ⟨b,o,none⟩):=by
 cases h with
 |iptr vs hF hc hv=>exact⟨_,_,rfl⟩
theorem BA {P:Program} {t:TypeId} (w:World) (h:P.cellsOf t≠0):(sizeOf t).run P w= .ok (P.cellsOf t) w:=by
 unfold Program.cellsOf at h⊢
 cases hx:P.info? t with
 |none=>rw[hx] at h;simp at h
 |some x=>simp[sizeOf,typeInfo,hx]
theorem A45 {P:Program} {T:Ty} (hT:Xv P T) {C:Ctx} {w:World} {ty:TypeId} {f:Nat} {a:AV} {y:Value} {K:AV→Prop} (ha:VRel C w a y) (h:X1 T ty a f K):∃v u,(Instr.fieldAt ty y f).run P w= .ok u w∧VRel C w v u∧K v:=by
 unfold X1 at h
 split at h
 ·rename_i i hi
  obtain⟨u1,hu1,e1⟩:=(hT ty i hi).under
  split at h
  ·rename_i fs hd
   split at h
   ·rename_i off sz ft hf
    obtain⟨hsz,h⟩:=h
    rw[hd] at e1
    cases u1<;>simp[td] at e1
    rename_i fields
    subst e1
    rw[l0a] at hf
    cases hfd:fields.toList[f]? with
    |none=>rw[hfd] at hf;simp at hf
    |some fd=>
     rw[hfd] at hf
     simp at hf
     obtain⟨e1,e2,e3⟩:=hf
     have hfd':fields[f]?=some fd:=by simpa using hfd
     have hs:(sizeOf fd.type).run P w= .ok sz w:=by rw[←e2];exact BA w (by rw[e2];exact hsz)
     have run:∀b o,(Instr.fieldAt ty (.pointer (some ⟨b,o,none⟩)) f).run P w= .ok (.pointer (some ⟨b,o+off,none⟩)) w:=by
      intro b o
      simp[Instr.fieldAt,run_underlying hu1,hfd',Instr.sureAddr,fieldPlace,hs,hsz,Ij,e1]
     split at h
     ·cases ha with
      |ptr hp=>
       obtain⟨p',k',he,h⟩:=h
       exact⟨_,_,run _ _,by rw[Xt,Xt,←he];exact .ptr hp,h⟩
     ·obtain⟨b,o,rfl⟩:=A1v ha
      exact⟨_,_,run _ _,Yj ha _,h⟩
     ·exact h.elim
   ·exact h.elim
  ·exact h.elim
 ·exact h.elim
def A0l (T:Ty) (ty:TypeId) (a:AV) (f:Nat) (K:AV→Prop):Prop:=
 match T ty with
 |some i=>match i.d,a with
  | .struct fs,.agg cs=>match fs[f]? with
   |some (off,_,ft)=>Uj T ft (cs.drop off) K
   |none=>False
  |_,_=>False
 |none=>False
theorem A5T {P:Program} {T:Ty} (hT:Xv P T) {C:Ctx} {w:World} {ft:TypeId} {off:Nat} {cs:List AV} {ys:List Value} {K:AV→Prop} (hl:Ca C w cs ys) (h:Uj T ft (cs.drop off) K):
 ∃v u,(part ft ys.toArray off).run P w= .ok u w∧VRel C w v u∧K v:=by
 unfold Uj at h
 cases hi:T ft with
 |none=>rw[hi] at h;exact h.elim
 |some i=>
  rw[hi] at h
  have ok:=hT ft i hi
  simp only at h
  by_cases ha:i.d.isAgg=true
  ·rw[if_pos ha] at h
   refine⟨_,.agg ((ys.drop off).take i.size).toArray,?_,E6.2 ⟨_,rfl,(hl.drop off).take _⟩,h.2⟩
   simp only[part,C4,ok.run_isAgg,ha,ok.run_size,E3,if_true,Yh]
   congr 2
   apply l0c
   simp[List.take_drop]
  ·rw[if_neg ha] at h
   have ha':i.d.isAgg=false:=by simpa using ha
   cases hc:cs.drop off with
   |nil=>rw[hc] at h;exact h.elim
   |cons c cs'=>
    rw[hc] at h
    have h0:=hl.drop off
    rw[hc] at h0
    obtain⟨y,ys',e,hv,_⟩:=h0.cons_inv
    have hy:ys.toArray[off]?=some y:=by
     have:(ys.drop off)[0]?=some y:=by rw[e];rfl
     rw[l0d] at this
     simpa using this
    exact⟨c,y,by simp[part,ok.run_isAgg,ha',hy],hv,h⟩
theorem A44 {P:Program} {T:Ty} (hT:Xv P T) {C:Ctx} {w:World} {ty:TypeId} {f:Nat} {a:AV} {y:Value} {K:AV→Prop} (ha:VRel C w a y) (h:A0l T ty a f K):∃v u,(Instr.field ty y f).run P w= .ok u w∧VRel C w v u∧K v:=by
 unfold A0l at h
 split at h
 ·rename_i i hi
  obtain⟨u1,hu1,e1⟩:=(hT ty i hi).under
  split at h
  ·rename_i fs cs hd
   split at h
   ·rename_i off sz ft hf
    rw[hd] at e1
    cases u1<;>simp[td] at e1
    rename_i fields
    subst e1
    rw[l0a] at hf
    cases hfd:fields.toList[f]? with
    |none=>rw[hfd] at hf;simp at hf
    |some fd=>
     rw[hfd] at hf
     simp at hf
     obtain⟨e1,e2,e3⟩:=hf
     have hfd':fields[f]?=some fd:=by simpa using hfd
     obtain⟨ys,rfl,hl⟩:=E6.1 ha
     obtain⟨v,u,h1,h2,h3⟩:=A5T (P:=P) hT hl h
     refine⟨v,u,?_,h2,h3⟩
     simp[Instr.field,run_underlying hu1,hfd',asAgg,e1,e3,h1]
   ·exact h.elim
  ·exact h.elim
 ·exact h.elim
def A0k (T:Ty) (ty:TypeId) (a i:AV) (K:AV→Prop):Prop:=
 match T ty,i with
 |some ti,.v (.int _ n)=>match ti.d,a with
  | .slice _ esz,.list m cs=>(0≤n∧n<m)∧K (.iptr ((cs.drop (n.toNat*esz)).take esz))
  | .slice _ esz,.sl _ r o m=>(0≤n∧n<m)∧K (.ptr r (o+n.toNat*esz) 0)
  | .array m _ esz,.ptr r p k=>(0≤n∧n<m)∧∃p' k',p'+k'=p+(k+n.toNat*esz)∧K (.ptr r p' k')
  | .array m _ esz,.iptr cs=>(0≤n∧n<m)∧K (.iptr ((cs.drop (n.toNat*esz)).take esz))
  |_,_=>False
 |_,_=>False
theorem TOk1.elem_slice {P:Program} {t:TypeId} {i:TI} (h:TOk1 P t i) {e:TypeId} {esz:Nat} (hd:i.d= .slice e esz):P.underlying t=some (.slice e)∧P.cellsOf e=esz:=by
 obtain⟨u,hu,e1⟩:=h.under
 rw[hd] at e1
 cases u<;>simp[td] at e1
 rw[hu,e1.1];exact⟨rfl,e1.1▸e1.2⟩
theorem TOk1.elem_array {P:Program} {t:TypeId} {i:TI} (h:TOk1 P t i) {n:Nat} {e:TypeId} {esz:Nat} (hd:i.d= .array n e esz):P.underlying t=some (.array n e)∧P.cellsOf e=esz:=by
 obtain⟨u,hu,e1⟩:=h.under
 rw[hd] at e1
 cases u<;>simp[td] at e1
 rw[hu,e1.1,e1.2.1];exact⟨rfl,e1.2.1▸e1.2.2⟩
theorem A43 {P:Program} {T:Ty} (hT:Xv P T) (hP:∀t i e esz,T t=some i→(i.d= .slice e esz∨∃n,i.d= .array n e esz)→esz≠0) {C:Ctx} {w:World} {ty:TypeId} {a i:AV} {y z:Value} {K:AV→Prop} (ha:VRel C w a y) (hi:VRel C w i z) (h:A0k T ty a i K):
 ∃v u,(Instr.indexAt ty y z).run P w= .ok u w∧VRel C w v u∧K v:=by
 unfold A0k at h
 split at h
 ·rename_i ti k n hti
  obtain rfl:=AL.1 hi
  have ok:=hT ty ti hti
  split at h
  ·rename_i e esz m cs hd
   obtain⟨hu,hc⟩:=ok.elem_slice hd
   have hsz:(sizeOf e).run P w= .ok esz w:=by rw[←hc];exact BA w (by rw[hc];exact hP ty ti e esz hti (.inl hd))
   obtain⟨hb,h⟩:=h
   cases ha with
   |list0=>omega
   |list hcap vs hF hcl hv=>
    refine⟨_,_,?_,A3v (Yj (.iptr vs hF hcl hv) _) _,h⟩
    simp[Instr.indexAt,asIntOf,run_underlying hu,hb,hsz,Ij]
  ·rename_i e esz sz r o m hd
   obtain⟨hu,hc⟩:=ok.elem_slice hd
   have hsz:(sizeOf e).run P w= .ok esz w:=by rw[←hc];exact BA w (by rw[hc];exact hP ty ti e esz hti (.inl hd))
   obtain⟨hb,h⟩:=h
   cases ha with
   |slz=>omega
   |sl hp hcap hbk hfit=>
    refine⟨_,_,?_,.ptr hp,h⟩
    simp[Instr.indexAt,asIntOf,run_underlying hu,hb,hsz,Ij,Xt]
  ·rename_i m e esz r p kk hd
   obtain⟨hu,hc⟩:=ok.elem_array hd
   have hsz:(sizeOf e).run P w= .ok esz w:=by rw[←hc];exact BA w (by rw[hc];exact hP ty ti e esz hti (.inr ⟨m,hd⟩))
   obtain⟨hb,h⟩:=h
   cases ha with
   |ptr hp=>
    obtain⟨p',k',he,h⟩:=h
    refine⟨_,_,?_,.ptr hp,h⟩
    simp[Instr.indexAt,asIntOf,run_underlying hu,hb,hsz,Ij,he,Xt,Instr.sureAddr]
  ·rename_i m e esz cs hd
   obtain⟨hu,hc⟩:=ok.elem_array hd
   have hsz:(sizeOf e).run P w= .ok esz w:=by rw[←hc];exact BA w (by rw[hc];exact hP ty ti e esz hti (.inr ⟨m,hd⟩))
   obtain⟨hb,h⟩:=h
   obtain⟨b,o,rfl⟩:=A1v ha
   refine⟨_,_,?_,A3v (Yj ha _) _,h⟩
   simp[Instr.indexAt,asIntOf,run_underlying hu,hb,hsz,Ij,Instr.sureAddr]
  ·exact h.elim
 ·exact h.elim
def A0j (T:Ty) (ty:TypeId) (a i:AV) (K:AV→Prop):Prop:=
 match T ty,i with
 |some ti,.v (.int _ n)=>match ti.d,a with
  | .string,.v (.string s)=>(0≤n∧n<s.size)∧K (.v (.int .u8 (s.data.toList.getD n.toNat 0).toNat))
  | .array m e esz,.agg cs=>(0≤n∧n<m)∧Uj T e (cs.drop (n.toNat*esz)) K
  |_,_=>False
 |_,_=>False
theorem A42 {P:Program} {T:Ty} (hT:Xv P T) (hP:∀t i e esz,T t=some i→(i.d= .slice e esz∨∃n,i.d= .array n e esz)→esz≠0) {C:Ctx} {w:World} {ty:TypeId} {a i:AV} {y z:Value} {K:AV→Prop} (ha:VRel C w a y) (hi:VRel C w i z) (h:A0j T ty a i K):
 ∃v u,(Instr.index ty y z).run P w= .ok u w∧VRel C w v u∧K v:=by
 unfold A0j at h
 split at h
 ·rename_i ti k n hti
  obtain rfl:=AL.1 hi
  have ok:=hT ty ti hti
  split at h
  ·rename_i s hd
   obtain⟨u,hu,e1⟩:=ok.under
   rw[hd] at e1
   have hu':u= .string:=by cases u<;>simp[td] at e1;rfl
   subst hu'
   obtain rfl:=AL.1 ha
   obtain⟨hb,h⟩:=h
   refine⟨_,_,?_,.v _,h⟩
   have hlt:n.toNat<s.size:=by omega
   have hx:s[n.toNat]?=some s[n.toNat]:=by simp[hlt]
   have hy:s.data.toList.getD n.toNat 0=s[n.toNat]:=by
    rw[Ul,JV (by simpa using hlt)]
    rfl
   rw[hy]
   simp[Instr.index,asIntOf,run_underlying hu,hb.1,hx]
  ·rename_i m e esz cs hd
   obtain⟨hu,hc⟩:=ok.elem_array hd
   have hsz:(sizeOf e).run P w= .ok esz w:=by rw[←hc];exact BA w (by rw[hc];exact hP ty ti e esz hti (.inr ⟨m,hd⟩))
   obtain⟨hb,h⟩:=h
   obtain⟨ys,rfl,hl⟩:=E6.1 ha
   obtain⟨v,u,h1,h2,h3⟩:=A5T (P:=P) hT hl h
   refine⟨v,u,?_,h2,h3⟩
   simp[Instr.index,asIntOf,run_underlying hu,hb,hsz,h1]
  ·exact h.elim
 ·exact h.elim
def C2L:AV→Option Int
 | .v (.int _ n)=>some n
 |_=>none
def UT:Option AV→Nat→Option Int
 |none,d=>some d
 |some a,_=>C2L a
def A0h (T:Ty) (ty:TypeId) (a:AV) (lo hi mx:Option AV) (K:AV→Prop):Prop:=
 match T ty with
 |some ti=>match ti.d,a with
  | .string,.v (.string s)=>mx.isNone=true∧JN (UT lo 0) λl=>JN (UT hi s.size) λh=>(0≤l∧l≤h∧h≤s.size)∧K (.v (.string (s.extract l.toNat h.toNat)))
  | .slice _ esz,.list m cs=>JN (UT lo 0) λl=>JN (UT hi m) λh=>JN (UT mx m) λx=>(0≤l∧l≤h∧h≤x∧x≤m)∧(mx.isSome=true→hi.isSome=true)∧K (.list (h-l).toNat ((cs.drop (l.toNat*esz)).take ((h-l).toNat*esz)))
  | .slice _ esz,.sl sz r o m=>esz=sz∧JN (UT lo 0) λl=>JN (UT hi m) λh=>JN (UT mx m) λx=>(0≤l∧l≤h∧h≤x∧x≤m)∧(mx.isSome=true→hi.isSome=true)∧K (.sl sz r (o+l.toNat*esz) (h-l).toNat)
  | .slice _ _,.v (.slice none 0 0)=>JN (UT lo 0) λl=>JN (UT hi 0) λh=>mx.isNone=true∧(l=0∧h=0)∧K (.v (.slice none 0 0))
  |_,_=>False
 |none=>False
theorem Y3 {P:Program} {w:World} {C:Ctx} {a:AV} {y:Value} {n:Int} (h:VRel C w a y) (hb:C2L a=some n) {c:Nat} (h0:0≤n) (h1:n≤c) (code:BoundsCode):(Instr.sliceBound y c code).run P w= .ok n.toNat w:=by
 unfold C2L at hb
 split at hb
 ·rename_i k m
  injection hb with hb
  subst hb
  obtain rfl:=AL.1 h
  simp[Instr.sliceBound,asIntOf,h0,h1]
 ·cases hb
def A5e (C:Ctx) (w:World):Option AV→Option Value→Prop
 |none,none=>True
 |some a,some y=>VRel C w a y
 |_,_=>False
theorem PW {P:Program} {w:World} {C:Ctx} {lo hi mx:Option AV} {yl yh ym:Option Value} (hl:A5e C w lo yl) (hh:A5e C w hi yh) (hm:A5e C w mx ym) {isS:Bool} {len cap:Nat} {l h x:Int} (hc:len≤cap)
 (bl:UT lo 0=some l) (bh:UT hi len=some h) (bx:UT mx cap=some x) (hb:0≤l∧l≤h∧h≤x∧x≤cap) (hmx:mx.isSome=true→hi.isSome=true):
 (Instr.sliceBounds isS len cap yl yh ym).run P w= .ok (l.toNat,h.toNat,x.toNat) w:=by
 have h1:∀(a:AV) (y:Value),mx=some a→VRel C w a y→∀code,(Instr.sliceBound y cap code).run P w= .ok x.toNat w:= λa y e hv code=>by
  subst e;exact Y3 hv bx (by omega) (by omega) _
 have h2:∀(a:AV) (y:Value),hi=some a→VRel C w a y→∀code,(Instr.sliceBound y x.toNat code).run P w= .ok h.toNat w:= λa y e hv code=>by
  subst e;exact Y3 hv bh (by omega) (by omega) _
 have h3:∀(a:AV) (y:Value),lo=some a→VRel C w a y→∀code,(Instr.sliceBound y h.toNat code).run P w= .ok l.toNat w:= λa y e hv code=>by
  subst e;exact Y3 hv bl (by omega) (by omega) _
 have h1':mx=none→x.toNat=cap:= λe=>by subst e;simp[UT] at bx;omega
 have h2':hi=none→h.toNat=len:= λe=>by subst e;simp[UT] at bh;omega
 have h3':lo=none→l.toNat=0:= λe=>by subst e;simp[UT] at bl;omega
 cases mx with
 |none=>
  cases ym with
  |some _=>exact hm.elim
  |none=>
   have e1:=h1' rfl
   cases hi with
   |none=>
    cases yh with
    |some _=>exact hh.elim
    |none=>
     have e2:=h2' rfl
     cases lo with
     |none=>
      cases yl with
      |some _=>exact hl.elim
      |none=>simp[Instr.sliceBounds,e1,e2,h3' rfl]
     |some a=>
      cases yl with
      |none=>exact hl.elim
      |some y=>have:=h3 a y rfl hl;simp only[Instr.sliceBounds,pure_bind,C4,Option.isSome_none,l0z,if_false,←e1,←e2,this,E3,Yh]
   |some b=>
    cases yh with
    |none=>exact hh.elim
    |some z=>
     have t2:=h2 b z rfl hh
     rw[e1] at t2
     cases lo with
     |none=>
      cases yl with
      |some _=>exact hl.elim
      |none=>simp[Instr.sliceBounds,e1,h3' rfl,t2]
     |some a=>
      cases yl with
      |none=>exact hl.elim
      |some y=>have:=h3 a y rfl hl;simp only[Instr.sliceBounds,pure_bind,C4,Option.isSome_none,l0z,if_false,e1,t2,this,E3,Yh]
 |some m=>
  cases ym with
  |none=>exact hm.elim
  |some q=>
   have t1:=h1 m q rfl hm
   cases hi with
   |none=>simp at hmx
   |some b=>
    cases yh with
    |none=>exact hh.elim
    |some z=>
     have t2:=h2 b z rfl hh
     cases lo with
     |none=>
      cases yl with
      |some _=>exact hl.elim
      |none=>simp[Instr.sliceBounds,h3' rfl,t1,t2]
     |some a=>
      cases yl with
      |none=>exact hl.elim
      |some y=>have:=h3 a y rfl hl;simp only[Instr.sliceBounds,C4,Option.isSome_some,if_true,t1,t2,this,E3,Yh]
theorem B3T {C:Ctx} {w:World} {n cap:Nat} {cs:List AV} {b o:Nat} (h:VRel C w (.list n cs) (.slice (some ⟨b,o,none⟩) n cap)) (k m c:Nat) (j:Nat) (hm:m≤c):VRel C w (.list m ((cs.drop k).take j)) (.slice (some ⟨b,o+k,none⟩) m c):=by
 cases h with
 |list0=>
  refine .list hm (λ_=>undef) (λi hi=> ?_) (λi hi=> ?_) (λi hi=> ?_)<;>simp at hi
 |list hc vs hF hcl hv=>
  refine .list hm (λi=>vs (k+i)) (λi hi=> ?_) (λi hi=> ?_) (λi hi=> ?_)
  ·rw[Xt];exact hF _ (by simp at hi;omega)
  ·rw[Xt];exact hcl _ (by simp at hi;omega)
  ·rw[List.getElem_take,List.getElem_drop];exact hv _ (by simp at hi;omega)
theorem A41 {P:Program} {T:Ty} (hT:Xv P T) (hP:∀t i e esz,T t=some i→(i.d= .slice e esz∨∃n,i.d= .array n e esz)→esz≠0) {C:Ctx} {w:World} {ty:TypeId} {a:AV} {lo hi mx:Option AV} {y:Value} {yl yh ym:Option Value} {K:AV→Prop}
 (ha:VRel C w a y) (hl:A5e C w lo yl) (hh:A5e C w hi yh) (hm:A5e C w mx ym) (h:A0h T ty a lo hi mx K):∃v u,(Instr.sliceAt ty y yl yh ym).run P w= .ok u w∧VRel C w v u∧K v:=by
 unfold A0h at h
 split at h
 ·rename_i ti hti
  have ok:=hT ty ti hti
  have notarr:∀u,P.underlying ty=some u→(∀n e,u≠.array n e)→Instr.sliceAt ty y yl yh ym=Instr.sliceAt ty y yl yh ym:= λ_ _ _=>rfl
  split at h
  ·rename_i s hd
   obtain⟨u,hu,e1⟩:=ok.under
   rw[hd] at e1
   have hu':u= .string:=by cases u<;>simp[td] at e1;rfl
   subst hu'
   obtain rfl:=AL.1 ha
   obtain⟨hn,h⟩:=h
   cases mx with
   |some _=>simp at hn
   |none=>
    cases ym with
    |some _=>exact hm.elim
    |none=>
     cases hbl:UT lo 0 with
     |none=>rw[hbl] at h;exact h.elim
     |some l=>
      rw[hbl] at h
      cases hbh:UT hi s.size with
      |none=>rw[hbh] at h;exact h.elim
      |some hh'=>
       rw[hbh] at h
       simp only[JN] at h
       obtain⟨hb,h⟩:=h
       have hrun:=PW (P:=P) (isS:=false) hl hh hm (O8 s.size) hbl hbh (show UT none s.size=some (s.size:Int) from rfl) ⟨hb.1,hb.2.1,hb.2.2,Int.le_refl _⟩ (by simp)
       refine⟨_,_,?_,.v _,h⟩
       unfold Instr.sliceAt
       rw[C4,run_underlying hu w]
       simp only[E3]
       unfold Instr.slice
       rw[C4,run_underlying hu w]
       simp only[E3,Option.isSome_none,l0z,if_false]
       rw[C4,hrun]
       rfl
  ·rename_i e esz m cs hd
   obtain⟨hu,hc⟩:=ok.elem_slice hd
   have hsz:(sizeOf e).run P w= .ok esz w:=by rw[←hc];exact BA w (by rw[hc];exact hP ty ti e esz hti (.inl hd))
   cases hbl:UT lo 0 with
   |none=>rw[hbl] at h;exact h.elim
   |some l=>
    rw[hbl] at h
    cases hbh:UT hi m with
    |none=>rw[hbh] at h;exact h.elim
    |some h1=>
     rw[hbh] at h
     cases hbx:UT mx m with
     |none=>rw[hbx] at h;exact h.elim
     |some x=>
      rw[hbx] at h
      simp only[JN] at h
      obtain⟨hb,hmh,h⟩:=h
      obtain⟨ad,cap,rfl,hcap⟩:∃ad cap,y= .slice ad m cap∧m≤cap:=by
       cases ha with
       |list0=>exact⟨_,_,rfl,l1c _⟩
       |list hcap=>exact⟨_,_,rfl,hcap⟩
      obtain⟨x',hbx',hx'⟩:∃x':Int,UT mx cap=some x'∧h1≤x'∧x'≤cap:=by
       cases mx with
       |none=>exact⟨cap,rfl,by simp[UT] at hbx;omega,Int.le_refl _⟩
       |some mm=>exact⟨x,hbx,by omega,by omega⟩
      have hrun:=PW (P:=P) (isS:=true) hl hh hm hcap hbl hbh hbx' ⟨hb.1,hb.2.1,hx'.1,hx'.2⟩ hmh
      have hrun2:(Instr.sliceAt ty (.slice ad m cap) yl yh ym).run P w= .ok (.slice (if x'.toNat=l.toNat then ad else ad.map (·.add (l.toNat*esz))) (h1.toNat-l.toNat) (x'.toNat-l.toNat)) w:=by
       unfold Instr.sliceAt
       rw[C4,run_underlying hu w]
       simp only[E3]
       unfold Instr.slice
       rw[C4,run_underlying hu w]
       simp only[E3]
       rw[C4,hrun]
       simp only[E3]
       rw[C4,hsz]
       rfl
      refine⟨_,_,hrun2,?_,h⟩
      have hlen:h1.toNat-l.toNat=(h1-l).toNat:=by omega
      rw[hlen]
      by_cases hz:(h1-l).toNat=0
      ·rw[hz];simp;exact .list0
      ·have hne:x'.toNat≠l.toNat:=by omega
       rw[if_neg hne]
       cases ha with
       |list0=>omega
       |list hcap' vs hF hcl hv=>
        simp only[l0x,Ij]
        exact B3T (.list hcap' vs hF hcl hv) _ _ _ _ (by omega)
  ·rename_i e esz sz r o m hd
   obtain⟨hu,hc⟩:=ok.elem_slice hd
   have hsz:(sizeOf e).run P w= .ok esz w:=by rw[←hc];exact BA w (by rw[hc];exact hP ty ti e esz hti (.inl hd))
   obtain⟨rfl,h⟩:=h
   cases hbl:UT lo 0 with
   |none=>rw[hbl] at h;exact h.elim
   |some l=>
    rw[hbl] at h
    cases hbh:UT hi m with
    |none=>rw[hbh] at h;exact h.elim
    |some h1=>
     rw[hbh] at h
     cases hbx:UT mx m with
     |none=>rw[hbx] at h;exact h.elim
     |some x=>
      rw[hbx] at h
      simp only[JN] at h
      obtain⟨hb,hmh,h⟩:=h
      obtain⟨ad,cap,rfl,hcap⟩:∃ad cap,y= .slice ad m cap∧m≤cap:=by
       cases ha with
       |slz=>exact⟨_,_,rfl,l1c _⟩
       |sl hp hcap hbk hfit=>exact⟨_,_,rfl,hcap⟩
      obtain⟨x',hbx',hx'⟩:∃x':Int,UT mx cap=some x'∧h1≤x'∧x'≤cap:=by
       cases mx with
       |none=>exact⟨cap,rfl,by simp[UT] at hbx;omega,Int.le_refl _⟩
       |some mm=>exact⟨x,hbx,by omega,by omega⟩
      have hrun:=PW (P:=P) (isS:=true) hl hh hm hcap hbl hbh hbx' ⟨hb.1,hb.2.1,hx'.1,hx'.2⟩ hmh
      have hrun2:(Instr.sliceAt ty (.slice ad m cap) yl yh ym).run P w= .ok (.slice (if x'.toNat=l.toNat then ad else ad.map (·.add (l.toNat*esz))) (h1.toNat-l.toNat) (x'.toNat-l.toNat)) w:=by
       unfold Instr.sliceAt
       rw[C4,run_underlying hu w]
       simp only[E3]
       unfold Instr.slice
       rw[C4,run_underlying hu w]
       simp only[E3]
       rw[C4,hrun]
       simp only[E3]
       rw[C4,hsz]
       rfl
      refine⟨_,_,hrun2,?_,h⟩
      have hlen:h1.toNat-l.toNat=(h1-l).toNat:=by omega
      rw[hlen]
      by_cases hz:x'.toNat=l.toNat
      ·have h0:(h1-l).toNat=0:=by omega
       have h00:x'.toNat-l.toNat=0:=by omega
       rw[h0,h00]
       cases ha with
       |slz hr=>exact .slz hr
       |sl hp=>exact .slz (by rw[hp];simp)
      ·rw[if_neg hz]
       cases ha with
       |slz hr=>
        exact absurd (by omega) hz
       |sl hp hcap' hbk hfit=>
        simp only[l0x,Ij,Xt]
        refine .sl hp (by omega) hbk ?_
        have h3:(x'.toNat-l.toNat)*esz+l.toNat*esz=x'.toNat*esz:=by rw[←l19];congr 1;omega
        have h4:x'.toNat*esz≤cap*esz:=l22 _ (by omega)
        omega
  ·rename_i e esz hd
   obtain⟨hu,hc⟩:=ok.elem_slice hd
   have hsz:(sizeOf e).run P w= .ok esz w:=by rw[←hc];exact BA w (by rw[hc];exact hP ty ti e esz hti (.inl hd))
   obtain rfl:=AL.1 ha
   cases hbl:UT lo 0 with
   |none=>rw[hbl] at h;exact h.elim
   |some l=>
    rw[hbl] at h
    cases hbh:UT hi 0 with
    |none=>rw[hbh] at h;exact h.elim
    |some h1=>
     rw[hbh] at h
     simp only[JN] at h
     obtain⟨hn,⟨rfl,rfl⟩,h⟩:=h
     cases mx with
     |some _=>simp at hn
     |none=>
      cases ym with
      |some _=>exact hm.elim
      |none=>
       have hrun:=PW (P:=P) (isS:=true) hl hh hm (O8 0) hbl hbh (show UT none 0=some ((0:Nat):Int) from rfl) ⟨by omega,by omega,by omega,by omega⟩ (by simp)
       refine⟨_,_,?_,.v _,h⟩
       unfold Instr.sliceAt
       rw[C4,run_underlying hu w]
       simp only[E3]
       unfold Instr.slice
       rw[C4,run_underlying hu w]
       simp only[E3]
       rw[C4,hrun]
       simp only[E3]
       rw[C4,hsz]
       rfl
  ·exact h.elim
 ·exact h.elim
theorem B4c (off:Nat) (l:List Value):∀(k:Nat) (cs:Array Value),off+k+l.length≤cs.size→(l.zipIdx k).foldl (λ(cs:Array Value) (p:Value×Nat)=>cs.setIfInBounds (off+p.2) p.1) cs=(splice cs.toList (off+k) l).toArray:=by
 induction l with
 |nil=>intro k cs _;simp[A0C]
 |cons v l ih=>
  intro k cs h
  simp only[List.zipIdx_cons,List.foldl_cons]
  simp only[Lj] at h
  rw[ih (k+1) _ (by simp;omega)]
  congr 1
  rw[←YC (by simp;omega)]
  simp[Xt]
theorem A8E (v:Value) (off:Nat) (cs:Array Value) (h:off+v.cells.size≤cs.size):v.cells.zipIdx.foldl (λ(cs:Array Value) (p:Value×Nat)=>cs.setIfInBounds (off+p.2) p.1) cs=(splice cs.toList off v.cells.toList).toArray:=by
 have:=B4c off v.cells.toList 0 cs (by simpa using h)
 rw[←Array.foldl_toList]
 simpa using this
def PX (place:Nat→Option (Nat×Nat)):List (Nat×AV)→List AV→Option (List AV)
 |[],cs=>some cs
 |(i,a)::rest,cs=>match place i with
  |none=>none
  |some (off,sz)=>if(B6 a).length=sz∧off+(B6 a).length≤cs.length∧(B6 a).all AV.one=true then PX place rest (splice cs off (B6 a)) else none
theorem Ca.splice {C:Ctx} {w:World} {cs aZ:List AV} {ys zs:List Value} {o:Nat} (h:Ca C w cs ys) (k:Ca C w aZ zs):Ca C w (splice cs o aZ) (splice ys o zs):=by
 unfold Abs.splice
 rw[k.1]
 exact((h.take o).append k).append (h.drop _)
theorem WQ {C:Ctx} {w:World} {place:Nat→Option (Nat×Nat)}:∀(ps:List (Nat×AV)) (qs:List (Nat×Value)) (cs:List AV) (ys:List Value) (r:List AV),ps.length=qs.length→(∀(j:Nat) (p:Nat×AV),ps[j]?=some p→∃z,qs[j]?=some (p.1,z)∧VRel C w p.2 z)→Ca C w cs ys→
 PX place ps cs=some r→∃zs:List Value,Instr.fill place ys.toArray qs=some zs.toArray∧Ca C w r zs:=by
 intro ps
 induction ps with
 |nil=>
  intro qs cs ys r hl _ hr h
  cases qs with
  |cons _ _=>simp at hl
  |nil=>simp[PX] at h;subst h;exact⟨ys,rfl,hr⟩
 |cons p ps ih=>
  intro qs cs ys r hl hq hr h
  obtain⟨i,a⟩:=p
  cases qs with
  |nil=>simp at hl
  |cons q qs=>
   obtain⟨z,hz,hv⟩:=hq 0 (i,a) rfl
   simp at hz
   subst hz
   simp only[PX] at h
   split at h
   ·cases h
   ·rename_i off sz hp
    split at h
    ·rename_i hc
     obtain⟨h1,h2,h3⟩:=hc
     obtain⟨hlv,hone⟩:=hv.cells h3
     have hlen:z.cells.size=(B6 a).length:=by have:=hlv.1;simpa using this
     have hys:ys.length=cs.length:=hr.1
     obtain⟨zs,hf,hrel⟩:=ih qs _ (splice ys off z.cells.toList) r (by simpa using hl) (λj p hj=>by have:=hq (j+1) p (by simpa using hj);simpa using this) (hr.splice hlv) h
     refine⟨zs,?_,hrel⟩
     simp only[Instr.fill,hp]
     have c1:¬(z.cells.size≠sz||off+z.cells.size>ys.toArray.size)=true:=by simp;omega
     rw[if_neg c1]
     rw[A8E z off ys.toArray (by simp;omega)]
     simpa using hf
    ·cases h
def A0m (T:Ty) (ty:TypeId) (ps:List (Nat×AV)) (K:AV→Prop):Prop:=
 match T ty with
 |some i=>match i.d with
  | .struct fs=>(fs.all λf=>f.2.1 !=0)=true∧JN (PX (λj=>(fs[j]?).map λf=>(f.1,f.2.1)) ps (B6 i.zero)) λcs=>K (.agg cs)
  | .array _ _ esz=>esz≠0∧JN (PX (λj=>some (j*esz,esz)) ps (B6 i.zero)) λcs=>K (.agg cs)
  |_=>False
 |none=>False
theorem A3o {C:Ctx} {w:World} (z:Value) (h:∀vs,z≠.tuple vs):Ca C w (B6 (ofV z)) z.cells.toList:=by
 cases z with
 |agg cs=>simpa [ofV,B6,Value.cells] using SN (C:=C) (w:=w) cs.toList
 |tuple vs=>exact absurd rfl (h vs)
 |_=>exact .cons (.v _) .nil
theorem A6m {P:Program} (w:World):∀(l:List Field),(l.all λf=>P.cellsOf f.type !=0)=true→(l.mapM (λf=>do pure (f.offset,←sizeOf f.type):Field→Sem (Nat×Nat))).run P w= .ok (l.map λf=>(f.offset,P.cellsOf f.type)) w:=by
 intro l
 induction l with
 |nil=>intro _;rfl
 |cons f l ih=>
  intro h
  simp only[l2j,Jp,bne_iff_ne,ne_eq] at h
  rw[List.mapM_cons]
  simp only[C4,BA w h.1,E3,Yh,ih h.2,ZY]
theorem A46 {P:Program} {T:Ty} (hT:Xv P T) {C:Ctx} {w:World} {ty:TypeId} {ps:List (Nat×AV)} {qs:List (Nat×Value)} {K:AV→Prop} (hlen:ps.length=qs.length)
 (hq:∀(j:Nat) (p:Nat×AV),ps[j]?=some p→∃z,qs[j]?=some (p.1,z)∧VRel C w p.2 z) (h:A0m T ty ps K):∃v u,(Instr.build ty qs.toArray).run P w= .ok u w∧VRel C w v u∧K v:=by
 unfold A0m at h
 split at h
 ·rename_i i hi
  have ok:=hT ty i hi
  obtain⟨z,hz,ez⟩:=ok.run_zero (P:=P) w
  obtain⟨u,hu,e⟩:=ok.under
  have hzc:(B6 i.zero).length=z.cells.size→Ca C w (B6 i.zero) z.cells.toList:=by
   intro _
   rw[←ez]
   cases z with
   |tuple vs=>exact .cons (.v _) .nil
   |agg cs=>exact A3o _ (by simp)
   |_=>exact .cons (.v _) .nil
  have hzl:(B6 i.zero).length=z.cells.size:=by
   rw[←ez]
   cases z<;>simp[ofV,B6,Value.cells]
  have hz0:=hzc hzl
  split at h
  ·rename_i fs hd
   obtain⟨hall,h⟩:=h
   rw[hd] at e
   cases u<;>simp[td] at e
   rename_i fields
   cases hf:PX (λj=>(fs[j]?).map λf=>(f.1,f.2.1)) ps (B6 i.zero) with
   |none=>rw[hf] at h;exact h.elim
   |some r=>
    rw[hf] at h
    obtain⟨zs,h1,h2⟩:=WQ (C:=C) (w:=w) ps qs _ _ r hlen hq hz0 hf
    refine⟨.agg r,.agg zs.toArray,?_,E6.2 ⟨zs,rfl,h2⟩,h⟩
    have hm:=A6m (P:=P) w fields.toList (by
     rw[←e] at hall
     simpa [List.all_map,l1t] using hall)
    have hm':(fields.mapM (λf=>do pure (f.offset,←sizeOf f.type):Field→Sem (Nat×Nat))).run P w= .ok (fields.toList.map λf=>(f.offset,P.cellsOf f.type)).toArray w:=by
     rw[Array.mapM_eq_mapM_toList,Sem.run_map,hm]
     rfl
    have hpl:(λ(j:Nat)=>((fields.toList.map λf=>(f.offset,P.cellsOf f.type)).toArray)[j]?)=(λ(j:Nat)=>(fs[j]?).map λ(f:Nat×Nat×TypeId)=>(f.1,f.2.1)):=by
     funext j
     rw[←e]
     simp[l0a,l1t]
    unfold Instr.build
    rw[C4,hz]
    simp only[E3]
    rw[C4,run_underlying hu w]
    simp only[E3]
    rw[C4,hm']
    simp only[E3]
    rw[hpl]
    simp only[Array.toArray_toList] at h1
    simp[h1]
  ·rename_i n el esz hd
   obtain⟨hne,h⟩:=h
   obtain⟨hu',hc⟩:=ok.elem_array hd
   have hsz:(sizeOf el).run P w= .ok esz w:=by rw[←hc];exact BA w (by rw[hc];exact hne)
   cases hf:PX (λj=>some (j*esz,esz)) ps (B6 i.zero) with
   |none=>rw[hf] at h;exact h.elim
   |some r=>
    rw[hf] at h
    obtain⟨zs,h1,h2⟩:=WQ (C:=C) (w:=w) ps qs _ _ r hlen hq hz0 hf
    refine⟨.agg r,.agg zs.toArray,?_,E6.2 ⟨zs,rfl,h2⟩,h⟩
    simp only[Array.toArray_toList] at h1
    unfold Instr.build
    rw[C4,hz]
    simp only[E3]
    rw[C4,run_underlying hu' w]
    simp only[E3]
    rw[C4,hsz]
    simp[h1]
  ·exact h.elim
 ·exact h.elim
def B2i (T:Ty) (ty:TypeId) (a:AV) (K:AV→Prop):Prop:=
 match T ty with
 |some i=>match i.d,a with
  | .string,.v (.string s)=>K (.v (.int .i64 s.size))
  | .slice ..,.list n _=>K (.v (.int .i64 n))
  | .slice ..,.sl _ _ _ n=>K (.v (.int .i64 n))
  | .slice ..,.v (.slice none 0 0)=>K (.v (.int .i64 0))
  | .array n _ _,_=>K (.v (.int .i64 n))
  |_,_=>False
 |none=>False
theorem A7B {P:Program} {T:Ty} (hT:Xv P T) {C:Ctx} {w:World} {ty rt:TypeId} {ts:Array TypeId} {a:AV} {y:Value} {K:AV→Prop} (hty:ts[0]?=some ty) (ha:VRel C w a y) (h:B2i T ty a K):∃v u,(Builtin.len_ ts rt #[y]).run P w= .ok u w∧VRel C w v u∧K v:=by
 unfold B2i at h
 split at h
 ·rename_i i hi
  have ok:=hT ty i hi
  obtain⟨u,hu,e⟩:=ok.under
  split at h
  ·rename_i s hd
   obtain rfl:=AL.1 ha
   rw[hd] at e
   cases u<;>simp[td] at e
   exact⟨_,_,by simp[Builtin.len_,hty,run_underlying hu];rfl,.v _,h⟩
  ·rename_i hd
   rw[hd] at e
   cases u<;>simp[td] at e
   cases ha with
   |list0=>exact⟨_,_,by simp[Builtin.len_,hty,run_underlying hu];rfl,.v _,h⟩
   |list=>exact⟨_,_,by simp[Builtin.len_,hty,run_underlying hu];rfl,.v _,h⟩
  ·rename_i hd
   rw[hd] at e
   cases u<;>simp[td] at e
   cases ha with
   |slz=>exact⟨_,_,by simp[Builtin.len_,hty,run_underlying hu];rfl,.v _,h⟩
   |sl=>exact⟨_,_,by simp[Builtin.len_,hty,run_underlying hu];rfl,.v _,h⟩
  ·rename_i hd
   obtain rfl:=AL.1 ha
   rw[hd] at e
   cases u<;>simp[td] at e
   exact⟨_,_,by simp[Builtin.len_,hty,run_underlying hu];rfl,.v _,h⟩
  ·rename_i hd
   rw[hd] at e
   cases u<;>simp[td] at e
   obtain⟨rfl,_⟩:=e
   exact⟨_,_,by simp[Builtin.len_,hty,run_underlying hu];rfl,.v _,h⟩
  ·exact h.elim
 ·exact h.elim
def Jk (G:Gl) (w0:Base) (C:Ctx) (w:World) (v:AV) (H:Hp) (y:Value) (C':Ctx) (w':World):Prop:=VRel C' w' v y∧Rel G w0 C' H w'∧Ext w0.own C w C' w'
theorem VO (w:World) (o:Obj):Below w.heap.size w {w with heap:=w.heap.push o}:=
 ⟨rfl,rfl,rfl,by simp,λk hk=>by simp[l27,Nat.ne_of_lt hk]⟩
theorem A72 (w:World) (B:Nat):Below B w {w with drawn:=w.drawn+1}:=⟨rfl,rfl,rfl,O8 _,λ_ _=>rfl⟩
section
variable {P:Program} {G:Gl} {w0:Base} {w:World} {C:Ctx} {H:Hp}
theorem A9N (hr:Rel G w0 C H w) (T:TypeId) {cs:List AV} {arr:Array Value} (hv:Ca C w cs arr.toList):
 Jk G w0 C w (.ptr (A6 H) 0 0) ((A6 H,.cells true T cs)::H) (.pointer (some ⟨w.heap.size,0,none⟩)) (C.put (A6 H) (some (w.heap.size,0))) {w with heap:=w.heap.push (.cells arr T)}:=by
 have hb:=VO w (.cells arr T)
 have hlen:arr.size=cs.length:=by simpa using hv.1
 refine⟨?_,hr.new (q:=true) hb (arr:=arr) (fz:=(0,0)) (by simp) (λi _=>by omega) (by omega) (by rw[l1z (by simp;omega)];exact hv) (λ_=>hlen),hr.new_ext hb⟩
 have:VRel (C.put (A6 H) (some (w.heap.size,0))) {w with heap:=w.heap.push (.cells arr T)} (.ptr (A6 H) 0 0) (.pointer (some ⟨w.heap.size,0+(0+0),none⟩)):= .ptr (C.put_n _ _)
 simpa using this
theorem UN (hr:Rel G w0 C H w) {w':World} (hb:Below w.heap.size w w') (T:TypeId) {cs:List AV} {arr:Array Value} {fz:Nat×Nat} (hk:w'.heap[w.heap.size]?=some (.cells arr T fz)) (Qt:∀i,i<arr.size→¬(fz.1≤i∧i<fz.2))
 (sz n cap:Nat) (hcap:n≤cap) (hsz:cap*sz≤arr.size) (hfit:cs.length≤arr.size) (hv:Ca (C.sel false) w cs (arr.toList.take cs.length)):
 Jk G w0 C w (.sl sz (A6 H) 0 n) ((A6 H,.cells false T cs)::H) (.slice (some ⟨w.heap.size,0,none⟩) n cap) (C.put (A6 H) (some (w.heap.size,0))) w':=by
 refine⟨?_,hr.new (q:=false) hb hk Qt hfit hv (λh=>by cases h),hr.new_ext hb⟩
 have:VRel (C.put (A6 H) (some (w.heap.size,0))) w' (.sl sz (A6 H) 0 n) (.slice (some ⟨w.heap.size,0+0,none⟩) n cap):= .sl (C.put_n _ _) hcap hk (by omega)
 simpa using this
def A0p (T:Ty) (ty:TypeId) (H:Hp) (r:Nat) (K:AV→Hp→Prop):Prop:=
 match T ty with
 |some i=>K (.ptr r 0 0) ((r,.cells true ty (B6 i.zero))::H)
 |none=>False
theorem Mu {t:TypeId} {i:TI} {z:Value} (ez:ofV z=i.zero):Ca C w (B6 i.zero) z.cells.toList:=by
 rw[←ez]
 cases z with
 |agg cs=>exact A3o _ (by simp)
 |_=>exact .cons (.v _) .nil
theorem A47 {T:Ty} (hT:Xv P T) {ty:TypeId} {K:AV→Hp→Prop} (hr:Rel G w0 C H w) (h:A0p T ty H (A6 H) K):∃v H' y C' w',K v H'∧(Instr.alloc ty true (.tuple #[])).run P w= .ok y w'∧Jk G w0 C w v H' y C' w':=by
 unfold A0p at h
 split at h
 ·rename_i i hi
  obtain⟨z,hz,ez⟩:=(hT ty i hi).run_zero (P:=P) w
  refine⟨_,_,_,_,_,h,?_,A9N hr ty (Mu (t:=ty) ez)⟩
  simp[Instr.alloc,hz,newVar,newRow]
 ·exact h.elim
def B8W (ty:TypeId) (a:AV) (H:Hp) (r:Nat) (K:AV→Hp→Prop):Prop:=(B6 a).all AV.one=true∧K (.ptr r 0 0) ((r,.cells true ty (B6 a))::H)
theorem A7C {ty:TypeId} {a:AV} {y:Value} {K:AV→Hp→Prop} (hr:Rel G w0 C H w) (ha:VRel C w a y) (h:B8W ty a H (A6 H) K):∃v H' z C' w',K v H'∧(Instr.box ty y).run P w= .ok z w'∧Jk G w0 C w v H' z C' w':=by
 obtain⟨h1,h⟩:=h
 refine⟨_,_,_,_,_,h,?_,A9N hr ty (ha.cells h1).1⟩
 simp[Instr.box,newVar,newRow]
def TL:Nat→List AV→List AV
 |0,_=>[]
 |n+1,z=>z++TL n z
theorem VV (z:Array Value):∀n,(Array.range (n*z.size)).map (λi=>z[i%z.size]!)=((List.range n).flatMap λ_=>z.toList).toArray:=by
 intro n
 apply l0c
 simp only[Array.toList_map,Array.toList_range]
 induction n with
 |zero=>simp
 |succ n ih=>
  rw[List.range_succ,l2g,←ih,Nat.succ_mul,List.range_add,l01]
  congr 1
  simp only[List.map_map,l00,List.flatMap_nil,l1o]
  apply l0o
  intro j
  by_cases hj:j<z.size
  ·simp[hj,Nat.mod_eq_of_lt hj]
  ·simp[hj]
theorem Wp (z:List AV):∀n,TL n z=(List.range n).flatMap λ_=>z:=by
 intro n
 induction n with
 |zero=>rfl
 |succ n ih=>rw[List.range_succ_eq_map];simp[TL,ih,List.flatMap_map]
theorem UO {cs:List AV} {zs:List Value} (h:Ca C w cs zs):∀n,Ca C w ((List.range n).flatMap λ_=>cs) ((List.range n).flatMap λ_=>zs):=by
 intro n
 induction n with
 |zero=>exact .nil
 |succ n ih=>
  rw[List.range_succ,l2g,l2g]
  refine ih.append ?_
  simpa using h
theorem TK (z:List AV):∀n,(TL n z).length=n*z.length:=by
 intro n
 induction n with
 |zero=>simp[TL]
 |succ n ih=>simp[TL,ih,Nat.succ_mul,Nat.add_comm]
theorem Xo {place:Nat→Option (Nat×Nat)}:∀(ps:List (Nat×AV)) (cs r:List AV),PX place ps cs=some r→r.length=cs.length:=by
 intro ps
 induction ps with
 |nil=>intro cs r h;simp[PX] at h;subst h;rfl
 |cons p ps ih=>
  intro cs r h
  obtain⟨i,a⟩:=p
  simp only[PX] at h
  split at h
  ·cases h
  ·split at h
   ·rename_i hc
    rw[ih _ _ h,E2 hc.2.1]
   ·cases h
def Wa (T:Ty) (ty:TypeId) (n:Nat) (ps:List (Nat×AV)) (H:Hp) (r:Nat) (K:AV→Hp→Prop):Prop:=
 match T ty with
 |some i=>match i.d with
  | .slice e esz=>match T e with
   |some ie=>esz≠0∧(B6 ie.zero).length=esz∧n*esz≤2^24∧JN (PX (λj=>some (j*esz,esz)) ps (TL n (B6 ie.zero))) λcs=>K (.sl esz r 0 n) ((r,.cells false e cs)::H)
   |none=>False
  |_=>False
 |none=>False
theorem A2l {T:Ty} (hT:Xv P T) {ty:TypeId} {n:Nat} {ps:List (Nat×AV)} {qs:List (Nat×Value)} {K:AV→Hp→Prop} (hlen:ps.length=qs.length)
 (hq:∀(j:Nat) (p:Nat×AV),ps[j]?=some p→∃z,qs[j]?=some (p.1,z)∧VRel C w p.2 z) (hr:Rel G w0 C H w) (h:Wa T ty n ps H (A6 H) K):
 ∃v H' y C' w',K v H'∧(Instr.buildSlice ty n qs.toArray).run P w= .ok y w'∧Jk G w0 C w v H' y C' w':=by
 unfold Wa at h
 split at h
 ·rename_i i hi
  have ok:=hT ty i hi
  split at h
  ·rename_i e esz hd
   split at h
   ·rename_i ie hie
    obtain⟨hne,hzl,hbig,h⟩:=h
    obtain⟨hu,hc⟩:=ok.elem_slice hd
    have oke:=hT e ie hie
    obtain⟨z,hz,ez⟩:=oke.run_zero (P:=P) w
    have hsz:(sizeOf e).run P w= .ok esz w:=by rw[←hc];exact BA w (by rw[hc];exact hne)
    have hz0:Ca C w (B6 ie.zero) z.cells.toList:=Mu (t:=e) ez
    have hzs:z.cells.size=esz:=by have:=hz0.1;simp at this;omega
    cases hf:PX (λj=>some (j*esz,esz)) ps (TL n (B6 ie.zero)) with
    |none=>rw[hf] at h;exact h.elim
    |some r=>
     rw[hf] at h
     have hzz:Ca C w (TL n (B6 ie.zero)) ((List.range n).flatMap λ_=>z.cells.toList):=by rw[Wp];exact UO hz0 n
     obtain⟨zs,h1,h2⟩:=WQ (C:=C) (w:=w) ps qs _ _ r hlen hq hzz hf
     have hbig':¬(n*esz>2^24):=by omega
     have hrl:zs.length=n*esz:=by rw[h2.1,Xo _ _ _ hf,TK,hzl]
     have h2q:Ca (C.sel false) w r zs:=h2
     have key:=UN hr (VO w (.cells zs.toArray e)) e (cs:=r) (arr:=zs.toArray) (fz:=(0,0)) (by simp) (λi _=>by omega) esz n n (O8 _) (by simp[hrl]) (by simp;exact Nat.le_of_eq h2.1.symm) (by rw[l1z (by simp;exact Nat.le_of_eq h2.1)];simpa using h2q)
     refine⟨_,_,_,_,_,h,?_,key⟩
     unfold Instr.buildSlice
     rw[C4,run_underlying hu w]
     simp only[E3]
     rw[C4,hsz]
     simp only[E3,if_neg hbig',pure_bind]
     by_cases h0:n*esz=0
     ·have hn0:n=0:=by rcases Nat.mul_eq_zero.1 h0 with h|h;exact h;exact absurd h hne
      subst hn0
      rw[if_pos h0]
      simp only[List.range_zero,List.flatMap_nil] at h1
      rw[show(Array.map (λx=>(#[]:Array Value)[x%(#[]:Array Value).size]!) (Array.range (0*esz)))= #[] from by rw[Nat.zero_mul];apply l0c;simp,h1]
      simp[newRow]
     ·rw[if_neg h0,C4,hz]
      simp only[E3]
      have:=VV z.cells n
      rw[hzs] at this⊢
      rw[this,h1]
      simp[newRow]
   ·exact h.elim
  ·exact h.elim
 ·exact h.elim
end
end Go.Abs
end
