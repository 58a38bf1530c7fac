import Derived.Test.YtlbhdmbfdcohhaaGreatDoorS01
set_option linter.all false
set_option maxHeartbeats 100000000
noncomputable section
namespace Go.Abs
open Go.RowKit
def C3k:AV→Option Int
 | .v (.int _ n)=>some n
 |_=>none
def Vx:Option AV→Nat→Option Int
 |none,d=>some d
 |some a,_=>C3k a
def A0I (T:Ty) (ty:TypeId) (a:AV) (lo hi mx:Option AV) (K:AV→Prop):Prop:=
 match T ty with
 |some ti=>match ti.d,a with
  | .string,.v (.string s)=>mx.isNone=true∧Kn (Vx lo 0) λl=>Kn (Vx hi s.size) λh=>(0≤l∧l≤h∧h≤s.size)∧K (.v (.string (s.extract l.toNat h.toNat)))
  | .slice _ esz,.list m cs=>Kn (Vx lo 0) λl=>Kn (Vx hi m) λh=>Kn (Vx mx m) λx=>(0≤l∧l≤h∧h≤x∧x≤m)∧(mx.isSome=true→hi.isSome=true)∧K (.list (h-l).toNat ((cs.drop (l.toNat*esz)).take ((h-l).toNat*esz)))
  | .slice _ esz,.sl sz r o m=>esz=sz∧Kn (Vx lo 0) λl=>Kn (Vx hi m) λh=>Kn (Vx mx m) λx=>(0≤l∧l≤h∧h≤x∧x≤m)∧(mx.isSome=true→hi.isSome=true)∧K (.sl sz r (o+l.toNat*esz) (h-l).toNat)
  | .slice _ _,.v (.slice none 0 0)=>Kn (Vx lo 0) λl=>Kn (Vx hi 0) λh=>mx.isNone=true∧(l=0∧h=0)∧K (.v (.slice none 0 0))
  |_,_=>False
 |none=>False
theorem YW {P:Program} {w:World} {C:Ctx} {a:AV} {y:Value} {n:Int} (h:VRel C w a y) (hb:C3k a=some n) {c:Nat} (h0:0≤n) (h1:n≤c) (code:BoundsCode):(Instr.sliceBound y c code).run P w= .ok n.toNat w:=by
 unfold C3k at hb
 split at hb
 ·rename_i k m
  injection hb with hb
  subst hb
  obtain rfl:=AI.1 h
  simp[Instr.sliceBound,asIntOf,h0,h1]
 ·cases hb
def A5A (C:Ctx) (w:World):Option AV→Option Value→Prop
 |none,none=>True
 |some a,some y=>VRel C w a y
 |_,_=>False
theorem Q7 {P:Program} {w:World} {C:Ctx} {lo hi mx:Option AV} {yl yh ym:Option Value} (hl:A5A C w lo yl) (hh:A5A C w hi yh) (hm:A5A C w mx ym) {isS:Bool} {len cap:Nat} {l h x:Int} (hc:len≤cap)
 (bl:Vx lo 0=some l) (bh:Vx hi len=some h) (bx:Vx mx cap=some x) (hb:0≤l∧l≤h∧h≤x∧x≤cap) (hmx:mx.isSome=true→hi.isSome=true):
 (Instr.sliceBounds isS len cap yl yh ym).run P w= .ok (l.toNat,h.toNat,x.toNat) w:=by
 have h1:∀(a:AV) (y:Value),mx=some a→VRel C w a y→∀code,(Instr.sliceBound y cap code).run P w= .ok x.toNat w:= λa y e hv code=>by
  subst e;exact YW hv bx (by omega) (by omega) _
 have h2:∀(a:AV) (y:Value),hi=some a→VRel C w a y→∀code,(Instr.sliceBound y x.toNat code).run P w= .ok h.toNat w:= λa y e hv code=>by
  subst e;exact YW hv bh (by omega) (by omega) _
 have h3:∀(a:AV) (y:Value),lo=some a→VRel C w a y→∀code,(Instr.sliceBound y h.toNat code).run P w= .ok l.toNat w:= λa y e hv code=>by
  subst e;exact YW hv bl (by omega) (by omega) _
 have h1':mx=none→x.toNat=cap:= λe=>by subst e;simp[Vx] at bx;omega
 have h2':hi=none→h.toNat=len:= λe=>by subst e;simp[Vx] at bh;omega
 have h3':lo=none→l.toNat=0:= λe=>by subst e;simp[Vx] at bl;omega
 cases mx with
 |none=>
  cases ym with
  |some _=>exact hm.elim
  |none=>
   have e1:=h1' rfl
   cases hi with
   |none=>
    cases yh with
    |some _=>exact hh.elim
    |none=>
     have e2:=h2' rfl
     cases lo with
     |none=>
      cases yl with
      |some _=>exact hl.elim
      |none=>simp[Instr.sliceBounds,e1,e2,h3' rfl]
     |some a=>
      cases yl with
      |none=>exact hl.elim
      |some y=>have:=h3 a y rfl hl;simp only[Instr.sliceBounds,pure_bind,CI,Option.isSome_none,l0z,if_false,←e1,←e2,this,EO,Y9]
   |some b=>
    cases yh with
    |none=>exact hh.elim
    |some z=>
     have t2:=h2 b z rfl hh
     rw[e1] at t2
     cases lo with
     |none=>
      cases yl with
      |some _=>exact hl.elim
      |none=>simp[Instr.sliceBounds,e1,h3' rfl,t2]
     |some a=>
      cases yl with
      |none=>exact hl.elim
      |some y=>have:=h3 a y rfl hl;simp only[Instr.sliceBounds,pure_bind,CI,Option.isSome_none,l0z,if_false,e1,t2,this,EO,Y9]
 |some m=>
  cases ym with
  |none=>exact hm.elim
  |some q=>
   have t1:=h1 m q rfl hm
   cases hi with
   |none=>simp at hmx
   |some b=>
    cases yh with
    |none=>exact hh.elim
    |some z=>
     have t2:=h2 b z rfl hh
     cases lo with
     |none=>
      cases yl with
      |some _=>exact hl.elim
      |none=>simp[Instr.sliceBounds,h3' rfl,t1,t2]
     |some a=>
      cases yl with
      |none=>exact hl.elim
      |some y=>have:=h3 a y rfl hl;simp only[Instr.sliceBounds,CI,Option.isSome_some,if_true,t1,t2,this,EO,Y9]
theorem B4h {C:Ctx} {w:World} {n cap:Nat} {cs:List AV} {b o:Nat} (h:VRel C w (.list n cs) (.slice (some ⟨b,o,none⟩) n cap)) (k m c:Nat) (j:Nat) (hm:m≤c):VRel C w (.list m ((cs.drop k).take j)) (.slice (some ⟨b,o+k,none⟩) m c):=by
 cases h with
 |list0=>
  refine .list hm (λ_=>undef) (λi hi=> ?_) (λi hi=> ?_) (λi hi=> ?_)<;>simp at hi
 |list hc vs hF hcl hv=>
  refine .list hm (λi=>vs (k+i)) (λi hi=> ?_) (λi hi=> ?_) (λi hi=> ?_)
  ·rw[Xk];exact hF _ (by simp at hi;omega)
  ·rw[Xk];exact hcl _ (by simp at hi;omega)
  ·rw[List.getElem_take,List.getElem_drop];exact hv _ (by simp at hi;omega)
theorem A4i {P:Program} {T:Ty} (hT:XT P T) (hP:∀t i e esz,T t=some i→(i.d= .slice e esz∨∃n,i.d= .array n e esz)→esz≠0) {C:Ctx} {w:World} {ty:TypeId} {a:AV} {lo hi mx:Option AV} {y:Value} {yl yh ym:Option Value} {K:AV→Prop}
 (ha:VRel C w a y) (hl:A5A C w lo yl) (hh:A5A C w hi yh) (hm:A5A C w mx ym) (h:A0I T ty a lo hi mx K):∃v u,(Instr.sliceAt ty y yl yh ym).run P w= .ok u w∧VRel C w v u∧K v:=by
 unfold A0I at h
 split at h
 ·rename_i ti hti
  have ok:=hT ty ti hti
  have notarr:∀u,P.underlying ty=some u→(∀n e,u≠.array n e)→Instr.sliceAt ty y yl yh ym=Instr.sliceAt ty y yl yh ym:= λ_ _ _=>rfl
  split at h
  ·rename_i s hd
   obtain⟨u,hu,e1⟩:=ok.under
   rw[hd] at e1
   have hu':u= .string:=by cases u<;>simp[td] at e1;rfl
   subst hu'
   obtain rfl:=AI.1 ha
   obtain⟨hn,h⟩:=h
   cases mx with
   |some _=>simp at hn
   |none=>
    cases ym with
    |some _=>exact hm.elim
    |none=>
     cases hbl:Vx lo 0 with
     |none=>rw[hbl] at h;exact h.elim
     |some l=>
      rw[hbl] at h
      cases hbh:Vx hi s.size with
      |none=>rw[hbh] at h;exact h.elim
      |some hh'=>
       rw[hbh] at h
       simp only[Kn] at h
       obtain⟨hb,h⟩:=h
       have hrun:=Q7 (P:=P) (isS:=false) hl hh hm (OV s.size) hbl hbh (show Vx none s.size=some (s.size:Int) from rfl) ⟨hb.1,hb.2.1,hb.2.2,Int.le_refl _⟩ (by simp)
       refine⟨_,_,?_,.v _,h⟩
       unfold Instr.sliceAt
       rw[CI,run_underlying hu w]
       simp only[EO]
       unfold Instr.slice
       rw[CI,run_underlying hu w]
       simp only[EO,Option.isSome_none,l0z,if_false]
       rw[CI,hrun]
       rfl
  ·rename_i e esz m cs hd
   obtain⟨hu,hc⟩:=ok.elem_slice hd
   have hsz:(sizeOf e).run P w= .ok esz w:=by rw[←hc];exact BF w (by rw[hc];exact hP ty ti e esz hti (.inl hd))
   cases hbl:Vx lo 0 with
   |none=>rw[hbl] at h;exact h.elim
   |some l=>
    rw[hbl] at h
    cases hbh:Vx hi m with
    |none=>rw[hbh] at h;exact h.elim
    |some h1=>
     rw[hbh] at h
     cases hbx:Vx mx m with
     |none=>rw[hbx] at h;exact h.elim
     |some x=>
      rw[hbx] at h
      simp only[Kn] at h
      obtain⟨hb,hmh,h⟩:=h
      obtain⟨ad,cap,rfl,hcap⟩:∃ad cap,y= .slice ad m cap∧m≤cap:=by
       cases ha with
       |list0=>exact⟨_,_,rfl,l1c _⟩
       |list hcap=>exact⟨_,_,rfl,hcap⟩
      obtain⟨x',hbx',hx'⟩:∃x':Int,Vx mx cap=some x'∧h1≤x'∧x'≤cap:=by
       cases mx with
       |none=>exact⟨cap,rfl,by simp[Vx] at hbx;omega,Int.le_refl _⟩
       |some mm=>exact⟨x,hbx,by omega,by omega⟩
      have hrun:=Q7 (P:=P) (isS:=true) hl hh hm hcap hbl hbh hbx' ⟨hb.1,hb.2.1,hx'.1,hx'.2⟩ hmh
      have hrun2:(Instr.sliceAt ty (.slice ad m cap) yl yh ym).run P w= .ok (.slice (if x'.toNat=l.toNat then ad else ad.map (·.add (l.toNat*esz))) (h1.toNat-l.toNat) (x'.toNat-l.toNat)) w:=by
       unfold Instr.sliceAt
       rw[CI,run_underlying hu w]
       simp only[EO]
       unfold Instr.slice
       rw[CI,run_underlying hu w]
       simp only[EO]
       rw[CI,hrun]
       simp only[EO]
       rw[CI,hsz]
       rfl
      refine⟨_,_,hrun2,?_,h⟩
      have hlen:h1.toNat-l.toNat=(h1-l).toNat:=by omega
      rw[hlen]
      by_cases hz:(h1-l).toNat=0
      ·rw[hz];simp;exact .list0
      ·have hne:x'.toNat≠l.toNat:=by omega
       rw[if_neg hne]
       cases ha with
       |list0=>omega
       |list hcap' vs hF hcl hv=>
        simp only[l0x,I7]
        exact B4h (.list hcap' vs hF hcl hv) _ _ _ _ (by omega)
  ·rename_i e esz sz r o m hd
   obtain⟨hu,hc⟩:=ok.elem_slice hd
   have hsz:(sizeOf e).run P w= .ok esz w:=by rw[←hc];exact BF w (by rw[hc];exact hP ty ti e esz hti (.inl hd))
   obtain⟨rfl,h⟩:=h
   cases hbl:Vx lo 0 with
   |none=>rw[hbl] at h;exact h.elim
   |some l=>
    rw[hbl] at h
    cases hbh:Vx hi m with
    |none=>rw[hbh] at h;exact h.elim
    |some h1=>
     rw[hbh] at h
     cases hbx:Vx mx m with
     |none=>rw[hbx] at h;exact h.elim
     |some x=>
      rw[hbx] at h
      simp only[Kn] at h
      obtain⟨hb,hmh,h⟩:=h
      obtain⟨ad,cap,rfl,hcap⟩:∃ad cap,y= .slice ad m cap∧m≤cap:=by
       cases ha with
       |slz=>exact⟨_,_,rfl,l1c _⟩
       |sl hp hcap hbk hfit=>exact⟨_,_,rfl,hcap⟩
      obtain⟨x',hbx',hx'⟩:∃x':Int,Vx mx cap=some x'∧h1≤x'∧x'≤cap:=by
       cases mx with
       |none=>exact⟨cap,rfl,by simp[Vx] at hbx;omega,Int.le_refl _⟩
       |some mm=>exact⟨x,hbx,by omega,by omega⟩
      have hrun:=Q7 (P:=P) (isS:=true) hl hh hm hcap hbl hbh hbx' ⟨hb.1,hb.2.1,hx'.1,hx'.2⟩ hmh
      have hrun2:(Instr.sliceAt ty (.slice ad m cap) yl yh ym).run P w= .ok (.slice (if x'.toNat=l.toNat then ad else ad.map (·.add (l.toNat*esz))) (h1.toNat-l.toNat) (x'.toNat-l.toNat)) w:=by
       unfold Instr.sliceAt
       rw[CI,run_underlying hu w]
       simp only[EO]
       unfold Instr.slice
       rw[CI,run_underlying hu w]
       simp only[EO]
       rw[CI,hrun]
       simp only[EO]
       rw[CI,hsz]
       rfl
      refine⟨_,_,hrun2,?_,h⟩
      have hlen:h1.toNat-l.toNat=(h1-l).toNat:=by omega
      rw[hlen]
      by_cases hz:x'.toNat=l.toNat
      ·have h0:(h1-l).toNat=0:=by omega
       have h00:x'.toNat-l.toNat=0:=by omega
       rw[h0,h00]
       cases ha with
       |slz hr=>exact .slz hr
       |sl hp=>exact .slz (by rw[hp];simp)
      ·rw[if_neg hz]
       cases ha with
       |slz hr=>
        exact absurd (by omega) hz
       |sl hp hcap' hbk hfit=>
        simp only[l0x,I7,Xk]
        refine .sl hp (by omega) hbk ?_
        have h3:(x'.toNat-l.toNat)*esz+l.toNat*esz=x'.toNat*esz:=by rw[←l19];congr 1;omega
        have h4:x'.toNat*esz≤cap*esz:=l22 _ (by omega)
        omega
  ·rename_i e esz hd
   obtain⟨hu,hc⟩:=ok.elem_slice hd
   have hsz:(sizeOf e).run P w= .ok esz w:=by rw[←hc];exact BF w (by rw[hc];exact hP ty ti e esz hti (.inl hd))
   obtain rfl:=AI.1 ha
   cases hbl:Vx lo 0 with
   |none=>rw[hbl] at h;exact h.elim
   |some l=>
    rw[hbl] at h
    cases hbh:Vx hi 0 with
    |none=>rw[hbh] at h;exact h.elim
    |some h1=>
     rw[hbh] at h
     simp only[Kn] at h
     obtain⟨hn,⟨rfl,rfl⟩,h⟩:=h
     cases mx with
     |some _=>simp at hn
     |none=>
      cases ym with
      |some _=>exact hm.elim
      |none=>
       have hrun:=Q7 (P:=P) (isS:=true) hl hh hm (OV 0) hbl hbh (show Vx none 0=some ((0:Nat):Int) from rfl) ⟨by omega,by omega,by omega,by omega⟩ (by simp)
       refine⟨_,_,?_,.v _,h⟩
       unfold Instr.sliceAt
       rw[CI,run_underlying hu w]
       simp only[EO]
       unfold Instr.slice
       rw[CI,run_underlying hu w]
       simp only[EO]
       rw[CI,hrun]
       simp only[EO]
       rw[CI,hsz]
       rfl
  ·exact h.elim
 ·exact h.elim
theorem B4E (off:Nat) (l:List Value):∀(k:Nat) (cs:Array Value),off+k+l.length≤cs.size→(l.zipIdx k).foldl (λ(cs:Array Value) (p:Value×Nat)=>cs.setIfInBounds (off+p.2) p.1) cs=(splice cs.toList (off+k) l).toArray:=by
 induction l with
 |nil=>intro k cs _;simp[A15]
 |cons v l ih=>
  intro k cs h
  simp only[List.zipIdx_cons,List.foldl_cons]
  simp only[K9] at h
  rw[ih (k+1) _ (by simp;omega)]
  congr 1
  rw[←Zb (by simp;omega)]
  simp[Xk]
theorem A8Y (v:Value) (off:Nat) (cs:Array Value) (h:off+v.cells.size≤cs.size):v.cells.zipIdx.foldl (λ(cs:Array Value) (p:Value×Nat)=>cs.setIfInBounds (off+p.2) p.1) cs=(splice cs.toList off v.cells.toList).toArray:=by
 have:=B4E off v.cells.toList 0 cs (by simpa using h)
 rw[←Array.foldl_toList]
 simpa using this
def Q8 (place:Nat→Option (Nat×Nat)):List (Nat×AV)→List AV→Option (List AV)
 |[],cs=>some cs
 |(i,a)::rest,cs=>match place i with
  |none=>none
  |some (off,sz)=>if(B8 a).length=sz∧off+(B8 a).length≤cs.length∧(B8 a).all AV.one=true then Q8 place rest (splice cs off (B8 a)) else none
theorem Cj.splice {C:Ctx} {w:World} {cs aZ:List AV} {ys zs:List Value} {o:Nat} (h:Cj C w cs ys) (k:Cj C w aZ zs):Cj C w (splice cs o aZ) (splice ys o zs):=by
 unfold Abs.splice
 rw[k.1]
 exact((h.take o).append k).append (h.drop _)
theorem Xv {C:Ctx} {w:World} {place:Nat→Option (Nat×Nat)}:∀(ps:List (Nat×AV)) (qs:List (Nat×Value)) (cs:List AV) (ys:List Value) (r:List AV),ps.length=qs.length→(∀(j:Nat) (p:Nat×AV),ps[j]?=some p→∃z,qs[j]?=some (p.1,z)∧VRel C w p.2 z)→Cj C w cs ys→
 Q8 place ps cs=some r→∃zs:List Value,Instr.fill place ys.toArray qs=some zs.toArray∧Cj C w r zs:=by
 intro ps
 induction ps with
 |nil=>
  intro qs cs ys r hl _ hr h
  cases qs with
  |cons _ _=>simp at hl
  |nil=>simp[Q8] at h;subst h;exact⟨ys,rfl,hr⟩
 |cons p ps ih=>
  intro qs cs ys r hl hq hr h
  obtain⟨i,a⟩:=p
  cases qs with
  |nil=>simp at hl
  |cons q qs=>
   obtain⟨z,hz,hv⟩:=hq 0 (i,a) rfl
   simp at hz
   subst hz
   simp only[Q8] at h
   split at h
   ·cases h
   ·rename_i off sz hp
    split at h
    ·rename_i hc
     obtain⟨h1,h2,h3⟩:=hc
     obtain⟨hlv,hone⟩:=hv.cells h3
     have hlen:z.cells.size=(B8 a).length:=by have:=hlv.1;simpa using this
     have hys:ys.length=cs.length:=hr.1
     obtain⟨zs,hf,hrel⟩:=ih qs _ (splice ys off z.cells.toList) r (by simpa using hl) (λj p hj=>by have:=hq (j+1) p (by simpa using hj);simpa using this) (hr.splice hlv) h
     refine⟨zs,?_,hrel⟩
     simp only[Instr.fill,hp]
     have c1:¬(z.cells.size≠sz||off+z.cells.size>ys.toArray.size)=true:=by simp;omega
     rw[if_neg c1]
     rw[A8Y z off ys.toArray (by simp;omega)]
     simpa using hf
    ·cases h
def A0N (T:Ty) (ty:TypeId) (ps:List (Nat×AV)) (K:AV→Prop):Prop:=
 match T ty with
 |some i=>match i.d with
  | .struct fs=>(fs.all λf=>f.2.1 !=0)=true∧Kn (Q8 (λj=>(fs[j]?).map λf=>(f.1,f.2.1)) ps (B8 i.zero)) λcs=>K (.agg cs)
  | .array _ _ esz=>esz≠0∧Kn (Q8 (λj=>some (j*esz,esz)) ps (B8 i.zero)) λcs=>K (.agg cs)
  |_=>False
 |none=>False
theorem A3G {C:Ctx} {w:World} (z:Value) (h:∀vs,z≠.tuple vs):Cj C w (B8 (ofV z)) z.cells.toList:=by
 cases z with
 |agg cs=>simpa [ofV,B8,Value.cells] using Tg (C:=C) (w:=w) cs.toList
 |tuple vs=>exact absurd rfl (h vs)
 |_=>exact .cons (.v _) .nil
theorem A6J {P:Program} (w:World):∀(l:List Field),(l.all λf=>P.cellsOf f.type !=0)=true→(l.mapM (λf=>do pure (f.offset,←sizeOf f.type):Field→Sem (Nat×Nat))).run P w= .ok (l.map λf=>(f.offset,P.cellsOf f.type)) w:=by
 intro l
 induction l with
 |nil=>intro _;rfl
 |cons f l ih=>
  intro h
  simp only[l2j,Jm,bne_iff_ne,ne_eq] at h
  rw[List.mapM_cons]
  simp only[CI,BF w h.1,EO,Y9,ih h.2,XS]
theorem A4n {P:Program} {T:Ty} (hT:XT P T) {C:Ctx} {w:World} {ty:TypeId} {ps:List (Nat×AV)} {qs:List (Nat×Value)} {K:AV→Prop} (hlen:ps.length=qs.length)
 (hq:∀(j:Nat) (p:Nat×AV),ps[j]?=some p→∃z,qs[j]?=some (p.1,z)∧VRel C w p.2 z) (h:A0N T ty ps K):∃v u,(Instr.build ty qs.toArray).run P w= .ok u w∧VRel C w v u∧K v:=by
 unfold A0N at h
 split at h
 ·rename_i i hi
  have ok:=hT ty i hi
  obtain⟨z,hz,ez⟩:=ok.run_zero (P:=P) w
  obtain⟨u,hu,e⟩:=ok.under
  have hzc:(B8 i.zero).length=z.cells.size→Cj C w (B8 i.zero) z.cells.toList:=by
   intro _
   rw[←ez]
   cases z with
   |tuple vs=>exact .cons (.v _) .nil
   |agg cs=>exact A3G _ (by simp)
   |_=>exact .cons (.v _) .nil
  have hzl:(B8 i.zero).length=z.cells.size:=by
   rw[←ez]
   cases z<;>simp[ofV,B8,Value.cells]
  have hz0:=hzc hzl
  split at h
  ·rename_i fs hd
   obtain⟨hall,h⟩:=h
   rw[hd] at e
   cases u<;>simp[td] at e
   rename_i fields
   cases hf:Q8 (λj=>(fs[j]?).map λf=>(f.1,f.2.1)) ps (B8 i.zero) with
   |none=>rw[hf] at h;exact h.elim
   |some r=>
    rw[hf] at h
    obtain⟨zs,h1,h2⟩:=Xv (C:=C) (w:=w) ps qs _ _ r hlen hq hz0 hf
    refine⟨.agg r,.agg zs.toArray,?_,ER.2 ⟨zs,rfl,h2⟩,h⟩
    have hm:=A6J (P:=P) w fields.toList (by
     rw[←e] at hall
     simpa [List.all_map,l1t] using hall)
    have hm':(fields.mapM (λf=>do pure (f.offset,←sizeOf f.type):Field→Sem (Nat×Nat))).run P w= .ok (fields.toList.map λf=>(f.offset,P.cellsOf f.type)).toArray w:=by
     rw[Array.mapM_eq_mapM_toList,Sem.run_map,hm]
     rfl
    have hpl:(λ(j:Nat)=>((fields.toList.map λf=>(f.offset,P.cellsOf f.type)).toArray)[j]?)=(λ(j:Nat)=>(fs[j]?).map λ(f:Nat×Nat×TypeId)=>(f.1,f.2.1)):=by
     funext j
     rw[←e]
     simp[l0a,l1t]
    unfold Instr.build
    rw[CI,hz]
    simp only[EO]
    rw[CI,run_underlying hu w]
    simp only[EO]
    rw[CI,hm']
    simp only[EO]
    rw[hpl]
    simp only[Array.toArray_toList] at h1
    simp[h1]
  ·rename_i n el esz hd
   obtain⟨hne,h⟩:=h
   obtain⟨hu',hc⟩:=ok.elem_array hd
   have hsz:(sizeOf el).run P w= .ok esz w:=by rw[←hc];exact BF w (by rw[hc];exact hne)
   cases hf:Q8 (λj=>some (j*esz,esz)) ps (B8 i.zero) with
   |none=>rw[hf] at h;exact h.elim
   |some r=>
    rw[hf] at h
    obtain⟨zs,h1,h2⟩:=Xv (C:=C) (w:=w) ps qs _ _ r hlen hq hz0 hf
    refine⟨.agg r,.agg zs.toArray,?_,ER.2 ⟨zs,rfl,h2⟩,h⟩
    simp only[Array.toArray_toList] at h1
    unfold Instr.build
    rw[CI,hz]
    simp only[EO]
    rw[CI,run_underlying hu' w]
    simp only[EO]
    rw[CI,hsz]
    simp[h1]
  ·exact h.elim
 ·exact h.elim
def B2z (T:Ty) (ty:TypeId) (a:AV) (K:AV→Prop):Prop:=
 match T ty with
 |some i=>match i.d,a with
  | .string,.v (.string s)=>K (.v (.int .i64 s.size))
  | .slice ..,.list n _=>K (.v (.int .i64 n))
  | .slice ..,.sl _ _ _ n=>K (.v (.int .i64 n))
  | .slice ..,.v (.slice none 0 0)=>K (.v (.int .i64 0))
  | .array n _ _,_=>K (.v (.int .i64 n))
  |_,_=>False
 |none=>False
theorem A7W {P:Program} {T:Ty} (hT:XT P T) {C:Ctx} {w:World} {ty rt:TypeId} {ts:Array TypeId} {a:AV} {y:Value} {K:AV→Prop} (hty:ts[0]?=some ty) (ha:VRel C w a y) (h:B2z T ty a K):∃v u,(Builtin.len_ ts rt #[y]).run P w= .ok u w∧VRel C w v u∧K v:=by
 unfold B2z at h
 split at h
 ·rename_i i hi
  have ok:=hT ty i hi
  obtain⟨u,hu,e⟩:=ok.under
  split at h
  ·rename_i s hd
   obtain rfl:=AI.1 ha
   rw[hd] at e
   cases u<;>simp[td] at e
   exact⟨_,_,by simp[Builtin.len_,hty,run_underlying hu];rfl,.v _,h⟩
  ·rename_i hd
   rw[hd] at e
   cases u<;>simp[td] at e
   cases ha with
   |list0=>exact⟨_,_,by simp[Builtin.len_,hty,run_underlying hu];rfl,.v _,h⟩
   |list=>exact⟨_,_,by simp[Builtin.len_,hty,run_underlying hu];rfl,.v _,h⟩
  ·rename_i hd
   rw[hd] at e
   cases u<;>simp[td] at e
   cases ha with
   |slz=>exact⟨_,_,by simp[Builtin.len_,hty,run_underlying hu];rfl,.v _,h⟩
   |sl=>exact⟨_,_,by simp[Builtin.len_,hty,run_underlying hu];rfl,.v _,h⟩
  ·rename_i hd
   obtain rfl:=AI.1 ha
   rw[hd] at e
   cases u<;>simp[td] at e
   exact⟨_,_,by simp[Builtin.len_,hty,run_underlying hu];rfl,.v _,h⟩
  ·rename_i hd
   rw[hd] at e
   cases u<;>simp[td] at e
   obtain⟨rfl,_⟩:=e
   exact⟨_,_,by simp[Builtin.len_,hty,run_underlying hu];rfl,.v _,h⟩
  ·exact h.elim
 ·exact h.elim
def J9 (G:Gl) (w0:Base) (C:Ctx) (w:World) (v:AV) (H:Hp) (y:Value) (C':Ctx) (w':World):Prop:=VRel C' w' v y∧Rel G w0 C' H w'∧Ext w0.own C w C' w'
theorem Wq (w:World) (o:Obj):Below w.heap.size w {w with heap:=w.heap.push o}:=
 ⟨rfl,rfl,rfl,by simp,λk hk=>by simp[l27,Nat.ne_of_lt hk]⟩
theorem A7s (w:World) (B:Nat):Below B w {w with drawn:=w.drawn+1}:=⟨rfl,rfl,rfl,OV _,λ_ _=>rfl⟩
section
variable {P:Program} {G:Gl} {w0:Base} {w:World} {C:Ctx} {H:Hp}
theorem B06 (hr:Rel G w0 C H w) (T:TypeId) {cs:List AV} {arr:Array Value} (hv:Cj C w cs arr.toList):
 J9 G w0 C w (.ptr (A2 H) 0 0) ((A2 H,.cells true T cs)::H) (.pointer (some ⟨w.heap.size,0,none⟩)) (C.put (A2 H) (some (w.heap.size,0))) {w with heap:=w.heap.push (.cells arr T)}:=by
 have hb:=Wq w (.cells arr T)
 have hlen:arr.size=cs.length:=by simpa using hv.1
 refine⟨?_,hr.new (q:=true) hb (arr:=arr) (fz:=(0,0)) (by simp) (λi _=>by omega) (by omega) (by rw[l1z (by simp;omega)];exact hv) (λ_=>hlen),hr.new_ext hb⟩
 have:VRel (C.put (A2 H) (some (w.heap.size,0))) {w with heap:=w.heap.push (.cells arr T)} (.ptr (A2 H) 0 0) (.pointer (some ⟨w.heap.size,0+(0+0),none⟩)):= .ptr (C.put_n _ _)
 simpa using this
theorem Vr (hr:Rel G w0 C H w) {w':World} (hb:Below w.heap.size w w') (T:TypeId) {cs:List AV} {arr:Array Value} {fz:Nat×Nat} (hk:w'.heap[w.heap.size]?=some (.cells arr T fz)) (QO:∀i,i<arr.size→¬(fz.1≤i∧i<fz.2))
 (sz n cap:Nat) (hcap:n≤cap) (hsz:cap*sz≤arr.size) (hfit:cs.length≤arr.size) (hv:Cj (C.sel false) w cs (arr.toList.take cs.length)):
 J9 G w0 C w (.sl sz (A2 H) 0 n) ((A2 H,.cells false T cs)::H) (.slice (some ⟨w.heap.size,0,none⟩) n cap) (C.put (A2 H) (some (w.heap.size,0))) w':=by
 refine⟨?_,hr.new (q:=false) hb hk QO hfit hv (λh=>by cases h),hr.new_ext hb⟩
 have:VRel (C.put (A2 H) (some (w.heap.size,0))) w' (.sl sz (A2 H) 0 n) (.slice (some ⟨w.heap.size,0+0,none⟩) n cap):= .sl (C.put_n _ _) hcap hk (by omega)
 simpa using this
def A0Q (T:Ty) (ty:TypeId) (H:Hp) (r:Nat) (K:AV→Hp→Prop):Prop:=
 match T ty with
 |some i=>K (.ptr r 0 0) ((r,.cells true ty (B8 i.zero))::H)
 |none=>False
theorem Nh {t:TypeId} {i:TI} {z:Value} (ez:ofV z=i.zero):Cj C w (B8 i.zero) z.cells.toList:=by
 rw[←ez]
 cases z with
 |agg cs=>exact A3G _ (by simp)
 |_=>exact .cons (.v _) .nil
theorem A4o {T:Ty} (hT:XT P T) {ty:TypeId} {K:AV→Hp→Prop} (hr:Rel G w0 C H w) (h:A0Q T ty H (A2 H) K):∃v H' y C' w',K v H'∧(Instr.alloc ty true (.tuple #[])).run P w= .ok y w'∧J9 G w0 C w v H' y C' w':=by
 unfold A0Q at h
 split at h
 ·rename_i i hi
  obtain⟨z,hz,ez⟩:=(hT ty i hi).run_zero (P:=P) w
  refine⟨_,_,_,_,_,h,?_,B06 hr ty (Nh (t:=ty) ez)⟩
  simp[Instr.alloc,hz,newVar,newRow]
 ·exact h.elim
def B9s (ty:TypeId) (a:AV) (H:Hp) (r:Nat) (K:AV→Hp→Prop):Prop:=(B8 a).all AV.one=true∧K (.ptr r 0 0) ((r,.cells true ty (B8 a))::H)
theorem A7X {ty:TypeId} {a:AV} {y:Value} {K:AV→Hp→Prop} (hr:Rel G w0 C H w) (ha:VRel C w a y) (h:B9s ty a H (A2 H) K):∃v H' z C' w',K v H'∧(Instr.box ty y).run P w= .ok z w'∧J9 G w0 C w v H' z C' w':=by
 obtain⟨h1,h⟩:=h
 refine⟨_,_,_,_,_,h,?_,B06 hr ty (ha.cells h1).1⟩
 simp[Instr.box,newVar,newRow]
def Uk:Nat→List AV→List AV
 |0,_=>[]
 |n+1,z=>z++Uk n z
theorem Wz (z:Array Value):∀n,(Array.range (n*z.size)).map (λi=>z[i%z.size]!)=((List.range n).flatMap λ_=>z.toList).toArray:=by
 intro n
 apply l0c
 simp only[Array.toList_map,Array.toList_range]
 induction n with
 |zero=>simp
 |succ n ih=>
  rw[List.range_succ,l2g,←ih,Nat.succ_mul,List.range_add,Zl]
  congr 1
  simp only[List.map_map,l00,List.flatMap_nil,XR]
  apply l0o
  intro j
  by_cases hj:j<z.size
  ·simp[hj,Nat.mod_eq_of_lt hj]
  ·simp[hj]
theorem XA9 (z:List AV):∀n,Uk n z=(List.range n).flatMap λ_=>z:=by
 intro n
 induction n with
 |zero=>rfl
 |succ n ih=>rw[List.range_succ_eq_map];simp[Uk,ih,List.flatMap_map]
theorem Vs {cs:List AV} {zs:List Value} (h:Cj C w cs zs):∀n,Cj C w ((List.range n).flatMap λ_=>cs) ((List.range n).flatMap λ_=>zs):=by
 intro n
 induction n with
 |zero=>exact .nil
 |succ n ih=>
  rw[List.range_succ,l2g,l2g]
  refine ih.append ?_
  simpa using h
theorem Uj (z:List AV):∀n,(Uk n z).length=n*z.length:=by
 intro n
 induction n with
 |zero=>simp[Uk]
 |succ n ih=>simp[Uk,ih,Nat.succ_mul,Nat.add_comm]
theorem XK {place:Nat→Option (Nat×Nat)}:∀(ps:List (Nat×AV)) (cs r:List AV),Q8 place ps cs=some r→r.length=cs.length:=by
 intro ps
 induction ps with
 |nil=>intro cs r h;simp[Q8] at h;subst h;rfl
 |cons p ps ih=>
  intro cs r h
  obtain⟨i,a⟩:=p
  simp only[Q8] at h
  split at h
  ·cases h
  ·split at h
   ·rename_i hc
    rw[ih _ _ h,EN hc.2.1]
   ·cases h
def WB (T:Ty) (ty:TypeId) (n:Nat) (ps:List (Nat×AV)) (H:Hp) (r:Nat) (K:AV→Hp→Prop):Prop:=
 match T ty with
 |some i=>match i.d with
  | .slice e esz=>match T e with
   |some ie=>esz≠0∧(B8 ie.zero).length=esz∧n*esz≤2^24∧Kn (Q8 (λj=>some (j*esz,esz)) ps (Uk n (B8 ie.zero))) λcs=>K (.sl esz r 0 n) ((r,.cells false e cs)::H)
   |none=>False
  |_=>False
 |none=>False
theorem A2E {T:Ty} (hT:XT P T) {ty:TypeId} {n:Nat} {ps:List (Nat×AV)} {qs:List (Nat×Value)} {K:AV→Hp→Prop} (hlen:ps.length=qs.length)
 (hq:∀(j:Nat) (p:Nat×AV),ps[j]?=some p→∃z,qs[j]?=some (p.1,z)∧VRel C w p.2 z) (hr:Rel G w0 C H w) (h:WB T ty n ps H (A2 H) K):
 ∃v H' y C' w',K v H'∧(Instr.buildSlice ty n qs.toArray).run P w= .ok y w'∧J9 G w0 C w v H' y C' w':=by
 unfold WB at h
 split at h
 ·rename_i i hi
  have ok:=hT ty i hi
  split at h
  ·rename_i e esz hd
   split at h
   ·rename_i ie hie
    obtain⟨hne,hzl,hbig,h⟩:=h
    obtain⟨hu,hc⟩:=ok.elem_slice hd
    have oke:=hT e ie hie
    obtain⟨z,hz,ez⟩:=oke.run_zero (P:=P) w
    have hsz:(sizeOf e).run P w= .ok esz w:=by rw[←hc];exact BF w (by rw[hc];exact hne)
    have hz0:Cj C w (B8 ie.zero) z.cells.toList:=Nh (t:=e) ez
    have hzs:z.cells.size=esz:=by have:=hz0.1;simp at this;omega
    cases hf:Q8 (λj=>some (j*esz,esz)) ps (Uk n (B8 ie.zero)) with
    |none=>rw[hf] at h;exact h.elim
    |some r=>
     rw[hf] at h
     have hzz:Cj C w (Uk n (B8 ie.zero)) ((List.range n).flatMap λ_=>z.cells.toList):=by rw[XA9];exact Vs hz0 n
     obtain⟨zs,h1,h2⟩:=Xv (C:=C) (w:=w) ps qs _ _ r hlen hq hzz hf
     have hbig':¬(n*esz>2^24):=by omega
     have hrl:zs.length=n*esz:=by rw[h2.1,XK _ _ _ hf,Uj,hzl]
     have h2q:Cj (C.sel false) w r zs:=h2
     have key:=Vr hr (Wq w (.cells zs.toArray e)) e (cs:=r) (arr:=zs.toArray) (fz:=(0,0)) (by simp) (λi _=>by omega) esz n n (OV _) (by simp[hrl]) (by simp;exact Nat.le_of_eq h2.1.symm) (by rw[l1z (by simp;exact Nat.le_of_eq h2.1)];simpa using h2q)
     refine⟨_,_,_,_,_,h,?_,key⟩
     unfold Instr.buildSlice
     rw[CI,run_underlying hu w]
     simp only[EO]
     rw[CI,hsz]
     simp only[EO,if_neg hbig',pure_bind]
     by_cases h0:n*esz=0
     ·have hn0:n=0:=by rcases Nat.mul_eq_zero.1 h0 with h|h;exact h;exact absurd h hne
      subst hn0
      rw[if_pos h0]
      simp only[List.range_zero,List.flatMap_nil] at h1
      rw[show(Array.map (λx=>(#[]:Array Value)[x%(#[]:Array Value).size]!) (Array.range (0*esz)))= #[] from by rw[Nat.zero_mul];apply l0c;simp,h1]
      simp[newRow]
     ·rw[if_neg h0,CI,hz]
      simp only[EO]
      have:=Wz z.cells n
      rw[hzs] at this⊢
      rw[this,h1]
      simp[newRow]
   ·exact h.elim
  ·exact h.elim
 ·exact h.elim
end
def A9v (H:Hp) (x:AV):Option (Nat×List AV×Bool):=
 match x with
 | .list m cs=>some (m,cs,true)
 | .sl sz r o m=>match Aq H r with
  |some (.cells q _ cs)=>some (m,(cs.drop o).take (m*sz),q)
  |_=>none
 | .v (.slice none 0 0)=>some (0,[],true)
 | .v (.string s)=>some (s.size,s.data.toList.map λb=> .v (.int .u8 b.toNat),true)
 |_=>none
section
variable {P:Program} {G:Gl} {w0:Base} {w:World} {C:Ctx} {H:Hp}
theorem Wr {x:AV} {y:Value} {m:Nat} {ys:List AV} {q:Bool} {esz:Nat} (hr:Rel G w0 C H w) (hx:VRel C w x y) (h:A9v H x=some (m,ys,q)) (hl:ys.length=m*esz) (hs:∀s,x= .v (.string s)→esz=1):
 (Builtin.lenOf y).run P w= .ok m w∧∃vs:List Value,Cj (C.sel q) w ys vs∧∀W:World,(∀k,k<w.heap.size→W.heap[k]?=w.heap[k]?)→(Builtin.firstCells esz m y).run P W= .ok vs.toArray W:=by
 have mem:∀(D:Ctx) (b o:Nat) (cs:List AV),Lg D w b o cs→cs.length=m*esz→(0<cs.length→b<w.heap.size)→∃vs:List Value,Cj D w cs vs∧∀W:World,(∀k,k<w.heap.size→W.heap[k]?=w.heap[k]?)→(loadCells ⟨b,o,none⟩ (m*esz)).run P W= .ok vs.toArray W:=by
  intro D b o cs hc hlen hb
  obtain⟨vs,h1,h2⟩:=hc
  refine⟨vs,h1,λW hW=> ?_⟩
  have hvl:vs.length=m*esz:=by rw[h1.1,hlen]
  have:=run_loadCells_list (P:=P) W ⟨b,o,none⟩ vs (λj v hv=>by
   rw[I7]
   have hj:j<vs.length:=(l0j.1 hv).1
   rw[l0s (w:=w) (hW b (hb (by rw[←h1.1];omega)))]
   exact h2 j v hv)
  rwa[hvl] at this
 unfold A9v at h
 split at h
 ·rename_i m' cs
  injection h with h;injection h with e1 e2;injection e2 with e2 e3;subst e1 e2 e3
  cases hx with
  |list0=>
   refine⟨rfl,[],.nil,λW _=> ?_⟩
   rename_i a cap
   cases a with
   |none=>rfl
   |some ad=>simp[Builtin.firstCells,loadCells,loadCellsFrom]
  |list hcap vs hF hcl hv=>
   rename_i cap b o
   obtain⟨vs',h1,h2⟩:=mem C.bare b o cs (A2m vs hcl hv) hl (λhp=>hr.fin b _ (hF 0 hp))
   exact⟨rfl,vs',(h1.up rfl rfl),λW hW=>h2 W hW⟩
 ·rename_i sz r o m'
  split at h
  ·rename_i q' E cs hlk
   injection h with h;injection h with e1 e2;injection e2 with e2 e3;subst e1 e2 e3
   cases hx with
   |slz hrn=>
    have:((cs.drop o).take (0*sz))=[]:=by simp
    rw[this]
    rename_i a
    refine⟨rfl,[],.nil,λW _=> ?_⟩
    cases a with
    |none=>rfl
    |some ad=>simp[Builtin.firstCells,loadCells,loadCellsFrom]
   |sl hp hcap hbk hfit=>
    rcases hr.rows r _ hlk with⟨h5,h6⟩|⟨b',base',arr',fz',hd⟩
    ·rw[h6] at hp;cases hp
    ·have e:=hd.at_.symm.trans hp
     injection e with e;injection e with e;injection e with e1 e2;subst e1 e2
     obtain⟨vs',h1,h2⟩:=mem (C.sel q') b' (base'+o) _ ((hd.atq.drop o).take (m'*sz)) hl (λ_=>hd.lt)
     exact⟨rfl,vs',h1,λW hW=>h2 W hW⟩
  ·cases h
 ·injection h with h;injection h with e1 e2;injection e2 with e2 e3;subst e1 e2 e3
  obtain rfl:=AI.1 hx
  exact⟨rfl,[],.nil,λW _=>rfl⟩
 ·rename_i s
  injection h with h;injection h with e1 e2;injection e2 with e2 e3;subst e1 e2 e3
  obtain rfl:=AI.1 hx
  have:=hs s rfl
  subst this
  refine⟨rfl,s.data.toList.map λb=> .int .u8 b.toNat,?_,λW _=> ?_⟩
  ·have:=Tg (C:=C.sel true) (w:=w) (s.data.toList.map λb=>Value.int .u8 b.toNat)
   simpa [l1t] using this
  ·simp only[Builtin.firstCells,Y9]
   congr 1
   have:s.extract 0 s.size=s:=by
    apply ByteArray.ext;simp
   rw[this]
   obtain⟨⟨l⟩⟩:=s
   simp only[List.map_toArray]
 ·cases h
theorem A3c {q q':Bool} {aZ:List AV} {ys:List Value} (h:Cj (C.sel q) w aZ ys):Cj (C.sel q') w aZ ys:=h
theorem A1O {q q':Bool} {aZ:List AV} {ys:List Value} (h:Cj (C.sel q') w aZ ys):Cj (C.sel q) w aZ ys:=h
theorem Rel.virtual (hr:Rel G w0 C H w) (q:Bool) (E:TypeId):Rel G w0 (C.put (A2 H) none) ((A2 H,.cells q E [])::H) w:=by
 have hfr:C.π (A2 H)=none:=hr.nx _ (OV _)
 have e:Ext w0.own C w (C.put (A2 H) none) w:=Ctx.put_ext hfr (.refl _ _ _)
 refine⟨hr.glob,hr.below,?_,?_,?_,?_,hr.fin,hr.finB,?_⟩
 ·intro r x hx
  simp only[Aq] at hx
  split at hx
  ·rename_i h;subst h;rw[C.put_n];simp
  ·rw[e.π r (hr.lt r x hx)];exact hr.lt r x hx
 ·intro r x hx
  simp only[Aq] at hx
  split at hx
  ·rename_i h;subst h
   injection hx with hx;subst hx
   exact Or.inl ⟨rfl,C.put_n _ none⟩
  ·exact(hr.rows r x hx).mono e (λ_ _ _=>rfl)
 ·intro r x b o hx hp
  simp only[Aq] at hx
  split at hx
  ·rename_i h;subst h;rw[C.put_n] at hp;cases hp
  ·rename_i h;rw[C.put_ne _ h] at hp;exact hr.own r x b o hx hp
 ·intro r r' x x' b o o' hx hx' hp hp'
  simp only[Aq] at hx hx'
  split at hx
  ·rename_i h;subst h;rw[C.put_n] at hp;cases hp
  ·rename_i h1
   split at hx'
   ·rename_i h;subst h;rw[C.put_n] at hp';cases hp'
   ·rename_i h2
    rw[C.put_ne _ h1] at hp
    rw[C.put_ne _ h2] at hp'
    exact hr.sep r r' x x' b o o' hx hx' hp hp'
 ·intro r h
  have h:A2 H+1≤r:=h
  rw[C.put_ne _ (by omega)];exact hr.nx r (by omega)
theorem Rel.extend (hr:Rel G w0 C H w) {w':World} {r1:Nat} {q q':Bool} {E:TypeId} {cs aZ:List AV} {b base o:Nat} {arr:Array Value} {fz:Nat×Nat} {ys:List Value} (hl:Aq H r1=some (.cells q E cs)) (hd:Laid C w r1 q E cs b base arr fz) (ho:o≤cs.length)
 (hv:Cj (C.sel q') w aZ ys) (hfit:base+cs.length+aZ.length≤arr.size) (hs:SameBut w w' b E (splice arr.toList (base+cs.length) ys).toArray fz):
 Rel G w0 (C.put (A2 H) (some (b,base+o))) ((A2 H,.cells false E (cs.drop o++aZ))::cut H r1) w'∧Ext w0.own C w (C.put (A2 H) (some (b,base+o))) w':=by
 have hfr:C.π (A2 H)=none:=hr.nx _ (OV _)
 have hown:=hr.own r1 _ b base hl hd.at_
 have hyl:ys.length=aZ.length:=hv.1
 have hsz:(splice arr.toList (base+cs.length) ys).toArray.size=arr.size:=by
  simp only[List.size_toArray]
  rw[EN (by simp;omega)];simp
 have e0:Ext w0.own C w C w':=hs.ext hd.block hsz hown.2.1 hown.2.2
 have e:Ext w0.own C w (C.put (A2 H) (some (b,base+o))) w':=Ctx.put_ext hfr e0
 have hsub:∀s x,Aq (cut H r1) s=some x→s≠r1∧Aq H s=some x:= λs x hx=>by
  by_cases hs:s=r1
  ·subst hs;rw[KO] at hx;cases hx
  ·rw[Ol hs] at hx;exact⟨hs,hx⟩
 refine⟨⟨hr.glob.mono e,?_,?_,?_,?_,?_,λk i hF=>hs.size▸hr.fin k i hF,λk hB=>hs.size▸hr.finB k hB,λk hk=>by
  have hk:A2 H+1≤k:=hk
  rw[C.put_ne _ (by omega)];exact hr.nx k (by omega)⟩,e⟩
 ·exact hr.below.same hs hown.1
 ·intro s x hx
  simp only[Aq] at hx
  split at hx
  ·rename_i h;subst h;rw[C.put_n];simp
  ·rw[e.π s (hr.lt s x (hsub s x hx).2)];exact hr.lt s x (hsub s x hx).2
 ·intro s x hx
  simp only[Aq] at hx
  split at hx
  ·rename_i h;subst h
   injection hx with hx;subst hx
   refine Or.inr ⟨b,base+o,_,fz,C.put_n _ _,hs.here,by rw[hsz];exact hd.free,by rw[hsz];simp;omega,?_,λh=>by cases h⟩
   have hall:Cj ((C.put (A2 H) (some (b,base+o))).sel false) w' cs _:=hd.vals.mono (e.sel q)
   have hv':Cj ((C.put (A2 H) (some (b,base+o))).sel false) w' aZ ys:=hv.mono (e.sel q')
   have hsp:((splice arr.toList (base+cs.length) ys).drop (base+o)).take (cs.drop o++aZ).length=((arr.toList.drop base).take cs.length).drop o++ys:=by
    apply l0o
    intro j
    simp only[Fl,l0t]
    rw[l0m]
    by_cases hj:j<cs.length-o+aZ.length
    ·rw[if_pos hj,l0d,Nk (by simp;omega)]
     by_cases h1:j<cs.length-o
     ·rw[if_pos (by omega),l0l (by simp;omega),l0d,l0m,if_pos (by omega),l0d]
      congr 1;omega
     ·rw[if_neg (by omega),if_pos (by omega),l0n (by simp;omega)]
      congr 1
      simp;omega
    ·rw[if_neg hj]
     symm
     rw[List.getElem?_eq_none_iff]
     simp;omega
   simp only[]
   rw[hsp]
   exact(hall.drop o).append hv'
  ·refine(hr.rows s x (hsub s x hx).2).mono e (λk base' hp=>hs.others k (λek=> ?_))
   subst ek
   exact(hsub s x hx).1 (hr.sep s r1 x _ _ _ _ (hsub s x hx).2 hl hp hd.at_)
 ·intro s x k o' hx hp
  simp only[Aq] at hx
  split at hx
  ·rename_i h;subst h
   rw[C.put_n] at hp
   injection hp with hp;injection hp with hp;injection hp with e1 e2;subst e1
   exact hown
  ·rename_i hne;rw[C.put_ne _ hne] at hp;exact hr.own s x k o' (hsub s x hx).2 hp
 ·intro s s' x x' k o1 o2 hx hx' hp hp'
  simp only[Aq] at hx hx'
  split at hx
  ·rename_i h;subst h
   rw[C.put_n] at hp
   injection hp with hp;injection hp with hp;injection hp with e1 e2;subst e1
   split at hx'
   ·rename_i h;exact h.symm
   ·rename_i hne
    rw[C.put_ne _ hne] at hp'
    exact absurd (hr.sep s' r1 x' _ _ _ _ (hsub s' x' hx').2 hl hp' hd.at_) (hsub s' x' hx').1
  ·rename_i hne
   split at hx'
   ·rename_i h;subst h
    rw[C.put_n] at hp'
    injection hp' with hp';injection hp' with hp';injection hp' with e1 e2;subst e1
    rw[C.put_ne _ hne] at hp
    exact absurd (hr.sep s r1 x _ _ _ _ (hsub s x hx).2 hl hp hd.at_) (hsub s x hx).1
   ·rename_i hne'
    rw[C.put_ne _ hne] at hp
    rw[C.put_ne _ hne'] at hp'
    exact hr.sep s s' x x' k o1 o2 (hsub s x hx).2 (hsub s' x' hx').2 hp hp'
end
def WC (T:Ty) (t1 t2:TypeId) (s x:AV) (H:Hp) (r:Nat) (K:AV→Hp→Prop):Prop:=
 match T t1,T t2 with
 |some i1,some i2=>match i1.d with
  | .slice e esz=>match T e with
   |some ie=>(esz≠0∧(B8 ie.zero).length=esz∧(match i2.d with| .slice .. =>True| .string=>True|_=>False)∧(match x with| .v (.string _)=>esz=1|_=>True))∧Kn (A9v H x) λp=>
    (p.2.1.length=p.1*esz∧p.2.1.all AV.one=true)∧(match s with
     | .v (.slice none 0 0)=>(p.1*ie.bytes≤2^46∧p.1≤2^46)∧K (.sl esz r 0 p.1) ((r,.cells false e p.2.1)::H)
     | .sl sz r1 o n=>match Aq H r1 with
      |some (.cells q E cs)=>(E=e∧sz=esz∧o+n*esz=cs.length∧(n+p.1)*ie.bytes≤2^46∧n+p.1≤2^46)∧K (.sl esz r 0 (n+p.1)) ((r,.cells false e (cs.drop o++p.2.1))::cut H r1)
      |_=>False
     |_=>False)
   |none=>False
  |_=>False
 |_,_=>False
section
variable {P:Program} {G:Gl} {w0:Base} {w:World} {C:Ctx} {H:Hp}
theorem B1z (newLen:Nat):∀(rounds c:Nat),c<newLen→Builtin.growBy newLen rounds c≤newLen+(newLen+768)/4:=by
 intro rounds
 induction rounds with
 |zero=>intro c h;simp[Builtin.growBy];omega
 |succ n ih=>
  intro c h
  simp only[Builtin.growBy]
  rw[if_neg (by omega)]
  by_cases h2:c+(c+768)/4<newLen
  ·exact ih _ h2
  ·cases n with
   |zero=>simp[Builtin.growBy];omega
   |succ n=>simp only[Builtin.growBy];rw[if_pos (by omega)];omega
theorem A8E (need old:Nat) (h:old<need):Builtin.nextslicecap need old≤2*need:=by
 unfold Builtin.nextslicecap
 split
 ·omega
 ·split
  ·omega
  ·have:=B1z need 4 old h
   omega
theorem Zx {t1 t2 e:TypeId} {inf:TypeInfo} {z:Value} {esz:Nat} {u2:TypeDesc} (hu:P.underlying t1=some (.slice e)) (hinf:P.info? e=some inf) (hsz:inf.size=esz) (hz:inf.zero=some z) (hzs:z.cells.size=esz)
 (hu2:P.underlying t2=some u2) (hnz:(∃e2,u2= .slice e2)∨u2= .string) {ts:Array TypeId} (h1:ts[0]?=some t1) (h2:ts[1]?=some t2) {ty:TypeId} {base:Option Addr} {n cap m:Nat} {y:Value} (hlen:(Builtin.lenOf y).run P w= .ok m w)
 (hcap:cap<n+m) (hb1:(n+m)*inf.bytes≤2^46) (hb2:n+m≤2^46) {old new:List Value}
 (hold:(Builtin.firstCells esz n (.slice base n cap)).run P {w with drawn:=w.drawn+1}= .ok old.toArray {w with drawn:=w.drawn+1})
 (hnew:(Builtin.firstCells esz m y).run P {w with drawn:=w.drawn+1}= .ok new.toArray {w with drawn:=w.drawn+1}) (hol:old.length=n*esz) (hnl:new.length=m*esz):
 ∃(c:Nat) (arr:Array Value) (w':World),n+m≤c∧(Builtin.append_ ts ty #[.slice base n cap,y]).run P w= .ok (.slice (some ⟨w.heap.size,0,none⟩) (n+m) c) w'∧Below w.heap.size w w'∧w'.heap[w.heap.size]?=some (.cells arr e (0,0))∧arr.toList.take (old++new).length=old++new∧arr.size=c*esz:=by
 have hnext:=A8E (n+m) cap hcap
 have hbig:¬(Builtin.nextslicecap (n+m) cap*inf.bytes>2^48):=by
  have:=l22 inf.bytes hnext
  rw[Nat.mul_assoc] at this
  omega
 let q:Question:= .appendCap (n+m) cap e
 let c:=q.cut (w.tape w.drawn q)
 have hc:n+m≤c:=by show n+m≤n+m+_;omega
 refine⟨c,old.toArray++new.toArray++Builtin.zeroCells z.cells (c-(n+m)),{ {w with drawn:=w.drawn+1} with heap:=w.heap.push (.cells (old.toArray++new.toArray++Builtin.zeroCells z.cells (c-(n+m))) e)},hc,?_,?_,by simp,?_,?_⟩
 ·have hge:¬(n+m≤cap):=by omega
  have hmax:IntKind.i64.max=9223372036854775807:=by decide
  have hsize:(sizeOf e).run P w= .ok esz w:=by simp[sizeOf,typeInfo,hinf,hsz]
  have hti:∀W:World,(typeInfo e).run P W= .ok inf W:= λW=>by simp[typeInfo,hinf]
  have hzv:∀W:World,(zeroValue e).run P W= .ok z W:= λW=>by simp[zeroValue,typeInfo,hinf,hz]
  have hcond:¬(((n+m:Nat):Int)>IntKind.i64.max∧(false=true∨inf.bytes=0)):=by rw[hmax];omega
  rcases hnz with⟨e2,rfl⟩|rfl
  all_goals
   unfold Builtin.append_
   simp only[h1,h2,l10,l1w,l0q]
   rw[CI,run_underlying hu w]
   simp only[EO]
   rw[CI,hsize]
   simp only[EO]
   rw[CI,run_underlying hu2 w]
   simp only[EO]
   rw[CI,Y9]
   simp only[EO,l0z,if_false]
   rw[CI,hlen]
   simp only[EO,if_neg hge]
   rw[CI,hti]
   simp only[EO]
   rw[if_neg (by simpa using hcond),CI,hti]
   simp only[EO,if_neg hbig]
   rw[CI,run_choose,if_neg (by simp[Question.forced])]
   simp only[EO]
   rw[CI,hti]
   simp only[EO]
   rw[CI,run_askRoom]
   simp only[EO]
   rw[CI,hold]
   simp only[EO,Bool.not_false,if_true]
   rw[CI,hnew]
   simp only[EO]
   rw[CI,hzv]
   simp only[EO]
   simp only[newRow,CI,run_newObj,EO,Y9]
   rfl
 ·refine⟨rfl,rfl,rfl,by simp,λk hk=>by simp[l27,Nat.ne_of_lt hk]⟩
 ·simp only[Array.toList_append,l0k]
  rw[←l0k]
  exact List.take_left
 ·simp[Builtin.zeroCells,hzs,hol,hnl]
  rw[←l19,←l19]
  congr 1;omega
end
end Go.Abs
end
