import Derived.ChangeKeysEq
import Derived.Laws.StructEq
import Derived.Laws.BytesString
import Derived.Laws.MakeOwn
import Derived.Test.YtlbhdmbfdcohhaaGreatDoorR05
set_option linter.all false
set_option maxHeartbeats 100000000
noncomputable section
namespace Go.Abs
open Go.RowKit
def LK.fit:LK→Value→Bool
 | .int k,.int k' _=>decide (k'=k)
 | .str,.string _=>true
 | .bool,.bool _=>true
 |_,_=>false
def fits:List LK→List Value→Bool
 |[],[]=>true
 |k::ks,v::vs=>k.fit v&&fits ks vs
 |_,_=>false
def Rm (ag:Bool) (vs:List Value):Value:=match ag with|true=> .agg vs.toArray|false=>vs.headD undef
def K1 (P:Program) (rec:TypeId→Option (Bool×List LK)):Nat→List Field→Option (List LK)
 |_,[]=>some []
 |off,f::fs=>match rec f.type with
  |some (_,ks)=>if f.name != "_" &&(Nat.beq f.offset off&&(Nat.beq (P.cellsOf f.type) ks.length&& !Nat.beq ks.length 0)) then(K1 P rec (off+ks.length) fs).map (ks++ ·) else none
  |none=>none
def leaves (P:Program):Nat→TypeId→Option (Bool×List LK)
 |0,_=>none
 |d+1,t=>match P.underlying t with
  |some (.int k)=>some (false,[.int k])
  |some .string=>some (false,[.str])
  |some .bool=>some (false,[.bool])
  |some (.struct fs)=>if P.stoodInHeld t then none else(K1 P (leaves P d) 0 fs.toList).map λks=>(true,ks)
  |some (.array n e)=>match leaves P d e with
   |some (_,ks)=>if Nat.beq (P.cellsOf e) ks.length&& !Nat.beq ks.length 0 then some (true,(List.replicate n ks).flatten) else none
   |none=>none
  |_=>none
theorem Do:∀{ks:List LK} {vs:List Value},fits ks vs=true→vs.length=ks.length:=by
 intro ks
 induction ks with
 |nil=>intro vs h;cases vs<;>simp[fits] at h;rfl
 |cons k ks ih=>
  intro vs h
  cases vs with
  |nil=>simp[fits] at h
  |cons v vs=>simp only[fits,Jp] at h;simp[ih h.2]
theorem KZ:∀{ks ls:List LK} {vs:List Value},fits (ks++ls) vs=true→fits ks (vs.take ks.length)=true∧fits ls (vs.drop ks.length)=true:=by
 intro ks
 induction ks with
 |nil=>intro ls vs h;exact⟨by simp[fits],by simpa using h⟩
 |cons k ks ih=>
  intro ls vs h
  cases vs with
  |nil=>simp[fits] at h
  |cons v vs=>
   simp only[List.cons_append,fits,Jp] at h
   obtain⟨h1,h2⟩:=ih h.2
   exact⟨by simp[fits,h.1,h1],by simpa using h2⟩
theorem Wk {α:Type} [DecidableEq α] (n:Nat) (xs ys:List α):decide (xs=ys)=(decide (xs.take n=ys.take n)&&decide (xs.drop n=ys.drop n)):=by
 rw[Yg]
 simp only[decide_eq_true_eq,Jp]
 constructor
 ·rintro rfl;exact⟨rfl,rfl⟩
 ·rintro⟨h1,h2⟩
  rw[←List.take_append_drop n xs,←List.take_append_drop n ys,h1,h2]
instance:DecidableEq Value:=Classical.typeDecidableEq Value
section
variable {P:Program}
theorem A4G {d:Nat} {t:TypeId} {ag:Bool} {ks:List LK} (h:leaves P d t=some (ag,ks)) (w:World):(isAgg t).run P w= .ok ag w:=by
 cases d with
 |zero=>simp[leaves] at h
 |succ d=>
  unfold leaves at h
  split at h
  ·rename_i hu;injection h with h;injection h with h1 h2;subst h1;unfold isAgg;rw[C4,run_underlying hu w];rfl
  ·rename_i hu;injection h with h;injection h with h1 h2;subst h1;unfold isAgg;rw[C4,run_underlying hu w];rfl
  ·rename_i hu;injection h with h;injection h with h1 h2;subst h1;unfold isAgg;rw[C4,run_underlying hu w];rfl
  ·rename_i fs hu
   split at h
   ·cases h
   ·cases hl:K1 P (leaves P d) 0 fs.toList with
    |none=>rw[hl] at h;simp at h
    |some l=>
     rw[hl] at h
     simp only[l0x,l0y,Prod.mk.injEq] at h
     obtain⟨h1,h2⟩:=h
     subst h1
     unfold isAgg;rw[C4,run_underlying hu w];rfl
  ·rename_i n e hu
   split at h
   ·split at h
    ·injection h with h;injection h with h1 h2;subst h1;unfold isAgg;rw[C4,run_underlying hu w];rfl
    ·cases h
   ·cases h
  ·cases h
theorem KY {d:Nat} {t:TypeId} {ag:Bool} {ks:List LK} (h:leaves P d t=some (ag,ks)) (hc:P.cellsOf t=ks.length) (hne:ks.length≠0) (xs:List Value) (off:Nat) (hx:off+ks.length≤xs.length) (w:World):
 (part t xs.toArray off).run P w= .ok (Rm ag ((xs.drop off).take ks.length)) w:=by
 unfold part
 rw[C4,A4G h w]
 simp only[E3]
 cases ag with
 |true=>
  simp only[if_true]
  rw[C4,BA w (by rw[hc];exact hne)]
  simp only[E3,Yh,Rm,hc]
  congr 2
  apply l0c
  simp[List.take_drop]
 |false=>
  simp only[l0z,if_false]
  have hlt:off<xs.length:=by omega
  rw[l10,JV hlt]
  simp only[Yh,Rm]
  congr 1
  rw[l11 hlt]
  cases hk:ks.length with
  |zero=>exact absurd hk hne
  |succ n=>rfl
def B5f (P:Program) (d:Nat) (t:TypeId):Prop:=
 ∀ag ks,leaves P d t=some (ag,ks)→∀(m:Nat) (xs ys:List Value),fits ks xs=true→fits ks ys=true→∀w,(Op.equalIn (m+d) t (Rm ag xs) (Rm ag ys)).run P w= .ok (decide (xs=ys)) w
theorem ZK {d:Nat} (IH:∀t,B5f P d t) (m:Nat):∀(fs:List Field) (off:Nat) (ks:List LK),K1 P (leaves P d) off fs=some ks→∀(xs ys:List Value),fits ks (xs.drop off)=true→fits ks (ys.drop off)=true→
 off≤xs.length→off≤ys.length→∀w,(Op.eqFields (m+d) xs.toArray ys.toArray fs).run P w= .ok (decide (xs.drop off=ys.drop off)) w:=by
 intro fs
 induction fs with
 |nil=>
  intro off ks h xs ys hx hy _ _ w
  simp only[K1,l0y] at h
  subst h
  have h1:=Do hx
  have h2:=Do hy
  simp only[Ot,List.length_eq_zero_iff] at h1 h2
  rw[h1,h2]
  simp[Op.eqFields]
 |cons f fs ih=>
  intro off ks h xs ys hx hy ox oy w
  unfold K1 at h
  split at h
  ·rename_i ag k1 hl
   split at h
   ·rename_i hc
    simp only[Jp,ZZ,l14,bne_iff_ne,ne_eq] at hc
    obtain⟨c1,c2,c3,c4⟩:=hc
    have c4:k1.length≠0:= λe=>by rw[e] at c4;simp at c4
    cases hr:K1 P (leaves P d) (off+k1.length) fs with
    |none=>rw[hr] at h;simp at h
    |some k2=>
     rw[hr] at h
     simp only[l0x,l0y] at h
     subst h
     obtain⟨x1,x2⟩:=KZ hx
     obtain⟨y1,y2⟩:=KZ hy
     rw[l15] at x2 y2
     have lx:=Do hx
     have ly:=Do hy
     simp only[l0t,FA] at lx ly
     simp only[Op.eqFields]
     rw[if_pos c1,C4,c2,KY hl c3 c4 xs off (by omega) w]
     simp only[E3]
     rw[C4,KY hl c3 c4 ys off (by omega) w]
     simp only[E3]
     rw[C4,IH f.type ag k1 hl m _ _ x1 y1 w]
     simp only[E3]
     rw[Wk k1.length (xs.drop off) (ys.drop off),l15,l15]
     cases hq:decide (List.take k1.length (List.drop off xs)=List.take k1.length (List.drop off ys))
     ·simp
     ·simp only[Bool.not_true,l0z,if_false,l16]
      exact ih _ _ hr xs ys x2 y2 (by omega) (by omega) w
   ·cases h
  ·cases h
theorem A1V {d:Nat} {e:TypeId} (IH:B5f P d e) (m:Nat) {ag:Bool} {ks:List LK} (hl:leaves P d e=some (ag,ks)) (hc:P.cellsOf e=ks.length) (hne:ks.length≠0):∀(n i:Nat) (xs ys:List Value),fits (List.replicate n ks).flatten (xs.drop (i*ks.length))=true→fits (List.replicate n ks).flatten (ys.drop (i*ks.length))=true→
 i*ks.length≤xs.length→i*ks.length≤ys.length→∀w,(Op.eqItems (m+d) e (P.cellsOf e) xs.toArray ys.toArray (List.range' i n)).run P w= .ok (decide (xs.drop (i*ks.length)=ys.drop (i*ks.length))) w:=by
 intro n
 induction n with
 |zero=>
  intro i xs ys hx hy _ _ w
  have h1:=Do hx
  have h2:=Do hy
  simp only[List.replicate_zero,List.flatten_nil,Ot,List.length_eq_zero_iff] at h1 h2
  rw[h1,h2]
  simp[Op.eqItems]
 |succ n ih=>
  intro i xs ys hx hy ox oy w
  rw[l17,l18] at hx hy
  obtain⟨x1,x2⟩:=KZ hx
  obtain⟨y1,y2⟩:=KZ hy
  rw[l15] at x2 y2
  have lx:=Do hx
  have ly:=Do hy
  simp only[l0t,FA] at lx ly
  have e1:i*ks.length+ks.length=(i+1)*ks.length:=by rw[l19];omega
  rw[List.range'_succ]
  simp only[Op.eqItems]
  rw[C4,hc,KY hl hc hne xs (i*ks.length) (by omega) w]
  simp only[E3]
  rw[C4,KY hl hc hne ys (i*ks.length) (by omega) w]
  simp only[E3]
  rw[C4,IH ag ks hl m _ _ x1 y1 w]
  simp only[E3]
  rw[Wk ks.length (xs.drop (i*ks.length)) (ys.drop (i*ks.length)),l15,l15,e1]
  rw[e1] at x2 y2
  cases hq:decide (List.take ks.length (List.drop (i*ks.length) xs)=List.take ks.length (List.drop (i*ks.length) ys))
  ·simp
  ·simp only[Bool.not_true,l0z,if_false,l16]
   have:=ih (i+1) xs ys x2 y2 (by omega) (by omega) w
   rw[hc] at this
   exact this
theorem A1U:∀(d:Nat) (t:TypeId),B5f P d t:=by
 intro d
 induction d with
 |zero=>intro t ag ks h;simp[leaves] at h
 |succ d IH=>
  intro t ag ks h m xs ys hx hy w
  rw[←Xt]
  unfold leaves at h
  split at h
  ·rename_i k hu
   injection h with h;injection h with h1 h2;subst h1 h2
   obtain⟨x,rfl⟩:=l1a.1 (Do hx)
   obtain⟨y,rfl⟩:=l1a.1 (Do hy)
   ·
    simp only[fits,l1b] at hx hy
    cases x<;>simp[LK.fit] at hx
    cases y<;>simp[LK.fit] at hy
    subst hx hy
    simp only[Rm,List.headD]
    rw[run_equalIn_int w (m+d) t _ _ _ _ hu]
    congr 1
    rw[Yg];simp
  ·rename_i hu
   injection h with h;injection h with h1 h2;subst h1 h2
   obtain⟨x,rfl⟩:=l1a.1 (Do hx)
   obtain⟨y,rfl⟩:=l1a.1 (Do hy)
   ·
    simp only[fits,l1b] at hx hy
    cases x<;>simp[LK.fit] at hx
    cases y<;>simp[LK.fit] at hy
    simp only[Rm,List.headD]
    rw[run_equalIn_string w (m+d) t _ _ hu]
    congr 1
    rw[←beq_toListBytes,Yg,MapKept.bytes_beq];simp
  ·rename_i hu
   injection h with h;injection h with h1 h2;subst h1 h2
   obtain⟨x,rfl⟩:=l1a.1 (Do hx)
   obtain⟨y,rfl⟩:=l1a.1 (Do hy)
   ·
    simp only[fits,l1b] at hx hy
    cases x<;>simp[LK.fit] at hx
    cases y<;>simp[LK.fit] at hy
    simp only[Rm,List.headD]
    rw[run_equalIn_bool' w (m+d) t _ _ hu]
    congr 1
    rw[Yg];simp
  ·rename_i fs hu
   split at h
   ·cases h
   ·rename_i hst
    cases hl:K1 P (leaves P d) 0 fs.toList with
    |none=>rw[hl] at h;simp at h
    |some l=>
     rw[hl] at h
     simp only[l0x,l0y,Prod.mk.injEq] at h
     obtain⟨h1,h2⟩:=h
     subst h1 h2
     have hf:P.fieldsOf t=fs:=by simp[Program.fieldsOf,hu]
     simp only[Rm]
     rw[run_equalIn_struct w (m+d) t _ _ (by rw[hf];exact hu) (by simpa using hst),hf]
     exact ZK IH m fs.toList 0 l hl xs ys hx hy (l1c _) (l1c _) w
  ·rename_i n e hu
   split at h
   ·rename_i ag' k1 hl
    split at h
    ·rename_i hc
     simp only[Jp,ZZ,l14] at hc
     have hne:k1.length≠0:= λe0=>by have:=hc.2;rw[e0] at this;simp at this
     injection h with h;injection h with h1 h2;subst h1 h2
     simp only[Rm]
     obtain⟨i,hi⟩:∃i,P.info? e=some i:=by
      cases hie:P.info? e with
      |none=>exfalso;exact hne (by rw[←hc.1];simp[Program.cellsOf,hie])
      |some i=>exact⟨i,rfl⟩
     rw[run_equalIn_array w (m+d) _ _ hu hi,List.range_eq_range']
     have:=A1V (IH e) m hl hc.1 hne n 0 xs ys (by simpa using hx) (by simpa using hy) (by simp) (by simp) w
     simpa using this
    ·cases h
   ·cases h
  ·cases h
structure EqFlat (P:Program) (t:TypeId) (ks:List LK):Prop where
 leaves:leaves P 6 t=some (true,ks)
 guard:P.eqGuardType P.depth t=false
theorem EqFlat.equal {t:TypeId} {ks:List LK} (h:EqFlat P t ks) {xs ys:List Value} (hx:fits ks xs=true) (hy:fits ks ys=true) (w:World):(Op.equal t (.agg xs.toArray) (.agg ys.toArray)).run P w= .ok (decide (xs=ys)) w:=
 A1U 6 t true ks h.leaves 9994 xs ys hx hy w
theorem ZO:∀(d:Nat) (t:TypeId) (ag:Bool) (ks:List LK),leaves P d t=some (ag,ks)→∀(m:Nat) (em:Bool) (xs:List Value),fits ks xs=true→∀w,(Instr.checkKey em (m+d) t (Rm ag xs)).run P w= .ok () w:=by
 intro d
 induction d with
 |zero=>intro t ag ks h;simp[leaves] at h
 |succ d IH=>
  intro t ag ks h m em xs hx w
  rw[←Xt]
  unfold Instr.checkKey
  unfold leaves at h
  split at h
  ·rename_i k hu
   rw[C4,run_underlying hu w];rfl
  ·rename_i hu
   rw[C4,run_underlying hu w];rfl
  ·rename_i hu
   rw[C4,run_underlying hu w];rfl
  ·rename_i fs hu
   split at h
   ·cases h
   ·rename_i hst
    cases hl:K1 P (leaves P d) 0 fs.toList with
    |none=>rw[hl] at h;simp at h
    |some l=>
     rw[hl] at h
     simp only[l0x,l0y,Prod.mk.injEq] at h
     obtain⟨h1,h2⟩:=h
     subst h1 h2
     rw[C4,run_underlying hu w]
     simp only[E3,Rm]
     rw[←Array.forIn_toList]
     generalize fs.toList=gs at hl
     have key:∀(gs:List Field) (off:Nat) (l:List LK),K1 P (leaves P d) off gs=some l→fits l (xs.drop off)=true→off≤xs.length→
      (forIn gs PUnit.unit (λf (_:PUnit)=>(if f.name≠ "_" then(do let y←part f.type xs.toArray f.offset;Instr.checkKey em (m+d) f.type y;pure (ForInStep.yield PUnit.unit)) else pure (ForInStep.yield PUnit.unit):Sem (ForInStep PUnit)))).run P w= .ok PUnit.unit w:=by
      intro gs
      induction gs with
      |nil=>intro off l _ _ _;simp
      |cons f gs ih=>
       intro off l h hx ox
       unfold K1 at h
       split at h
       ·rename_i ag k1 hlf
        split at h
        ·rename_i hc
         simp only[Jp,ZZ,l14,bne_iff_ne,ne_eq] at hc
         obtain⟨c1,c2,c3,c4⟩:=hc
         have c4:k1.length≠0:= λe=>by rw[e] at c4;simp at c4
         cases hr:K1 P (leaves P d) (off+k1.length) gs with
         |none=>rw[hr] at h;simp at h
         |some k2=>
          rw[hr] at h
          simp only[l0x,l0y] at h
          subst h
          obtain⟨x1,x2⟩:=KZ hx
          rw[l15] at x2
          have lx:=Do hx
          simp only[l0t,FA] at lx
          rw[List.forIn_cons,if_pos c1,C4,C4,c2,KY hlf c3 c4 xs off (by omega) w]
          simp only[E3]
          rw[C4,IH f.type ag k1 hlf m em _ x1 w]
          simp only[E3,Yh]
          exact ih _ _ hr x2 (by omega)
        ·cases h
       ·cases h
     have:=key gs 0 l hl (by simpa using hx) (l1c _)
     rw[C4]
     refine(congrArg (λq=>Result.andThen q _) this).trans ?_
     rfl
  ·rename_i n e hu
   split at h
   ·rename_i ag' k1 hl
    split at h
    ·rename_i hc
     simp only[Jp,ZZ,l14] at hc
     have hne:k1.length≠0:= λe0=>by have:=hc.2;rw[e0] at this;simp at this
     injection h with h;injection h with h1 h2;subst h1 h2
     have hsz:(sizeOf e).run P w= .ok (P.cellsOf e) w:=BA w (by rw[hc.1];exact hne)
     rw[C4,run_underlying hu w]
     simp only[E3,Rm]
     simp only[Std.Legacy.Range.forIn_eq_forIn_range',Std.Legacy.Range.size,Nat.sub_zero,Nat.add_one_sub_one,Nat.div_one]
     have key:∀(n i:Nat),fits (List.replicate n k1).flatten (xs.drop (i*k1.length))=true→i*k1.length≤xs.length→
      (forIn (List.range' i n) PUnit.unit (λj (_:PUnit)=>(do let z←sizeOf e;let y←part e xs.toArray (j*z);Instr.checkKey em (m+d) e y;pure (ForInStep.yield PUnit.unit):Sem (ForInStep PUnit)))).run P w= .ok PUnit.unit w:=by
      intro n
      induction n with
      |zero=>intro i _ _;simp
      |succ n ih=>
       intro i hx ox
       rw[l17,l18] at hx
       obtain⟨x1,x2⟩:=KZ hx
       rw[l15] at x2
       have lx:=Do hx
       simp only[l0t,FA] at lx
       have e1:i*k1.length+k1.length=(i+1)*k1.length:=by rw[l19];omega
       rw[e1] at x2
       rw[List.range'_succ,List.forIn_cons,C4,C4,hsz]
       simp only[E3]
       rw[C4,hc.1,KY hl hc.1 hne xs (i*k1.length) (by omega) w]
       simp only[E3]
       rw[C4,IH e ag' k1 hl m em _ x1 w]
       simp only[E3,Yh]
       exact ih (i+1) x2 (by omega)
     have:=key n 0 (by simpa using hx) (by simp)
     rw[C4]
     refine(congrArg (λq=>Result.andThen q _) this).trans ?_
     rfl
    ·cases h
   ·cases h
  ·cases h
def Xr (P:Program) (f:FuncId):Prop:=∀(x:Value) (w:World),(callFunc f #[x]).run P w= .ok (.value x) w
theorem EqFlat.check {t:TypeId} {ks:List LK} (h:EqFlat P t ks) {xs:List Value} (hx:fits ks xs=true) (em:Bool) (w:World):(Instr.checkKey em 10000 t (.agg xs.toArray)).run P w= .ok () w:=
 ZO 6 t true ks h.leaves 9994 em xs hx w
end
abbrev KQ:=Exit→Tm→Hp→Al
abbrev A5d:=Cf→Code→Tm→Hp→KQ→Al
structure Rt where
 call:B5g
 run:A5d
def unV:AV→Value
 | .v x=>x
 |_=>undef
def isV:AV→Bool
 | .v _=>true
 |_=>false
def XE.G (E:XE):Gl:= λg=>(E.gl.get g).map λcs=>cs.map unV
def PU (D:Nat→List Oper→Bool):Code→Bool
 | .region id ops true=>D id ops.toList
 | .seq x y=>PU D x&&PU D y
 | .cond _ x y=>PU D x&&PU D y
 | .block _ x=>PU D x
 | .loop x=>PU D x
 | .scope x=>PU D x
 |_=>true
structure XE.Ok (D:XE→Cf→Nat→List Oper→Bool) (E:XE) (P:Program):Prop where
 ty:Xv P E.T
 pos:∀t i e esz,E.T t=some i→(i.d= .slice e esz∨∃n,i.d= .array n e esz)→esz≠0
 mix:P.follows .mixedOrders=true
 gl:∀g cs,E.gl.get g=some cs→cs.all isV=true
 fn:∀f x,E.ft.get f=some x→∃fn,P.funcs[f]?=some fn∧fn.body=some x.c∧fn.ntmps=x.n∧fn.results.toList=x.rs∧(fn.name== "runtime.NumGoroutine")=false∧PU (D E ⟨false,x.lv,x.fz,x.n,x.rc⟩) x.c=true
 eq:∀t ks,E.eqt.get t=some ks→EqFlat P t ks
 lie:∀e n o u,(e,n,o,u)∈E.lie→liesAt P P.depth e (n/P.cellsOf e) o u 1=true∧(P.info? u).isSome=true
 up:E.lie.isEmpty=false→P.underlying E.up=some .unsafePointer
 ne:∀f,E.ne f=true→Xr P f
def XE.env (E:XE) (P:Program):Env:={P:=P,G:=E.G,T:=E.T}
theorem XE.Ok.env {D:XE→Cf→Nat→List Oper→Bool} {E:XE} {P:Program} (h:XE.Ok D E P):(E.env P).Ok:=⟨h.ty,h.pos,h.mix⟩
def ZR (P:Program) (f:Nat):Prop:=∃fn,P.funcs[f]?=some fn∧fn.body.isNone=false∧(fn.name== "runtime.NumGoroutine")=false
def Xq (D:XE→Cf→Nat→List Oper→Bool) (E:XE) (P:Program) (R:A5d):Prop:=
 ∀(ro:Option Nat) (cf:Cf) (c:Code) (t:Tm) (H:Hp) (K:KQ) (r:AV×Hp) (m:Nat),(ro≠none→cf.b=true)→(cf.b=false→PU (D E cf) c=true)→R cf c t H K=some r→Qn P E.G ro m cf.n c (λe t' H'=>K e t' H'=some r) t H
structure RSound (D:XE→Cf→Nat→List Oper→Bool) (E:XE) (P:Program) (R:Rt):Prop where
 run:Xq D E P R.run
 call:∀(f:Nat) (args:List AV) (H:Hp) (K:KV) (r:AV×Hp),R.call f args H K=some r→ZR P f∧Rj P E.G f args H (λv H'=>K v H'=some r)
def zgo (E:XE) (R:A5d) (x:XFn) (args:List AV) (H:Hp) (K:KV):Al:=
 B03 args 0 λk=>ckS (Nat.ble k x.n) (B7H args 0 λt=>R ⟨false,x.lv,x.fz,x.n,x.rc⟩ x.c t H (C37 E x.rs K))
def zfn (E:XE) (R:A5d) (f:Nat) (args:List AV) (H:Hp) (K:KV):Al:=E.ft.getK f λx=>zgo E R x args H K
def depth:Nat:=12
def Ai (a:Al) (K:AV→Al):Al:=match a with|some (v,_)=>K v|none=>none
def Ah (R:Rt) (f:Nat) (args:List AV) (H:Hp) (K:AV→Al):Al:=
 HP (Jg true H depth) args λq args'=>Ai (R.call f args' [] λv H'=>Jg (!q) H' depth v λ_ v'=>some (v',[])) K
section
variable {D:XE→Cf→Nat→List Oper→Bool} {E:XE} {P:Program} {R:Rt} {f:Nat} {args:List AV} {H:Hp} {r:AV×Hp}
theorem C4Z (hE:XE.Ok D E P) {x:XFn} (hx:E.ft.get f=some x):ZR P f:=by
 obtain⟨fn,h1,h2,h3,h4,h5,h6⟩:=hE.fn f x hx
 exact⟨fn,h1,by rw[h2];rfl,h5⟩
theorem B0n (hE:XE.Ok D E P) {Ru:A5d} (hR:Xq D E P Ru) {x:XFn} (hx:E.ft.get f=some x) {K:KV} (h:zgo E Ru x args H K=some r):Rj P E.G f args H (λv H'=>K v H'=some r):=by
 unfold zgo at h
 rw[B4e] at h
 obtain⟨hk,h⟩:=JD h
 rw[B7G] at h
 obtain⟨fn,h1,h2,h3,h4,h5,h6⟩:=hE.fn f x hx
 refine B20 (E:=E) (T:=E.T) hE.ty (λty i h=>h) h1 h2 ?_
 have hk:args.length≤x.n:=by rw[Yf] at hk;omega
 have hN:args.length+(fn.ntmps-args.length)=x.n:=by rw[h3];omega
 rw[hN,h4]
 exact hR none ⟨false,x.lv,x.fz,x.n,x.rc⟩ x.c _ H _ r (A6 H) (λh=>absurd rfl h) (λ_=>h6) h
theorem A35 (hE:XE.Ok D E P) {Ru:A5d} (hR:Xq D E P Ru) {K:KV} (h:zfn E Ru f args H K=some r):ZR P f∧Rj P E.G f args H (λv H'=>K v H'=some r):=by
 obtain⟨x,hx,h⟩:=AW h
 exact⟨C4Z hE hx,B0n hE hR hx h⟩
theorem Keep.toBelow {w w':World} (h:Keep ⟨w,λ_=>False⟩ w'):Below w.heap.size w w':=⟨h.os,h.tape,h.output,h.size,λb hb=>h.block b hb id⟩
theorem A6F {G:Gl} {w0:Base} {C:Ctx} {w:World} {b q:Bool} (h:Rel G w0 C H w):(∀k i,(RH b q C H).F k i→k<w.heap.size)∧∀k,(RH b q C H).B k→k<w.heap.size:=by
 refine⟨λk i hF=> ?_,λk hB=> ?_⟩
 ·rcases hF with⟨_,hF⟩|⟨_,s,x,o,hl,hp⟩
  ·exact h.fin k i hF
  ·exact(h.rows s x hl).block (EE hl) hp
 ·rcases hB with⟨_,hB⟩|⟨_,s,x,o,hl,hp⟩
  ·exact h.finB k hB
  ·exact(h.rows s x hl).block (EE hl) hp
theorem A8t {C:Ctx} {w:World} {G:Gl} {w0:Base} (hr:Rel G w0 C H w) (args:List AV) (ys:List Value) (K:Bool→List AV→Al) (ha:Ca C w args ys) (h:HP (Jg true H depth) args K=some r):∃q args',Ca (RH true q C H) w args' ys∧K q args'=some r:=
 YI (f:=Jg true H depth) (b:=true) (λa y K hv h=>A1p hr depth a y K hv h) args ys K ha h
theorem PA:∀(f:AV→(Bool→AV→Al)→Al) (hf:∀a K,f a K=some r→∃q a',K q a'=some r) (l:List AV) (K:Bool→List AV→Al),HP f l K=some r→∃q l',K q l'=some r:=by
 intro f hf l
 induction l with
 |nil=>intro K h;exact⟨_,_,h⟩
 |cons a l ih=>
  intro K h
  obtain⟨q,a',h⟩:=hf a _ h
  obtain⟨q',l',h⟩:=ih _ h
  exact⟨_,_,h⟩
theorem B3V:∀(f:AV→(Bool→AV→Al)→Al) (hf:∀a K,f a K=some r→∃q a',K q a'=some r) (l:List (Value×AV)) (K:Bool→List (Value×AV)→Al),YJ f l K=some r→∃q l',K q l'=some r:=by
 intro f hf l
 induction l with
 |nil=>intro K h;exact⟨_,_,h⟩
 |cons a l ih=>
  intro K h
  obtain⟨q,a',h⟩:=hf a.2 _ h
  obtain⟨q',l',h⟩:=ih _ h
  exact⟨_,_,h⟩
theorem B7h {b:Bool}:∀(n:Nat) (a:AV) (K:Bool→AV→Al),Jg b H n a K=some r→∃q a',K q a'=some r:=by
 intro n
 induction n with
 |zero=>
  intro a K h
  change A6r b a K=some r at h
  unfold A6r at h
  split at h
  ·exact⟨_,_,h⟩
  ·exact⟨_,_,(Br h).2⟩
  ·exact⟨_,_,(Br h).2⟩
  ·exact⟨_,_,(Br h).2⟩
  ·cases h
 |succ n ih=>
  intro a K h
  change A6q b H (Jg b H n) a K=some r at h
  unfold A6q at h
  split at h
  ·exact⟨_,_,h⟩
  ·exact⟨_,_,(Br h).2⟩
  ·exact⟨_,_,(Br h).2⟩
  ·exact⟨_,_,(Br h).2⟩
  ·obtain⟨q,l,h⟩:=PA _ ih _ _ h;exact⟨_,_,h⟩
  ·obtain⟨q,l,h⟩:=PA _ ih _ _ h;exact⟨_,_,h⟩
  ·obtain⟨q,l,h⟩:=PA _ ih _ _ h
   obtain⟨q,l,h⟩:=PA _ ih _ _ h
   exact⟨_,_,h⟩
  ·obtain⟨q0,e,cs,_,h⟩:=J1 h
   obtain⟨_,h⟩:=NI _ _ _ _ h
   obtain⟨q,l,h⟩:=PA _ ih _ _ h;exact⟨_,_,h⟩
  ·obtain⟨q0,e,cs,_,h⟩:=J1 h
   obtain⟨q,l,h⟩:=PA _ ih _ _ h;exact⟨_,_,h⟩
  ·obtain⟨x,_,h⟩:=G9 rfl h
   unfold B7d at h
   split at h
   ·obtain⟨q,l,h⟩:=B3V _ ih _ _ h;exact⟨_,_,h⟩
   ·cases h
  ·cases h
theorem RO {a:Al} {K:AV→Al} (h:Ai a K=some r):∃v H',a=some (v,H')∧K v=some r:=by
 unfold Ai at h
 split at h
 ·exact⟨_,_,rfl,h⟩
 ·cases h
theorem YT (hR:RSound D E P R) {K:AV→Al} (h:Ah R f args H K=some r):ZR P f∧Rj P E.G f args H (λv H'=>H'=H∧K v=some r):=by
 unfold Ah at h
 refine⟨?_,?_⟩
 ·obtain⟨q,l',h⟩:=PA _ (λa K h=>B7h depth a K h) _ _ h
  obtain⟨v,H',h1,_⟩:=RO h
  exact(hR.call _ _ _ _ _ h1).1
 intro w0 C w ys hr ha
 obtain⟨q,args',ha',hrun⟩:=A8t hr args ys _ ha h
 obtain⟨v0,H0,hrun,hK0⟩:=RO hrun
 have hc:=(hR.call _ _ _ _ _ hrun).2
 have hfin:=A6F (b:=true) (q:=q) hr
 have hR0:Rel E.G ⟨w,λ_=>False⟩ (RH true q C H) [] w:=
  ⟨λg cs hg i v hv=>⟨.inl ⟨rfl,(hr.glob g cs hg i v hv).1⟩,(hr.glob g cs hg i v hv).2⟩,.refl _ _,λ_ _ h=>by simp[Ax] at h,λ_ _ h=>by simp[Ax] at h,λ_ _ _ _ h=>by simp[Ax] at h,λ_ _ _ _ _ _ _ h=>by simp[Ax] at h,hfin.1,hfin.2,λ_ _=>rfl⟩
 refine(hc _ _ w ys hR0 ha').mono ?_
 rintro e w' ⟨v,y,C',H',rfl,hr',hv,hx,hl⟩
 obtain⟨q2,v',hv',hK⟩:=A1p hr' depth v y _ hv hl
 injection hK with hK
 injection hK with hK hKH
 subst hK
 have hb:Below w.heap.size w w':=hr'.below.toBelow
 have hown:∀k,Base.own ⟨w,λ_=>False⟩ k→w.heap.size≤k:= λk h=>h.elim id (λh=>h.elim)
 let C2:Ctx:={π:=C.π,F:= λk i=>C.F k i∨(w.heap.size≤k∧(RH (!q) q2 C' H').F k i),B:= λk=>C.B k∨(w.heap.size≤k∧(RH (!q) q2 C' H').B k)}
 have hfin':=A6F (b:= !q) (q:=q2) hr'
 have e:Ext w0.own C w C2 w':=⟨λ_ _=>rfl,λ_ _ h=> .inl h,λk i h=>hb.cell (p:=⟨k,i,none⟩) (hr.fin k i h),λ_ h=> .inl h,λk h=>hb.block k (hr.finB k h),
  λk arr T fz h=>⟨arr,fz,(hb.block k (l1q.1 h).1).trans h,rfl⟩,λk i h=>h.imp id (λh=> .inl (l1m hr.below.size h.1)),λk h=>h.imp id (λh=> .inl (l1m hr.below.size h.1)),hb.size⟩
 have hrel:Rel E.G w0 C2 H w':=by
  refine⟨hr.glob.mono e,hr.below.below hb,hr.lt,λs x hl=>(hr.rows s x hl).mono e (λk base hp=>hb.block k ((hr.rows s x hl).block (EE hl) hp)),λs x k o hl hp=> ?_,hr.sep,λk i hF=> ?_,λk hB=> ?_,hr.nx⟩
  ·have h1:=hr.own s x k o hl hp
   have h2:=(hr.rows s x hl).block (EE hl) hp
   refine⟨h1.1,λi hF=> ?_,λhB=> ?_⟩
   ·rcases hF with hF|hF
    ·exact h1.2.1 i hF
    ·have:=hF.1;omega
   ·rcases hB with hB|hB
    ·exact h1.2.2 hB
    ·have:=hB.1;omega
  ·rcases hF with hF|hF
   ·exact l2m (hr.fin k i hF) hb.size
   ·exact hfin'.1 k i hF.2
  ·rcases hB with hB|hB
   ·exact l2m (hr.finB k hB) hb.size
   ·exact hfin'.2 k hB.2
 have e2:Ext (λ_=>True) (RH (!q) q2 C' H') w' C2 w':=by
  refine⟨λs h=>absurd rfl h,λk i hF=> ?_,λ_ _ _=>rfl,λk hB=> ?_,λ_ _=>rfl,λ_ a _ f h=>⟨a,f,h,rfl⟩,λ_ _ _=> .inr trivial,λ_ _=> .inr trivial,O8 _⟩
  ·rcases hF with⟨hq,hF⟩|⟨hq,s,x,o,hl,hp⟩
   ·rcases hx.new k i hF with h1|h1
    ·rcases h1 with⟨_,h1⟩|⟨h1,_⟩
     ·exact .inl h1
     ·rw[h1] at hq;cases hq
    ·exact .inr ⟨hown k h1,.inl ⟨hq,hF⟩⟩
   ·exact .inr ⟨hown k (hr'.own s x k o hl hp).1,.inr ⟨hq,s,x,o,hl,hp⟩⟩
  ·rcases hB with⟨hq,hB⟩|⟨hq,s,x,o,hl,hp⟩
   ·rcases hx.newB k hB with h1|h1
    ·rcases h1 with⟨_,h1⟩|⟨h1,_⟩
     ·exact .inl h1
     ·rw[h1] at hq;cases hq
    ·exact .inr ⟨hown k h1,.inl ⟨hq,hB⟩⟩
   ·exact .inr ⟨hown k (hr'.own s x k o hl hp).1,.inr ⟨hq,s,x,o,hl,hp⟩⟩
 exact⟨v',y,C2,H,rfl,hrel,hv'.mono e2,e.frm,rfl,hK0⟩
end
def WO (n:Nat) (cs:List AV):(List AV→Al)→Al:=
 @Nat.rec (λ_=>(List AV→Al)→Al) (λK=>K []) (λ_ ih K=>ih λl=>Ur cs l K) n
theorem Uo (n:Nat) (cs:List AV):∀K,WO n cs K=K (TL n cs):=by
 induction n with
 |zero=>intro K;rfl
 |succ n ih=>
  intro K
  have e:WO (n+1) cs K=WO n cs λl=>Ur cs l K:=rfl
  rw[e,ih,K4];rfl
def Fh (e:TypeId) (esz:Nat) (ie:TI) (n:Nat) (l:List (Nat×Nat×AV)) (H:Hp) (K:KV):Al:=
 GU ie.zero λz=>HJ z 0 λk=>ck (Nat.beq k esz&&(!Nat.beq esz 0&&Nat.ble (Nat.mul n esz) 16777216)) (WO n z λcs=>VJ l cs λcs'=>HE H λs=>K (.sl esz s 0 n) ((s,.cells false e cs')::H))
def RN (esz:Nat) (ie:TI) (n:Nat) (l:List (Nat×Nat×AV)) (K:AV→Al):Al:=
 GU ie.zero λz=>HJ z 0 λk=>ck (Nat.beq k esz&&(!Nat.beq esz 0&&Nat.ble (Nat.mul n esz) 16777216)) (WO n z λcs=>VJ l cs λcs'=>ck (cs'.all (cl0 2)) (K (.list n cs')))
def VK (l:List UInt8):(List AV→Al)→Al:=@List.rec UInt8 (λ_=>(List AV→Al)→Al) (λK=>K []) (λb _ ih K=>fN b.toNat λn=>ih λl=>K (.v (.int .u8 (.ofNat n))::l)) l
theorem UP (l:List UInt8):∀K:List AV→Al,VK l K=K (l.map λb=> .v (.int .u8 b.toNat)):=by
 induction l with
 |nil=>intro K;rfl
 |cons b l ih=>
  intro K
  have e:VK (b::l) K=fN b.toNat λn=>VK l λl=>K (.v (.int .u8 (.ofNat n))::l):=rfl
  rw[e,DI,ih];rfl
def A0B:TD→Bool
 | .slice .. =>true
 | .string=>true
 |_=>false
def TH (esz:Nat):AV→Bool
 | .v (.string _)=>Nat.beq esz 1
 |_=>true
theorem A7U {esz:Nat} {x:AV} (h:TH esz x=true):(match(generalizing:=false) x with| .v (.string _)=>esz=1|_=>True):=by
 split
 ·exact Vm h
 ·trivial
def Uu (H:Hp) (x:AV) (K:Nat→List AV→Al):Al:=
 match x with
 | .list m cs=>K m cs
 | .sl sz r o m=>Kj H r λx=>KF x λ_ cs=>FT (Nat.mul m sz) (Dp o cs) λc=>K m c
 | .v (.slice none 0 0)=>K 0 []
 | .v (.string s)=>HJ s.data.toList 0 λm=>VK s.data.toList λl=>K m l
 |_=>none
def fu8 (cs:List AV):(List UInt8→Al)→Al:=
 @List.rec AV (λ_=>(List UInt8→Al)→Al) (λK=>K []) (λa _ ih K=>match a with| .v (.int .u8 z)=>iN z λn=>ih λl=>K (UInt8.ofNat n::l)|_=>none) cs
theorem A6B {r:AV×Hp}:∀(cs:List AV) (K:List UInt8→Al),fu8 cs K=some r→∃ns:List Nat,cs=ns.map (λn=> .v (.int .u8 (n:Int)))∧K (ns.map UInt8.ofNat)=some r:=by
 intro cs
 induction cs with
 |nil=>intro K h;exact⟨[],rfl,h⟩
 |cons a cs ih=>
  intro K h
  have h:(match(generalizing:=false) a with| .v (.int .u8 z)=>iN z λn=>fu8 cs λl=>K (UInt8.ofNat n::l)|_=>none)=some r:=h
  split at h
  ·obtain⟨n,e1,h2⟩:=SO h
   obtain⟨ns,e2,h3⟩:=ih _ h2
   exact⟨n::ns,by rw[e1,e2];rfl,h3⟩
  ·cases h
def A22 (a:AV) (H:Hp) (K:AV→Al):Al:=
 match a with
 | .v (.string _)=>none
 |a=>Uu H a λm cs=>HJ cs 0 λk=>ck (Nat.beq k m) (fu8 cs λl=>K (.v (.string ⟨⟨l⟩⟩)))
section
variable {T:Ty} {H:Hp} {r:AV×Hp}
theorem B4I {ty e:TypeId} {esz:Nat} {i ie:TI} {n:Nat} {l:List (Nat×Nat×AV)} {ps:List (Nat×AV)} {K:KV} (hT:T ty=some i) (hd:i.d= .slice e esz) (hie:T e=some ie) (he:(ps.map λp=>(some (p.1*esz,esz)).map λq=>(q.1,q.2,p.2))=l.map some) (h:Fh e esz ie n l H K=some r):
 ∃v H',K v H'=some r∧Wa T ty n ps H (A6 H) (λv' H''=>v'=v∧H''=H'):=by
 rw[Fh,Dc,Cw] at h
 obtain⟨h1,h⟩:=Br h
 rw[Uo] at h
 obtain⟨cs',h2,h3⟩:=Up (place:= λj=>some (j*esz,esz)) l ps _ _ he h
 rw[BX] at h2
 simp only[Jp,ZZ,l14,Yf] at h1
 refine⟨_,_,h2,?_⟩
 unfold Wa
 simp only[hT,hd,hie]
 refine⟨λe0=> ?_,by omega,?_,by rw[h3];simp[JN]⟩
 ·have:=h1.2.1;rw[e0] at this;simp at this
 ·have:=h1.2.2;exact this
theorem Yy {x:AV} {K:Nat→List AV→Al} (h:Uu H x K=some r):∃m cs q,A9e H x=some (m,cs,q)∧K m cs=some r:=by
 unfold Uu at h
 split at h
 ·exact⟨_,_,_,rfl,h⟩
 ·obtain⟨q0,e,cs,h1,h2⟩:=J1 h
  obtain⟨h3,h4⟩:=NI _ _ _ _ h2
  rw[C8] at h4
  exact⟨_,_,_,by simp only[A9e,h1];rfl,h4⟩
 ·exact⟨_,_,_,rfl,h⟩
 ·rename_i s
  rw[Cw] at h
  rw[UP] at h
  exact⟨_,_,_,rfl,by rw[Ln] at h;exact h⟩
 ·cases h
theorem A8b:∀(ns:List Nat) (acc:List UInt8),(ns.map λn:Nat=>(n:Int)).foldl (λ(r:ByteArray) n=>r.push (UInt8.ofNat n.toNat)) ⟨⟨acc⟩⟩=⟨⟨acc++ns.map UInt8.ofNat⟩⟩:=by
 intro ns
 induction ns with
 |nil=>intro acc;simp
 |cons n ns ih=>
  intro acc
  simp only[ZY,List.foldl_cons,Xs]
  have:(⟨⟨acc⟩⟩:ByteArray).push (UInt8.ofNat n)=⟨⟨acc++[UInt8.ofNat n]⟩⟩:=by simp[ByteArray.push]
  rw[this,ih];simp
theorem A91 {P:Program} {G:Gl} {w0:Base} {C:Ctx} {w:World} {a:AV} {y:Value} {K:AV→Al} (hr:Rel G w0 C H w) (hv:VRel C w a y) (h:A22 a H K=some r):(∀s,y≠.string s)∧∃l:List UInt8,K (.v (.string ⟨⟨l⟩⟩))=some r∧(Conv.bytesToString y).run P w= .ok (.string ⟨⟨l⟩⟩) w:=by
 unfold A22 at h
 split at h
 ·cases h
 ·rename_i hns
  obtain⟨m,cs,q,hsrc,h⟩:=Yy h
  rw[Cw] at h
  obtain⟨hk,h⟩:=Br h
  have hk:cs.length=m:=by have:=Vm hk;omega
  obtain⟨ns,hcs,hKf⟩:=A6B _ _ h
  subst hcs
  obtain⟨hlen,vs,hvs,hrun⟩:=VP (P:=P) (esz:=1) hr hv hsrc (by omega) (λs hs=>absurd hs (hns s))
  have hrun:=hrun w (λ_ _=>rfl)
  have hvs':vs=ns.map λn:Nat=>Value.int .u8 (n:Int):=by
   apply l0o
   intro i
   cases hi:(ns.map λn:Nat=>AV.v (.int .u8 (n:Int)))[i]? with
   |none=>
    have h1:ns.length≤i:=by simpa using List.getElem?_eq_none_iff.1 hi
    rw[l1e (by rw[hvs.1];simpa using h1),l1e (by simpa using h1)]
   |some c=>
    obtain⟨y',hy,hyv⟩:=hvs.2 i c hi
    rw[hy]
    rw[l0a] at hi⊢
    cases hn:ns[i]? with
    |none=>rw[hn] at hi;cases hi
    |some n=>
     rw[hn] at hi
     injection hi with hi
     subst hi
     have:=AL.1 hyv.unsel
     rw[this];rfl
  have hns2:∀s,y≠.string s:=by
   intro s e
   subst e
   cases hv with
   |v=>exact hns s rfl
   |dk=>simp[A9e] at hsrc
  refine⟨hns2,_,hKf,?_⟩
  cases y with
  |slice ad n cap=>
   have hn:n=m:=by
    simp only[Builtin.lenOf,Yh] at hlen
    injection hlen
   subst hn
   cases ad with
   |none=>
    simp only[Builtin.firstCells,Yh] at hrun
    injection hrun with hrun
    have:vs=[]:=by
     have:=congrArg Array.toList hrun
     simpa using this.symm
    rw[hvs'] at this
    have:ns=[]:=by simpa using this
    subst this
    rfl
   |some ad=>
    have e:(Builtin.firstCells 1 n (.slice (some ad) n cap))=loadCells ad (n*1):=rfl
    rw[e,l28,hvs'] at hrun
    have:=run_bytesToString w ad n cap (ns.map λn:Nat=>(n:Int)) (by rw[hrun];simp[l1t])
    rw[this]
    have:=A8b ns []
    rw[show(ByteArray.empty:ByteArray)=⟨⟨[]⟩⟩ from rfl,this];rfl
  |string s=>exact absurd rfl (hns2 s)
  |_=>simp[Builtin.lenOf] at hlen
def Xg (e:TypeId) (esz:Nat) (ie i2:TI) (s x:AV) (H:Hp) (K:KV):Al:=
 Uu H x λm ys=>HJ ys 0 λk=>GU ie.zero λz=>HJ z 0 λzl=>
  ck (Nat.beq k (Nat.mul m esz)&&(Qa ys&&(!Nat.beq esz 0&&(Nat.beq zl esz&&(A0B i2.d&&TH esz x)))))
   (match s with
   | .v (.slice none 0 0)=>ck (Nat.ble (Nat.mul m ie.bytes) 70368744177664&&Nat.ble m 70368744177664) (HE H λr=>K (.sl esz r 0 m) ((r,.cells false e ys)::H))
   | .sl sz r1 o n=>Kj H r1 λx=>KF x λE cs=>HJ cs 0 λcl=>
    ck (Nat.beq E e&&(Nat.beq sz esz&&(Nat.beq (Nat.add o (Nat.mul n esz)) cl&&(Nat.ble (Nat.mul (Nat.add n m) ie.bytes) 70368744177664&&Nat.ble (Nat.add n m) 70368744177664))))
     (Ur (Dp o cs) ys λcs'=>Og H r1 .gone λH'=>HE H λr=>fN (Nat.add n m) λnm=>K (.sl esz r 0 nm) ((r,.cells false e cs')::H'))
   |_=>none)
theorem B1I {t1 t2 e:TypeId} {esz:Nat} {i1 i2 ie:TI} {s x:AV} {K:KV} (h1:T t1=some i1) (h2:T t2=some i2) (hd:i1.d= .slice e esz) (hie:T e=some ie) (h:Xg e esz ie i2 s x H K=some r):
 ∃v H',K v H'=some r∧Wb T t1 t2 s x H (A6 H) (λv' H''=>v'=v∧H''=H'):=by
 unfold Xg at h
 obtain⟨m,ys,q,hsrc,h⟩:=Yy h
 rw[Cw,Dc,Cw] at h
 obtain⟨hc,h⟩:=Br h
 simp only[Jp,ZZ,Gc,l14] at hc
 obtain⟨c1,c2,c3,c4,c5,c6⟩:=hc
 have p1:esz≠0:= λe0=>by rw[e0] at c3;simp at c3
 have p2:(B6 ie.zero).length=esz:=by omega
 unfold Wb
 simp only[h1,h2,hd,hie,hsrc,JN]
 have pre:=And.intro p1 (And.intro p2 (And.intro (show(match i2.d with| .slice .. =>True| .string=>True|_=>False) from by cases hd2:i2.d<;>rw[hd2] at c5<;>first|trivial|cases c5) (A7U c6)))
 split at h
 ·obtain⟨hb,h⟩:=Br h
  rw[BX] at h
  simp only[Jp,Yf] at hb
  exact⟨_,_,h,pre,⟨by simpa using c1,c2⟩,by simpa using hb,rfl,rfl⟩
 ·rename_i sz r1 o n
  obtain⟨q0,E,cs,hl,h⟩:=J1 h
  rw[Cw] at h
  obtain⟨hb,h⟩:=Br h
  rw[K4,D8,BX,DI,C8] at h
  simp only[Jp,ZZ,Yf] at hb
  obtain⟨b1,b2,b3,b4,b5⟩:=hb
  refine⟨_,_,h,pre,⟨by simpa using c1,c2⟩,?_⟩
  simp only[hl]
  exact⟨⟨b1,b2,by simpa using b3,b4,b5⟩,rfl,rfl⟩
 ·cases h
variable {P:Program} {G:Gl} {w0:Base} {C:Ctx} {w w':World}
def Ctx.addF (C:Ctx) (b:Nat):Ctx:={C with F:= λk i=>C.F k i∨k=b}
theorem Rel.new_fixed (h:Rel G w0 C H w) (hb:Below w.heap.size w w') (hlt:w.heap.size<w'.heap.size):Rel G w0 (C.addF w.heap.size) H w'∧Ext w0.own C w (C.addF w.heap.size) w':=by
 have e:Ext w0.own C w (C.addF w.heap.size) w':=⟨λ_ _=>rfl,λ_ _ h=> .inl h,λk i h'=>hb.cell (p:=⟨k,i,none⟩) (h.fin k i h'),λ_ h=>h,λk h'=>hb.block k (h.finB k h'),
  λk arr T fz h'=>⟨arr,fz,(hb.block k (l1q.1 h').1).trans h',rfl⟩,λk i h'=>h'.imp id (λe=> .inl (by rw[e];exact h.below.size)),λk h'=> .inl h',hb.size⟩
 refine⟨⟨h.glob.mono e,h.below.below hb,h.lt,λs x hl=>(h.rows s x hl).mono e (λk base hp=>hb.block k ((h.rows s x hl).block (EE hl) hp)),λs x k o hl hp=> ?_,h.sep,λk i hF=> ?_,λk hB=>l2m (h.finB k hB) hb.size,h.nx⟩,e⟩
 ·have h1:=h.own s x k o hl hp
  have h2:=(h.rows s x hl).block (EE hl) hp
  refine⟨h1.1,λi hF=> ?_,h1.2.2⟩
  rcases hF with hF|hF
  ·exact h1.2.1 i hF
  ·omega
 ·rcases hF with hF|hF
  ·exact l2m (h.fin k i hF) hb.size
  ·omega
theorem B1H (hT:Xv P T) {ty e:TypeId} {esz:Nat} {i ie:TI} {n:Nat} {l:List (Nat×Nat×AV)} {ps:List (Nat×AV)} {qs:List (Nat×Value)} {K:AV→Al} (hi:T ty=some i) (hd:i.d= .slice e esz) (hie:T e=some ie) (he:(ps.map λp=>(some (p.1*esz,esz)).map λq=>(q.1,q.2,p.2))=l.map some)
 (h:RN esz ie n l K=some r) (hlen:ps.length=qs.length) (hq:∀(j:Nat) (p:Nat×AV),ps[j]?=some p→∃z,qs[j]?=some (p.1,z)∧VRel C w p.2 z) (hr:Rel G w0 C H w):
 ∃v y C' w',K v=some r∧(Instr.buildSlice ty n qs.toArray).run P w= .ok y w'∧VRel C' w' v y∧Rel G w0 C' H w'∧Ext w0.own C w C' w':=by
 rw[RN,Dc,Cw] at h
 obtain⟨h1,h⟩:=Br h
 rw[Uo] at h
 obtain⟨cs',h2,hf⟩:=Up (place:= λj=>some (j*esz,esz)) l ps _ _ he h
 obtain⟨hcl,hK⟩:=Br h2
 simp only[Jp,ZZ,l14,Yf] at h1
 have hne:esz≠0:= λe0=>by have:=h1.2.1;rw[e0] at this;simp at this
 have hzl:(B6 ie.zero).length=esz:=by omega
 have hbig:n*esz≤2^24:=h1.2.2
 have ok:=hT ty i hi
 obtain⟨hu,hc⟩:=ok.elem_slice hd
 have oke:=hT e ie hie
 obtain⟨z,hz,ez⟩:=oke.run_zero (P:=P) w
 have hsz:(sizeOf e).run P w= .ok esz w:=by rw[←hc];exact BA w (by rw[hc];exact hne)
 have hz0:Ca C w (B6 ie.zero) z.cells.toList:=Mu (t:=e) ez
 have hzs:z.cells.size=esz:=by have:=hz0.1;simp at this;omega
 have hzz:Ca C w (TL n (B6 ie.zero)) ((List.range n).flatMap λ_=>z.cells.toList):=by rw[Wp];exact UO hz0 n
 obtain⟨zs,g1,g2⟩:=WQ (C:=C) (w:=w) ps qs _ _ cs' hlen hq hzz hf
 have hbig':¬(n*esz>2^24):=by omega
 have hrl:zs.length=n*esz:=by rw[g2.1,Xo _ _ _ hf,TK,hzl]
 have hbl:=VO w (.cells zs.toArray e)
 obtain⟨hrel,hext⟩:=hr.new_fixed hbl (by simp)
 refine⟨_,.slice (some ⟨w.heap.size,0,none⟩) n n,_,_,hK,?_,?_,hrel,hext⟩
 ·unfold Instr.buildSlice
  rw[C4,run_underlying hu w]
  simp only[E3]
  rw[C4,hsz]
  simp only[E3,if_neg hbig',pure_bind]
  by_cases h0:n*esz=0
  ·have hn0:n=0:=by rcases Nat.mul_eq_zero.1 h0 with h|h;exact h;exact absurd h hne
   subst hn0
   rw[if_pos h0]
   simp only[List.range_zero,List.flatMap_nil] at g1
   rw[show(Array.map (λx=>(#[]:Array Value)[x%(#[]:Array Value).size]!) (Array.range (0*esz)))= #[] from by rw[Nat.zero_mul];apply l0c;simp,g1]
   simp[newRow]
  ·rw[if_neg h0,C4,hz]
   simp only[E3]
   have:=VV z.cells n
   rw[hzs] at this⊢
   rw[this,g1]
   simp[newRow]
 ·have g3:Ca (C.addF w.heap.size).bare {w with heap:=w.heap.push (.cells zs.toArray e)} cs' zs:=Ca.mono (C:=C.bare) (Ca.down 2 hcl g2 rfl rfl) hext.bare
  refine .list (O8 _) (λi=>zs.getD i undef) (λi hi=> .inr rfl) (λi hi=> ?_) (λi hi=> ?_)
  ·have hi':i<zs.length:=by rw[g2.1];exact hi
   rw[cell_of_row _ w.heap.size (0+i) zs.toArray e (0,0) (by simp)]
   simp[Ul,hi']
  ·have hi':i<zs.length:=by rw[g2.1];exact hi
   rw[Ul,JV hi']
   exact g3.get i hi
end
def eMk (e:TypeId) (esz:Nat) (ie:TI) (len cap:AV) (H:Hp) (K:KV):Al:=
 A4M len λl=>iN l λn=>A4M cap λc=>iN c λm=>GU ie.zero λz=>HJ z 0 λk=>
  ck (Nat.beq k esz&&(!Nat.beq esz 0&&(Nat.beq ie.size esz&&(Nat.ble n m&&(Nat.ble (Nat.mul ie.bytes m) 281474976710656&&Nat.ble m 281474976710656)))))
   (WO n z λcs=>HE H λs=>K (.sl esz s 0 n) ((s,.cells false e cs)::H))
section
variable {T:Ty} {H:Hp} {r:AV×Hp} {P:Program} {G:Gl} {w0:Base} {C:Ctx} {w:World}
theorem B1x (hT:Xv P T) {ty e:TypeId} {esz:Nat} {i ie:TI} {len cap:AV} {y1 y2:Value} {K:KV} (hi:T ty=some i) (hd:i.d= .slice e esz) (hie:T e=some ie) (h1:VRel C w len y1) (h2:VRel C w cap y2) (hr:Rel G w0 C H w) (h:eMk e esz ie len cap H K=some r):
 ∃v H' y C' w',K v H'=some r∧(Instr.makeSlice ty y1 y2).run P w= .ok y w'∧Jk G w0 C w v H' y C' w':=by
 unfold eMk at h
 obtain⟨k1,l,d1,g1⟩:=MR h
 obtain⟨n,e1,g2⟩:=SO g1
 obtain⟨k2,c,d2,g3⟩:=MR g2
 obtain⟨m,e2,g4⟩:=SO g3
 rw[Dc,Cw] at g4
 obtain⟨hb,g5⟩:=Br g4
 rw[Uo,BX] at g5
 simp only[Jp,ZZ,l14,Yf] at hb
 obtain⟨b1,b2,b3,b4,b5,b6⟩:=hb
 subst e1 e2 d1 d2
 have y1e:=AL.1 h1
 have y2e:=AL.1 h2
 subst y1e y2e
 obtain⟨hu,hc⟩:=(hT ty i hi).elem_slice hd
 obtain⟨inf,z,hinf,hs1,hs2,hz,hez⟩:=(hT e ie hie).info
 have hz0:Ca C w (B6 ie.zero) z.cells.toList:=Mu (t:=e) hez
 have hzs:z.cells.size=esz:=by have:=hz0.1;simp at this;omega
 have hb5:ie.bytes*m≤281474976710656:=b5
 have hb6:(inf.bytes:Int)*(m:Int)≤281474976710656:=by
  have:((ie.bytes*m:Nat):Int)≤281474976710656:=by omega
  rw[Int.natCast_mul] at this
  rw[hs2];exact this
 have hrun:=run_make (P:=P) w ty e inf z hu hinf hz k1 k2 n m (by omega) (by omega) hb6 (by omega)
 have hzz:Ca C w (TL n (B6 ie.zero)) ((List.range n).flatMap λ_=>z.cells.toList):=by rw[Wp];exact UO hz0 n
 have hlen:(TL n (B6 ie.zero)).length=n*esz:=by rw[TK];congr 1;omega
 have harr:(madeCells z.cells (m*esz)).toList.take (n*esz)=(List.range n).flatMap λ_=>z.cells.toList:=by
  have e1:=congrArg Array.toList (VV z.cells n)
  rw[hzs] at e1
  simp only[Array.toList_map,Array.toList_range] at e1
  rw[←e1]
  simp only[madeCells,Array.toList_map,Array.toList_range,hzs]
  rw[←List.map_take]
  congr 1
  rw[List.take_range,l1x (l22 _ b4)]
 have key:=UN hr (Le w (.cells (madeCells z.cells (m*esz)) e)) e (cs:=TL n (B6 ie.zero)) (arr:=madeCells z.cells (m*esz)) (fz:=(0,0)) (World.alloc_heap_new w _) (λi _=>by omega) esz n m b4 (by rw[size_madeCells];exact O8 _) (by rw[size_madeCells,hlen];exact l22 _ b4) (by rw[hlen,harr];exact hzz)
 refine⟨_,_,_,_,_,g5,?_,key⟩
 rw[hrun]
 simp only[Xs,hs1,b3]
end
end Go.Abs
end
