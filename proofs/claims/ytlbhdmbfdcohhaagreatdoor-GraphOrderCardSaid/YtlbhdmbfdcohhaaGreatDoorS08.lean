import Derived.ScopeJumps
import Derived.Test.YtlbhdmbfdcohhaaGreatDoorS03
import Derived.Test.YtlbhdmbfdcohhaaGreatDoorS07
set_option linter.all false
set_option maxHeartbeats 100000000
noncomputable section
namespace Go.Abs
open Go.RowKit
def A0B (P:Program) (c rest:Code) (Q:Exit→Act→World→Prop) (a:Act) (w:World):Prop:=
 ∀(b:Frame) (k:List Item) (cs:List Frame),∃e a' w',Q e a' w'∧Arrives P (lone (b.at a (.code rest:: .inScope c::k)) cs w) b k cs e a' w'
theorem A8W {P:Program} {c rest:Code} {Q Q':Exit→Act→World→Prop} {a:Act} {w:World} (hg:∀l a w,Q' (.goto l) a w→∃rest',findLabel c l=some rest'∧A0B P c rest' Q a w) (hq:∀e a w,(∀l,e≠.goto l)→Q' e a w→Q e a w)
 (h:rest.wp P Q' a w):A0B P c rest Q a w:=by
 intro b k cs
 obtain⟨e,a₁,w₁,h1,harr⟩:=h b (.inScope c::k) cs
 cases e with
 |normal=>exact⟨.normal,a₁,w₁,hq _ _ _ (by simp) h1,Steps.trans harr (.one step_inScope)⟩
 |exit id=>exact⟨.exit id,a₁,w₁,hq _ _ _ (by simp) h1,λk' hk=>harr k' (by simp[exitTo,hk])⟩
 |goto l=>
  obtain⟨rest',hf,hs⟩:=hg l a₁ w₁ h1
  have hgo:gotoIn l (.inScope c::k)=some (.code rest':: .inScope c::k):=by simp[gotoIn,hf]
  obtain⟨e₂,a₂,w₂,hq₂,harr₂⟩:=hs b k cs
  exact⟨e₂,a₂,w₂,hq₂,.of_steps (harr _ hgo) harr₂⟩
 |ret=>exact⟨_,a₁,w₁,hq _ _ _ (by simp) h1,harr⟩
 |panic ch=>exact⟨_,a₁,w₁,hq _ _ _ (by simp) h1,harr⟩
 |outgrown=>exact⟨_,a₁,w₁,hq _ _ _ (by simp) h1,harr⟩
theorem A5W {P:Program} {c:Code} {Q:Exit→Act→World→Prop} {a:Act} {w:World} (h:A0B P c c Q a w):(Code.scope c).wp P Q a w:=by
 intro b k cs
 obtain⟨e,a₁,w₁,hq,harr⟩:=h b k cs
 exact⟨e,a₁,w₁,hq,.of_steps (.one step_scope) harr⟩
section
variable {P:Program} {G:Gl} {m N:Nat} {t:Tm} {H:Hp} {Q:Exit→Tm→Hp→Prop}
def A5D (P:Program) (G:Gl) (m N:Nat) (c rest:Code) (Q:Exit→Tm→Hp→Prop) (t:Tm) (H:Hp):Prop:=
 ∀w0 s0 C a w,St G w0 s0 C N t H a w→A0B P c rest (KW G w0 s0 m C N w Q) a w
theorem B28 {c:Code} (h:A5D P G m N c c Q t H):QI P G none m N (.scope c) Q t H:= λw0 s0 C a w s=>wpIn_wide.2 (A5W (h w0 s0 C a w s))
theorem A4a {c rest:Code} {Q':Exit→Tm→Hp→Prop} (hg:∀l t H,Q' (.goto l) t H→∃rest',findLabel c l=some rest'∧A5D P G m N c rest' Q t H) (hq:∀e t H,(∀l,e≠.goto l)→Q' e t H→Q e t H)
 (h:QI P G none m N rest Q' t H):A5D P G m N c rest Q t H:=by
 intro w0 s0 C a w s
 refine A8W ?_ ?_ (wpIn_wide.1 (h w0 s0 C a w s))
 ·rintro l a' w' ⟨C',t',H',s',hx,hk⟩
  obtain⟨rest',hf,hs⟩:=hg l t' H' hk
  refine⟨rest',hf,?_⟩
  intro b k cs
  obtain⟨e2,a2,w2,hq2,harr⟩:=hs w0 s0 C' a' w' s' b k cs
  exact⟨e2,a2,w2,hq2.later hx,harr⟩
 ·rintro e a' w' hne ⟨C',t',H',s',hx,hk⟩
  exact⟨C',t',H',s',hx,hq e t' H' hne hk⟩
end
def IE (E:XE) (t:Tm) (x:Operand) (K:AV→Aj):Aj:=
 match x with
 | .tmp i=>gtm t i K
 | .const v=>K (ofV v)
 | .global g=>E.gl.getK g λcs=>K (.iptr cs)
 | .func f=>K (.fn (.func f) [] [])
def A0G (E:XE) (t:Tm) (l:List Operand):(List AV→Aj)→Aj:=
 @List.rec Operand (λ_=>(List AV→Aj)→Aj) (λK=>K []) (λx _ ih K=>IE E t x λv=>ih λvs=>K (v::vs)) l
def A0D (E:XE) (t:Tm) (x:Option Operand) (K:Option AV→Aj):Aj:=
 match x with
 |none=>K none
 |some x=>IE E t x λv=>K (some v)
def plK (i:TI) (j:Nat) (K:Nat→Nat→Aj):Aj:=(λ(_:Unit)=>match Pe i j with|some (o,s)=>fNS o λo=>K o s|none=>none) GT
def XU (E:XE) (t:Tm) (i:TI) (l:List (Nat×Operand)):(List (Nat×Nat×AV)→Aj)→Aj:=
 @List.rec (Nat×Operand) (λ_=>(List (Nat×Nat×AV)→Aj)→Aj) (λK=>K []) (λp _ ih K=>plK i p.1 λo s=>IE E t p.2 λv=>ih λl'=>K ((o,s,v)::l')) l
def B8f (i:TI) (f:Nat) (K:Nat→Nat→TypeId→Aj):Aj:=(λ(_:Unit)=>match i.d with| .struct fs=>(match fs[f]? with|some (o,s,ft)=>K o s ft|none=>none)|_=>none) GT
def A4u (i:TI) (K:TypeId→Nat→Aj):Aj:=(λ(_:Unit)=>match i.d with| .slice e esz=>K e esz|_=>none) GT
def B0p (i:TI):TypeId:=match i.d with| .slice e _=>e|_=>0
def elK (E:XE) (i:TI) (K:TI→Aj):Aj:=(λ(_:Unit)=>match X3 i with|some e=>E.ty.getK e K|none=>K i) GT
def Ko (v:AV) (K:AV→Aj):Aj:=match v with| .ptr r p k=>K (.ptr r p k)| .iptr cs=>K (.iptr cs)| .fn (.func f) a b=>K (.fn (.func f) a b)|_=>none
def AL (q a b:AV) (K:AV→Aj):Aj:=match q with| .v (.bool true)=>K a| .v (.bool false)=>K b|_=>none
def A8U:TD→Bool
 | .int .u8=>true
 |_=>false
def cvK (E:XE) (s d:TypeId) (i j:TI) (a:AV) (H:Hp) (K:AV→Aj):Aj:=
 (λ(_:Unit)=>match i.d with
  | .slice e _=>(match j.d with
   | .string=>E.ty.getK e λie=>ckS (A8U ie.d) (A2j a H K)
   |_=>none)
  | .pointer e=>ckS (Nat.beq d E.up&& !E.lie.isEmpty) (E.ty.getK e λie=>B1R ie a H K)
  | .other=>(match j.d with
   | .pointer u=>ckS (Nat.beq s E.up&& !E.lie.isEmpty) (B1K E.lie u a H K)
   |_=>none)
  |_=>F2 i j a K) GT
def A4V (i:TI) (K:TypeId→TypeId→Aj):Aj:=(λ(_:Unit)=>match i.d with| .map k e=>K k e|_=>none) GT
def B1v (E:XE) (kt:TypeId) (a:AV) (K:Value→Aj):Aj:=
 E.ty.getK kt λik=>(λ(_:Unit)=>match ik.d with
  | .string=>IV a K
  | .int q=>A6R q a K
  | .struct _=>E.eqt.getK kt λks=>B1w ks a K
  | .array .. =>E.eqt.getK kt λks=>B1w ks a K
  |_=>none) GT
def A8V:Operand→Bool
 | .const .nilIface=>true
 |_=>false
def B9h (op:BinOp) (a:AV) (K:AV→Aj):Aj:=
 match a,op with
 | .v .nilIface,.eql=>K (.v (.bool true))
 | .v .nilIface,.neq=>K (.v (.bool false))
 |_,_=>none
def C3N (E:XE) (op:BinOp) (ty:TypeId) (nc:Bool) (a b:AV) (K:AV→Aj):Aj:=
 E.ty.getK ty λi=>(λ(_:Unit)=>match i.d with
  | .struct _=>E.eqt.getK ty λks=>UY ks op a b K
  | .array .. =>E.eqt.getK ty λks=>UY ks op a b K
  | .pointer e=>E.ty.getK e λie=>A09 i ie op a b K
  | .iface=>ckS nc (B9h op a K)
  |_=>Ak i op a b K) GT
def A7I (i:TI) (v:AV) (l h m:Option AV) (H:Hp) (K:AV→Aj):Aj:=
 (λ(_:Unit)=>match i.d with
  | .array n _ esz=>(match m with|none=>A7b n esz v l h H K|some _=>none)
  |_=>Dh i v l h m K) GT
def B5W (i:TI) (v:AV) (H:Hp) (K:AV→Aj):Aj:=
 (λ(_:Unit)=>match i.d with
  | .map .. =>A7g v H K
  |_=>AQ i v K) GT
def B2w (E:XE) (R:Rt) (f:AV) (aZ:List AV) (H:Hp) (K:AV→Aj):Aj:=
 match f with
 | .fn (.func g) first cap=>ckS (!E.imp g) (US aZ cap λas'=>US first as' λall=>Ah R g all H K)
 |_=>none
def A4f (E:XE) (R:Rt) (t:Tm) (H:Hp) (c:Call) (K:AV→Aj):Aj:=
 match c.callee with
 | .value fv=>IE E t fv λf=>A0G E t c.args.toList λaZ=>B2w E R f aZ H K
 | .builtin .len=>match c.args.toList,c.argTypes.toList with
  |[x],[ty]=>IE E t x λv=>E.ty.getK ty λi=>B5W i v H K
  |_,_=>none
 | .builtin .unsafeSliceData=>match c.args.toList with
  |[x]=>IE E t x λv=>B4X v K
  |_=>none
 | .builtin .min=>match c.args.toList with
  |[x,y]=>IE E t x λa=>IE E t y λb=>eMM true a b K
  |_=>none
 | .builtin .max=>match c.args.toList with
  |[x,y]=>IE E t x λa=>IE E t y λb=>eMM false a b K
  |_=>none
 |_=>none
def PA (E:XE) (R:Rt) (t:Tm) (H:Hp) (o:Op) (K:AV→Aj):Aj:=
 match o with
 | .move x=>IE E t x K
 | .assign x=>IE E t x K
 | .pick c a b=>IE E t c λq=>IE E t a λa=>IE E t b λb=>AL q a b K
 | .load ty x=>IE E t x λv=>E.ty.getK ty λi=>Ar i v H K
 | .nilCheck x=>IE E t x λv=>Ko v K
 | .binOp op ty x y _=>IE E t x λa=>IE E t y λb=>C3N E op ty (A8V y) a b K
 | .unOp op _ x=>IE E t x λa=>GR op a K
 | .convert s d x=>IE E t x λa=>E.ty.getK s λi=>E.ty.getK d λj=>cvK E s d i j a H K
 | .makeFunc fn first cap=>A0G E t first.toList λfs=>A0G E t cap.toList λcs=>K (.fn fn fs cs)
 | .fieldAddr ty x f=>IE E t x λv=>E.ty.getK ty λi=>B8f i f λoff sz _=>ckS (!Nat.beq sz 0) (AM off v K)
 | .field ty x f=>IE E t x λv=>E.ty.getK ty λi=>B8f i f λoff _ ft=>E.ty.getK ft λj=>A5m off j v K
 | .indexAddr ty x ix=>IE E t x λv=>IE E t ix λn=>E.ty.getK ty λi=>B9 i v n K
 | .index ty x ix=>IE E t x λv=>IE E t ix λn=>E.ty.getK ty λi=>elK E i λj=>Tr i j v n K
 | .slice ty x lo hi mx=>IE E t x λv=>A0D E t lo λl=>A0D E t hi λh=>A0D E t mx λm=>E.ty.getK ty λi=>A7I i v l h m H K
 | .extract x k=>IE E t x λv=>AN v k K
 | .build ty parts=>E.ty.getK ty λi=>ckS (A5t i) (XU E t i parts.toList λl=>B3 i l K)
 | .call c=>A4f E R t H c K
 | .buildSlice ty n parts=>E.ty.getK ty λi=>A4u i λ_ esz=>E.ty.getK (B0p i) λie=>XU E t i parts.toList λl=>Sm esz ie n l K
 | .lookup ty x ix ok=>IE E t x λm=>IE E t ix λk=>E.ty.getK ty λi=>A4V i λkt et=>B1v E kt k λkv=>E.ty.getK et λie=>TB ie ok m kv H K
 | .entry it=>IE E t it λv=>A3k v H K
 |_=>none
section
variable {D:XE→Cf→Nat→List Oper→Bool} {E:XE} {P:Program} {R:Rt} {t:Tm} {H:Hp} {r:AV×Hp} {ro:Option Nat} {N:Nat}
theorem B8G {cs:List AV} (h:cs.all isV=true):(cs.map unV).map AV.v=cs:=by
 induction cs with
 |nil=>rfl
 |cons c cs ih=>
  simp only[l2j,Jm] at h
  simp only[XS,ih h.2]
  cases c<;>simp[isV] at h
  rfl
theorem AU (hE:XE.Ok D E P) {x:Operand} {K:AV→Aj} (h:IE E t x K=some r):K (Kw E.G t x)=some r:=by
 unfold IE at h
 split at h
 ·rwa[Ti] at h
 ·exact h
 ·obtain⟨cs,h1,h2⟩:=AZ h
  have:=hE.gl _ _ h1
  simp only[Kw,XE.G,h1,l0x,B8G this]
  exact h2
 ·exact h
theorem PB (hE:XE.Ok D E P):∀(l:List Operand) (K:List AV→Aj),A0G E t l K=some r→K (l.map (Kw E.G t))=some r:=by
 intro l
 induction l with
 |nil=>intro K h;exact h
 |cons x l ih=>
  intro K h
  have h:(IE E t x λv=>A0G E t l λvs=>K (v::vs))=some r:=h
  exact ih _ (AU hE h)
theorem XV (hE:XE.Ok D E P) {x:Option Operand} {K:Option AV→Aj} (h:A0D E t x K=some r):K (x.map (Kw E.G t))=some r:=by
 unfold A0D at h
 split at h
 ·exact h
 ·exact AU hE h
theorem TY (hE:XE.Ok D E P) {i:TI}:∀(l:List (Nat×Operand)) (K:List (Nat×Nat×AV)→Aj),XU E t i l K=some r→
 ∃l',K l'=some r∧((l.map λp=>(p.1,Kw E.G t p.2)).map λp=>(Pe i p.1).map λq=>(q.1,q.2,p.2))=l'.map some:=by
 intro l
 induction l with
 |nil=>intro K h;exact⟨[],h,rfl⟩
 |cons p l ih=>
  intro K h
  have h:(plK i p.1 λo s=>IE E t p.2 λv=>XU E t i l λl'=>K ((o,s,v)::l'))=some r:=h
  unfold plK at h
  split at h
  ·rename_i o s hp
   simp only[B4O] at h
   obtain⟨l',h1,h2⟩:=ih _ (AU hE h)
   refine⟨_,h1,?_⟩
   simp only[XS,hp,l0x,h2]
  ·cases h
theorem rd (hE:XE.Ok D E P) {o:Oper} {v:AV} {K:AV→Aj} (hd:∀c,o.op≠.defer c) (hx:xop (E.env P) o.op t H (λv' H'=>v'=v∧H'=H)) (hK:K v=some r):Ss P E.G ro N o t H (λv H'=>H'=H∧K v=some r):=
 Ss.mono (RB hd (A3r (E:=E.env P) hE.env hx)) (by rintro _ _ ⟨rfl,rfl⟩;exact⟨rfl,hK⟩)
theorem Nx {i:TI} {K:TypeId→TypeId→Aj} (h:A4V i K=some r):∃k e,i.d= .map k e∧K k e=some r:=by
 unfold A4V at h
 split at h
 ·rename_i hd;exact⟨_,_,hd,h⟩
 ·cases h
theorem Nw (hE:XE.Ok D E P) {mt kt et:TypeId} {i:TI} (hi:E.ty.get mt=some i) (hd:i.d= .map kt et):P.underlying mt=some (.map kt et):=by
 obtain⟨u,hu,e⟩:=(hE.ty mt i hi).under
 rw[hd] at e
 cases u<;>simp[td] at e
 rw[hu,e.1,e.2]
theorem Sc (hE:XE.Ok D E P) {kt:TypeId} {a:AV} {K:Value→Aj} (h:B1v E kt a K=some r):∃k,OS P kt k∧K k=some r∧∀{C:Ctx} {w:World} {y:Value},VRel C w a y→y=k:=by
 obtain⟨ik,hik,h⟩:=AZ h
 obtain⟨u,hu,e⟩:=(hE.ty kt ik hik).under
 have fl:∀ks,E.eqt.get kt=some ks→B1w ks a K=some r→∃k,OS P kt k∧K k=some r∧∀{C:Ctx} {w:World} {y:Value},VRel C w a y→y=k:= λks hks h=>by
  unfold B1w at h
  split at h
  ·obtain⟨vs,rfl,h1⟩:=Wl _ _ h
   obtain⟨h2,h3⟩:=Kf h1
   exact⟨_,.inr (.inr ⟨ks,vs,hE.eq kt ks hks,h2,rfl⟩),h3,λhv=>A0U hv⟩
  ·cases h
 simp only at h
 split at h
 ·rename_i hd
  rw[hd] at e
  have hu':u= .string:=by cases u<;>simp[td] at e;rfl
  subst hu'
  unfold IV at h
  split at h
  ·exact⟨_,.inl ⟨hu,_,rfl⟩,h,λhv=>AI.1 hv⟩
  ·cases h
 ·rename_i q hd
  rw[hd] at e
  have hu':u= .int q:=by cases u<;>simp[td] at e;rw[e]
  subst hu'
  unfold A6R at h
  split at h
  ·obtain⟨h1,h2⟩:=Kf h
   have h1:_=q:=of_decide_eq_true h1
   subst h1
   exact⟨_,.inr (.inl ⟨_,_,hu,rfl⟩),h2,λhv=>AI.1 hv⟩
  ·cases h
 ·obtain⟨ks,hks,h⟩:=AZ h;exact fl ks hks h
 ·obtain⟨ks,hks,h⟩:=AZ h;exact fl ks hks h
 ·cases h
theorem NX {o:Oper} {K:AV→Aj} (hd:∀c,o.op≠.defer c) (h:∀(w0:Base) (s0:Nat) (C:Ctx) (N:Nat) (a:Act) (w:World),St E.G w0 s0 C N t H a w→∃v y,K v=some r∧(execOp a.eval o).run P w= .ok (.value y) w∧VRel C w v y):Ss P E.G ro N o t H (λv H'=>H'=H∧K v=some r):=
 RB hd λw0 s0 C N a w s=>let⟨v,y,h1,h2,h3⟩:=h w0 s0 C N a w s;⟨v,H,y,C,w,⟨rfl,h1⟩,.inl h2,h3,s.rel,.refl _ _ _⟩
theorem A7T (hE:XE.Ok D E P) {o:Oper} {op:BinOp} {ty yt:TypeId} {x y:Operand} (ho:o.op= .binOp op ty x y yt) {K:AV→Aj} (h:C3N E op ty (A8V y) (Kw E.G t x) (Kw E.G t y) K=some r):Ss P E.G ro N o t H (λv H'=>H'=H∧K v=some r):=by
 obtain⟨i,hi,h⟩:=AZ h
 have nd:∀c,o.op≠.defer c:= λc hc=>by rw[ho] at hc;cases hc
 have fl:∀ks,E.eqt.get ty=some ks→UY ks op (Kw E.G t x) (Kw E.G t y) K=some r→Ss P E.G ro N o t H (λv H'=>H'=H∧K v=some r):= λks hks h=>by
  refine NX nd λw0 s0 C N a w s=> ?_
  obtain⟨v,u,h1,h2,h3⟩:=A9d (P:=P) x y (hE.eq ty ks hks) (AW s x) (AW s y) h
  refine⟨v,u,h1,?_,h3⟩
  simp only[execOp,ho]
  rw[CI,h2];rfl
 simp only at h
 split at h
 ·obtain⟨ks,hks,h⟩:=AZ h;exact fl ks hks h
 ·obtain⟨ks,hks,h⟩:=AZ h;exact fl ks hks h
 ·rename_i e hd
  obtain⟨ie,hie,h⟩:=AZ h
  refine NX nd λw0 s0 C N a w s=> ?_
  obtain⟨v,u,h1,h2,h3⟩:=A9c (P:=P) (T:=E.T) hE.ty x y hi hd hie (AW s x) (AW s y) h
  refine⟨v,u,h1,?_,h3⟩
  simp only[execOp,ho]
  rw[CI,h2];rfl
 ·rename_i hd
  obtain⟨hc,h⟩:=Kf h
  have hy:y= .const .nilIface:=by
   unfold A8V at hc
   split at hc
   ·rfl
   ·cases hc
  subst hy
  obtain⟨u,hu,e⟩:=(hE.ty ty i hi).under
  rw[hd] at e
  obtain⟨ms,rfl⟩:∃ms,u= .interface ms:=by cases u<;>simp[td] at e;exact⟨_,rfl⟩
  have he:∀w,(Op.equal ty .nilIface .nilIface).run P w= .ok true w:= λw=>by
   show(Op.equalIn (9999+1) ty _ _).run P w=_
   unfold Op.equalIn;rw[CI,run_underlying hu w];rfl
  have hg:∀(op:BinOp) (z:Operand) (w:World),(eqGuard op ty z (.const .nilIface) .nilIface .nilIface).run P w= .ok () w:= λop z w=>by
   unfold eqGuard
   rw[Sem.run_ite]
   refine B4x (by simp) ?_
   simp
  refine NX nd λw0 s0 C N a w s=> ?_
  have hv:=AW s x
  have hz:a.eval (.const .nilIface)= .nilIface:=rfl
  unfold B9h at h
  split at h
  ·rename_i hq _ _
   rw[hq] at hv
   have hv:=AI.1 hv
   refine⟨_,.bool true,h,?_,.v _⟩
   simp only[execOp,ho]
   rw[hv,hz,CI,CI,hg]
   simp[binOp,he]
  ·rename_i hq _ _
   rw[hq] at hv
   have hv:=AI.1 hv
   refine⟨_,.bool false,h,?_,.v _⟩
   simp only[execOp,ho]
   rw[hv,hz,CI,CI,hg]
   simp[binOp,he]
  ·cases h
 ·obtain⟨u,hu,hx⟩:=A45 (T:=E.T) (ty:=ty) hi h
  exact rd hE nd (by rw[ho];simpa [xop,XE.env] using hx) hu
theorem Pv {i:TI} {K:TypeId→Nat→Aj} (h:A4u i K=some r):∃e esz,i.d= .slice e esz∧K e esz=some r:=by
 unfold A4u at h
 split at h
 ·rename_i hd;exact⟨_,_,hd,h⟩
 ·cases h
theorem B25 (hE:XE.Ok D E P) {o:Oper} {ty:TypeId} {n:Nat} {parts:Array (Nat×Operand)} (ho:o.op= .buildSlice ty n parts) {K:AV→Aj} (h:(E.ty.getK ty λi=>A4u i λ_ esz=>E.ty.getK (B0p i) λie=>XU E t i parts.toList λl=>Sm esz ie n l K)=some r):Ss P E.G ro N o t H (λv H'=>H'=H∧K v=some r):=by
 obtain⟨i,hi,h⟩:=AZ h
 obtain⟨e,esz,hd,h⟩:=Pv h
 have he:B0p i=e:=by simp[B0p,hd]
 rw[he] at h
 obtain⟨ie,hie,h⟩:=AZ h
 obtain⟨l,h1,h2⟩:=TY hE _ _ h
 refine RB (λc hc=>by rw[ho] at hc;cases hc) λw0 s0 C N a w s=> ?_
 obtain⟨hl,hq⟩:=Yx s parts
 obtain⟨v,y,C',w',hK,hrun,hv,hr,hx⟩:=B20 (P:=P) (T:=E.T) hE.ty hi hd hie (by rw[←h2];simp[Pe,hd]) h1 hl hq s.rel
 refine⟨v,H,y,C',w',⟨rfl,hK⟩,.inl ?_,hv,hr,hx⟩
 have:(parts.map λ(i,x)=>(i,a.eval x))=(parts.toList.map λp=>(p.1,a.eval p.2)).toArray:=by apply l0c;simp
 simp only[execOp,ho]
 rw[this,CI,hrun]
 rfl
theorem B27 (hE:XE.Ok D E P) {o:Oper} {s d:TypeId} {x:Operand} (ho:o.op= .convert s d x) {i j ie:TI} {e z:Nat} (hi:E.ty.get s=some i) (hj:E.ty.get d=some j) (hd:i.d= .slice e z) (hd2:j.d= .string) (hie:E.ty.get e=some ie) (hu8:A8U ie.d=true) {K:AV→Aj} (h:A2j (Kw E.G t x) H K=some r):Ss P E.G ro N o t H (λv H'=>H'=H∧K v=some r):=by
 refine RB (λc hc=>by rw[ho] at hc;cases hc) λw0 s0 C N a w st=> ?_
 obtain⟨h1,l,hK,hrun⟩:=A9i (P:=P) st.rel (AW st x) h
 refine⟨.v (.string ⟨⟨l⟩⟩),H,.string ⟨⟨l⟩⟩,C,w,⟨rfl,hK⟩,.inl ?_,.v _,st.rel,.refl _ _ _⟩
 have hcv:(convert s d (a.eval x)).run P w= .ok (.string ⟨⟨l⟩⟩) w:=by
  obtain⟨hu1,_⟩:=(hE.ty s i hi).elem_slice hd
  obtain⟨u2,hu2,e2⟩:=(hE.ty d j hj).under
  obtain⟨u3,hu3,e3⟩:=(hE.ty e ie hie).under
  rw[hd2] at e2
  have hu2':u2= .string:=by cases u2<;>simp[td] at e2;rfl
  subst hu2'
  have hu3':u3= .int .u8:=by
   cases hq:ie.d with
   |int k=>
    rw[hq] at hu8 e3
    cases k<;>simp[A8U] at hu8
    cases u3<;>simp[td] at e3
    rw[e3]
   |_=>rw[hq] at hu8;simp[A8U] at hu8
  subst hu3'
  unfold convert
  rw[CI,run_underlying hu1 w]
  simp only[EO]
  rw[CI,run_underlying hu2 w]
  simp only[EO]
  generalize a.eval x=y at h1 hrun
  cases y with
  |slice ad n cap=>
   simp only
   rw[CI,run_underlying hu3 w]
   simp only[EO]
   exact hrun
  |string s=>exact absurd rfl (h1 s)
  |_=>simp[Conv.bytesToString] at hrun
 simp only[execOp,ho]
 rw[CI,hcv]
 rfl
theorem A3Q {i:TI} {f:Nat} {K:Nat→Nat→TypeId→Aj} (h:B8f i f K=some r):∃fs o s ft,i.d= .struct fs∧fs[f]?=some (o,s,ft)∧K o s ft=some r:=by
 unfold B8f at h
 split at h
 ·rename_i fs hd
  split at h
  ·rename_i hf;exact⟨fs,_,_,_,hd,hf,h⟩
  ·cases h
 ·cases h
theorem WA (hE:XE.Ok D E P) (hR:RSound D E P R) {o:Oper} {c:Call} (ho:o.op= .call c) {K:AV→Aj} (h:A4f E R t H c K=some r):Ss P E.G ro N o t H (λv H'=>H'=H∧K v=some r):=by
 have nd:∀c,o.op≠.defer c:= λc hc=>by rw[ho] at hc;cases hc
 unfold A4f at h
 split at h
 ·rename_i fv hcal
  have h:=PB hE _ _ (AU hE h)
  unfold B2w at h
  split at h
  ·rename_i g first cap hf
   obtain⟨_,h⟩:=Bw h
   rw[KS,KS,←l0k] at h
   obtain⟨⟨fn,h1,h2,h3⟩,hc⟩:=Zs hR h
   exact Ss.mono (XG ho hcal hf h1 h2 h3 hc) (λ_ _ h=>h)
  ·cases h
 ·rename_i hcal
  split at h
  ·rename_i x ty hx hty
   obtain⟨i,hi,h⟩:=AZ (AU hE h)
   unfold B5W at h
   split at h
   ·rename_i kt et hd
    refine NX nd λw0 s0 C N a w s=> ?_
    obtain⟨v,y,h1,h2,h3⟩:=A7f (P:=P) (ty:=o.type) (ts:=c.argTypes) (by rw[←l21,hty];rfl) (Nw hE hi hd) s.rel (AW s x) h
    refine⟨v,y,h1,?_,h3⟩
    have hargs:c.args.map a.eval= #[a.eval x]:=by apply l0c;simp[hx]
    rw[HW ho _ hcal,hargs]
    show(do pure (Next.value (←Builtin.len_ c.argTypes o.type #[a.eval x]))).run P w=_
    rw[CI,h2];rfl
   ·obtain⟨u,hu,hxl⟩:=B1U (T:=E.T) hi h
    exact rd hE nd (by rw[ho];simp only[xop,hcal,hx,hty];simpa [XE.env] using hxl) hu
  ·cases h
 ·rename_i hcal
  split at h
  ·rename_i x hx
   have h:=AU hE h
   unfold B4X at h
   split at h
   ·rename_i sz rr oo n hq
    obtain⟨hc,h1⟩:=Bw h
    simp only[Jm,l13,UK] at hc
    refine NX nd λw0 s0 C N a w s=> ?_
    have hv:=AW s x
    rw[hq] at hv
    have hargs:c.args.map a.eval= #[a.eval x]:=by apply l0c;simp[hx]
    rw[HW ho _ hcal,hargs]
    generalize a.eval x=y at hv
    cases hv with
    |slz=>exact absurd hc.2 (by simp)
    |@sl _ _ _ _ _ _ b base cap arr T fz hp hcap hb hsz=>
     refine⟨_,.pointer (some ⟨b,base+oo,none⟩),h1,?_,.ptr hp⟩
     show(do pure (Next.value (←Builtin.unsafeSliceData_ c.argTypes o.type #[.slice (some ⟨b,base+oo,none⟩) n cap]))).run P w=_
     rw[CI,Lib.run_unsafeSliceData_row _ _ _ _ _ _ (by omega)]
     rfl
   ·cases h
  ·cases h
 ·rename_i hcal
  split at h
  ·rename_i x y hx
   obtain⟨u,hu,hxl⟩:=A7e (AU hE (AU hE h))
   exact rd hE nd (by rw[ho];simp only[xop,hcal,hx];simpa [XE.env] using hxl) hu
  ·cases h
 ·rename_i hcal
  split at h
  ·rename_i x y hx
   obtain⟨u,hu,hxl⟩:=A7e (AU hE (AU hE h))
   exact rd hE nd (by rw[ho];simp only[xop,hcal,hx];simpa [XE.env] using hxl) hu
  ·cases h
 ·cases h
theorem QJ (hE:XE.Ok D E P) (hR:RSound D E P R) {o:Oper} {K:AV→Aj} (h:PA E R t H o.op K=some r):Ss P E.G ro N o t H (λv H'=>H'=H∧K v=some r):=by
 unfold PA at h
 split at h
 all_goals try (cases h;done)
 case h_1 x ho=>exact rd hE (λc hc=>by rw[ho] at hc;cases hc) (by rw[ho];exact⟨rfl,rfl⟩) (AU hE h)
 case h_2 x ho=>exact rd hE (λc hc=>by rw[ho] at hc;cases hc) (by rw[ho];exact⟨rfl,rfl⟩) (AU hE h)
 case h_3 c a b ho=>
  have h:=AU hE (AU hE (AU hE h))
  unfold AL at h
  split at h
  ·rename_i hq
   exact rd hE (λc hc=>by rw[ho] at hc;cases hc) (by rw[ho];simp[xop,XE.env,hq]) h
  ·rename_i hq
   exact rd hE (λc hc=>by rw[ho] at hc;cases hc) (by rw[ho];simp[xop,XE.env,hq]) h
  ·cases h
 case h_4 ty x ho=>
  obtain⟨i,hi,h⟩:=AZ (AU hE h)
  obtain⟨u,hu,hx⟩:=A7j (T:=E.T) (ty:=ty) hi h
  exact rd hE (λc hc=>by rw[ho] at hc;cases hc) (by rw[ho];simpa [xop,XE.env] using hx) hu
 case h_5 x ho=>
  have h:=AU hE h
  unfold Ko at h
  split at h
  ·rename_i hq;exact rd hE (λc hc=>by rw[ho] at hc;cases hc) (by rw[ho];simp[xop,XE.env,hq,B2y]) h
  ·rename_i hq;exact rd hE (λc hc=>by rw[ho] at hc;cases hc) (by rw[ho];simp[xop,XE.env,hq,B2y]) h
  ·rename_i hq;exact rd hE (λc hc=>by rw[ho] at hc;cases hc) (by rw[ho];simp[xop,XE.env,hq,B2y]) h
  ·cases h
 case h_6 op ty x y yt ho=>exact A7T hE ho (AU hE (AU hE h))
 case h_7 op ty x ho=>
  obtain⟨u,hu,hx⟩:=B4W (AU hE h)
  exact rd hE (λc hc=>by rw[ho] at hc;cases hc) (by rw[ho];simpa [xop,XE.env] using hx) hu
 case h_8 s d x ho=>
  obtain⟨i,hi,h⟩:=AZ (AU hE h)
  obtain⟨j,hj,h⟩:=AZ h
  unfold cvK at h
  simp only at h
  split at h
  ·rename_i e z hd
   split at h
   ·rename_i hd2
    obtain⟨ie,hie,h⟩:=AZ h
    obtain⟨hu,h⟩:=Kf h
    exact B27 hE ho hi hj hd hd2 hie hu h
   ·cases h
  ·rename_i e hd
   obtain⟨hc,h⟩:=Kf h
   simp only[Jm,l13,l14] at hc
   obtain⟨ie,hie,h⟩:=AZ h
   refine NX (λc hc=>by rw[ho] at hc;cases hc) λw0 s0 C N a w st=> ?_
   obtain⟨h1,h2⟩:=A99 (P:=P) (T:=E.T) hE.ty hi hd hie (d:=d) (by rw[hc.1];exact hE.up hc.2) st.rel (AW st x) h
   refine⟨_,_,h1,?_,AW st x⟩
   simp only[execOp,ho]
   rw[CI,h2];rfl
  ·rename_i hd
   split at h
   ·rename_i u hd2
    obtain⟨hc,h⟩:=Kf h
    simp only[Jm,l13,l14] at hc
    have hdu:P.underlying d=some (.pointer u):=by
     obtain⟨u',hu',e'⟩:=(hE.ty d j hj).under
     rw[hd2] at e'
     cases u'<;>simp[td] at e'
     rw[hu',e']
    refine NX (λc hc=>by rw[ho] at hc;cases hc) λw0 s0 C N a w st=> ?_
    obtain⟨h1,h2⟩:=A93 (P:=P) hE.lie (s:=s) (by rw[hc.1];exact hE.up hc.2) hdu st.rel (AW st x) h
    refine⟨_,_,h1,?_,AW st x⟩
    simp only[execOp,ho]
    rw[CI,h2];rfl
   ·cases h
  ·obtain⟨u,hu,hx⟩:=A9g (T:=E.T) hi hj h
   exact rd hE (λc hc=>by rw[ho] at hc;cases hc) (by rw[ho];simpa [xop,XE.env] using hx) hu
 case h_9 fn first cap ho=>
  have h:=PB hE _ _ (PB hE _ _ h)
  exact rd hE (λc hc=>by rw[ho] at hc;cases hc) (by rw[ho];exact⟨rfl,rfl⟩) h
 case h_10 ty x f ho=>
  obtain⟨i,hi,h⟩:=AZ (AU hE h)
  obtain⟨fs,off,s,ft,h1,h2,h⟩:=A3Q h
  obtain⟨hz,h⟩:=Bw h
  obtain⟨u,hu,hx⟩:=B58 (T:=E.T) (ty:=ty) hi h1 h2 (λe=>by rw[e] at hz;simp at hz) h
  exact rd hE (λc hc=>by rw[ho] at hc;cases hc) (by rw[ho];simpa [xop,XE.env] using hx) hu
 case h_11 ty x f ho=>
  obtain⟨i,hi,h⟩:=AZ (AU hE h)
  obtain⟨fs,off,s,ft,h1,h2,h⟩:=A3Q h
  obtain⟨j,hj,h⟩:=AZ h
  obtain⟨u,hu,hx⟩:=B1W (T:=E.T) (ty:=ty) hi h1 h2 hj h
  exact rd hE (λc hc=>by rw[ho] at hc;cases hc) (by rw[ho];simpa [xop,XE.env] using hx) hu
 case h_12 ty x ix ho=>
  obtain⟨i,hi,h⟩:=AZ (AU hE (AU hE h))
  obtain⟨u,hu,hx⟩:=B56 (T:=E.T) (ty:=ty) hi h
  exact rd hE (λc hc=>by rw[ho] at hc;cases hc) (by rw[ho];simpa [xop,XE.env] using hx) hu
 case h_13 ty x ix ho=>
  obtain⟨i,hi,h⟩:=AZ (AU hE (AU hE h))
  unfold elK at h
  have fin:∀j,(∀e,X3 i=some e→E.T e=some j)→Tr i j (Kw E.G t x) (Kw E.G t ix) K=some r→Ss P E.G ro N o t H (λv H'=>H'=H∧K v=some r):= λj hj h=>by
   obtain⟨u,hu,hx⟩:=B1V (T:=E.T) (ty:=ty) hi hj h
   exact rd hE (λc hc=>by rw[ho] at hc;cases hc) (by rw[ho];simpa [xop,XE.env] using hx) hu
  split at h
  ·rename_i e he
   obtain⟨j,hj,h⟩:=AZ h
   exact fin j (λe' he'=>by rw[he] at he';injection he' with he';subst he';exact hj) h
  ·rename_i he
   exact fin i (λe' he'=>by rw[he] at he';cases he') h
 case h_14 ty x lo hi mx ho=>
  have h0:=AZ (XV hE (XV hE (XV hE (AU hE h))))
  clear h
  obtain⟨i,hi',h⟩:=h0
  unfold A7I at h
  split at h
  ·rename_i n e esz hd
   split at h
   ·rename_i hm
    have hmx:mx=none:=by cases mx with
     |none=>rfl
     |some _=>cases hm
    subst hmx
    refine NX (λc hc=>by rw[ho] at hc;cases hc) λw0 s0 C N a w st=> ?_
    obtain⟨v,u,h1,h2,h3⟩:=A95 (P:=P) (T:=E.T) hE.ty hi' hd (hE.pos ty i e esz hi' (.inr ⟨n,hd⟩)) st.rel (AW st x) (Uv st lo) (Uv st hi) h
    refine⟨v,u,h1,?_,h3⟩
    simp only[execOp,ho]
    rw[CI]
    have:(Instr.sliceAt ty (a.eval x) (lo.map a.eval) (hi.map a.eval) (Option.map a.eval none)).run P w= .ok u w:=h2
    rw[this];rfl
   ·cases h
  ·obtain⟨u,hu,hx⟩:=A79 (T:=E.T) (ty:=ty) hi' h
   exact rd hE (λc hc=>by rw[ho] at hc;cases hc) (by rw[ho];simpa [xop,XE.env] using hx) hu
 case h_15 x k ho=>
  obtain⟨vs,u,h1,h2,h3⟩:=B1X (AU hE h)
  exact rd hE (λc hc=>by rw[ho] at hc;cases hc) (by rw[ho];simp only[xop,XE.env,h1,h2,Kn];exact⟨trivial,trivial⟩) h3
 case h_16 ty parts ho=>
  obtain⟨i,hi,h⟩:=AZ h
  obtain⟨hb,h⟩:=Bw h
  obtain⟨l,h1,h2⟩:=TY hE _ _ h
  obtain⟨u,hu,hx⟩:=A7m (T:=E.T) (ty:=ty) hi hb h2 h1
  exact rd hE (λc hc=>by rw[ho] at hc;cases hc) (by rw[ho];simpa [xop,XE.env] using hx) hu
 case h_17 c ho=>exact WA hE hR ho h
 case h_18 ty n parts ho=>exact B25 hE ho h
 case h_19 ty x ix ok ho=>
  obtain⟨i,hi,h⟩:=AZ (AU hE (AU hE h))
  obtain⟨kt,et,hd,h⟩:=Nx h
  obtain⟨kv,hk,h,hkv⟩:=Sc hE h
  obtain⟨ie,hie,h⟩:=AZ h
  refine NX (λc hc=>by rw[ho] at hc;cases hc) λw0 s0 C N a w st=> ?_
  obtain⟨v,y,h1,h2,h3⟩:=B1T (P:=P) (Nw hE hi hd) (hE.ty et ie hie) hk st.rel (AW st x) h
  refine⟨v,y,h1,?_,h3⟩
  simp only[execOp,ho]
  rw[CI,hkv (AW st ix),h2];rfl
 case h_20 it ho=>
  have h:=AU hE h
  refine NX (λc hc=>by rw[ho] at hc;cases hc) λw0 s0 C N a w st=> ?_
  obtain⟨v,y,h1,h2,h3⟩:=A9e (P:=P) st.rel (AW st it) h
  refine⟨v,y,h1,?_,h3⟩
  simp only[execOp,ho]
  rw[CI,h2];rfl
end
def C1J (r:Nat) (K:AV→Hp→Prop):Exit→Tm→Hp→Prop
 | .normal,_,H=>∃N t ps aZ bd,Aq H r=some (.loop N t ps aZ bd none)∧K (.v (.bool true)) (upd H r (.loop N t ps aZ bd (some none)))
 | .ret,_,H=>∃N t ps aZ bd,Aq H r=some (.loop N t ps aZ bd none)∧K (.v (.bool false)) (upd H r (.loop N t ps aZ bd (some (some .ret))))
 | .exit id,_,H=>∃N t ps aZ bd,Aq H r=some (.loop N t ps aZ bd none)∧K (.v (.bool false)) (upd H r (.loop N t ps aZ bd (some (some (.exit id)))))
 | .goto l,_,H=>∃N t ps aZ bd,Aq H r=some (.loop N t ps aZ bd none)∧K (.v (.bool false)) (upd H r (.loop N t ps aZ bd (some (some (.goto l)))))
 |_,_,_=>False
section
variable {P:Program} {G:Gl} {ro:Option Nat} {N:Nat} {t:Tm} {H:Hp}
theorem A9x {o:Oper} {c:Call} {fv:Operand} {r:Nat} {K:AV→Hp→Prop} (hop:o.op= .call c) (hcal:c.callee= .value fv) (hf:Kw G t fv= .yl r) {N':Nat} {t':Tm} {ps:Array Tmp} {aZ bd:Code} {args:List AV} (hargs:c.args.toList.map (Kw G t)=args)
 (hl:Aq H r=some (.loop N' t' ps aZ bd (some none))) (hps:ps.size=args.length) (hpN:∀p∈ps.toList,p<N')
 (h:∀b,QI P G (some b) (A2 H) N' aZ (B3Q (λt1 H1=>∃N1 t1' ps1 as1 bd1,Aq H1 r=some (.loop N1 t1' ps1 as1 bd1 (some none))∧QI P G (some b) (A2 H) N' bd (C1J r K) t1 (upd H1 r (.loop N1 t1' ps1 as1 bd1 none))) (λ_ _ _=>False)) (A3u t' ps.toList args) H):Ss P G ro N o t H K:=by
 intro w0 s0 C a w Q s
 have hv:=AW s fv
 rw[hf] at hv
 generalize hy:a.eval fv=y at hv
 cases hv with
 |yl hp=>
 rename_i b base
 obtain⟨b',l,h1,h2,h3,h4,h5,h6,h7,h8,h9⟩:=s.rel.rows r _ hl
 have e:=h1.symm.trans hp
 injection e with e;injection e with e;injection e with e1 e2;subst e1 e2
 have hrn:r<A2 H:=A3H s.rel (by rw[hp];simp)
 have hall:=A2s s c.args.toList
 rw[hargs] at hall
 have hsize:(c.args.map a.eval).size=l.params.size:=by
  have:=hall.1
  simp at this
  simp[h6,hps,this]
 refine⟨λf _=>trivial,?_⟩
 rw[Oper.semAt_eq _ _ _ (by rw[hop];intro c hc;cases hc)]
 have hrun:(execOp a.eval o).run P w= .ok (.round b' l.fn ((l.params.zip (c.args.map a.eval)).foldl (λtmps (t,a)=>tmps.setIfInBounds t a) l.tmps) l.assign l.body) w:=by
  simp only[execOp,hop,resolve,hcal,hy,Deferred.ofValue,CI,Y9,EO,invoke]
  have:=run_yield (P:=P) (w:=w) (args:= #[]++c.args.map a.eval) h2 (by simpa using hsize)
  simpa using this
 rw[hrun]
 refine⟨λhd=>by simp[A2y] at hd,?_⟩
 have ht:=B14 (C:=C) (w:=w) l.params.toList args (c.args.toList.map a.eval) t' l.tmps (λp hp=>by rw[h5];exact hpN p (h6▸hp)) hall h9
 have hz':(l.params.zip (c.args.map a.eval)).foldl (λtmps (x:Tmp×Value)=>match x with|(t,a)=>tmps.setIfInBounds t a) l.tmps=(l.params.toList.zip (c.args.toList.map a.eval)).foldl (λt (p:Tmp×Value)=>t.setIfInBounds p.1 p.2) l.tmps:=by
  have hz:(l.params.zip (c.args.map a.eval)).foldl (λtmps (p:Tmp×Value)=>tmps.setIfInBounds p.1 p.2) l.tmps=(l.params.toList.zip (c.args.toList.map a.eval)).foldl (λt (p:Tmp×Value)=>t.setIfInBounds p.1 p.2) l.tmps:=by
   rw[←Array.foldl_toList];simp
  exact hz
 refine roundIn_of_wpIn trivial ?_
 rw[hz',h7,h8]
 have st0:St G w0 0 C N' (A3u t' ps.toList args) H {tmps:=(l.params.toList.zip (c.args.toList.map a.eval)).foldl (λt (p:Tmp×Value)=>t.setIfInBounds p.1 p.2) l.tmps,defers:=[]} w:=
  ⟨s.rel,by rw[ht.2];exact h5,by rw[←h6];exact ht.1,.nil,l1c _⟩
 refine wpIn_mono (h b' w0 0 C _ w st0) ?_
 rintro e a1 w1 ⟨C1,t1,H1,s1,x1,q1⟩
 cases e with
 |normal=>
  obtain⟨N1,t1',ps1,as1,bd1,hl1,hbody⟩:=q1
  have hp1:C1.π r=some (some (b',0)):=(x1.π r hrn (by rw[hp];simp)).trans hp
  obtain⟨l1,g1,g2,g3,g4,g5,g6,g7,g8,hset⟩:=s1.rel.set_loop (pend':=none) (O:=w0.own) hl1 hp1
  obtain⟨hr2,e2⟩:=hset {l1 with state:= .busy} rfl (by rw[g3];rfl) rfl rfl rfl rfl
  refine⟨_,run_beginRound g1 g2,?_⟩
  have st2:St G w0 0 C1 N' t1 (upd H1 r (.loop N1 t1' ps1 as1 bd1 none)) a1 (w1.putObj b' (.loop {l1 with state:= .busy})):=⟨hr2,s1.size,s1.tmps.mono e2,s1.defers.mono e2.B e2.keepB,l1c _⟩
  refine wpIn_mono (hbody w0 0 C1 a1 _ st2) ?_
  rintro e a3 w3 ⟨C3,t3,H3,s3,x3,q3⟩
  have hp3:C3.π r=some (some (b',0)):=(x3.π r hrn (by rw[hp1];simp)).trans hp1
  have x13:Frm (A2 H) w0.own C w C3 w3:=(x1.trans e2.frm).trans x3
  have fin:∀jump:Option Code,(∃N t ps aZ bd,Aq H3 r=some (.loop N t ps aZ bd none)∧K (.v (.bool jump.isNone)) (upd H3 r (.loop N t ps aZ bd (some jump))))→
   ∃v w4,(Instr.endRound b' jump).run P w3= .ok v w4∧∃v_1 y C' H',a.put o.dst v=a.put o.dst y∧K v_1 H'∧VRel C' w4 v_1 y∧Rel G w0 C' H' w4∧Ext w0.own C w C' w4:=by
   rintro jump ⟨N3,t3',ps3,as3,bd3,hl3,hK⟩
   obtain⟨l3,k1,k2,k3,k4,k5,k6,k7,k8,hset3⟩:=s3.rel.set_loop (pend':=some jump) (O:=w0.own) hl3 hp3
   obtain⟨hr4,e4⟩:=hset3 {l3 with state:=if jump.isNone then .ready else .done,pending:=jump} (by cases jump<;>rfl) rfl rfl rfl rfl rfl
   exact⟨_,_,run_endRound jump k1,_,_,C3,_,rfl,hK,.v _,hr4,(x13.trans e4.frm).ext_of s.rel⟩
  cases e with
  |normal=>exact fin none q3
  |ret=>exact fin (some .ret) q3
  |exit id=>exact fin (some (.exit id)) q3
  |goto l=>exact fin (some (.goto l)) q3
  |panic ch=>exact q3.elim
  |outgrown=>exact q3.elim
 |_=>exact q1.elim
theorem A9u {m:Nat} {Q:Exit→Tm→Hp→Prop} {g:Operand} {ps:Array Tmp} {aZ bd:Code} {f:FuncId} {first cap:List AV} (hg:Kw G t g= .fn (.func f) first cap) {fn:Func} (hfn:P.funcs[f]?=some fn) (hbody:fn.body.isNone=false) (hname:(fn.name== "runtime.NumGoroutine")=false)
 (h:RC P G f (first++[.yl (A2 H)]++cap) ((A2 H,.loop N t ps aZ bd (some none))::H) (λ_ H2=>∃N' t' ps' as' bd' pend,Aq H2 (A2 H)=some (.loop N' t' ps' as' bd' (some pend))∧C1M Q t (cut H2 (A2 H)) pend)):QI P G none m N (.rangeFunc g ps aZ bd) Q t H:=by
 intro w0 s0 C a w s
 refine wpIn_rangeFunc ?_
 intro fnid _
 have hv:=AW s g
 rw[hg] at hv
 obtain⟨ys,zs,he,hys,hzs⟩:=HH.1 hv
 have hbD:=LD w (.deferred (some []))
 have hszD:(w.alloc (.deferred (some []))).heap.size=w.heap.size+1:=World.size_alloc _ _
 have rD:Rel G w0 C H (w.alloc (.deferred (some []))):=s.rel.of_below hbD
 have hDnew:(w.alloc (.deferred (some []))).heap[w.heap.size]?=some (.deferred (some [])):=World.alloc_heap_new w _
 obtain⟨rD',eD'⟩:=rD.addB (b:=w.heap.size) (by rw[hszD];omega) (.inl s.rel.below.size) (λr x o hx hp=>l1g _ ((s.rel.rows r x hx).block (Fa hx) hp))
 have eD:Ext w0.own C w (C.addB w.heap.size) (w.alloc (.deferred (some []))):=(s.rel.ext_below hbD).trans eD'
 obtain⟨lp,hlp⟩:∃lp:Loop,lp={state:= .ready,pending:=none,fn:=fnid,tmps:=a.tmps,params:=ps,assign:=aZ,body:=bd,defers:=w.heap.size}:=⟨_,rfl⟩
 have hbL:=LD (w.alloc (.deferred (some []))) (.loop lp)
 have eL:Ext w0.own (C.addB w.heap.size) (w.alloc (.deferred (some []))) ((C.addB w.heap.size).put (A2 H) (some ((w.alloc (.deferred (some []))).heap.size,0))) ((w.alloc (.deferred (some []))).alloc (.loop lp)):=rD'.new_ext hbL
 have hLnew:((w.alloc (.deferred (some []))).alloc (.loop lp)).heap[(w.alloc (.deferred (some []))).heap.size]?=some (.loop lp):=World.alloc_heap_new _ _
 have e1:=eD.trans eL
 have r1:=rD'.new_row (x:= .loop N t ps aZ bd (some none)) hbL ⟨_,lp,Ctx.put_n _ _ _,hLnew,by rw[hlp];rfl,by rw[hlp];rfl,by rw[hlp];exact s.size,by rw[hlp],by rw[hlp],by rw[hlp],(show lp.tmps=a.tmps by rw[hlp])▸s.tmps.mono e1⟩
 generalize hC1:(C.addB w.heap.size).put (A2 H) (some ((w.alloc (.deferred (some []))).heap.size,0))=C1 at r1 e1
 generalize hW1:(w.alloc (.deferred (some []))).alloc (.loop lp)=W1 at r1 e1 hLnew
 have hpi:C1.π (A2 H)=some (some (w.heap.size+1,0)):=by rw[←hC1,Ctx.put_n,hszD]
 have hB1:C1.B w.heap.size:=by rw[←hC1];exact .inr rfl
 have hD1:W1.heap[w.heap.size]?=some (.deferred (some [])):=by
  rw[←hW1];exact(hbL.block _ (by rw[hszD];omega)).trans hDnew
 have hall:Cj C1 W1 (first++[.yl (A2 H)]++cap) (ys++[.func (.yield (w.heap.size+1)) #[] #[]]++zs):=((hys.mono e1).append (.cons (.yl hpi) .nil)).append (hzs.mono e1)
 have hcall:=h w0 C1 W1 _ r1 hall
 refine⟨w.heap.size+1,[{target:= .collected w.heap.size,args:= #[]}],W1,{target:= .fn (.func f) zs.toArray,args:=ys.toArray++ #[Value.func (.yield (w.heap.size+1)) #[] #[]]},W1,f,(ys++[Value.func (.yield (w.heap.size+1)) #[] #[]]++zs).toArray,W1,?_,?_,λ_ _=>trivial,?_,λhd=>by simp[A2y] at hd,?_⟩
 ·rw[←hW1,hlp];exact run_enterLoop_outer _ _ _ _ _
 ·simp only[resolve,rangeCall,he,Deferred.ofValue,Y9]
  simp[Act.eval]
 ·simp only[invoke,callFunc,CI,run_program,EO,hfn,hname,hbody,l0z,if_false,Y9]
  congr 2
  apply l0c
  simp
 ·refine CallsIn.mono (callsIn_wide.2 hcall) ?_
  rintro e w2 ⟨v,y,C2,H2,rfl,r2,hv2,x2,N',t',ps',as',bd',pend,hl2,hq⟩
  have ex2:Ext w0.own C1 W1 C2 w2:=x2.ext_of r1
  have hp2:C2.π (A2 H)=some (some (w.heap.size+1,0)):=ex2.at hpi
  obtain⟨b',l2,k1,k2,k3,k4,_⟩:=r2.rows (A2 H) _ hl2
  have e':=k1.symm.trans hp2
  injection e' with e';injection e' with e';injection e' with e3 e4;subst e3
  have hlt:=(l1q.1 k2).1
  obtain⟨r3,ex3⟩:=r2.set_obj (O:=w0.own) (y:= .gone) hl2 hp2 (SameObj.putObj hlt (.loop {l2 with state:= .exhausted})) (λarr T fz hc=>by rw[k2] at hc;cases hc) (λ_=>trivial)
  have ex:Ext w0.own C w C2 (w2.putObj (w.heap.size+1) (.loop {l2 with state:= .exhausted})):=(e1.trans ex2).trans ex3
  have ex13:=ex2.trans ex3
  have hbs:DOk w0 s0 C2 (w2.putObj (w.heap.size+1) (.loop {l2 with state:= .exhausted})) (A4U w.heap.size::a.defers):=by
   obtain⟨bs,d1,d2,d3⟩:=s.defers
   refine⟨w.heap.size::bs,List.nodup_cons.2 ⟨λhm=>l1g _ (s.rel.finB _ (d3 _ hm).2.2.1),d1⟩,by rw[d2];rfl,λb hb=> ?_⟩
   rcases UJ.1 hb with rfl|hb
   ·exact⟨s.le,.inl s.rel.below.size,ex13.B _ hB1,(ex13.keepB _ hB1).trans hD1⟩
   ·obtain⟨g1,g2,g3,g4⟩:=d3 b hb
    exact⟨g1,g2,ex.B _ g3,(ex.keepB _ g3).trans g4⟩
  have st:St G w0 s0 C2 N t (cut H2 (A2 H)) {a with defers:=[A4U w.heap.size]++a.defers} (w2.putObj (w.heap.size+1) (.loop {l2 with state:= .exhausted})):=
   ⟨r3,s.size,s.tmps.mono ex,hbs,l1m s.le ex.grow⟩
  refine⟨pend,w2.putObj (w.heap.size+1) (.loop {l2 with state:= .exhausted}),?_,?_⟩
  ·have:=run_endLoop (P:=P) k2 (by rw[k3];cases pend<;>simp[B6P])
   have hj:l2.pending=pend:=by rw[k4];cases pend<;>rfl
   rw[this,hj]
  ·cases pend with
   |none=>exact⟨C2,t,_,st,ex.frm,hq⟩
   |some c=>
    cases c with
    |ret=>exact wpIn_ret ⟨C2,t,_,st,ex.frm,hq⟩
    |exit id=>exact wpIn_exit ⟨C2,t,_,st,ex.frm,hq⟩
    |goto l=>exact wpIn_goto ⟨C2,t,_,st,ex.frm,hq⟩
    |_=>exact hq.elim
end
def VJ (x:Row) (K:Nat→Tm→Array Tmp→Code→Code→Option (Option Code)→Aj):Aj:=match x with| .loop N t ps aZ bd pend=>K N t ps aZ bd pend|_=>none
def ET (H:Hp) (r:Nat) (ready:Bool) (to:Option (Option Code)) (K:Hp→Aj):Aj:=
 JL H r λx=>VJ x λN t ps aZ bd pend=>match ready,pend with
  |true,some none=>LL H r (.loop N t ps aZ bd to) K
  |false,none=>LL H r (.loop N t ps aZ bd to) K
  |_,_=>none
def A8c (t:Tm) (ps:List Tmp):List AV→(Tm→Aj)→Aj:=
 @List.rec Tmp (λ_=>Tm→List AV→(Tm→Aj)→Aj) (λt aZ K=>@List.rec AV (λ_=>Aj) (K t) (λ_ _ _=>none) aZ)
  (λp _ ih t aZ K=>@List.rec AV (λ_=>Aj) none (λa aZ _=>ih ((p,a)::t) aZ K) aZ) ps t
def A3I (N:Nat) (ps:List Tmp):Bool:=@List.rec Tmp (λ_=>Bool) true (λp _ ih=>@Bool.rec (λ_=>Bool) false ih (Nat.blt p N)) ps
def QR (R:Rt) (r:Nat) (args:List AV) (H:Hp) (K:KV):Aj:=
 JL H r λx=>VJ x λN t ps aZ bd pend=>match pend with
  |some none=>ck (A3I N ps.toList) (A8c t ps.toList args λt1=>R.run ⟨true,t1.map (·.1),false,N,[]⟩ aZ t1 H λe t2 H2=>match e with
   | .normal=>ET H2 r true none λH3=>R.run ⟨true,t1.map (·.1),false,N,[]⟩ bd t2 H3 λe _ H4=>match e with
    | .normal=>ET H4 r false (some none) λH5=>K (.v (.bool true)) H5
    | .ret=>ET H4 r false (some (some .ret)) λH5=>K (.v (.bool false)) H5
    | .exit id=>ET H4 r false (some (some (.exit id))) λH5=>K (.v (.bool false)) H5
    | .goto l=>ET H4 r false (some (some (.goto l))) λH5=>K (.v (.bool false)) H5
    |_=>none
   |_=>none)
  |_=>none
def B2x (E:XE) (R:Rt) (f:AV) (aZ:List AV) (H:Hp) (K:KV):Aj:=
 match f with
 | .fn (.func g) first cap=>ck (E.imp g) (UT aZ cap λas'=>UT first as' λall=>R.call g all H K)
 | .yl r=>QR R r aZ H K
 |_=>none
def C4G (i:TI) (K:TypeId→Aj):Aj:=(λ(_:Unit)=>match i.d with| .pointer e=>K e|_=>none) GT
def TZ (E:XE) (R:Rt) (t:Tm) (H:Hp) (c:Call) (K:KV):Aj:=
 match c.callee with
 | .value fv=>IE E t fv λf=>A0G E t c.args.toList λaZ=>B2x E R f aZ H K
 | .builtin .append=>match c.args.toList,c.argTypes.toList with
  |[s,x],[t1,t2]=>IE E t s λs=>IE E t x λx=>E.ty.getK t1 λi1=>E.ty.getK t2 λi2=>A4u i1 λe esz=>E.ty.getK e λie=>DN e esz ie i2 s x H K
  |_,_=>none
 | .builtin .copy=>match c.args.toList,c.argTypes.toList with
  |[s,x],ty::_=>IE E t s λs=>IE E t x λx=>E.ty.getK ty λi=>A4u i λ_ esz=>B1Y esz s x H K
  |_,_=>none
 | .builtin .clear=>match c.args.toList,c.argTypes.toList with
  |[s],[ty]=>IE E t s λs=>E.ty.getK ty λi=>A4u i λe esz=>E.ty.getK e λie=>A7l esz ie s H λH'=>K (.tup []) H'
  |_,_=>none
 | .builtin .delete=>match c.args.toList,c.argTypes.toList with
  |[m,k],ty::_=>IE E t m λm=>IE E t k λk=>E.ty.getK ty λi=>A4V i λkt _=>B1v E kt k λkv=>B52 m kv H λH'=>K (.tup []) H'
  |_,_=>none
 | .builtin .unsafeString=>match c.args.toList,c.argTypes.toList with
  |[p,n],[pt,_]=>IE E t p λp=>IE E t n λn=>E.ty.getK pt λi=>C4G i λe=>E.ty.getK e λie=>ckS (Nat.beq ie.size 1) (B1J e p n H K)
  |_,_=>none
 |_=>none
def W8 (E:XE) (R:Rt) (t:Tm) (H:Hp) (o:Op) (K:KV):Aj:=
 match o with
 | .store ty x y=>IE E t x λp=>IE E t y λv=>E.ty.getK ty λi=>CG i p v H λH'=>K (.v undef) H'
 | .alloc ty=>E.ty.getK ty λi=>AJ ty i H K
 | .box ty x=>IE E t x λv=>DK ty v H K
 | .buildSlice ty n parts=>E.ty.getK ty λi=>A4u i λe esz=>E.ty.getK e λie=>XU E t i parts.toList λl=>F3 e esz ie n l H K
 | .call c=>TZ E R t H c K
 | .makeSlice ty l c=>IE E t l λl=>IE E t c λc=>E.ty.getK ty λi=>A4u i λe esz=>E.ty.getK e λie=>eMk e esz ie l c H K
 | .makeMap ty none=>E.ty.getK ty λi=>A4V i λ_ et=>E.ty.getK et λie=>MQ ie H K
 | .mapUpdate ty m k v=>IE E t m λm=>IE E t k λk=>IE E t v λv=>E.ty.getK ty λi=>A4V i λkt _=>B1v E kt k λkv=>Qx m kv v H λH'=>K (.v undef) H'
 | .insert ty m k v=>IE E t m λm=>IE E t k λk=>IE E t v λv=>E.ty.getK ty λi=>A4V i λkt _=>B1v E kt k λkv=>Qx m kv v H λH'=>K (.v undef) H'
 | .mapEntry ty m k=>IE E t m λm=>IE E t k λk=>E.ty.getK ty λi=>A4V i λkt et=>B1v E kt k λkv=>E.ty.getK et λie=>B0s ie m kv H K
 | .entryStore _ m st v=>IE E t m λm=>IE E t st λst=>IE E t v λv=>B0r m st v H λH'=>K (.v undef) H'
 | .range ty x=>IE E t x λm=>E.ty.getK ty λi=>A4V i λ_ _=>A07 m H K
 | .next it false=>IE E t it λv=>A08 v H K
 |_=>none
section
variable {D:XE→Cf→Nat→List Oper→Bool} {E:XE} {P:Program} {R:Rt} {t:Tm} {H:Hp} {r:AV×Hp} {ro:Option Nat} {N:Nat}
theorem Wh {x:Row} {K:Nat→Tm→Array Tmp→Code→Code→Option (Option Code)→Aj} (h:VJ x K=some r):∃N t ps aZ bd pend,x= .loop N t ps aZ bd pend∧K N t ps aZ bd pend=some r:=by
 unfold VJ at h
 split at h
 ·exact⟨_,_,_,_,_,_,rfl,h⟩
 ·cases h
theorem LQ {s:Nat} {ready:Bool} {to:Option (Option Code)} {K:Hp→Aj} (h:ET H s ready to K=some r):
 ∃N t ps aZ bd,Aq H s=some (.loop N t ps aZ bd (if ready then some none else none))∧K (upd H s (.loop N t ps aZ bd to))=some r:=by
 unfold ET at h
 obtain⟨x,h1,h2⟩:=Hd rfl h
 obtain⟨N,t,ps,aZ,bd,pend,rfl,h3⟩:=Wh h2
 clear h h2
 have h:=h3
 clear h3
 split at h
 ·rw[Dm] at h;exact⟨N,t,ps,aZ,bd,h1,h⟩
 ·rw[Dm] at h;exact⟨N,t,ps,aZ,bd,h1,h⟩
 ·cases h
theorem A6c:∀(ps:List Tmp) (t:Tm) (aZ:List AV) (K:Tm→Aj),A8c t ps aZ K=some r→ps.length=aZ.length∧K (A3u t ps aZ)=some r:=by
 intro ps
 induction ps with
 |nil=>
  intro t aZ K h
  cases aZ with
  |nil=>exact⟨rfl,h⟩
  |cons a aZ=>cases h
 |cons p ps ih=>
  intro t aZ K h
  cases aZ with
  |nil=>cases h
  |cons a aZ=>
   obtain⟨h1,h2⟩:=ih ((p,a)::t) aZ K h
   exact⟨by simpa using h1,h2⟩
theorem B1r {ps:List Tmp} (h:A3I N ps=true):∀p∈ps,p<N:=by
 induction ps with
 |nil=>intro p hp;simp at hp
 |cons q ps ih=>
  have e:A3I N (q::ps)=@Bool.rec (λ_=>Bool) false (A3I N ps) (Nat.blt q N):=rfl
  rw[e] at h
  cases hq:Nat.blt q N
  ·rw[hq] at h;cases h
  ·rw[hq] at h
   intro p hp
   rcases UJ.1 hp with rfl|hp
   ·rwa[UK] at hq
   ·exact ih h p hp
theorem Wy (hR:RSound D E P R) {o:Oper} {c:Call} {fv:Operand} {s:Nat} {K:KV} (ho:o.op= .call c) (hcal:c.callee= .value fv) (hf:Kw E.G t fv= .yl s) (h:QR R s (c.args.toList.map (Kw E.G t)) H K=some r):Ss P E.G ro N o t H (λv H'=>K v H'=some r):=by
 unfold QR at h
 obtain⟨x,hl,h2⟩:=Hd rfl h
 obtain⟨N',t',ps,aZ,bd,pend,rfl,h3⟩:=Wh h2
 clear h h2
 have h:=h3
 clear h3
 split at h
 ·obtain⟨h1,h⟩:=Bw h
  obtain⟨h2,h⟩:=A6c _ _ _ _ h
  refine A9x ho hcal hf rfl hl (by simpa using h2) (B1r h1) λb=> ?_
  refine QI.mono (hR.run (some b) _ aZ _ H _ r (A2 H) (λ_=>rfl) (λh=>by cases h) h) λe t2 H2 hq=> ?_
  cases e with
  |normal=>
   obtain⟨N1,t1,ps1,as1,bd1,hl1,hq⟩:=LQ hq
   refine⟨N1,t1,ps1,as1,bd1,hl1,QI.mono (hR.run (some b) _ bd _ _ _ r (A2 H) (λ_=>rfl) (λh=>by cases h) hq) λe t3 H3 hq=> ?_⟩
   cases e with
   |normal=>exact LQ hq
   |ret=>exact LQ hq
   |exit id=>exact LQ hq
   |goto l=>exact LQ hq
   |panic ch=>cases hq
   |outgrown=>cases hq
  |_=>cases hq
 ·cases h
theorem wr (hE:XE.Ok D E P) {o:Oper} {v:AV} {H':Hp} {K:KV} (hd:∀c,o.op≠.defer c) (hx:B5Z (E.env P) o.op t H (A2 H) (λv' H''=>v'=v∧H''=H')) (hK:K v H'=some r):Ss P E.G ro N o t H (λv H'=>K v H'=some r):=
 Ss.mono (RB hd (A7V (E:=E.env P) hE.env hx)) (by rintro _ _ ⟨rfl,rfl⟩;exact hK)
theorem B5D {o:Oper} {K:AV→Hp→Prop} {H1:Hp} (hrel:∀{G:Gl} {w0:Base} {C:Ctx} {w:World},Rel G w0 C H w→Rel G w0 C H1 w) (h:Ss P E.G ro N o t H1 K):Ss P E.G ro N o t H K:=
 λw0 s0 C a w Q s=>h w0 s0 C a w Q ⟨hrel s.rel,s.size,s.tmps,s.defers,s.le⟩
theorem Qw {o:Oper} {K:KV} (hd:∀c,o.op≠.defer c) (h:∀(w0:Base) (s0:Nat) (C:Ctx) (N:Nat) (a:Act) (w:World),St E.G w0 s0 C N t H a w→∃v H' y C' w',K v H'=some r∧((execOp a.eval o).run P w= .ok (.value y) w'∨((execOp a.eval o).run P w= .ok .skip w'∧y=undef))∧J9 E.G w0 C w v H' y C' w'):Ss P E.G ro N o t H (λv H'=>K v H'=some r):=
 RB hd λw0 s0 C N a w s=>let⟨v,H',y,C',w',h1,h2,h3⟩:=h w0 s0 C N a w s;⟨v,H',y,C',w',h1,h2,h3.1,h3.2.1,h3.2.2⟩
theorem Kh (hE:XE.Ok D E P) (hR:RSound D E P R) {o:Oper} {c:Call} (ho:o.op= .call c) {K:KV} (h:TZ E R t H c K=some r):Ss P E.G ro N o t H (λv H'=>K v H'=some r):=by
 have nd:∀c,o.op≠.defer c:= λc hc=>by rw[ho] at hc;cases hc
 unfold TZ at h
 split at h
 ·rename_i fv hcal
  have h:=PB hE _ _ (AU hE h)
  unfold B2x at h
  split at h
  ·rename_i g first cap hf
   obtain⟨_,h⟩:=Bw h
   rw[Lb,Lb,←l0k] at h
   obtain⟨⟨fn,h1,h2,h3⟩,hc⟩:=hR.call _ _ _ _ _ h
   exact XG ho hcal hf h1 h2 h3 hc
  ·rename_i s hf
   exact Wy hR ho hcal hf h
  ·cases h
 ·rename_i hcal
  split at h
  ·rename_i s x t1 t2 hx hty
   obtain⟨i1,hi1,h⟩:=AZ (AU hE (AU hE h))
   obtain⟨i2,hi2,h⟩:=AZ h
   obtain⟨e,esz,hd,h⟩:=Pv h
   obtain⟨ie,hie,h⟩:=AZ h
   unfold DN at h
   obtain⟨H1,h,hnx,hrel⟩:=A8a h
   obtain⟨v,H',hK,hxa⟩:=B21 (T:=E.T) hi1 hi2 hd hie h
   refine B5D hrel ?_
   exact wr hE nd (by rw[ho];simp only[B5Z,hcal,hx,hty];exact hxa) hK
  ·cases h
 ·rename_i hcal
  split at h
  ·rename_i s x ty tys hx hty
   obtain⟨i,hi,h⟩:=AZ (AU hE (AU hE h))
   obtain⟨e,esz,hd,h⟩:=Pv h
   refine Qw nd λw0 s0 C N a w st=> ?_
   obtain⟨v,H',u,w',h1,h2,h3⟩:=A9f (P:=P) (T:=E.T) (ty:=o.type) (ts:=c.argTypes) hE.ty (by rw[←l21,hty];rfl) hi hd (hE.pos ty i e esz hi (.inl hd)) st.rel (AW st s) (AW st x) h
   refine⟨v,H',u,C,w',h1,.inl ?_,h3⟩
   have hargs:c.args.map a.eval= #[a.eval s,a.eval x]:=by apply l0c;simp[hx]
   rw[HW ho _ hcal,hargs]
   show(do pure (Next.value (←Builtin.copy_ c.argTypes o.type #[a.eval s,a.eval x]))).run P w=_
   rw[CI,h2];rfl
  ·cases h
 ·rename_i hcal
  split at h
  ·rename_i s ty hx hty
   obtain⟨i,hi,h⟩:=AZ (AU hE h)
   obtain⟨e,esz,hd,h⟩:=Pv h
   obtain⟨ie,hie,h⟩:=AZ h
   refine Qw nd λw0 s0 C N a w st=> ?_
   obtain⟨H',w',h1,h2,h3,h4⟩:=A9h (P:=P) (T:=E.T) (ty:=o.type) (ts:=c.argTypes) hE.ty (by rw[←l21,hty];rfl) hi hd hie st.rel (AW st s) h
   refine⟨_,H',.tuple #[],C,w',h1,.inl ?_,DI.2 ⟨[],rfl,.nil⟩,h3,h4⟩
   have hargs:c.args.map a.eval= #[a.eval s]:=by apply l0c;simp[hx]
   rw[HW ho _ hcal,hargs]
   show(do pure (Next.value (←Builtin.clear_ c.argTypes o.type #[a.eval s]))).run P w=_
   rw[CI,h2];rfl
  ·cases h
 ·rename_i hcal
  split at h
  ·rename_i m k ty tys hx hty
   obtain⟨i,hi,h⟩:=AZ (AU hE (AU hE h))
   obtain⟨kt,et,hd,h⟩:=Nx h
   obtain⟨kv,hk,h,hkv⟩:=Sc hE h
   refine Qw nd λw0 s0 C N a w st=> ?_
   obtain⟨H',w',h1,h2,h3,h4⟩:=A7i (P:=P) (ty:=o.type) (ts:=c.argTypes) (by rw[←l21,hty];rfl) (Nw hE hi hd) hk st.rel (AW st m) h
   refine⟨_,H',.tuple #[],C,w',h1,.inl ?_,DI.2 ⟨[],rfl,.nil⟩,h3,h4⟩
   have hargs:c.args.map a.eval= #[a.eval m,kv]:=by apply l0c;simp[hx,hkv (AW st k)]
   rw[HW ho _ hcal,hargs]
   show(do pure (Next.value (←Builtin.delete_ c.argTypes o.type #[a.eval m,kv]))).run P w=_
   rw[CI,h2];rfl
  ·cases h
 ·rename_i hcal
  split at h
  ·rename_i p n pt it hx hty
   obtain⟨i,hi,h⟩:=AZ (AU hE (AU hE h))
   unfold C4G at h
   split at h
   ·rename_i e hd
    obtain⟨ie,hie,h⟩:=AZ h
    obtain⟨h1c,h⟩:=Kf h
    refine Qw nd λw0 s0 C N a w st=> ?_
    obtain⟨v,H',u,w',h1,h2,h3⟩:=A92 (P:=P) (T:=E.T) (it:=it) (ty:=o.type) hE.ty hi hd hie (VC h1c) st.rel (AW st p) (AW st n) h
    refine⟨v,H',u,C,w',h1,.inl ?_,h3⟩
    have hargs:c.args.map a.eval= #[a.eval p,a.eval n]:=by apply l0c;simp[hx]
    have hats:c.argTypes= #[pt,it]:=by apply l0c;simp[hty]
    rw[HW ho _ hcal,hargs,hats]
    show(do pure (Next.value (←Builtin.unsafeString_ #[pt,it] o.type #[a.eval p,a.eval n]))).run P w=_
    rw[CI,h2];rfl
   ·cases h
  ·cases h
 ·cases h
theorem Gk (hE:XE.Ok D E P) (hR:RSound D E P R) {o:Oper} {K:KV} (h:W8 E R t H o.op K=some r):Ss P E.G ro N o t H (λv H'=>K v H'=some r):=by
 unfold W8 at h
 split at h
 all_goals try (cases h;done)
 case h_1 ty x y ho=>
  obtain⟨i,hi,h⟩:=AZ (AU hE (AU hE h))
  obtain⟨H',hK,hx⟩:=B4Y (T:=E.T) (ty:=ty) hi h
  refine Ss.mono (RB (λc hc=>by rw[ho] at hc;cases hc) (A3r (E:=E.env P) (K:= λv H''=>v= .v undef∧H''=H') hE.env (by rw[ho];simpa [xop,XE.env] using hx))) ?_
  rintro _ _ ⟨rfl,rfl⟩;exact hK
 case h_2 ty ho=>
  obtain⟨i,hi,h⟩:=AZ h
  obtain⟨v,H',hK,hx⟩:=A7n (T:=E.T) hi h
  exact wr hE (λc hc=>by rw[ho] at hc;cases hc) (by rw[ho];exact hx) hK
 case h_3 ty x ho=>
  obtain⟨v,H',hK,hx⟩:=B1Z (ty:=ty) (AU hE h)
  exact wr hE (λc hc=>by rw[ho] at hc;cases hc) (by rw[ho];exact hx) hK
 case h_4 ty n parts ho=>
  obtain⟨i,hi,h⟩:=AZ h
  obtain⟨e,esz,hd,h⟩:=Pv h
  obtain⟨ie,hie,h⟩:=AZ h
  obtain⟨l,h1,h2⟩:=TY hE _ _ h
  obtain⟨v,H',hK,hx⟩:=B5c (T:=E.T) (ps:=parts.toList.map λp=>(p.1,Kw E.G t p.2)) hi hd hie (by rw[←h2];simp[Pe,hd]) h1
  exact wr hE (λc hc=>by rw[ho] at hc;cases hc) (by rw[ho];exact hx) hK
 case h_5 c ho=>exact Kh hE hR ho h
 case h_6 ty l c ho=>
  obtain⟨i,hi,h⟩:=AZ (AU hE (AU hE h))
  obtain⟨e,esz,hd,h⟩:=Pv h
  obtain⟨ie,hie,h⟩:=AZ h
  refine RB (λc hc=>by rw[ho] at hc;cases hc) λw0 s0 C N a w s=> ?_
  obtain⟨v,H',y,C',w',hK,hrun,hv,hr,hx⟩:=B1S (P:=P) (T:=E.T) hE.ty hi hd hie (AW s l) (AW s c) s.rel h
  refine⟨v,H',y,C',w',hK,.inl ?_,hv,hr,hx⟩
  simp only[execOp,ho]
  rw[CI,hrun]
  rfl
 case h_7 ty ho=>
  obtain⟨i,hi,h⟩:=AZ h
  obtain⟨kt,et,hd,h⟩:=Nx h
  obtain⟨ie,hie,h⟩:=AZ h
  refine Qw (λc hc=>by rw[ho] at hc;cases hc) λw0 s0 C N a w st=> ?_
  obtain⟨v,H',y,C',w',h1,h2,h3⟩:=A7d (P:=P) (ty:=ty) st.rel h
  refine⟨v,H',y,C',w',h1,.inl ?_,h3⟩
  simp only[execOp,ho]
  have:(Instr.makeMap ty (Option.map a.eval none)).run P w= .ok y w':=h2
  rw[CI,this];rfl
 case h_8 ty m k v ho=>
  obtain⟨i,hi,h⟩:=AZ (AU hE (AU hE (AU hE h)))
  obtain⟨kt,et,hd,h⟩:=Nx h
  obtain⟨kv,hk,h,hkv⟩:=Sc hE h
  refine Qw (λc hc=>by rw[ho] at hc;cases hc) λw0 s0 C N a w st=> ?_
  obtain⟨H',w',h1,h2,h3,h4⟩:=A2f (P:=P) (Nw hE hi hd) hk st.rel (AW st m) (AW st v) h
  refine⟨_,H',undef,C,w',h1,.inr ⟨?_,rfl⟩,.v _,h3,h4⟩
  simp only[execOp,ho]
  rw[CI,hkv (AW st k),h2];rfl
 case h_9 ty m k v ho=>
  obtain⟨i,hi,h⟩:=AZ (AU hE (AU hE (AU hE h)))
  obtain⟨kt,et,hd,h⟩:=Nx h
  obtain⟨kv,hk,h,hkv⟩:=Sc hE h
  refine Qw (λc hc=>by rw[ho] at hc;cases hc) λw0 s0 C N a w st=> ?_
  obtain⟨H',w',h1,h2,h3,h4⟩:=A2f (P:=P) (Nw hE hi hd) hk st.rel (AW st m) (AW st v) h
  refine⟨_,H',undef,C,w',h1,.inr ⟨?_,rfl⟩,.v _,h3,h4⟩
  simp only[execOp,ho]
  rw[CI,hkv (AW st k),h2];rfl
 case h_10 ty m k ho=>
  obtain⟨i,hi,h⟩:=AZ (AU hE (AU hE h))
  obtain⟨kt,et,hd,h⟩:=Nx h
  obtain⟨kv,hk,h,hkv⟩:=Sc hE h
  obtain⟨ie,hie,h⟩:=AZ h
  refine Qw (λc hc=>by rw[ho] at hc;cases hc) λw0 s0 C N a w st=> ?_
  obtain⟨v,H',y,w',h1,h2,h3⟩:=A7h (P:=P) (Nw hE hi hd) (hE.ty et ie hie) hk st.rel (AW st m) h
  refine⟨v,H',y,C,w',h1,.inl ?_,h3⟩
  simp only[execOp,ho]
  rw[CI,hkv (AW st k),h2];rfl
 case h_11 ty m s v ho=>
  have h:=AU hE (AU hE (AU hE h))
  refine Qw (λc hc=>by rw[ho] at hc;cases hc) λw0 s0 C N a w st=> ?_
  obtain⟨H',w',h1,h2,h3,h4⟩:=A7c (P:=P) (mt:=ty) st.rel (AW st m) (AW st s) (AW st v) h
  refine⟨_,H',undef,C,w',h1,.inr ⟨?_,rfl⟩,.v _,h3,h4⟩
  simp only[execOp,ho]
  rw[CI,h2];rfl
 case h_12 ty x ho=>
  obtain⟨i,hi,h⟩:=AZ (AU hE h)
  obtain⟨kt,et,hd,h⟩:=Nx h
  refine Qw (λc hc=>by rw[ho] at hc;cases hc) λw0 s0 C N a w st=> ?_
  obtain⟨v,H',y,C',w',h1,h2,h3⟩:=A98 (P:=P) (Nw hE hi hd) st.rel (AW st x) h
  refine⟨v,H',y,C',w',h1,.inl ?_,h3⟩
  simp only[execOp,ho]
  rw[CI,h2];rfl
 case h_13 it ho=>
  have h:=AU hE h
  refine Qw (λc hc=>by rw[ho] at hc;cases hc) λw0 s0 C N a w st=> ?_
  obtain⟨v,H',y,w',h1,h2,h3⟩:=A9a (P:=P) (ty:=o.type) st.rel (AW st it) h
  refine⟨v,H',y,C,w',h1,.inl ?_,h3⟩
  simp only[execOp,ho]
  rw[CI,h2];rfl
end
end Go.Abs
end
