import Derived.Test.YtngdjmhcceoafaaGreatDoorP03
set_option linter.all false
set_option maxHeartbeats 100000000
noncomputable section
namespace Go.Abs
open Go.RowKit
section
variable {K:AV->Af} {x:Operand} {i:TI} {kt:TypeId}
def Kb (E:XE) (t:Tm) (x:Operand) (K:AV->Af):Af:=
 match x with
 | .tmp i=>gtm t i K
 | .const v=>K (sF v)
 | .global g=>E.gl.getK g λcs=>K (.iptr cs)
 | .func f=>K (.fn (.func f) [] [])
def qF (E:XE) (t:Tm) (l:List Operand):(List AV->Af)->Af:=
 @List.rec Operand (λ_=>(List AV->Af)->Af) (λK=>K []) (λx _ ih K=>Kb E t x λv=>ih λvs=>K (v::vs)) l
def qC (E:XE) (t:Tm) (x:Option Operand) (K:Option AV->Af):Af:=
 match x with
 |none=>K none
 |some x=>Kb E t x λv=>K (some v)
def plK (i:TI) (j:Nat) (K:Nat->Nat->Af):Af:=(λ(_:Unit)=>match QO i j with|some (o,s)=>fNS o λo=>K o s|none=>none) Iq
def iX (E:XE) (t:Tm) (i:TI) (l:List (Nat×Operand)):(List (Nat×Nat×AV)->Af)->Af:=
 @List.rec (Nat×Operand) (λ_=>(List (Nat×Nat×AV)->Af)->Af) (λK=>K []) (λp _ ih K=>plK i p.1 λo s=>Kb E t p.2 λv=>ih λa=>K ((o,s,v)::a)) l
def B4D (i:TI) (f:Nat) (K:Nat->Nat->TypeId->Af):Af:=(λ(_:Unit)=>match i.d with| .struct a=>(match a[f]? with|some (o,s,ft)=>K o s ft|none=>none)|_=>none) Iq
def D! (i:TI) (K:TypeId->Nat->Af):Af:=(λ(_:Unit)=>match i.d with| .slice e a=>K e a|_=>none) Iq
def A5s (i:TI):TypeId:=match i.d with| .slice e _=>e|_=>0
def elK (E:XE) (i:TI) (K:TI->Af):Af:=(λ(_:Unit)=>match gY i with|some e=>E.ty.getK e K|none=>K i) Iq
def Lg (v:AV) (K:AV->Af):Af:=match v with| .ptr r p k=>K (.ptr r p k)| .iptr cs=>K (.iptr cs)| .fn (.func f) a b=>K (.fn (.func f) a b)|_=>none
def Ch (q a b:AV) (K:AV->Af):Af:=match q with| .v (.bool true)=>K a| .v (.bool false)=>K b|_=>none
def A3x:TD->Bool
 | .int .u8=>true
 |_=>false
def cvK (E:XE) (s d:TypeId) (i j:TI) (a:AV) (H:Hp) (K:AV->Af):Af:=
 (λ(_:Unit)=>match i.d with
  | .slice e _=>(match j.d with
   | .string=>E.ty.getK e λb=>ckS (A3x b.d) (wY a H K)
   |_=>none)
  | .pointer e=>ckS (Nat.beq d E.up&& !E.lie.isEmpty) (E.ty.getK e λb=>A1z b a H K)
  | .other=>(match j.d with
   | .pointer u=>ckS (Nat.beq s E.up&& !E.lie.isEmpty) (A1u E.lie u a H K)
   |_=>none)
  |_=>Jc i j a K) Iq
def J! (i:TI) (K:TypeId->TypeId->Af):Af:=(λ(_:Unit)=>match i.d with| .map k e=>K k e|_=>none) Iq
def A6P (E:XE) (kt:TypeId) (a:AV) (K:Value->Af):Af:=
 E.ty.getK kt λb=>(λ(_:Unit)=>match b.d with
  | .string=>LQ a K
  | .int q=>Wk q a K
  | .struct _=>E.eqt.getK kt λks=>B4h ks a K
  | .array .. =>E.eqt.getK kt λks=>B4h ks a K
  |_=>none) Iq
def A3y:Operand->Bool
 | .const .nilIface=>true
 |_=>false
def B5W (op:BinOp) (a:AV) (K:AV->Af):Af:=
 match a,op with
 | .v .nilIface,.eql=>K (.v (.bool true))
 | .v .nilIface,.neq=>K (.v (.bool false))
 |_,_=>none
def C0D (E:XE) (op:BinOp) (ty:TypeId) (f:Bool) (a b:AV) (K:AV->Af):Af:=
 E.ty.getK ty λi=>(λ(_:Unit)=>match i.d with
  | .struct _=>E.eqt.getK ty λks=>Xg ks op a b K
  | .array .. =>E.eqt.getK ty λks=>Xg ks op a b K
  | .pointer e=>E.ty.getK e λc=>Rj i c op a b K
  | .iface=>ckS f (B5W op a K)
  |_=>Ap i op a b K) Iq
def A2c (i:TI) (v:AV) (l h m:Option AV) (H:Hp) (K:AV->Af):Af:=
 (λ(_:Unit)=>match i.d with
  | .array n _ a=>(match m with|none=>wX n a v l h H K|some _=>none)
  |_=>Ee i v l h m K) Iq
def B2f (i:TI) (v:AV) (H:Hp) (K:AV->Af):Af:=
 (λ(_:Unit)=>match i.d with
  | .map .. =>Yq v H K
  |_=>Bq i v K) Iq
def A7V (E:XE) (R:Rt) (f:AV) (b:List AV) (H:Hp) (K:AV->Af):Af:=
 match f with
 | .fn (.func g) first cap=>ckS (!E.imp g) (SD b cap λa=>SD first a λall=>zpm E g R all H K)
 |_=>none
def zR (E:XE) (R:Rt) (t:Tm) (H:Hp) (c:Call) (K:AV->Af):Af:=
 match c.callee with
 | .value e=>Kb E t e λf=>qF E t c.args.toList λd=>A7V E R f d H K
 | .builtin .len=>match c.args.toList,c.argTypes.toList with
  |[x],[ty]=>Kb E t x λv=>E.ty.getK ty λi=>B2f i v H K
  |_,_=>none
 | .builtin .unsafeSliceData=>match c.args.toList with
  |[x]=>Kb E t x λv=>A73 v K
  |_=>none
 | .builtin .min=>match c.args.toList with
  |[x,y]=>Kb E t x λa=>Kb E t y λb=>eMM true a b K
  |_=>none
 | .builtin .max=>match c.args.toList with
  |[x,y]=>Kb E t x λa=>Kb E t y λb=>eMM false a b K
  |_=>none
 |_=>none
def Rs (E:XE) (R:Rt) (t:Tm) (H:Hp) (o:Op) (K:AV->Af):Af:=
 match o with
 | .move x=>Kb E t x K
 | .assign x=>Kb E t x K
 | .pick c a b=>Kb E t c λq=>Kb E t a λa=>Kb E t b λb=>Ch q a b K
 | .load ty x=>Kb E t x λv=>E.ty.getK ty λi=>AF i v H K
 | .nilCheck x=>Kb E t x λv=>Lg v K
 | .binOp op ty x y _=>Kb E t x λa=>Kb E t y λb=>C0D E op ty (A3y y) a b K
 | .unOp op _ x=>Kb E t x λa=>Mg op a K
 | .convert s d x=>Kb E t x λa=>E.ty.getK s λi=>E.ty.getK d λj=>cvK E s d i j a H K
 | .makeFunc fn first cap=>qF E t first.toList λw=>qF E t cap.toList λcs=>K (.fn fn w cs)
 | .fieldAddr ty x f=>Kb E t x λv=>E.ty.getK ty λi=>B4D i f λoff sz _=>ckS (!Nat.beq sz 0) (CV off v K)
 | .field ty x f=>Kb E t x λv=>E.ty.getK ty λi=>B4D i f λoff _ ft=>E.ty.getK ft λj=>B1a off j v K
 | .indexAddr ty x e=>Kb E t x λv=>Kb E t e λn=>E.ty.getK ty λi=>Dw i v n K
 | .index ty x e=>Kb E t x λv=>Kb E t e λn=>E.ty.getK ty λi=>elK E i λj=>iA i j v n K
 | .slice ty x C A mx=>Kb E t x λv=>qC E t C λl=>qC E t A λh=>qC E t mx λm=>E.ty.getK ty λi=>A2c i v l h m H K
 | .extract x k=>Kb E t x λv=>Cx v k K
 | .build ty parts=>E.ty.getK ty λi=>ckS (S? i) (iX E t i parts.toList λl=>BZ i l K)
 | .call c=>zR E R t H c K
 | .buildSlice ty n parts=>E.ty.getK ty λi=>D! i λ_ g=>E.ty.getK (A5s i) λp=>iX E t i parts.toList λl=>Yr g p n l K
 | .lookup ty x e ok=>Kb E t x λm=>Kb E t e λk=>E.ty.getK ty λi=>J! i λkt u=>A6P E kt k λB=>E.ty.getK u λp=>YV p ok m B H K
 | .entry it=>Kb E t it λv=>Zv v H K
 |_=>none
section
variable {D:XE->Cf->Nat->List Oper->Bool} {E:XE} {P:Program} {R:Rt} {t:Tm} {H:Hp} {r:AV×Hp} {ro:Option Nat} {N:Nat}
def A5J {cs:List AV} (h:cs.all isV=true):(cs.map unV).map AV.v=cs:=by
 induction cs with
 |nil=>rfl
 |cons c cs ih=>
  simp only[pK,Kw] at h;simp only[WR,ih h.2];cases c<;>simp[isV] at h
  rfl
def AZ (a:XE.Ok D E P) (h:Kb E t x K=some r):K (JH E.G t x)=some r:=by
 unfold Kb at h;split at h
 ·rwa[Wo] at h
 ·exact h
 ·obtain⟨cs,h1,h2⟩:=Bc h;have:=a.gl _ _ h1;simp only[JH,XE.G,h1,xZ,A5J this];exact h2
 ·exact h
def Rw (a:XE.Ok D E P):∀(l:List Operand) (K:List AV->Af),qF E t l K=some r->K (l.map (JH E.G t))=some r:=by
 intro l
 induction l with
 |nil=>intro K h;exact h
 |cons x l ih=>
  intro K h;have h:(Kb E t x λv=>qF E t l λvs=>K (v::vs))=some r:=h;exact ih _ (AZ a h)
def iY (a:XE.Ok D E P) {x:Option Operand} {K:Option AV->Af} (h:qC E t x K=some r):K (x.map (JH E.G t))=some r:=by
 unfold qC at h;split at h
 ·exact h
 ·exact AZ a h
def Xm (b:XE.Ok D E P):∀(l:List (Nat×Operand)) (K:List (Nat×Nat×AV)->Af),iX E t i l K=some r->
 ∃a,K a=some r/\((l.map λp=>(p.1,JH E.G t p.2)).map λp=>(QO i p.1).map λq=>(q.1,q.2,p.2))=a.map some:=by
 intro l
 induction l with
 |nil=>intro K h;exact⟨[],h,rfl⟩
 |cons p l ih=>
  intro K h;have h:(plK i p.1 λo s=>Kb E t p.2 λv=>iX E t i l λa=>K ((o,s,v)::a))=some r:=h;unfold plK at h;split at h
  ·rename_i o s c;simp only[B0M] at h;obtain⟨a,h1,h2⟩:=ih _ (AZ b h);refine⟨_,h1,?_⟩;simp only[WR,c,xZ,h2]
  ·cases h
def rd (b:XE.Ok D E P) {o:Oper} {v:AV} {K:AV->Af} (e:∀c,o.op≠.defer c) (f:qI (E.env P) o.op t H (λg a=>g=v/\a=H)) (d:K v=some r):Tv P E.G ro N o t H (λv a=>a=H/\K v=some r):=
 Tv.mono (Uq e (xE (E:=E.env P) b.env f)) (by rintro _ _ ⟨rfl,rfl⟩;exact⟨rfl,d⟩)
def Pw {K:TypeId->TypeId->Af} (h:J! i K=some r):∃k e,i.d= .map k e/\K k e=some r:=by
 unfold J! at h;split at h
 ·rename_i a;exact⟨_,_,a,h⟩
 ·cases h
def Pv (b:XE.Ok D E P) {mt kt a:TypeId} (f:E.ty.get mt=some i) (c:i.d= .map kt a):P.underlying mt=some (.map kt a):=by
 obtain⟨u,g,e⟩:=(b.ty mt i f).under;rw[c] at e;cases u<;>simp[td] at e
 rw[g,e.1,e.2]
def UU (j:XE.Ok D E P) {a:AV} {K:Value->Af} (h:A6P E kt a K=some r):∃k,QE P kt k/\K k=some r/\∀{C:Ctx} {w:World} {y:Value},VRel C w a y->y=k:=by
 obtain⟨p,f,h⟩:=Bc h;obtain⟨u,m,e⟩:=(j.ty kt p f).under;have g:∀ks,E.eqt.get kt=some ks->B4h ks a K=some r->∃k,QE P kt k/\K k=some r/\∀{C:Ctx} {w:World} {y:Value},VRel C w a y->y=k:= λks b h=>by
  unfold B4h at h;split at h
  ·obtain⟨vs,rfl,h1⟩:=dH _ _ h;obtain⟨h2,n⟩:=L9 h1;exact⟨_,.inr (.inr ⟨ks,vs,j.eq kt ks b,h2,rfl⟩),n,λhv=>qX hv⟩
  ·cases h
 simp only at h;split at h
 ·rename_i d;rw[d] at e;have c:u= .string:=by cases u<;>simp[td] at e;rfl
  subst c;unfold LQ at h;split at h
  ·exact⟨_,.inl ⟨m,_,rfl⟩,h,λhv=>AL.1 hv⟩
  ·cases h
 ·rename_i q d;rw[d] at e;have c:u= .int q:=by cases u<;>simp[td] at e;rw[e]
  subst c;unfold Wk at h;split at h
  ·obtain⟨h1,h2⟩:=L9 h;have h1:_=q:=l2z h1;subst h1;exact⟨_,.inr (.inl ⟨_,_,m,rfl⟩),h2,λhv=>AL.1 hv⟩
  ·cases h
 ·obtain⟨ks,b,h⟩:=Bc h;exact g ks b h
 ·obtain⟨ks,b,h⟩:=Bc h;exact g ks b h
 ·cases h
def PK {o:Oper} (e:∀c,o.op≠.defer c) (h:∀(w0:Base) (s0:Nat) (C:Ctx) (N:Nat) (a:Act) (w:World),St E.G w0 s0 C N t H a w->∃v y,K v=some r/\(execOp a.eval o).run P w= .ok (.value y) w/\VRel C w v y):Tv P E.G ro N o t H (λv b=>b=H/\K v=some r):=
 Uq e λw0 s0 C N a w s=>let⟨v,y,h1,h2,d⟩:=h w0 s0 C N a w s;⟨v,H,y,C,w,⟨rfl,h1⟩,.inl h2,d,s.rel,.refl _ _ _⟩
def A2o (f:XE.Ok D E P) {o:Oper} {op:BinOp} {ty L:TypeId} {x y:Operand} (d:o.op= .binOp op ty x y L) (h:C0D E op ty (A3y y) (JH E.G t x) (JH E.G t y) K=some r):Tv P E.G ro N o t H (λv g=>g=H/\K v=some r):=by
 obtain⟨i,m,h⟩:=Bc h;have nd:∀c,o.op≠.defer c:= λc hc=>by rw[d] at hc;cases hc
 have q:∀ks,E.eqt.get ty=some ks->Xg ks op (JH E.G t x) (JH E.G t y) K=some r->Tv P E.G ro N o t H (λv g=>g=H/\K v=some r):= λks b h=>by
  refine PK nd λw0 B C N a w s=> ?_;obtain⟨v,u,h1,h2,j⟩:=A3V (P:=P) x y (f.eq ty ks b) (AW s x) (AW s y) h;refine⟨v,u,h1,?_,j⟩;simp only[execOp,d];rw[Dk,h2];rfl
 simp only at h;split at h
 ·obtain⟨ks,b,h⟩:=Bc h;exact q ks b h
 ·obtain⟨ks,b,h⟩:=Bc h;exact q ks b h
 ·rename_i e k;obtain⟨M,n,h⟩:=Bc h;refine PK nd λw0 B C N a w s=> ?_;obtain⟨v,u,h1,h2,j⟩:=A3U (P:=P) (T:=E.T) f.ty x y m k n (AW s x) (AW s y) h;refine⟨v,u,h1,?_,j⟩;simp only[execOp,d];rw[Dk,h2];rfl
 ·rename_i k;obtain⟨hc,h⟩:=L9 h;have J:y= .const .nilIface:=by
   unfold A3y at hc;split at hc
   ·rfl
   ·cases hc
  subst J;obtain⟨u,p,e⟩:=(f.ty ty i m).under;rw[k] at e;obtain⟨ms,rfl⟩:∃ms,u= .interface ms:=by cases u<;>simp[td] at e;exact⟨_,rfl⟩
  have he:∀w,(Op.equal ty .nilIface .nilIface).run P w= .ok true w:= λw=>by
   show(Op.equalIn (9999+1) ty _ _).run P w=_;unfold Op.equalIn;rw[Dk,run_underlying p w];rfl
  have A:∀(op:BinOp) (z:Operand) (w:World),(eqGuard op ty z (.const .nilIface) .nilIface .nilIface).run P w= .ok () w:= λop z w=>by
   unfold eqGuard;rw[Sem.run_ite];refine B0m (by simp) ?_;simp
  refine PK nd λw0 B C N a w s=> ?_;have hv:=AW s x;have hz:a.eval (.const .nilIface)= .nilIface:=rfl;unfold B5W at h;split at h
  ·rename_i hq _ _;rw[hq] at hv;have hv:=AL.1 hv;refine⟨_,.bool true,h,?_,.v _⟩;simp only[execOp,d];rw[hv,hz,Dk,Dk,A];simp[binOp,he]
  ·rename_i hq _ _;rw[hq] at hv;have hv:=AL.1 hv;refine⟨_,.bool false,h,?_,.v _⟩;simp only[execOp,d];rw[hv,hz,Dk,Dk,A];simp[binOp,he]
  ·cases h
 ·obtain⟨u,p,F⟩:=yY (T:=E.T) (ty:=ty) m h;exact rd f nd (by rw[d];simpa [qI,XE.env] using F) p
def Rn {K:TypeId->Nat->Af} (h:D! i K=some r):∃e a,i.d= .slice e a/\K e a=some r:=by
 unfold D! at h;split at h
 ·rename_i b;exact⟨_,_,b,h⟩
 ·cases h
def A7i (j:XE.Ok D E P) {o:Oper} {ty:TypeId} {n:Nat} {parts:Array (Nat×Operand)} (k:o.op= .buildSlice ty n parts) (h:(E.ty.getK ty λi=>D! i λ_ b=>E.ty.getK (A5s i) λm=>iX E t i parts.toList λl=>Yr b m n l K)=some r):Tv P E.G ro N o t H (λv u=>u=H/\K v=some r):=by
 obtain⟨i,B,h⟩:=Bc h;obtain⟨e,b,f,h⟩:=Rn h;have he:A5s i=e:=by simp[A5s,f]
 rw[he] at h;obtain⟨m,g,h⟩:=Bc h;obtain⟨l,h1,h2⟩:=Xm j _ _ h;refine Uq (λc hc=>by rw[k] at hc;cases hc) λw0 M C N a w s=> ?_;obtain⟨F,hq⟩:=kF s parts;obtain⟨v,y,q,L,A,d,hv,hr,J⟩:=A7e (P:=P) (T:=E.T) j.ty B f g (by rw[<-h2];simp[QO,f]) h1 F hq s.rel;refine⟨v,H,y,q,L,⟨rfl,A⟩,.inl ?_,hv,hr,J⟩;have:(parts.map λ(i,x)=>(i,a.eval x))=(parts.toList.map λp=>(p.1,a.eval p.2)).toArray:=by apply oQ;simp
 simp only[execOp,k];rw[this,Dk,d];rfl
def A7l (q:XE.Ok D E P) {o:Oper} {s d:TypeId} (O:o.op= .convert s d x) {i j ie:TI} {e z:Nat} (Z:E.ty.get s=some i) (hj:E.ty.get d=some j) (Y:i.d= .slice e z) (A:j.d= .string) (B:E.ty.get e=some ie) (f:A3x ie.d=true) (h:wY (JH E.G t x) H K=some r):Tv P E.G ro N o t H (λv V=>V=H/\K v=some r):=by
 refine Uq (λc hc=>by rw[O] at hc;cases hc) λw0 s0 C N a w st=> ?_;obtain⟨h1,l,X,b⟩:=A41 (P:=P) st.rel (AW st x) h;refine⟨.v (.string ⟨⟨l⟩⟩),H,.string ⟨⟨l⟩⟩,C,w,⟨rfl,X⟩,.inl ?_,.v _,st.rel,.refl _ _ _⟩;have u:(convert s d (a.eval x)).run P w= .ok (.string ⟨⟨l⟩⟩) w:=by
  obtain⟨F,_⟩:=(q.ty s i Z).elem_slice Y;obtain⟨Q,J,M⟩:=(q.ty d j hj).under;obtain⟨u3,L,p⟩:=(q.ty e ie B).under;rw[A] at M;have g:Q= .string:=by cases Q<;>simp[td] at M;rfl
  subst g;have m:u3= .int .u8:=by
   cases hq:ie.d with
   |int k=>
    rw[hq] at f p;cases k<;>simp[A3x] at f
    cases u3<;>simp[td] at p
    rw[p]
   |_=>rw[hq] at f;simp[A3x] at f
  subst m;unfold convert;rw[Dk,run_underlying F w];simp only[FU];rw[Dk,run_underlying J w];simp only[FU];generalize a.eval x=y at h1 b;cases y with
  |slice ad n cap=>
   simp only;rw[Dk,run_underlying L w];simp only[FU];exact b
  |string s=>exact absurd rfl (h1 s)
  |_=>simp[Conv.bytesToString] at b
 simp only[execOp,O];rw[Dk,u];rfl
def yJ {f:Nat} {K:Nat->Nat->TypeId->Af} (h:B4D i f K=some r):∃a o s ft,i.d= .struct a/\a[f]?=some (o,s,ft)/\K o s ft=some r:=by
 unfold B4D at h;split at h
 ·rename_i a b;split at h
  ·rename_i c;exact⟨a,_,_,_,b,c,h⟩
  ·cases h
 ·cases h
def eC (f:XE.Ok D E P) (M:RSound D E P R) {o:Oper} {c:Call} (p:o.op= .call c) (h:zR E R t H c K=some r):Tv P E.G ro N o t H (λv L=>L=H/\K v=some r):=by
 have nd:∀c,o.op≠.defer c:= λc hc=>by rw[p] at hc;cases hc
 unfold zR at h;split at h
 ·rename_i Z d;have h:=Rw f _ _ (AZ f h);unfold A7V at h;split at h
  ·rename_i g first cap Q;obtain⟨_,h⟩:=B3 h;rw[Jt,Jt,<-dW] at h;obtain⟨⟨fn,h1,h2,B⟩,hc⟩:=dQ M h;exact Tv.mono (SN p d Q h1 h2 B hc) (λ_ _ h=>h)
  ·cases h
 ·rename_i d;split at h
  ·rename_i x ty m q;obtain⟨i,J,h⟩:=Bc (AZ f h);unfold B2f at h;split at h
   ·rename_i kt Y O;refine PK nd λw0 X C N a w s=> ?_;obtain⟨v,y,h1,h2,B⟩:=A1E (P:=P) (ty:=o.type) (ts:=c.argTypes) (by rw[<-l27,q];rfl) (Pv f J O) s.rel (AW s x) h;refine⟨v,y,h1,?_,B⟩;have e:c.args.map a.eval= #[a.eval x]:=by apply oQ;simp[m]
    rw[I6 p _ d,e];show(do pure (Next.value (<-Builtin.len_ c.argTypes o.type #[a.eval x]))).run P w=_;rw[Dk,h2];rfl
   ·obtain⟨u,A,j⟩:=A79 (T:=E.T) J h;exact rd f nd (by rw[p];simp only[qI,d,m,q];simpa [XE.env] using j) A
  ·cases h
 ·rename_i d;split at h
  ·rename_i x m;have h:=AZ f h;unfold A73 at h;split at h
   ·rename_i sz rr oo n hq;obtain⟨hc,h1⟩:=B3 h;simp only[Kw,pO,Wj] at hc;refine PK nd λw0 X C N a w s=> ?_;have hv:=AW s x;rw[hq] at hv;have e:c.args.map a.eval= #[a.eval x]:=by apply oQ;simp[m]
    rw[I6 p _ d,e];generalize a.eval x=y at hv;cases hv with
    |slz=>exact absurd hc.2 (by simp)
    |@sl _ _ _ _ _ _ b k cap arr T fz V F hb hsz=>
     refine⟨_,.pointer (some ⟨b,k+oo,none⟩),h1,?_,.ptr V⟩;show(do pure (Next.value (<-Builtin.unsafeSliceData_ c.argTypes o.type #[.slice (some ⟨b,k+oo,none⟩) n cap]))).run P w=_;rw[Dk,Lib.run_unsafeSliceData_row _ _ _ _ _ _ (by omega)];rfl
   ·cases h
  ·cases h
 ·rename_i d;split at h
  ·rename_i x y m;obtain⟨u,A,j⟩:=A1C (AZ f (AZ f h));exact rd f nd (by rw[p];simp only[qI,d,m];simpa [XE.env] using j) A
  ·cases h
 ·rename_i d;split at h
  ·rename_i x y m;obtain⟨u,A,j⟩:=A1C (AZ f (AZ f h));exact rd f nd (by rw[p];simp only[qI,d,m];simpa [XE.env] using j) A
  ·cases h
 ·cases h
def Td (m:XE.Ok D E P) (hR:RSound D E P R) {o:Oper} (h:Rs E R t H o.op K=some r):Tv P E.G ro N o t H (λv Z=>Z=H/\K v=some r):=by
 unfold Rs at h;split at h
 all_goals try (cases h;done)
 case h_1 x g=>exact rd m (λc hc=>by rw[g] at hc;cases hc) (by rw[g];exact⟨rfl,rfl⟩) (AZ m h)
 case h_2 x g=>exact rd m (λc hc=>by rw[g] at hc;cases hc) (by rw[g];exact⟨rfl,rfl⟩) (AZ m h)
 case h_3 c a b g=>
  have h:=AZ m (AZ m (AZ m h));unfold Ch at h;split at h
  ·rename_i hq;exact rd m (λc hc=>by rw[g] at hc;cases hc) (by rw[g];simp[qI,XE.env,hq]) h
  ·rename_i hq;exact rd m (λc hc=>by rw[g] at hc;cases hc) (by rw[g];simp[qI,XE.env,hq]) h
  ·cases h
 case h_4 ty x g=>
  obtain⟨i,p,h⟩:=Bc (AZ m h);obtain⟨u,q,A⟩:=A1H (T:=E.T) (ty:=ty) p h;exact rd m (λc hc=>by rw[g] at hc;cases hc) (by rw[g];simpa [qI,XE.env] using A) q
 case h_5 x g=>
  have h:=AZ m h;unfold Lg at h;split at h
  ·rename_i hq;exact rd m (λc hc=>by rw[g] at hc;cases hc) (by rw[g];simp[qI,XE.env,hq,A7Z]) h
  ·rename_i hq;exact rd m (λc hc=>by rw[g] at hc;cases hc) (by rw[g];simp[qI,XE.env,hq,A7Z]) h
  ·rename_i hq;exact rd m (λc hc=>by rw[g] at hc;cases hc) (by rw[g];simp[qI,XE.env,hq,A7Z]) h
  ·cases h
 case h_6 op ty x y yt g=>exact A2o m g (AZ m (AZ m h))
 case h_7 op ty x g=>
  obtain⟨u,q,A⟩:=B0U (AZ m h);exact rd m (λc hc=>by rw[g] at hc;cases hc) (by rw[g];simpa [qI,XE.env] using A) q
 case h_8 s d x g=>
  obtain⟨i,p,h⟩:=Bc (AZ m h);obtain⟨j,L,h⟩:=Bc h;unfold cvK at h;simp only at h;split at h
  ·rename_i e z J;split at h
   ·rename_i O;obtain⟨ie,F,h⟩:=Bc h;obtain⟨q,h⟩:=L9 h;exact A7l m g p L J O F q h
   ·cases h
  ·rename_i e J;obtain⟨hc,h⟩:=L9 h;simp only[Kw,pO,X!] at hc;obtain⟨ie,F,h⟩:=Bc h;refine PK (λc hc=>by rw[g] at hc;cases hc) λw0 Y C N a w st=> ?_;obtain⟨h1,h2⟩:=A3P (P:=P) (T:=E.T) m.ty p J F (d:=d) (by rw[hc.1];exact m.up hc.2) st.rel (AW st x) h;refine⟨_,_,h1,?_,AW st x⟩;simp only[execOp,g];rw[Dk,h2];rfl
  ·rename_i J;split at h
   ·rename_i u O;obtain⟨hc,h⟩:=L9 h;simp only[Kw,pO,X!] at hc;have ab:P.underlying d=some (.pointer u):=by
     obtain⟨u',ae,V⟩:=(m.ty d j L).under;rw[O] at V;cases u'<;>simp[td] at V
     rw[ae,V]
    refine PK (λc hc=>by rw[g] at hc;cases hc) λw0 Y C N a w st=> ?_;obtain⟨h1,h2⟩:=A3J (P:=P) m.lie (s:=s) (by rw[hc.1];exact m.up hc.2) ab st.rel (AW st x) h;refine⟨_,_,h1,?_,AW st x⟩;simp only[execOp,g];rw[Dk,h2];rfl
   ·cases h
  ·obtain⟨u,q,A⟩:=A3Y (T:=E.T) p L h;exact rd m (λc hc=>by rw[g] at hc;cases hc) (by rw[g];simpa [qI,XE.env] using A) q
 case h_9 fn first cap g=>
  have h:=Rw m _ _ (Rw m _ _ h);exact rd m (λc hc=>by rw[g] at hc;cases hc) (by rw[g];exact⟨rfl,rfl⟩) h
 case h_10 ty x f g=>
  obtain⟨i,p,h⟩:=Bc (AZ m h);obtain⟨fs,off,s,ft,h1,h2,h⟩:=yJ h;obtain⟨hz,h⟩:=B3 h;obtain⟨u,q,A⟩:=B1b (T:=E.T) (ty:=ty) p h1 h2 (λe=>by rw[e] at hz;simp at hz) h;exact rd m (λc hc=>by rw[g] at hc;cases hc) (by rw[g];simpa [qI,XE.env] using A) q
 case h_11 ty x f g=>
  obtain⟨i,p,h⟩:=Bc (AZ m h);obtain⟨fs,off,s,ft,h1,h2,h⟩:=yJ h;obtain⟨j,L,h⟩:=Bc h;obtain⟨u,q,A⟩:=A7b (T:=E.T) (ty:=ty) p h1 h2 L h;exact rd m (λc hc=>by rw[g] at hc;cases hc) (by rw[g];simpa [qI,XE.env] using A) q
 case h_12 ty x X g=>
  obtain⟨i,p,h⟩:=Bc (AZ m (AZ m h));obtain⟨u,q,A⟩:=B15 (T:=E.T) (ty:=ty) p h;exact rd m (λc hc=>by rw[g] at hc;cases hc) (by rw[g];simpa [qI,XE.env] using A) q
 case h_13 ty x X g=>
  obtain⟨i,p,h⟩:=Bc (AZ m (AZ m h));unfold elK at h;have fin:∀j,(∀e,gY i=some e->E.T e=some j)->iA i j (JH E.G t x) (JH E.G t X) K=some r->Tv P E.G ro N o t H (λv Z=>Z=H/\K v=some r):= λj L h=>by
   obtain⟨u,q,A⟩:=A7a (T:=E.T) (ty:=ty) p L h;exact rd m (λc hc=>by rw[g] at hc;cases hc) (by rw[g];simpa [qI,XE.env] using A) q
  split at h
  ·rename_i e he;obtain⟨j,L,h⟩:=Bc h;exact fin j (λV B=>by rw[he] at B;injection B with B;subst B;exact L) h
  ·rename_i he;exact fin i (λV B=>by rw[he] at B;cases B) h
 case h_14 ty x lo p mx g=>
  have h0:=Bc (iY m (iY m (iY m (AZ m h))));clear h;obtain⟨i,Q,h⟩:=h0;unfold A2c at h;split at h
  ·rename_i n e aa J;split at h
   ·rename_i hm;have ad:mx=none:=by cases mx with
     |none=>rfl
     |some _=>cases hm
    subst ad;refine PK (λc hc=>by rw[g] at hc;cases hc) λw0 Y C N a w st=> ?_;obtain⟨v,u,h1,h2,M⟩:=A3L (P:=P) (T:=E.T) m.ty Q J (m.pos ty i e aa Q (.inr ⟨n,J⟩)) st.rel (AW st x) (XK st lo) (XK st p) h;refine⟨v,u,h1,?_,M⟩;simp only[execOp,g];rw[Dk];have:(Instr.sliceAt ty (a.eval x) (lo.map a.eval) (p.map a.eval) (Option.map a.eval none)).run P w= .ok u w:=h2;rw[this];rfl
   ·cases h
  ·obtain⟨u,q,A⟩:=A1w (T:=E.T) (ty:=ty) Q h;exact rd m (λc hc=>by rw[g] at hc;cases hc) (by rw[g];simpa [qI,XE.env] using A) q
 case h_15 x k g=>
  obtain⟨vs,u,h1,h2,M⟩:=A7c (AZ m h);exact rd m (λc hc=>by rw[g] at hc;cases hc) (by rw[g];simp only[qI,XE.env,h1,h2,LL];exact⟨trivial,trivial⟩) M
 case h_16 ty parts g=>
  obtain⟨i,p,h⟩:=Bc h;obtain⟨hb,h⟩:=B3 h;obtain⟨l,h1,h2⟩:=Xm m _ _ h;obtain⟨u,q,A⟩:=A1K (T:=E.T) (ty:=ty) p hb h2 h1;exact rd m (λc hc=>by rw[g] at hc;cases hc) (by rw[g];simpa [qI,XE.env] using A) q
 case h_17 c g=>exact eC m hR g h
 case h_18 ty n parts g=>exact A7i m g h
 case h_19 ty x X ok g=>
  obtain⟨i,p,h⟩:=Bc (AZ m (AZ m h));obtain⟨kt,et,J,h⟩:=Pw h;obtain⟨kv,hk,h,ac⟩:=UU m h;obtain⟨ie,F,h⟩:=Bc h;refine PK (λc hc=>by rw[g] at hc;cases hc) λw0 Y C N a w st=> ?_;obtain⟨v,y,h1,h2,M⟩:=A78 (P:=P) (Pv m p J) (m.ty et ie F) hk st.rel (AW st x) h;refine⟨v,y,h1,?_,M⟩;simp only[execOp,g];rw[Dk,ac (AW st X),h2];rfl
 case h_20 it g=>
  have h:=AZ m h;refine PK (λc hc=>by rw[g] at hc;cases hc) λw0 Y C N a w st=> ?_;obtain⟨v,y,h1,h2,M⟩:=A3W (P:=P) st.rel (AW st it) h;refine⟨v,y,h1,?_,M⟩;simp only[execOp,g];rw[Dk,h2];rfl
end
end
section
variable {aZ bd:Code}
def B8l (r:Nat) (K:AV->Hp->Prop):Exit->Tm->Hp->Prop
 | .normal,_,H=>∃N t ps aZ bd,Aj H r=some (.loop N t ps aZ bd none)/\K (.v (.bool true)) (upd H r (.loop N t ps aZ bd (some none)))
 | .ret,_,H=>∃N t ps aZ bd,Aj H r=some (.loop N t ps aZ bd none)/\K (.v (.bool false)) (upd H r (.loop N t ps aZ bd (some (some .ret))))
 | .exit id,_,H=>∃N t ps aZ bd,Aj H r=some (.loop N t ps aZ bd none)/\K (.v (.bool false)) (upd H r (.loop N t ps aZ bd (some (some (.exit id)))))
 | .goto l,_,H=>∃N t ps aZ bd,Aj H r=some (.loop N t ps aZ bd none)/\K (.v (.bool false)) (upd H r (.loop N t ps aZ bd (some (some (.goto l)))))
 |_,_,_=>False
section
variable {P:Program} {G:Gl} {ro:Option Nat} {N:Nat} {t:Tm} {H:Hp}
def A4h {o:Oper} {c:Call} {fv:Operand} {r:Nat} {K:AV->Hp->Prop} (R:o.op= .call c) (M:c.callee= .value fv) (hf:JH G t fv= .yl r) {D:Nat} {t':Tm} {ps:Array Tmp} {args:List AV} (m:c.args.toList.map (JH G t)=args)
 (hl:Aj H r=some (.loop D t' ps aZ bd (some none))) (ae:ps.size=args.length) (ad:∀p∈ps.toList,p<D)
 (h:∀b,Tc P G (some b) (Ao H) D aZ (A9B (λt1 H1=>∃N1 k j g i,Aj H1 r=some (.loop N1 k j g i (some none))/\Tc P G (some b) (Ao H) D bd (B8l r K) t1 (upd H1 r (.loop N1 k j g i none))) (λ_ _ _=>False)) (xI t' ps.toList args) H):Tv P G ro N o t H K:=by
 intro w0 s0 C a w Q s;have hv:=AW s fv;rw[hf] at hv;generalize hy:a.eval fv=y at hv;cases hv with
 |yl L=>
 rename_i b am;obtain⟨F,l,h1,h2,h3,h4,h5,h6,h7,h8,h9⟩:=s.rel.rows r _ hl;have e:=h1.symm.trans L;injection e with e;injection e with e;injection e with e1 J;subst e1 J
 have V:r<Ao H:=xW s.rel (by rw[L];simp);have d:=uO s c.args.toList;rw[m] at d;have A:(c.args.map a.eval).size=l.params.size:=by
  have:=d.1;simp at this;simp[h6,ae,this]
 refine⟨λf _=>trivial,?_⟩;rw[Oper.semAt_eq _ _ _ (by rw[R];intro c hc;cases hc)];have X:(execOp a.eval o).run P w= .ok (.round F l.fn ((l.params.zip (c.args.map a.eval)).foldl (λtmps (t,a)=>tmps.setIfInBounds t a) l.tmps) l.assign l.body) w:=by
  simp only[execOp,R,resolve,M,hy,Deferred.ofValue,Dk,kW,FU,invoke];have:=run_yield (P:=P) (w:=w) (args:= #[]++c.args.map a.eval) h2 (by simpa using A);simpa using this
 rw[X];refine⟨λhd=>by simp[uX] at hd,?_⟩;have ht:=A6g (C:=C) (w:=w) l.params.toList args (c.args.toList.map a.eval) t' l.tmps (λp L=>by rw[h5];exact ad p (h6▸L)) d h9;have ah:(l.params.zip (c.args.map a.eval)).foldl (λtmps (x:Tmp×Value)=>match x with|(t,a)=>tmps.setIfInBounds t a) l.tmps=(l.params.toList.zip (c.args.toList.map a.eval)).foldl (λt (p:Tmp×Value)=>t.setIfInBounds p.1 p.2) l.tmps:=by
  have hz:(l.params.zip (c.args.map a.eval)).foldl (λtmps (p:Tmp×Value)=>tmps.setIfInBounds p.1 p.2) l.tmps=(l.params.toList.zip (c.args.toList.map a.eval)).foldl (λt (p:Tmp×Value)=>t.setIfInBounds p.1 p.2) l.tmps:=by
   rw[<-Array.foldl_toList];simp
  exact hz
 refine roundIn_of_wpIn trivial ?_;rw[ah,h7,h8];have ai:St G w0 0 C D (xI t' ps.toList args) H {tmps:=(l.params.toList.zip (c.args.toList.map a.eval)).foldl (λt (p:Tmp×Value)=>t.setIfInBounds p.1 p.2) l.tmps,defers:=[]} w:=
  ⟨s.rel,by rw[ht.2];exact h5,by rw[<-h6];exact ht.1,.nil,W? _⟩
 refine wpIn_mono (h F w0 0 C _ w ai) ?_;rintro e a1 w1 ⟨C1,t1,H1,s1,x1,q1⟩;cases e with
 |normal=>
  obtain⟨N1,k,j,g,i,aa,n⟩:=q1;have q:C1.π r=some (some (F,0)):=(x1.π r V (by rw[L];simp)).trans L;obtain⟨l1,g1,g2,g3,g4,g5,g6,g7,g8,Y⟩:=s1.rel.set_loop (pend':=none) (O:=w0.own) aa q;obtain⟨af,J⟩:=Y {l1 with state:= .busy} rfl (by rw[g3];rfl) rfl rfl rfl rfl;refine⟨_,run_beginRound g1 g2,?_⟩;have aj:St G w0 0 C1 D t1 (upd H1 r (.loop N1 k j g i none)) a1 (w1.putObj F (.loop {l1 with state:= .busy})):=⟨af,s1.size,s1.tmps.mono J,s1.defers.mono J.B J.keepB,W? _⟩
  refine wpIn_mono (n w0 0 C1 a1 _ aj) ?_;rintro e a3 w3 ⟨C3,t3,H3,s3,x3,q3⟩;have ac:C3.π r=some (some (F,0)):=(x3.π r V (by rw[q];simp)).trans q;have ak:Frm (Ao H) w0.own C w C3 w3:=(x1.trans J.frm).trans x3;have fin:∀jump:Option Code,(∃N t ps aZ bd,Aj H3 r=some (.loop N t ps aZ bd none)/\K (.v (.bool jump.isNone)) (upd H3 r (.loop N t ps aZ bd (some jump))))->
   ∃v w4,(Instr.endRound F jump).run P w3= .ok v w4/\∃Z y C' H',a.put o.dst v=a.put o.dst y/\K Z H'/\VRel C' w4 Z y/\Rel G w0 C' H' w4/\Ext w0.own C w C' w4:=by
   rintro jump ⟨N3,aq,ap,an,ao,ab,hK⟩;obtain⟨l3,k1,k2,k3,k4,k5,k6,k7,k8,u⟩:=s3.rel.set_loop (pend':=some jump) (O:=w0.own) ab ac;obtain⟨ag,e4⟩:=u {l3 with state:=if jump.isNone then .ready else .done,pending:=jump} (by cases jump<;>rfl) rfl rfl rfl rfl rfl;exact⟨_,_,run_endRound jump k1,_,_,C3,_,rfl,hK,.v _,ag,(ak.trans e4.frm).ext_of s.rel⟩
  cases e with
  |normal=>exact fin none q3
  |ret=>exact fin (some .ret) q3
  |exit id=>exact fin (some (.exit id)) q3
  |goto l=>exact fin (some (.goto l)) q3
  |panic ch=>exact q3.elim
  |outgrown=>exact q3.elim
 |_=>exact q1.elim
def A4f {m:Nat} {Q:Exit->Tm->Hp->Prop} {g:Operand} {ps:Array Tmp} {f:FuncId} {first cap:List AV} (hg:JH G t g= .fn (.func f) first cap) {fn:Func} (ap:P.funcs[f]?=some fn) (F:fn.body.isNone=false) (K:(fn.name== "runtime.NumGoroutine")=false)
 (h:QF P G f (first++[.yl (Ao H)]++cap) ((Ao H,.loop N t ps aZ bd (some none))::H) (λ_ H2=>∃N' t' aj V X d,Aj H2 (Ao H)=some (.loop N' t' aj V X (some d))/\B8o Q t (cut H2 (Ao H)) d)):Tc P G none m N (.rangeFunc g ps aZ bd) Q t H:=by
 intro w0 s0 C a w s;refine wpIn_rangeFunc ?_;intro aa _;have hv:=AW s g;rw[hg] at hv;obtain⟨ys,zs,he,ar,ax⟩:=Jr.1 hv;have af:=Nq w (.deferred (some []));have k:(w.alloc (.deferred (some []))).heap.size=w.heap.size+1:=World.size_alloc _ _;have rD:Rel G w0 C H (w.alloc (.deferred (some []))):=s.rel.of_below af;have A:(w.alloc (.deferred (some []))).heap[w.heap.size]?=some (.deferred (some [])):=World.alloc_heap_new w _;obtain⟨ak,am⟩:=rD.addB (b:=w.heap.size) (by rw[k];omega) (.inl s.rel.below.size) (λr x o hx hp=>l1l _ ((s.rel.rows r x hx).block (E3 hx) hp));have eD:Ext w0.own C w (C.addB w.heap.size) (w.alloc (.deferred (some []))):=(s.rel.ext_below af).trans am;obtain⟨lp,i⟩:∃lp:Loop,lp={state:= .ready,pending:=none,fn:=aa,tmps:=a.tmps,params:=ps,assign:=aZ,body:=bd,defers:=w.heap.size}:=⟨_,rfl⟩
 have D:=Nq (w.alloc (.deferred (some []))) (.loop lp);have eL:Ext w0.own (C.addB w.heap.size) (w.alloc (.deferred (some []))) ((C.addB w.heap.size).put (Ao H) (some ((w.alloc (.deferred (some []))).heap.size,0))) ((w.alloc (.deferred (some []))).alloc (.loop lp)):=ak.new_ext D;have j:((w.alloc (.deferred (some []))).alloc (.loop lp)).heap[(w.alloc (.deferred (some []))).heap.size]?=some (.loop lp):=World.alloc_heap_new _ _;have L:=eD.trans eL;have r1:=ak.new_row (x:= .loop N t ps aZ bd (some none)) D ⟨_,lp,Ctx.put_n _ _ _,j,by rw[i];rfl,by rw[i];rfl,by rw[i];exact s.size,by rw[i],by rw[i],by rw[i],(show lp.tmps=a.tmps by rw[i])▸s.tmps.mono L⟩;generalize ac:(C.addB w.heap.size).put (Ao H) (some ((w.alloc (.deferred (some []))).heap.size,0))=R at r1 L;generalize ad:(w.alloc (.deferred (some []))).alloc (.loop lp)=q at r1 L j;have ai:R.π (Ao H)=some (some (w.heap.size+1,0)):=by rw[<-ac,Ctx.put_n,k]
 have ab:R.B w.heap.size:=by rw[<-ac];exact .inr rfl
 have an:q.heap[w.heap.size]?=some (.deferred (some [])):=by
  rw[<-ad];exact(D.block _ (by rw[k];omega)).trans A
 have ae:CG R q (first++[.yl (Ao H)]++cap) (ys++[.func (.yield (w.heap.size+1)) #[] #[]]++zs):=((ar.mono L).append (.cons (.yl ai) .nil)).append (ax.mono L);have J:=h w0 R q _ r1 ae;refine⟨w.heap.size+1,[{target:= .collected w.heap.size,args:= #[]}],q,{target:= .fn (.func f) zs.toArray,args:=ys.toArray++ #[Value.func (.yield (w.heap.size+1)) #[] #[]]},q,f,(ys++[Value.func (.yield (w.heap.size+1)) #[] #[]]++zs).toArray,q,?_,?_,λ_ _=>trivial,?_,λhd=>by simp[uX] at hd,?_⟩
 ·rw[<-ad,i];exact run_enterLoop_outer _ _ _ _ _
 ·simp only[resolve,rangeCall,he,Deferred.ofValue,kW];simp[Act.eval]
 ·simp only[invoke,callFunc,Dk,run_program,FU,ap,K,F,xY,if_false,kW]
  congr 2
  apply oQ;simp
 ·refine CallsIn.mono (callsIn_wide.2 J) ?_;rintro e w2 ⟨v,y,n,H2,rfl,r2,ay,x2,N',t',aj,V,X,d,ag,hq⟩;have u:Ext w0.own R q n w2:=x2.ext_of r1;have ah:n.π (Ao H)=some (some (w.heap.size+1,0)):=u.at ai;obtain⟨b',M,k1,k2,k3,k4,_⟩:=r2.rows (Ao H) _ ag;have Y:=k1.symm.trans ah;injection Y with Y;injection Y with Y;injection Y with e3 e4;subst e3
  have aq:=(l1v.1 k2).1;obtain⟨r3,Z⟩:=r2.set_obj (O:=w0.own) (y:= .gone) ag ah (SameObj.putObj aq (.loop {M with state:= .exhausted})) (λarr T fz hc=>by rw[k2] at hc;cases hc) (λ_=>trivial);have ex:Ext w0.own C w n (w2.putObj (w.heap.size+1) (.loop {M with state:= .exhausted})):=(L.trans u).trans Z;have p:=u.trans Z;have ao:DOk w0 s0 n (w2.putObj (w.heap.size+1) (.loop {M with state:= .exhausted})) (J' w.heap.size::a.defers):=by
   obtain⟨bs,d1,d2,d3⟩:=s.defers;refine⟨w.heap.size::bs,List.nodup_cons.2 ⟨λhm=>l1l _ (s.rel.finB _ (d3 _ hm).2.2.1),d1⟩,by rw[d2];rfl,λb hb=> ?_⟩;rcases Uf.1 hb with rfl|hb
   ·exact⟨s.le,.inl s.rel.below.size,p.B _ ab,(p.keepB _ ab).trans an⟩
   ·obtain⟨g1,g2,g3,g4⟩:=d3 b hb;exact⟨g1,g2,ex.B _ g3,(ex.keepB _ g3).trans g4⟩
  have st:St G w0 s0 n N t (cut H2 (Ao H)) {a with defers:=[J' w.heap.size]++a.defers} (w2.putObj (w.heap.size+1) (.loop {M with state:= .exhausted})):=
   ⟨r3,s.size,s.tmps.mono ex,ao,Z7 s.le ex.grow⟩
  refine⟨d,w2.putObj (w.heap.size+1) (.loop {M with state:= .exhausted}),?_,?_⟩
  ·have:=run_endLoop (P:=P) k2 (by rw[k3];cases d<;>simp[B3f]);have hj:M.pending=d:=by rw[k4];cases d<;>rfl
   rw[this,hj]
  ·cases d with
   |none=>exact⟨n,t,_,st,ex.frm,hq⟩
   |some c=>
    cases c with
    |ret=>exact wpIn_ret ⟨n,t,_,st,ex.frm,hq⟩
    |exit id=>exact wpIn_exit ⟨n,t,_,st,ex.frm,hq⟩
    |goto l=>exact wpIn_goto ⟨n,t,_,st,ex.frm,hq⟩
    |_=>exact hq.elim
end
end
section
variable {c:Call} {s:Nat}
def Z6 (x:Row) (K:Nat->Tm->Array Tmp->Code->Code->Option (Option Code)->Af):Af:=match x with| .loop N t ps b d a=>K N t ps b d a|_=>none
def E2 (H:Hp) (r:Nat) (ready:Bool) (to:Option (Option Code)) (K:Hp->Af):Af:=
 IJ H r λx=>Z6 x λN t ps b d a=>match ready,a with
  |true,some none=>LC H r (.loop N t ps b d to) K
  |false,none=>LC H r (.loop N t ps b d to) K
  |_,_=>none
def A2K (t:Tm) (ps:List Tmp):List AV->(Tm->Af)->Af:=
 @List.rec Tmp (λ_=>Tm->List AV->(Tm->Af)->Af) (λt b K=>@List.rec AV (λ_=>Af) (K t) (λ_ _ _=>none) b)
  (λp _ ih t b K=>@List.rec AV (λ_=>Af) none (λa b _=>ih ((p,a)::t) b K) b) ps t
def xX (N:Nat) (ps:List Tmp):Bool:=@List.rec Tmp (λ_=>Bool) true (λp _ ih=>@Bool.rec (λ_=>Bool) false ih (Nat.blt p N)) ps
def Nz (R:Rt) (r:Nat) (args:List AV) (H:Hp) (K:KV):Af:=
 IJ H r λx=>Z6 x λN t ps i j b=>match b with
  |some none=>ck (xX N ps.toList) (A2K t ps.toList args λf=>R.run ⟨true,f.map (·.1),false,N,[]⟩ i f H λe k g=>match e with
   | .normal=>E2 g r true none λh=>R.run ⟨true,f.map (·.1),false,N,[]⟩ j k h λe _ d=>match e with
    | .normal=>E2 d r false (some none) λa=>K (.v (.bool true)) a
    | .ret=>E2 d r false (some (some .ret)) λa=>K (.v (.bool false)) a
    | .exit id=>E2 d r false (some (some (.exit id))) λa=>K (.v (.bool false)) a
    | .goto l=>E2 d r false (some (some (.goto l))) λa=>K (.v (.bool false)) a
    |_=>none
   |_=>none)
  |_=>none
def A7W (E:XE) (R:Rt) (f:AV) (b:List AV) (H:Hp) (K:KV):Af:=
 match f with
 | .fn (.func g) first cap=>ck (E.imp g) (Ym b cap λa=>Ym first a λall=>R.call g all H K)
 | .yl r=>Nz R r b H K
 |_=>none
def C1B (i:TI) (K:TypeId->Af):Af:=(λ(_:Unit)=>match i.d with| .pointer e=>K e|_=>none) Iq
def C3O (E:XE) (e:TypeId) (esz:Nat) (ie i2:TI) (s x:AV) (H:Hp) (K:KV):Af:=(λ(_:Unit)=>@Bool.rec (λ_=>Af) (E9 e esz ie i2 s x H K) (yZ e esz ie i2 s x H K) (E.ov e)) Iq
def Xn (E:XE) (R:Rt) (t:Tm) (H:Hp) (c:Call) (K:KV):Af:=
 match c.callee with
 | .value h=>Kb E t h λf=>qF E t c.args.toList λg=>A7W E R f g H K
 | .builtin .append=>match c.args.toList,c.argTypes.toList with
  |[s,x],[v,w]=>Kb E t s λs=>Kb E t x λx=>E.ty.getK v λi1=>E.ty.getK w λi2=>D! i1 λe a=>E.ty.getK e λb=>C3O E e a b i2 s x H K
  |_,_=>none
 | .builtin .copy=>match c.args.toList,c.argTypes.toList with
  |[s,x],ty::_=>Kb E t s λs=>Kb E t x λx=>E.ty.getK ty λi=>D! i λ_ a=>A1I a s x H K
  |_,_=>none
 | .builtin .clear=>match c.args.toList,c.argTypes.toList with
  |[s],[ty]=>Kb E t s λs=>E.ty.getK ty λi=>D! i λe a=>E.ty.getK e λb=>uA a b s H λd=>K (.tup []) d
  |_,_=>none
 | .builtin .delete=>match c.args.toList,c.argTypes.toList with
  |[m,k],ty::_=>Kb E t m λm=>Kb E t k λk=>E.ty.getK ty λi=>J! i λj _=>A6P E j k λq=>hC m q H λd=>K (.tup []) d
  |_,_=>none
 | .builtin .unsafeString=>match c.args.toList,c.argTypes.toList with
  |[p,n],[u,_]=>Kb E t p λp=>Kb E t n λn=>E.ty.getK u λi=>C1B i λe=>E.ty.getK e λb=>ckS (Nat.beq b.size 1) (A3I e p n H K)
  |_,_=>none
 |_=>none
def eA (E:XE) (R:Rt) (t:Tm) (H:Hp) (o:Op) (K:KV):Af:=
 match o with
 | .store ty x y=>Kb E t x λp=>Kb E t y λv=>E.ty.getK ty λi=>E0 i p v H λa=>K (.v undef) a
 | .alloc ty=>E.ty.getK ty λi=>Bx ty i H K
 | .box ty x=>Kb E t x λv=>Ho ty v H K
 | .buildSlice ty n parts=>E.ty.getK ty λi=>D! i λe b=>E.ty.getK e λd=>iX E t i parts.toList λl=>Hf e b d n l H K
 | .call c=>Xn E R t H c K
 | .makeSlice ty l c=>Kb E t l λl=>Kb E t c λc=>E.ty.getK ty λi=>D! i λe b=>E.ty.getK e λd=>eMk e b d l c H K
 | .makeMap ty none=>E.ty.getK ty λi=>J! i λ_ h=>E.ty.getK h λd=>L4 d H K
 | .mapUpdate ty m k v=>Kb E t m λm=>Kb E t k λk=>Kb E t v λv=>E.ty.getK ty λi=>J! i λf _=>A6P E f k λg=>Mh m g v H λa=>K (.v undef) a
 | .insert ty m k v=>Kb E t m λm=>Kb E t k λk=>Kb E t v λv=>E.ty.getK ty λi=>J! i λf _=>A6P E f k λg=>Mh m g v H λa=>K (.v undef) a
 | .mapEntry ty m k=>Kb E t m λm=>Kb E t k λk=>E.ty.getK ty λi=>J! i λf h=>A6P E f k λg=>E.ty.getK h λd=>B11 d m g H K
 | .entryStore _ m st v=>Kb E t m λm=>Kb E t st λst=>Kb E t v λv=>B10 m st v H λa=>K (.v undef) a
 | .range ty x=>Kb E t x λm=>E.ty.getK ty λi=>J! i λ_ _=>Wz m H K
 | .next it false=>Kb E t it λv=>Yp v H K
 |_=>none
section
variable {D:XE->Cf->Nat->List Oper->Bool} {E:XE} {P:Program} {R:Rt} {t:Tm} {H:Hp} {r:AV×Hp} {ro:Option Nat} {N:Nat}
def ZZ {x:Row} {K:Nat->Tm->Array Tmp->Code->Code->Option (Option Code)->Af} (h:Z6 x K=some r):∃N t ps b d a,x= .loop N t ps b d a/\K N t ps b d a=some r:=by
 unfold Z6 at h;split at h
 ·exact⟨_,_,_,_,_,_,rfl,h⟩
 ·cases h
def NA {ready:Bool} {to:Option (Option Code)} {K:Hp->Af} (h:E2 H s ready to K=some r):
 ∃N t ps a b,Aj H s=some (.loop N t ps a b (if ready then some none else none))/\K (upd H s (.loop N t ps a b to))=some r:=by
 unfold E2 at h;obtain⟨x,h1,h2⟩:=Iw rfl h;obtain⟨N,t,ps,a,b,e,rfl,d⟩:=ZZ h2;clear h h2;have h:=d;clear d;split at h
 ·rw[Dh] at h;exact⟨N,t,ps,a,b,h1,h⟩
 ·rw[Dh] at h;exact⟨N,t,ps,a,b,h1,h⟩
 ·cases h
def A0q:∀(ps:List Tmp) (t:Tm) (b:List AV) (K:Tm->Af),A2K t ps b K=some r->ps.length=b.length/\K (xI t ps b)=some r:=by
 intro ps
 induction ps with
 |nil=>
  intro t b K h;cases b with
  |nil=>exact⟨rfl,h⟩
  |cons a b=>cases h
 |cons p ps ih=>
  intro t b K h;cases b with
  |nil=>cases h
  |cons a b=>
   obtain⟨h1,h2⟩:=ih ((p,a)::t) b K h;exact⟨by simpa using h1,h2⟩
def A6J {ps:List Tmp} (h:xX N ps=true):∀p∈ps,p<N:=by
 induction ps with
 |nil=>intro p a;simp at a
 |cons q ps ih=>
  have e:xX N (q::ps)=@Bool.rec (λ_=>Bool) false (xX N ps) (Nat.blt q N):=rfl;rw[e] at h;cases hq:Nat.blt q N
  ·rw[hq] at h;cases h
  ·rw[hq] at h;intro p a;rcases Uf.1 a with rfl|a
   ·rwa[Wj] at hq
   ·exact ih h p a
def Vo (m:RSound D E P R) {o:Oper} {j:Operand} {K:KV} (B:o.op= .call c) (a:c.callee= .value j) (y:JH E.G t j= .yl s) (h:Nz R s (c.args.toList.map (JH E.G t)) H K=some r):Tv P E.G ro N o t H (λv p=>K v p=some r):=by
 unfold Nz at h;obtain⟨x,A,h2⟩:=Iw rfl h;obtain⟨L,O,ps,u,w,n,rfl,k⟩:=ZZ h2;clear h h2;have h:=k;clear k;split at h
 ·obtain⟨h1,h⟩:=B3 h;obtain⟨h2,h⟩:=A0q _ _ _ _ h;refine A4h B a y rfl A (by simpa using h2) (A6J h1) λb=> ?_;refine Tc.mono (m.run (some b) _ u _ H _ r (Ao H) (λ_=>rfl) (λh=>by cases h) h) λe Q F hq=> ?_;cases e with
  |normal=>
   obtain⟨q,C,i,d,f,g,hq⟩:=NA hq;refine⟨q,C,i,d,f,g,Tc.mono (m.run (some b) _ w _ _ _ r (Ao H) (λ_=>rfl) (λh=>by cases h) hq) λe V J hq=> ?_⟩;cases e with
   |normal=>exact NA hq
   |ret=>exact NA hq
   |exit id=>exact NA hq
   |goto l=>exact NA hq
   |panic M=>cases hq
   |outgrown=>cases hq
  |_=>cases hq
 ·cases h
def wr (b:XE.Ok D E P) {o:Oper} {v:AV} {H':Hp} {K:KV} (e:∀c,o.op≠.defer c) (f:B2h (E.env P) o.op t H (Ao H) (λg a=>g=v/\a=H')) (d:K v H'=some r):Tv P E.G ro N o t H (λv H'=>K v H'=some r):=
 Tv.mono (Uq e (A2q (E:=E.env P) b.env f)) (by rintro _ _ ⟨rfl,rfl⟩;exact d)
def B1O {o:Oper} {K:AV->Hp->Prop} {d:Hp} (b:∀{G:Gl} {w0:Base} {C:Ctx} {w:World},Rel G w0 C H w->Rel G w0 C d w) (h:Tv P E.G ro N o t d K):Tv P E.G ro N o t H K:=
 λw0 e C a w Q s=>h w0 e C a w Q ⟨b s.rel,s.size,s.tmps,s.defers,s.le⟩
def QB {o:Oper} {K:KV} (g:∀c,o.op≠.defer c) (h:∀(w0:Base) (s0:Nat) (C:Ctx) (N:Nat) (a:Act) (w:World),St E.G w0 s0 C N t H a w->∃v b y e d,K v b=some r/\((execOp a.eval o).run P w= .ok (.value y) d\/((execOp a.eval o).run P w= .ok .skip d/\y=undef))/\Kv E.G w0 C w v b y e d):Tv P E.G ro N o t H (λv b=>K v b=some r):=
 Uq g λw0 s0 C N a w s=>let⟨v,b,y,e,d,h1,h2,f⟩:=h w0 s0 C N a w s;⟨v,b,y,e,d,h1,h2,f.1,f.2.1,f.2.2⟩
def LD (j:XE.Ok D E P) (hR:RSound D E P R) {o:Oper} (O:o.op= .call c) {K:KV} (h:Xn E R t H c K=some r):Tv P E.G ro N o t H (λv y=>K v y=some r):=by
 have nd:∀c,o.op≠.defer c:= λc hc=>by rw[O] at hc;cases hc
 unfold Xn at h;split at h
 ·rename_i fv b;have h:=Rw j _ _ (AZ j h);unfold A7W at h;split at h
  ·rename_i g first cap hf;obtain⟨_,h⟩:=B3 h;rw[MD,MD,<-dW] at h;obtain⟨⟨fn,h1,h2,F⟩,hc⟩:=hR.call _ _ _ _ _ h;exact SN O b hf h1 h2 F hc
  ·rename_i s hf;exact Vo hR O b hf h
  ·cases h
 ·rename_i b;split at h
  ·rename_i s x t1 t2 M f;obtain⟨i1,ab,h⟩:=Bc (AZ j (AZ j h));obtain⟨i2,ac,h⟩:=Bc h;obtain⟨e,A,J,h⟩:=Rn h;obtain⟨Y,B,h⟩:=Bc h;have main:E9 e A Y i2 (JH E.G t s) (JH E.G t x) H K=some r->Tv P E.G ro N o t H (λv y=>K v y=some r):= λh=>by
    unfold E9 at h;obtain⟨H1,h,aj,L⟩:=rF h;obtain⟨v,y,hK,X⟩:=zA (T:=E.T) ab ac J B h;refine B1O L ?_;exact wr j nd (by rw[O];simp only[B2h,b,M,f];exact X) hK
   change @Bool.rec (λ_=>Af) (E9 e A Y i2 (JH E.G t s) (JH E.G t x) H K) (yZ e A Y i2 (JH E.G t s) (JH E.G t x) H K) (E.ov e)=some r at h;cases ad:E.ov e
   ·rw[ad] at h;exact main h
   rw[ad] at h;change yZ e A Y i2 (JH E.G t s) (JH E.G t x) H K=some r at h;unfold yZ at h;split at h
   rotate_left
   ·exact main h
   rename_i sz r1 o1 n1 ak;obtain⟨m,ys,q,ae,h⟩:=YS h;obtain⟨H1,h,aj,L⟩:=rF h;obtain⟨v,y,hK,X⟩:=zA (T:=E.T) ab ac J B h;refine QB nd λw0 s0 C N a w st=> ?_;have af:=AW st x;rw[ak] at af;obtain⟨v,y,u,C',Q,⟨h1,h2⟩,F,Z⟩:=Xo (P:=P) (ty:=o.type) (ts:=c.argTypes) (T:=E.T) j.ty (t1:=t1) (t2:=t2) (by rw[<-l27,f];rfl) (by rw[<-l27,f];rfl) (L st.rel) (AW st s) (z:=a.eval x) (λan m' ao q' ha ai _=>by
    injection ha with ha
    injection ha with e1 e2
    injection e2 with e2 e3
    subst e1 e2 e3;exact WL st.rel af (q:=q) ae ai (λs hs=>by cases hs)) X
   subst h1 h2;refine⟨v,y,u,C',Q,hK,.inl ?_,Z⟩;have d:c.args.map a.eval= #[a.eval s,a.eval x]:=by apply oQ;simp[M]
   rw[I6 O _ b,d];show(do pure (Next.value (<-Builtin.append_ c.argTypes o.type #[a.eval s,a.eval x]))).run P w=_;rw[Dk,F];rfl
  ·cases h
 ·rename_i b;split at h
  ·rename_i s x ty am M f;obtain⟨i,V,h⟩:=Bc (AZ j (AZ j h));obtain⟨e,A,J,h⟩:=Rn h;refine QB nd λw0 s0 C N a w st=> ?_;obtain⟨v,y,u,Q,h1,h2,F⟩:=A3X (P:=P) (T:=E.T) (ty:=o.type) (ts:=c.argTypes) j.ty (by rw[<-l27,f];rfl) V J (j.pos ty i e A V (.inl J)) st.rel (AW st s) (AW st x) h;refine⟨v,y,u,C,Q,h1,.inl ?_,F⟩;have d:c.args.map a.eval= #[a.eval s,a.eval x]:=by apply oQ;simp[M]
   rw[I6 O _ b,d];show(do pure (Next.value (<-Builtin.copy_ c.argTypes o.type #[a.eval s,a.eval x]))).run P w=_;rw[Dk,h2];rfl
  ·cases h
 ·rename_i b;split at h
  ·rename_i s ty M f;obtain⟨i,V,h⟩:=Bc (AZ j h);obtain⟨e,A,J,h⟩:=Rn h;obtain⟨Y,B,h⟩:=Bc h;refine QB nd λw0 s0 C N a w st=> ?_;obtain⟨y,Q,h1,h2,F,Z⟩:=A3Z (P:=P) (T:=E.T) (ty:=o.type) (ts:=c.argTypes) j.ty (by rw[<-l27,f];rfl) V J B st.rel (AW st s) h;refine⟨_,y,.tuple #[],C,Q,h1,.inl ?_,DC.2 ⟨[],rfl,.nil⟩,F,Z⟩;have d:c.args.map a.eval= #[a.eval s]:=by apply oQ;simp[M]
   rw[I6 O _ b,d];show(do pure (Next.value (<-Builtin.clear_ c.argTypes o.type #[a.eval s]))).run P w=_;rw[Dk,h2];rfl
  ·cases h
 ·rename_i b;split at h
  ·rename_i m k ty am M f;obtain⟨i,V,h⟩:=Bc (AZ j (AZ j h));obtain⟨kt,et,J,h⟩:=Pw h;obtain⟨kv,hk,h,ah⟩:=UU j h;refine QB nd λw0 s0 C N a w st=> ?_;obtain⟨y,Q,h1,h2,F,Z⟩:=A1G (P:=P) (ty:=o.type) (ts:=c.argTypes) (by rw[<-l27,f];rfl) (Pv j V J) hk st.rel (AW st m) h;refine⟨_,y,.tuple #[],C,Q,h1,.inl ?_,DC.2 ⟨[],rfl,.nil⟩,F,Z⟩;have d:c.args.map a.eval= #[a.eval m,kv]:=by apply oQ;simp[M,ah (AW st k)]
   rw[I6 O _ b,d];show(do pure (Next.value (<-Builtin.delete_ c.argTypes o.type #[a.eval m,kv]))).run P w=_;rw[Dk,h2];rfl
  ·cases h
 ·rename_i b;split at h
  ·rename_i p n pt it M f;obtain⟨i,V,h⟩:=Bc (AZ j (AZ j h));unfold C1B at h;split at h
   ·rename_i e J;obtain⟨Y,B,h⟩:=Bc h;obtain⟨ag,h⟩:=L9 h;refine QB nd λw0 s0 C N a w st=> ?_;obtain⟨v,y,u,Q,h1,h2,F⟩:=A3H (P:=P) (T:=E.T) (it:=it) (ty:=o.type) j.ty V J B (YM ag) st.rel (AW st p) (AW st n) h;refine⟨v,y,u,C,Q,h1,.inl ?_,F⟩;have d:c.args.map a.eval= #[a.eval p,a.eval n]:=by apply oQ;simp[M]
    have aa:c.argTypes= #[pt,it]:=by apply oQ;simp[f]
    rw[I6 O _ b,d,aa];show(do pure (Next.value (<-Builtin.unsafeString_ #[pt,it] o.type #[a.eval p,a.eval n]))).run P w=_;rw[Dk,h2];rfl
   ·cases h
  ·cases h
 ·cases h
def HY (d:XE.Ok D E P) (hR:RSound D E P R) {o:Oper} {K:KV} (h:eA E R t H o.op K=some r):Tv P E.G ro N o t H (λv f=>K v f=some r):=by
 unfold eA at h;split at h
 all_goals try (cases h;done)
 case h_1 ty x y b=>
  obtain⟨i,g,h⟩:=Bc (AZ d (AZ d h));obtain⟨f,F,J⟩:=B0V (T:=E.T) (ty:=ty) g h;refine Tv.mono (Uq (λc hc=>by rw[b] at hc;cases hc) (xE (E:=E.env P) (K:= λv aa=>v= .v undef/\aa=f) d.env (by rw[b];simpa [qI,XE.env] using J))) ?_;rintro _ _ ⟨rfl,rfl⟩;exact F
 case h_2 ty b=>
  obtain⟨i,g,h⟩:=Bc h;obtain⟨v,f,F,J⟩:=A1L (T:=E.T) g h;exact wr d (λc hc=>by rw[b] at hc;cases hc) (by rw[b];exact J) F
 case h_3 ty x b=>
  obtain⟨v,f,F,J⟩:=A7d (ty:=ty) (AZ d h);exact wr d (λc hc=>by rw[b] at hc;cases hc) (by rw[b];exact J) F
 case h_4 ty n parts b=>
  obtain⟨i,g,h⟩:=Bc h;obtain⟨e,ab,u,h⟩:=Rn h;obtain⟨Y,A,h⟩:=Bc h;obtain⟨l,h1,h2⟩:=Xm d _ _ h;obtain⟨v,f,F,J⟩:=B1g (T:=E.T) (ps:=parts.toList.map λp=>(p.1,JH E.G t p.2)) g u A (by rw[<-h2];simp[QO,u]) h1;exact wr d (λc hc=>by rw[b] at hc;cases hc) (by rw[b];exact J) F
 case h_5 c b=>exact LD d hR b h
 case h_6 ty l c b=>
  obtain⟨i,g,h⟩:=Bc (AZ d (AZ d h));obtain⟨e,ab,u,h⟩:=Rn h;obtain⟨Y,A,h⟩:=Bc h;refine Uq (λc hc=>by rw[b] at hc;cases hc) λw0 L C N a w s=> ?_;obtain⟨v,f,y,M,j,F,X,hv,hr,J⟩:=A77 (P:=P) (T:=E.T) d.ty g u A (AW s l) (AW s c) s.rel h;refine⟨v,f,y,M,j,F,.inl ?_,hv,hr,J⟩;simp only[execOp,b];rw[Dk,X];rfl
 case h_7 ty b=>
  obtain⟨i,g,h⟩:=Bc h;obtain⟨Z,O,u,h⟩:=Pw h;obtain⟨Y,A,h⟩:=Bc h;refine QB (λc hc=>by rw[b] at hc;cases hc) λw0 L C N a w st=> ?_;obtain⟨v,f,y,M,j,h1,h2,q⟩:=A1B (P:=P) (ty:=ty) st.rel h;refine⟨v,f,y,M,j,h1,.inl ?_,q⟩;simp only[execOp,b];have:(Instr.makeMap ty (Option.map a.eval none)).run P w= .ok y j:=h2;rw[Dk,this];rfl
 case h_8 ty m k v b=>
  obtain⟨i,g,h⟩:=Bc (AZ d (AZ d (AZ d h)));obtain⟨Z,O,u,h⟩:=Pw h;obtain⟨kv,V,h,B⟩:=UU d h;refine QB (λc hc=>by rw[b] at hc;cases hc) λw0 L C N a w st=> ?_;obtain⟨f,j,h1,h2,q,Q⟩:=tX (P:=P) (Pv d g u) V st.rel (AW st m) (AW st v) h;refine⟨_,f,undef,C,j,h1,.inr ⟨?_,rfl⟩,.v _,q,Q⟩;simp only[execOp,b];rw[Dk,B (AW st k),h2];rfl
 case h_9 ty m k v b=>
  obtain⟨i,g,h⟩:=Bc (AZ d (AZ d (AZ d h)));obtain⟨Z,O,u,h⟩:=Pw h;obtain⟨kv,V,h,B⟩:=UU d h;refine QB (λc hc=>by rw[b] at hc;cases hc) λw0 L C N a w st=> ?_;obtain⟨f,j,h1,h2,q,Q⟩:=tX (P:=P) (Pv d g u) V st.rel (AW st m) (AW st v) h;refine⟨_,f,undef,C,j,h1,.inr ⟨?_,rfl⟩,.v _,q,Q⟩;simp only[execOp,b];rw[Dk,B (AW st k),h2];rfl
 case h_10 ty m k b=>
  obtain⟨i,g,h⟩:=Bc (AZ d (AZ d h));obtain⟨Z,O,u,h⟩:=Pw h;obtain⟨kv,V,h,B⟩:=UU d h;obtain⟨Y,A,h⟩:=Bc h;refine QB (λc hc=>by rw[b] at hc;cases hc) λw0 L C N a w st=> ?_;obtain⟨v,f,y,j,h1,h2,q⟩:=A1F (P:=P) (Pv d g u) (d.ty O Y A) V st.rel (AW st m) h;refine⟨v,f,y,C,j,h1,.inl ?_,q⟩;simp only[execOp,b];rw[Dk,B (AW st k),h2];rfl
 case h_11 ty m s v b=>
  have h:=AZ d (AZ d (AZ d h));refine QB (λc hc=>by rw[b] at hc;cases hc) λw0 L C N a w st=> ?_;obtain⟨f,j,h1,h2,q,Q⟩:=A1A (P:=P) (mt:=ty) st.rel (AW st m) (AW st s) (AW st v) h;refine⟨_,f,undef,C,j,h1,.inr ⟨?_,rfl⟩,.v _,q,Q⟩;simp only[execOp,b];rw[Dk,h2];rfl
 case h_12 ty x b=>
  obtain⟨i,g,h⟩:=Bc (AZ d h);obtain⟨Z,O,u,h⟩:=Pw h;refine QB (λc hc=>by rw[b] at hc;cases hc) λw0 L C N a w st=> ?_;obtain⟨v,f,y,M,j,h1,h2,q⟩:=A3O (P:=P) (Pv d g u) st.rel (AW st x) h;refine⟨v,f,y,M,j,h1,.inl ?_,q⟩;simp only[execOp,b];rw[Dk,h2];rfl
 case h_13 it b=>
  have h:=AZ d h;refine QB (λc hc=>by rw[b] at hc;cases hc) λw0 L C N a w st=> ?_;obtain⟨v,f,y,j,h1,h2,q⟩:=A3Q (P:=P) (ty:=o.type) st.rel (AW st it) h;refine⟨v,f,y,C,j,h1,.inl ?_,q⟩;simp only[execOp,b];rw[Dk,h2];rfl
end
end
section
variable {K:KV} {d:Option Tmp}
def A1r (b:Bool) (all:List AV) (H:Hp) (K:KV) (x:Af):Af:=
 (λ(_:Unit)=>match b with
  |true=>(match all with|[v]=>K v H|_=>none)
  |false=>x) Iq
def Cr (E:XE) (R:Rt) (f:AV) (b:List AV) (H:Hp) (K:KV):Af:=
 match f with
 | .fn (.func g) first cap=>SD b cap λa=>SD first a λall=>A1r (E.ne g) all H K (@Bool.rec (λ_=>Af) (zpm E g R all H λv=>K v H) (R.call g all H K) (E.imp g))
 | .yl r=>Nz R r b H K
 |_=>none
def zN (E:XE) (R:Rt) (f:AV) (b:List AV) (H:Hp) (K:KV):Af:=
 match f with
 | .fn (.func g) first cap=>SD b cap λa=>SD first a λall=>A1r (E.ne g) all H K (@Bool.rec (λ_=>Af) (zpm E g R all H λv=>K v H) (@Bool.rec (λ_=>Af) (R.call g all H K) (An R g all H λv=>K v H) (E.lm g)) (E.imp g))
 | .yl r=>Nz R r b H K
 |_=>none
def A2n (E:XE) (R:Rt) (fz:Bool) (t:Tm) (H:Hp) (c:Call) (K:KV):Af:=
 match c.callee with
 | .value b=>Kb E t b λf=>qF E t c.args.toList λa=>@Bool.rec (λ_=>Af) (Cr E R f a H K) (zN E R f a H K) fz
 | .builtin .append=>Xn E R t H c K
 | .builtin .copy=>Xn E R t H c K
 | .builtin .clear=>Xn E R t H c K
 | .builtin .delete=>Xn E R t H c K
 | .builtin .unsafeString=>Xn E R t H c K
 | .builtin _=>zR E R t H c λv=>K v H
 |_=>none
def B5L:TD->Bool
 | .string=>true
 |_=>false
def zcv (E:XE) (R:Rt) (t:Tm) (H:Hp) (s d:TypeId) (x:Operand) (K:KV):Af:=
 E.ty.getK s λi=>E.ty.getK d λj=>(λ(_:Unit)=>match j.d with
  | .slice e _=>ckS (B5L i.d) (E.ty.getK e λb=>ckS (A3x b.d) (Kb E t x λa=>A1y e a H K))
  |_=>Rs E R t H (.convert s d x) λv=>K v H) Iq
def zop (E:XE) (R:Rt) (fz:Bool) (t:Tm) (H:Hp) (o:Op) (K:KV):Af:=
 match o with
 | .call c=>A2n E R fz t H c K
 | .store a b c=>eA E R t H (.store a b c) K
 | .alloc a=>eA E R t H (.alloc a) K
 | .box a b=>eA E R t H (.box a b) K
 | .makeSlice a b c=>eA E R t H (.makeSlice a b c) K
 | .makeMap a b=>eA E R t H (.makeMap a b) K
 | .mapUpdate a b c d=>eA E R t H (.mapUpdate a b c d) K
 | .insert a b c d=>eA E R t H (.insert a b c d) K
 | .mapEntry a b c=>eA E R t H (.mapEntry a b c) K
 | .entryStore a b c d=>eA E R t H (.entryStore a b c d) K
 | .range a b=>eA E R t H (.range a b) K
 | .next a b=>eA E R t H (.next a b) K
 | .convert a b c=>zcv E R t H a b c K
 | .buildSlice a b c=>@Bool.rec (λ_=>Af) (eA E R t H (.buildSlice a b c) K) (Rs E R t H (.buildSlice a b c) λv=>K v H) fz
 |o=>Rs E R t H o λv=>K v H
def gdV (want:Bool) (v:AV) (K:Bool->Af):Af:=
 match v with
 | .v (.bool b)=>@Bool.rec (λ_=>Af) (@Bool.rec (λ_=>Af) (K true) (K false) b) (@Bool.rec (λ_=>Af) (K false) (K true) b) want
 | .dk=>none
 |_=>K false
def gdK (all:List Oper) (t:Tm) (g:Option (Nat×Bool)) (K:Bool->Af):Af:=
 match g with
 |none=>K true
 |some (j,want)=>match all[j]? with
  |some p=>match p.dst with
   |some d=>gtm t d λv=>gdV want v K
   |none=>K false
  |none=>K false
def A1N (N:Nat) (d:Option Tmp) (K:Af):Af:=(λ(_:Unit)=>match d with|some d=>ckS (Nat.blt d N) K|none=>K) Iq
def Qr (t:Tm) (d:Option Tmp) (v:AV) (K:Tm->Af):Af:=(λ(_:Unit)=>match d with|some d=>K ((d,v)::t)|none=>K t) Iq
def A6T (g:Option (Nat×Bool)) (x y:Af):Af:=(λ(_:Unit)=>match g with|none=>x|some _=>y) Iq
def Ef (a:Af) (K:KV):Af:=match a with|some (v,H)=>K v H|none=>none
def A2h (E:XE) (R:Rt) (fz:Bool) (N:Nat) (all:List Oper) (l:List Oper):Tm->Hp->(Tm->Hp->Af)->Af:=
 @List.rec Oper (λ_=>Tm->Hp->(Tm->Hp->Af)->Af) (λt H K=>K t H)
  (λo _ ih t H K=>A1N N o.dst (A6T o.guard (zop E R fz t H o.op λv a=>Qr t o.dst v λb=>ih b a K)
   (Ef (gdK all t o.guard λg=>@Bool.rec (λ_=>Af) (some (.v undef,H)) (zop E R fz t H o.op λv a=>some (v,a)) g) λv a=>Qr t o.dst v λb=>ih b a K))) l
section
variable {D:XE->Cf->Nat->List Oper->Bool} {E:XE} {P:Program} {R:Rt} {t:Tm} {H:Hp} {r:AV×Hp} {ro:Option Nat} {N m:Nat} {fz:Bool}
def zT (k:XE.Ok D E P) (f:RSound D E P R) {o:Oper} {c:Call} (e:o.op= .call c) (h:A2n E R fz t H c K=some r):Tv P E.G ro N o t H (λv w=>K v w=some r):=by
 unfold A2n at h;split at h
 ·rename_i q a;have h:=Rw k _ _ (AZ k h);cases fz
  ·have h:Cr E R (JH E.G t q) ([]++c.args.toList.map (JH E.G t)) H K=some r:=h;unfold Cr at h;split at h
   ·rename_i g first cap i;rw[Jt,Jt,<-dW] at h;cases b:E.ne g
    rotate_left
    ·rw[b] at h;unfold A1r at h;simp only at h;split at h
     ·rename_i v j;exact A5I (k.ne g b) e a i j h
     ·cases h
    rw[b] at h;have h:@Bool.rec (λ_=>Af) (zpm E g R (first++c.args.toList.map (JH E.G t)++cap) H λv=>K v H) (R.call g (first++c.args.toList.map (JH E.G t)++cap) H K) (E.imp g)=some r:=h;cases p:E.imp g
    ·rw[p] at h;obtain⟨⟨fn,h1,h2,n⟩,hc⟩:=dQ f h;exact Tv.mono (SN e a i h1 h2 n hc) (by rintro _ _ ⟨rfl,h⟩;exact h)
    ·rw[p] at h;obtain⟨⟨fn,h1,h2,n⟩,hc⟩:=f.call _ _ _ _ _ h;exact SN e a i h1 h2 n hc
   ·rename_i s i;exact Vo f e a i h
   ·cases h
  ·have h:zN E R (JH E.G t q) ([]++c.args.toList.map (JH E.G t)) H K=some r:=h;unfold zN at h;split at h
   ·rename_i g first cap i;rw[Jt,Jt,<-dW] at h;cases b:E.ne g
    rotate_left
    ·rw[b] at h;unfold A1r at h;simp only at h;split at h
     ·rename_i v j;exact A5I (k.ne g b) e a i j h
     ·cases h
    rw[b] at h;have h:@Bool.rec (λ_=>Af) (zpm E g R (first++c.args.toList.map (JH E.G t)++cap) H λv=>K v H) (@Bool.rec (λ_=>Af) (R.call g (first++c.args.toList.map (JH E.G t)++cap) H K) (An R g (first++c.args.toList.map (JH E.G t)++cap) H λv=>K v H) (E.lm g)) (E.imp g)=some r:=h;cases p:E.imp g
    ·rw[p] at h;obtain⟨⟨fn,h1,h2,n⟩,hc⟩:=dQ f h;exact Tv.mono (SN e a i h1 h2 n hc) (by rintro _ _ ⟨rfl,h⟩;exact h)
    ·rw[p] at h;have h:@Bool.rec (λ_=>Af) (R.call g (first++c.args.toList.map (JH E.G t)++cap) H K) (An R g (first++c.args.toList.map (JH E.G t)++cap) H λv=>K v H) (E.lm g)=some r:=h;cases u:E.lm g
     ·rw[u] at h;obtain⟨⟨fn,h1,h2,n⟩,hc⟩:=f.call _ _ _ _ _ h;exact SN e a i h1 h2 n hc
     ·rw[u] at h;obtain⟨⟨fn,h1,h2,n⟩,hc⟩:=Yy f (K:= λv=>K v H) h;exact Tv.mono (SN e a i h1 h2 n hc) (by rintro _ _ ⟨rfl,h⟩;exact h)
   ·rename_i s i;exact Vo f e a i h
   ·cases h
 ·exact LD k f e h
 ·exact LD k f e h
 ·exact LD k f e h
 ·exact LD k f e h
 ·exact LD k f e h
 ·exact Tv.mono (eC k f e h) (by rintro _ _ ⟨rfl,h⟩;exact h)
 ·cases h
def A5U (f:XE.Ok D E P) (hR:RSound D E P R) {o:Oper} {s d:TypeId} {x:Operand} (F:o.op= .convert s d x) (h:zcv E R t H s d x K=some r):Tv P E.G ro N o t H (λv u=>K v u=some r):=by
 obtain⟨i,hi,h⟩:=Bc h;obtain⟨j,hj,h⟩:=Bc h;simp only at h;split at h
 ·rename_i e z hd;obtain⟨n,h⟩:=L9 h;obtain⟨Q,B,h⟩:=Bc h;obtain⟨b,h⟩:=L9 h;have h:=AZ f h;refine Uq (λc hc=>by rw[F] at hc;cases hc) λw0 s0 C N a w st=> ?_;obtain⟨str,hy,v,u,X,Y,V,Z,g,hv,hr,hx⟩:=A3N (P:=P) st.rel (AW st x) h;refine⟨v,u,X,Y,V,Z,.inl ?_,hv,hr,hx⟩;have A:(convert s d (a.eval x)).run P w= .ok X V:=by
   obtain⟨u1,J,O⟩:=(f.ty s i hi).under;obtain⟨L,_⟩:=(f.ty d j hj).elem_slice hd;obtain⟨u3,M,y⟩:=(f.ty e Q B).under;have q:u3= .int .u8:=by
    cases hq:Q.d with
    |int k=>
     rw[hq] at b y;cases k<;>simp[A3x] at b
     cases u3<;>simp[td] at y
     rw[y]
    |_=>rw[hq] at b;simp[A3x] at b
   have p:u1= .string:=by
    cases hq:i.d with
    |string=>
     rw[hq] at O;cases u1<;>simp[td] at O
     rfl
    |_=>rw[hq] at n;simp[B5L] at n
   subst q p;rw[hy];unfold convert;rw[Dk,run_underlying J w];simp only[FU];rw[Dk,run_underlying L w];simp only[FU];rw[Dk,run_underlying M w];simp only[FU];exact g
  simp only[execOp,F];rw[Dk,A];rfl
 ·exact Tv.mono (Td (K:= λv=>K v H) f hR (by rw[F];exact h)) (by rintro _ _ ⟨rfl,h⟩;exact h)
def iZ (b:XE.Ok D E P) (e:RSound D E P R) {o:Oper} (h:zop E R fz t H o.op K=some r):Tv P E.G ro N o t H (λv f=>K v f=some r):=by
 unfold zop at h;split at h
 ·rename_i c a;exact zT b e a h
 ·rename_i a;exact HY b e (by rw[a];exact h)
 ·rename_i a;exact HY b e (by rw[a];exact h)
 ·rename_i a;exact HY b e (by rw[a];exact h)
 ·rename_i a;exact HY b e (by rw[a];exact h)
 ·rename_i a;exact HY b e (by rw[a];exact h)
 ·rename_i a;exact HY b e (by rw[a];exact h)
 ·rename_i a;exact HY b e (by rw[a];exact h)
 ·rename_i a;exact HY b e (by rw[a];exact h)
 ·rename_i a;exact HY b e (by rw[a];exact h)
 ·rename_i a;exact HY b e (by rw[a];exact h)
 ·rename_i a;exact HY b e (by rw[a];exact h)
 ·rename_i a;exact A5U b e a h
 ·rename_i a;cases fz
  ·exact HY b e (by rw[a];exact h)
  ·exact Tv.mono (Td (K:= λv=>K v H) b e (by rw[a];exact h)) (by rintro _ _ ⟨rfl,h⟩;exact h)
 ·exact Tv.mono (Td b e h) (by rintro _ _ ⟨rfl,h⟩;exact h)
def gJ {all:List Oper} {o:Oper} {K:Bool->Af} (h:gdK all t o.guard K=some r):(K true=some r/\(GX all t o= .run\/GX all t o= .dep true))\/(K false=some r/\(GX all t o= .skip\/GX all t o= .dep false)):=by
 unfold gdK at h;unfold GX;split at h
 ·rename_i c;rw[c];exact .inl ⟨h,.inl rfl⟩
 ·rename_i j want c;rw[c];simp only;split at h
  ·rename_i p e;rw[e];simp only;split at h
   ·rename_i d a;rw[a];rw[Wo] at h;simp only;unfold gdV at h;split at h
    ·rename_i b hb;rw[hb];simp only[Up];cases want<;>cases b
     ·exact .inl ⟨h,.inr rfl⟩
     ·exact .inr ⟨h,.inr rfl⟩
     ·exact .inr ⟨h,.inr rfl⟩
     ·exact .inl ⟨h,.inr rfl⟩
    ·cases h
    ·rename_i h1 h2;refine .inr ⟨h,.inl ?_⟩;have:Up (HZ t d)= .skip:=by
      unfold Up;split
      ·rename_i b hb;exact absurd hb (h1 b)
      ·rename_i hb;exact absurd hb h2
      ·rfl
     rw[this]
   ·rename_i a;rw[a];exact .inr ⟨h,.inl rfl⟩
  ·rename_i e;rw[e];exact .inr ⟨h,.inl rfl⟩
def lR {K:Af} (h:A1N N d K=some r):dok N d/\K=some r:=by
 unfold A1N at h;split at h
 ·obtain⟨h1,h2⟩:=B3 h;rw[Wj] at h1;exact⟨h1,h2⟩
 ·exact⟨trivial,h⟩
def Vf {a:Af} (h:Ef a K=some r):∃v b,a=some (v,b)/\K v b=some r:=by
 unfold Ef at h;split at h
 ·exact⟨_,_,rfl,h⟩
 ·cases h
def Th {v:AV} {K:Tm->Af}:Qr t d v K=K (R5 t d v):=by cases d<;>rfl
def A2g (y:XE.Ok D E P) (A:RSound D E P R) {all:List Oper}:∀(l:List Oper) (t:Tm) (H:Hp) (K:Tm->Hp->Af),A2h E R fz N all l t H K=some r->
 V? P E.G ro m N all.toArray l (λe f b=>e= .normal/\K f b=some r) t H:=by
 intro l
 induction l with
 |nil=>intro t H K h;exact B1N ⟨rfl,h⟩
 |cons o l ih=>
  intro t H K h;have h:A1N N o.dst (A6T o.guard (zop E R fz t H o.op λv b=>Qr t o.dst v λf=>A2h E R fz N all l f b K)
   (Ef (gdK all t o.guard λg=>@Bool.rec (λ_=>Af) (some (.v undef,H)) (zop E R fz t H o.op λv b=>some (v,b)) g) λv b=>Qr t o.dst v λf=>A2h E R fz N all l f b K))=some r:=h
  obtain⟨p,h⟩:=lR h;intro w0 O C a w s;have j:=uR s.tmps all o;cases c:o.guard with
  |none=>
   have k:GX all t o= .run:=by unfold GX;rw[c]
   rw[c] at h;have h:(zop E R fz t H o.op λv b=>Qr t o.dst v λf=>A2h E R fz N all l f b K)=some r:=h;refine A1V p s (j.1 k) (Tv.mono (iZ y A h) λv b i=> ?_);rw[Th] at i;exact ih _ _ _ i
  |some F=>
   rw[c] at h;have h:(Ef (gdK all t (some F) λg=>@Bool.rec (λ_=>Af) (some (.v undef,H)) (zop E R fz t H o.op λv b=>some (v,b)) g) λv b=>Qr t o.dst v λf=>A2h E R fz N all l f b K)=some r:=h;rw[<-c] at h;obtain⟨v,B,J,n⟩:=Vf h;rw[Th] at n;rcases gJ J with⟨h1,h2⟩|⟨h1,h2⟩
   ·have x:Region.wanted o (yielded all.toArray a.tmps)=true:=by
     rcases h2 with h2|h2
     ·exact j.1 h2
     ·exact j.2.2 _ h2
    refine A1V p s x (Tv.mono (iZ y A h1) λQ b i=> ?_);injection i with i;injection i with q u
    subst q u;exact ih _ _ _ n
   ·have x:Region.wanted o (yielded all.toArray a.tmps)=false:=by
     rcases h2 with h2|h2
     ·exact j.2.1 h2
     ·exact j.2.2 _ h2
    have h1:some (AV.v undef,H)=some (v,B):=h1;injection h1 with h1;injection h1 with L M
    subst L M;exact A7p p s x (ih _ _ _ n)
end
end
section
variable {cf:Cf} {c:Code} {e:Exit} {Q:Exit->Tm->Hp->Prop} {H:Hp} {K:KQ} {N:Nat} {t t':Tm}
abbrev A5M:=Cf->Nat->List Oper->Tm->Hp->(Tm->Hp->Af)->Af
def xK (e:Exit) (t:Tm) (H:Hp) (k:Tm->Hp->Af) (K:KQ):Af:=(λ(_:Unit)=>match e with| .normal=>k t H|e=>K e t H) Iq
def A4a (id:Nat) (e:Exit) (t:Tm) (H:Hp) (K:KQ):Af:=(λ(_:Unit)=>match e with| .exit i=>@Bool.rec (λ_=>Af) (K (.exit i) t H) (K .normal t H) (Nat.beq i id)|e=>K e t H) Iq
def Az (v:AV) (x y:Af):Af:=match v with| .v (.bool true)=>x| .v (.bool false)=>y|_=>none
def Zx (lv:List Nat) (t:Tm):(Tm->Af)->Af:=@List.rec Nat (λ_=>(Tm->Af)->Af) (λK=>K []) (λu _ ih K=>gtm t u λv=>ih λl=>K ((u,v)::l)) lv
def Cur (lv:List Nat):Type:=@List.rec Nat (λ_=>Type) (Hp->Af) (λ_ _ ih=>AV->ih) lv
def B1y (lv:List Nat):(Tm->Hp->Af)->Cur lv:=
 @List.rec Nat (λlv=>(Tm->Hp->Af)->Cur lv) (λF H=>F [] H) (λu _ ih F v=>ih λt H=>F ((u,v)::t) H) lv
def B1w (lv:List Nat):Cur lv->Tm->Hp->Af:=
 @List.rec Nat (λlv=>Cur lv->Tm->Hp->Af) (λc _ H=>c H) (λu _ ih c t H=>gtm t u λv=>ih (c v) t H) lv
def gF (lv:List Nat) (t:Tm):Tm:=lv.map λu=>(u,HZ t u)
def zE (lv:List Nat):∀(F:Tm->Hp->Af) (t:Tm) (H:Hp),B1w lv (B1y lv F) t H=F (gF lv t) H:=by
 induction lv with
 |nil=>intro F t H;rfl
 |cons u lv ih=>
  intro F t H;have e:B1w (u::lv) (B1y (u::lv) F) t H=gtm t u λv=>B1w lv (B1y lv λt H=>F ((u,v)::t) H) t H:=rfl;rw[e,Wo,ih];rfl
def B64 (lv:List Nat) (body:Tm->Hp->KQ->Af) (K:KQ) (n:Nat):Cur lv:=
 @Nat.rec (λ_=>Cur lv) (B1y lv λ_ _=>none) (λ_ ih=>B1y lv λt H=>body t H λe b a=>xK e b a (λt H=>B1w lv ih t H) K) n
def xC (lv:List Nat) (body:Tm->Hp->KQ->Af) (K:KQ) (n:Nat) (t:Tm) (H:Hp):Af:=B1w lv (B64 lv body K n) t H
def A2i (lv:List Nat) (body:Tm->Hp->KQ->Af) (K:KQ) (t:Tm) (H:Hp):xC lv body K 0 t H=none:=zE lv _ t H
def A2j (lv:List Nat) (body:Tm->Hp->KQ->Af) (K:KQ) (n:Nat) (t:Tm) (H:Hp):xC lv body K (n+1) t H=body (gF lv t) H λe b a=>xK e b a (xC lv body K n) K:=zE lv _ t H
def A2M (lv:List Nat) (t:Tm) (u:Nat):HZ (gF lv t) u=HZ t u\/HZ (gF lv t) u= .dk:=by
 induction lv with
 |nil=>exact .inr rfl
 |cons v lv ih=>
  have e:HZ (gF (v::lv) t) u=if u=v then HZ t v else HZ (gF lv t) u:=rfl
  rw[e];split
  ·rename_i h;subst h;exact .inl rfl
  ·exact ih
def B5x (p:Option (Option Code)) (t:Tm) (H:Hp) (K:KQ):Af:=
 match p with
 |some none=>K .normal t H
 |some (some .ret)=>K .ret t H
 |some (some (.exit id))=>K (.exit id) t H
 |some (some (.goto l))=>K (.goto l) t H
 |_=>none
def A2e (E:XE) (R:Rt) (cf:Cf) (g:Operand) (ps:Array Tmp) (i j:Code) (t:Tm) (H:Hp) (K:KQ):Af:=
 @Bool.rec (λ_=>Af) (Zx cf.lv t λt=>Kb E t g λf=>match f with
  | .fn (.func g) first cap=>Ig H λs=>Ym first (.yl s::cap) λall=>R.call g all ((s,.loop cf.n t ps i j (some none))::H) λ_ d=>IJ d s λx=>Z6 x λ_ _ _ _ _ a=>LC d s .gone λh=>B5x a t h K
  |_=>none) none cf.b
def A1f (e:Exit) (t:Tm) (H:Hp) (k:Nat->Tm->Hp->Af) (K:KQ):Af:=(λ(_:Unit)=>match e with| .goto l=>k l t H|e=>K e t H) Iq
def A4p (run:U_) (cf:Cf) (c:Code) (K:KQ) (n:Nat):Nat->Tm->Hp->Af:=
 @Nat.rec (λ_=>Nat->Tm->Hp->Af) (λ_ _ _=>none) (λ_ ih l t H=>match findLabel c l with
  |some rest=>run cf rest t H λe t H=>A1f e t H ih K
  |none=>none) n
def eB (E:XE) (R:Rt) (Z:A5M) (cf:Cf) (c:Code):Tm->Hp->KQ->Af:=
 @Code.rec (λ_=>Tm->Hp->KQ->Af)
  (λt H K=>K .normal t H)
  (λid f draw t H K=>@Bool.rec (λ_=>Af) (A2h E R cf.fz cf.n f.toList f.toList t H λt H=>K .normal t H) (Z cf id f.toList t H λt H=>K .normal t H) draw)
  (λ_ _ a d t H K=>a t H λe t H=>xK e t H (λt H=>d t H K) K)
  (λx _ _ a d t H K=>Kb E t x λv=>Az v (a t H K) (d t H K))
  (λid _ ih t H K=>ih t H λe t H=>A4a id e t H K)
  (λ_ ih t H K=>xC cf.lv ih K E.lf t H)
  (λg ps h i _ _ t H K=>A2e E R cf g ps h i t H K)
  (λid t H K=>K (.exit id) t H)
  (λc ih t H K=>@Bool.rec (λ_=>Af) (ih t H λe t H=>A1f e t H (A4p R.run cf c K E.lf) K) none cf.b)
  (λ_ t H K=>K .normal t H)
  (λl t H K=>K (.goto l) t H)
  (λt H K=>K .ret t H)
  (λ_ _ _ _=>none) c
section
variable {D:XE->Cf->Nat->List Oper->Bool} {E:XE} {P:Program} {R:Rt} {Z:A5M} {r:AV×Hp} {ro:Option Nat} {m:Nat}
def A4l (D:XE->Cf->Nat->List Oper->Bool) (E:XE) (P:Program) (Z:A5M):Prop:=
 ∀(ro:Option Nat) (cf:Cf) (id:Nat) (a:List Oper) (t:Tm) (H:Hp) (K:Tm->Hp->Af) (r:AV×Hp) (m:Nat),(cf.b=false->D E cf id a=true)->Z cf id a t H K=some r->
  Tc P E.G ro m cf.n (.region id a.toArray true) (λe t' d=>e= .normal/\K t' d=some r) t H
def rG {k:Tm->Hp->Af} (h:xK e t H k K=some r):(e= .normal/\k t H=some r)\/(e≠.normal/\K e t H=some r):=by
 unfold xK at h;split at h
 ·exact .inl ⟨rfl,h⟩
 ·rename_i a;exact .inr ⟨a,h⟩
theorem Tc.congr {G:Gl} (hc:∀u,HZ t' u=HZ t u\/HZ t' u= .dk) (h:Tc P G ro m N c Q t' H):Tc P G ro m N c Q t H:=
 λw0 b C a w s=>h w0 b C a w (s.congr hc)
theorem mR.congr {G:Gl} (hc:∀u,HZ t' u=HZ t u\/HZ t' u= .dk) (h:mR P G ro m N c Q t' H):mR P G ro m N c Q t H:=
 λw0 b C a w s=>h w0 b C a w (s.congr hc)
def A2k:∀(lv:List Nat) (K:Tm->Af),Zx lv t K=some r->∃t',K t'=some r/\∀u,HZ t' u=HZ t u\/HZ t' u= .dk:=by
 intro lv
 induction lv with
 |nil=>intro K h;exact⟨[],h,λu=> .inr rfl⟩
 |cons v lv ih=>
  intro K h;have h:(gtm t v λx=>Zx lv t λl=>K ((v,x)::l))=some r:=h;rw[Wo] at h;obtain⟨t',h1,h2⟩:=ih _ h;refine⟨_,h1,λu=> ?_⟩;simp only[HZ];split
  ·rename_i a;rw[a];exact .inl rfl
  ·exact h2 u
def Z_ {G:Gl} {lv:List Nat} {body:Tm->Hp->KQ->Af} (hb:∀t H (K:KQ),body t H K=some r->Tc P G ro m N c (λe t' a=>K e t' a=some r) t H):∀(n:Nat) (t:Tm) (H:Hp),xC lv body K n t H=some r->
 mR P G ro m N c (λe t' a=>K e t' a=some r) t H:=by
 intro n
 induction n with
 |zero=>intro t H h;rw[A2i] at h;cases h
 |succ n ih=>
  intro t H h;rw[A2j] at h;refine mR.congr (A2M lv t) (A4i (Tc.mono (hb _ _ _ h) λe f d hq=> ?_));rcases rG hq with⟨rfl,h⟩|⟨b,h⟩
  ·exact ih _ _ h
  ·cases e with
   |normal=>exact absurd rfl b
   |_=>exact h
def zM (M:XE.Ok D E P) (O:RSound D E P R) (q:ro≠none->cf.b=true) {g:Operand} {ps:Array Tmp} {s u:Code} (h:A2e E R cf g ps s u t H K=some r):Tc P E.G ro m cf.n (.rangeFunc g ps s u) (λe t' j=>K e t' j=some r) t H:=by
 unfold A2e at h;cases hb:cf.b
 ·rw[hb] at h;have hn:ro=none:=by
   cases ro with
   |none=>rfl
   |some b=>have:=q (by simp);rw[hb] at this;cases this
  subst hn;obtain⟨t',h,hc⟩:=A2k _ _ h;refine Tc.congr hc ?_;have h:=AZ M h;split at h
  ·rename_i f first cap X;rw[BV,MD] at h;obtain⟨⟨fn,h1,h2,L⟩,d⟩:=O.call _ _ _ _ _ h;have e:first++AV.yl (Ao H)::cap=first++[.yl (Ao H)]++cap:=by simp
   rw[e] at d;refine A4f X h1 h2 L ?_;intro w0 C w ys hr V;refine(d w0 C w ys hr V).mono ?_;rintro e w' ⟨v,y,B,j,he,p,hv,hx,Y⟩;refine⟨v,y,B,j,he,p,hv,hx,?_⟩;obtain⟨x,i,k⟩:=Iw rfl Y;obtain⟨N',t2,aa,F,J,A,rfl,a⟩:=ZZ k;rw[Dh] at a;unfold B5x at a;split at a
   ·exact⟨_,_,_,_,_,_,i,a⟩
   ·exact⟨_,_,_,_,_,_,i,a⟩
   ·exact⟨_,_,_,_,_,_,i,a⟩
   ·exact⟨_,_,_,_,_,_,i,a⟩
   ·cases a
  ·cases h
 ·rw[hb] at h;cases h
def A7f {D:Nat->List Oper->Bool}:∀(c:Code) (l:Nat) (rest:Code),SJ D c=true->findLabel c l=some rest->SJ D rest=true:=by
 intro c
 induction c with
 |seq a b g i=>
  intro l rest d h;simp only[SJ,Kw] at d;unfold findLabel at h;split at h
  ·rename_i r0 f;injection h with h
   subst h;simp only[SJ,Kw];exact⟨g _ _ d.1 f,d.2⟩
  ·exact i _ _ d.2 h
 |label j=>
  intro l rest d h;unfold findLabel at h;split at h
  ·injection h with h;subst h;rfl
  ·cases h
 |_=>intro l rest d h;simp[findLabel] at h
def A1e {k:Nat->Tm->Hp->Af} (a:∀l,e≠.goto l) (h:A1f e t H k K=some r):K e t H=some r:=by
 cases e with
 |goto l=>exact absurd rfl (a l)
 |_=>exact h
def A01 (f:RSound D E P R) (g:SJ (D E cf) c=true):∀(n l:Nat) (t:Tm) (H:Hp),A4p R.run cf c K n l t H=some r->
 ∃rest,findLabel c l=some rest/\V! P E.G m cf.n c rest (λe t' d=>K e t' d=some r) t H:=by
 intro n
 induction n with
 |zero=>intro l t H h;cases h
 |succ n ih=>
  intro l t H h;have h:(match findLabel c l with
   |some rest=>R.run cf rest t H λe t H=>A1f e t H (A4p R.run cf c K n) K
   |none=>none)=some r:=h
  split at h
  ·rename_i rest b;refine⟨rest,b,zF (λl t H hq=>ih l t H hq) (λe t H a hq=>A1e a hq) (f.run none cf rest t H _ r m (λh=>absurd rfl h) (λ_=>A7f _ _ _ g b) h)⟩
  ·cases h
def A03 (u:XE.Ok D E P) (w:RSound D E P R) (O:A4l D E P Z) (q:ro≠none->cf.b=true):∀(c:Code) (t:Tm) (H:Hp) (K:KQ),(cf.b=false->SJ (D E cf) c=true)->eB E R Z cf c t H K=some r->
 Tc P E.G ro m cf.n c (λe t' L=>K e t' L=some r) t H:=by
 intro c
 induction c with
 |skip=>intro t H K _ h;exact B1G h
 |region id d draw=>
  intro t H K f h;have h:@Bool.rec (λ_=>Af) (A2h E R cf.fz cf.n d.toList d.toList t H λt H=>K .normal t H) (Z cf id d.toList t H λt H=>K .normal t H) draw=some r:=h;have e:d=d.toList.toArray:=by simp
  cases draw
  ·rw[e];exact Tc.mono (A4e (A2g u w _ _ _ _ h)) (by rintro _ _ _ ⟨rfl,h⟩;exact h)
  ·rw[e];exact Tc.mono (O ro cf id d.toList t H _ r m f h) (by rintro _ _ _ ⟨rfl,h⟩;exact h)
 |seq x y F J=>
  intro t H K f h;have h:(eB E R Z cf x t H λe t H=>xK e t H (λt H=>eB E R Z cf y t H K) K)=some r:=h;have j:cf.b=false->SJ (D E cf) x=true/\SJ (D E cf) y=true:= λhb=>by simpa [SJ] using f hb
  refine B52 (Tc.mono (F t H _ (λhb=>(j hb).1) h) λe V M hq=> ?_);rcases rG hq with⟨rfl,h⟩|⟨k,h⟩
  ·exact J _ _ _ (λhb=>(j hb).2) h
  ·cases e with
   |normal=>exact absurd rfl k
   |_=>exact h
 |cond x a b B C=>
  intro t H K f h;have h:(Kb E t x λv=>Az v (eB E R Z cf a t H K) (eB E R Z cf b t H K))=some r:=h;have j:cf.b=false->SJ (D E cf) a=true/\SJ (D E cf) b=true:= λhb=>by simpa [SJ] using f hb
  have h:=AZ u h;unfold Az at h;split at h
  ·rename_i hv;exact A1T hv (λ_=>B _ _ _ (λhb=>(j hb).1) h) (λhb=>by cases hb)
  ·rename_i hv;exact A1T hv (λhb=>by cases hb) (λ_=>C _ _ _ (λhb=>(j hb).2) h)
  ·cases h
 |block id x ih=>
  intro t H K f h;have h:(eB E R Z cf x t H λe t H=>A4a id e t H K)=some r:=h;refine A7o (Tc.mono (ih t H _ f h) λe V M hq=> ?_);unfold A4a at hq;cases e with
  |exit i=>
   simp only at hq;simp only[A36];cases p:Nat.beq i id
   ·rw[p] at hq;rw[C4 (λe=>by rw[e,mK] at p;cases p)];exact hq
   ·rw[p] at hq;rw[Dj (YM p)];exact hq
  |_=>exact hq
 |loop x ih=>
  intro t H K f h;have h:xC cf.lv (λt H K=>eB E R Z cf x t H K) K E.lf t H=some r:=h;exact A1R (Z_ (λt H K h=>ih t H K f h) _ _ _ h)
 |rangeFunc g ps X Y _ _=>
  intro t H K _ h;exact zM u w q h
 |exit id=>intro t H K _ h;exact B1I h
 |scope x ih=>
  intro t H K f h;have h:@Bool.rec (λ_=>Af) (eB E R Z cf x t H λe t H=>A1f e t H (A4p R.run cf x K E.lf) K) none cf.b=some r:=h;cases hb:cf.b
  ·rw[hb] at h;have hn:ro=none:=by
    cases ro with
    |none=>rfl
    |some b=>have:=q (by simp);rw[hb] at this;cases this
   subst hn;have A:SJ (D E cf) x=true:=f hb;exact A7m (zF (λl t H hq=>A01 w A _ _ _ _ hq) (λe t H k hq=>A1e k hq) (ih t H _ f h))
  ·rw[hb] at h;cases h
 |label l=>intro t H K _ h;exact A7n h
 |goto l=>intro t H K _ h;exact B1H h
 |ret=>intro t H K _ h;exact B53 h
 |refuse s=>intro t H K _ h;cases h
end
end
section
variable {v:AV} {a:Af} {cf:Cf} {bs:List (Nat×Nat)} {hs:List Hp} {efs ms:List Nat} {ops:List Oper} {i:Nat} {ef:Oper->Bool} {K:Tm->Hp->Af} {α:Type} {D:XE->Cf->Nat->List Oper->Bool}
def QK (E:XE):Op->Bool
 | .move _=>true
 | .assign _=>true
 | .pick .. =>true
 | .nilCheck _=>true
 | .binOp .. =>true
 | .unOp .. =>true
 | .convert s _ _=>match E.ty.get s with
  |some i=>match i.d with
   | .slice .. =>false
   | .pointer _=>false
   | .other=>false
   |_=>true
  |none=>false
 | .makeFunc .. =>true
 | .fieldAddr .. =>true
 | .field .. =>true
 | .indexAddr .. =>true
 | .index .. =>true
 | .slice ty _ _ _ _=>match E.ty.get ty with
  |some i=>match i.d with
   | .array .. =>false
   |_=>true
  |none=>false
 | .extract .. =>true
 | .build .. =>true
 | .buildSlice .. =>true
 | .call c=>match c.callee with
  | .builtin .len=>match c.argTypes.toList with
   |[ty]=>(match E.ty.get ty with
    |some i=>match i.d with
     | .map .. =>false
     |_=>true
    |none=>false)
   |_=>false
  | .builtin .min=>true
  | .builtin .max=>true
  |_=>false
 |_=>false
def Qf (E:XE) (fz:Bool):Op->Bool
 | .move _=>false
 | .assign _=>false
 | .pick .. =>false
 | .nilCheck _=>false
 | .binOp .. =>false
 | .unOp .. =>false
 | .convert s d _=>match E.ty.get s,E.ty.get d with
  |some i,some j=>match i.d,j.d with
   | .string,.slice .. =>true
   |_,_=>false
  |_,_=>true
 | .makeFunc .. =>false
 | .fieldAddr .. =>false
 | .field .. =>false
 | .indexAddr .. =>false
 | .index .. =>false
 | .slice .. =>false
 | .extract .. =>false
 | .build .. =>false
 | .buildSlice .. => !fz
 | .load .. =>false
 | .lookup .. =>false
 | .makeInterface .. =>false
 | .call c=>match c.callee with
  | .value (.func f)=>E.imp f
  | .value (.tmp _)=> !fz
  | .builtin .len=>false
  | .builtin .min=>false
  | .builtin .max=>false
  | .builtin .cap=>false
  | .builtin .unsafeSliceData=>false
  |_=>true
 |_=>true
def Z! (E:XE) (R:Rt) (t:Tm) (H:Hp) (o:Op) (K:AV->Af):Af:=
 (λ(_:Unit)=>match o with
  | .move x=>Kb E t x K
  | .assign x=>Kb E t x K
  |o=>Aq (Rs E R t H o λv=>some (v,[])) K) Iq
def A5P (E:XE) (R:Rt) (fz:Bool) (all:List Oper) (o:Oper) (t1:Tm) (H:Hp):Af:=
 gdK all t1 o.guard λg=>@Bool.rec (λ_=>Af) (some (.v undef,H)) (@Bool.rec (λ_=>Af) (Aq (Rs E R t1 H o.op λv=>some (v,[])) λv=>some (v,H)) (zop E R fz t1 H o.op λv b=>some (v,b)) (Qf E fz o.op)) g
def zdr (E:XE) (R:Rt) (fz:Bool) (N:Nat) (all:List Oper) (l:List Oper):Tm->Hp->(Tm->Hp->Af)->Af:=
 @List.rec Oper (λ_=>Tm->Hp->(Tm->Hp->Af)->Af) (λt H K=>K t H)
  (λo _ ih t H K=>A1N N o.dst (Zx (Od all o) t λd=>A6T o.guard
   (@Bool.rec (λ_=>Af) (Z! E R d H o.op λv=>Qr t o.dst v λc=>ih c H K) (Ef (zop E R fz d H o.op λv b=>some (v,b)) λv b=>Qr t o.dst v λc=>ih c b K) (Qf E fz o.op))
   (Ef (A5P E R fz all o d H) λv b=>Qr t o.dst v λc=>ih c b K))) l
def qE (E:XE) (R:Rt) (fz:Bool) (N:Nat) (all:List Oper) (l:List Oper):Tm->Hp->(List Tm->List AV->List Hp->Tm->Hp->Af)->Af:=
 @List.rec Oper (λ_=>Tm->Hp->(List Tm->List AV->List Hp->Tm->Hp->Af)->Af) (λt H K=>K [] [] [H] t H)
  (λo _ ih t H K=>A1N N o.dst (Zx (Od all o) t λb=>A6T o.guard
   (@Bool.rec (λ_=>Af) (Z! E R b H o.op λv=>Qr t o.dst v λd=>ih d H λts vs hs=>K (b::ts) (v::vs) hs) (Ef (zop E R fz b H o.op λv c=>some (v,c)) λv c=>Qr t o.dst v λd=>ih d c λts vs hs=>K (b::ts) (v::vs) (H::hs)) (Qf E fz o.op))
   (Ef (A5P E R fz all o b H) λv c=>Qr t o.dst v λd=>ih d c λts vs hs=>K (b::ts) (v::vs) (@Bool.rec (λ_=>List Hp) hs (H::hs) (Qf E fz o.op))))) l
def vW (l:List α) (n:Nat) (K:α->Af):Af:=
 (λ(_:Unit)=>@List.rec α (λ_=>Nat->Af) (λ_=>none) (λa _ ih n=>@Nat.rec (λ_=>Af) (K a) (λm _=>ih m) n) l n) Iq
def dP:AV->AV->Bool
 | .v x,.v y=>eJ x y
 | .ptr r p k,.ptr c h e=>Nat.beq r c&&(Nat.beq p h&&Nat.beq k e)
 | .sl z r o n,.sl j c g f=>Nat.beq z j&&(Nat.beq r c&&(Nat.beq o g&&Nat.beq n f))
 | .iptr cs,.iptr d=>uT (Vn 6) cs d
 | .mp r,.mp c=>Nat.beq r c
 |a,b=>Vn 6 a b
def B57 {a b:AV} (h:dP a b=true):a=b:=by
 unfold dP at h;split at h
 ·rw[oZ h]
 ·simp only[Kw] at h;rw[YM h.1,YM h.2.1,YM h.2.2]
 ·simp only[Kw] at h;rw[YM h.1,YM h.2.1,YM h.2.2.1,YM h.2.2.2]
 ·rw[pZ (A4j 6) h]
 ·rw[YM h]
 ·exact A4j 6 _ _ h
def Ba (a:Af) (v:AV):Af:=match a with
 |some (u,_)=>some (.v (.bool (dP u v)),[])
 |none=>none
def QQ (a:Af) (K:Af):Af:=match a with
 |some (.v (.bool true),_)=>K
 |_=>none
def A9V {K:Af} {r:AV×Hp} (h:QQ a K=some r):(∃b,a=some (.v (.bool true),b))/\K=some r:=by
 unfold QQ at h;split at h
 ·exact⟨⟨_,rfl⟩,h⟩
 ·cases h
def rM {H0:Hp} (h:Ba a v=some (.v (.bool true),H0)):∃b,a=some (v,b):=by
 unfold Ba at h;split at h
 ·injection h with h
  injection h with h _
  injection h with h
  injection h with h
  exact⟨_,by rw[B57 h]⟩
 ·cases h
def A5W (E:XE) (R:Rt) (all:List Oper) (bs:List (Nat×Nat)) (ts:List Tm) (vs:List AV) (hs:List Hp) (K:Af):Af:=
 (λ(_:Unit)=>@List.rec (Nat×Nat) (λ_=>Af) K (λp _ ih=>@Prod.rec Nat Nat (λ_=>Af) (λi k=>vW all i λo=>vW ts i λb=>vW vs i λv=>vW hs k λH=>
  QQ (gdK all b o.guard λg=>@Bool.rec (λ_=>Af) (some (.v (.bool true),[])) (Ba (Rs E R b H o.op λu=>some (u,[])) v) g) ih) p) bs) Iq
def F7 (ef:Oper->Bool):Nat->List Oper->List Nat
 |_,[]=>[]
 |i,o::l=>match ef o with
  |true=>i::F7 ef (i+1) l
  |false=>F7 ef (i+1) l
def A0A (E:XE) (ef:Oper->Bool) (ms efs:List Nat):Nat->List Oper->Bool
 |_,[]=>true
 |i,o::l=>(ef o||(QK E o.op||efs.all λe=>match Nat.blt e i with
  |true=>tb (ms.getD i 0) e
  |false=>tb (ms.getD e 0) i))&&A0A E ef ms efs (i+1) l
def J1 (E:XE) (fz:Bool) (o:Oper):Bool:=Qf E fz o.op
def A6w (ms:List Nat) (i k:Nat):Nat->List Nat->Bool
 |_,[]=>true
 |a,e::l=>(!tb (ms.getD i 0) e||Nat.blt a k)&&((!tb (ms.getD e 0) i||Nat.ble k a)&&A6w ms i k (a+1) l)
def A6n (E:XE) (ef:Oper->Bool) (ms efs:List Nat) (bs:List (Nat×Nat)):Nat->Nat->List Oper->Bool
 |_,_,[]=>true
 |i,b,o::l=>(ef o||(QK E o.op||(List.range (efs.length+1)).all λk=>Nat.beq k b||(!A6w ms i k 0 efs||bs.any λp=>Nat.beq p.1 i&&Nat.beq p.2 k)))&&
  A6n E ef ms efs bs (i+1) (match ef o with|true=>b+1|false=>b) l
def A97 (id:Nat):List (Nat×List (Nat×Nat))->Option (List (Nat×Nat))
 |[]=>none
 |p::l=>match Nat.beq p.1 id with|true=>some p.2|false=>A97 id l
def rO (E:XE) (cf:Cf) (id:Nat) (ops:List Oper):Bool:=
 xQ ops (F7 (J1 E cf.fz) 0 ops)&&(match A97 id cf.rc with
  |none=>A0A E (J1 E cf.fz) (Tk ops) (F7 (J1 E cf.fz) 0 ops) 0 ops
  |some bs=>A6n E (J1 E cf.fz) (Tk ops) (F7 (J1 E cf.fz) 0 ops) bs 0 0 ops)
def B62 (E:XE) (ef:Oper->Bool) (ms efs:List Nat):Nat->Nat->List Oper->List (Nat×Nat)
 |_,_,[]=>[]
 |i,b,o::l=>(match ef o||QK E o.op with
  |true=>[]
  |false=>((List.range (efs.length+1)).filter λk=> !Nat.beq k b&&A6w ms i k 0 efs).map λk=>(i,k))++B62 E ef ms efs (i+1) (match ef o with|true=>b+1|false=>b) l
def C0B (E:XE) (R:Rt) (cf:Cf) (ops:List Oper) (bs:List (Nat×Nat)) (t:Tm) (H:Hp) (K:Tm->Hp->Af):Af:=
 ckS (xQ ops (F7 (J1 E cf.fz) 0 ops)&&A6n E (J1 E cf.fz) (Tk ops) (F7 (J1 E cf.fz) 0 ops) bs 0 0 ops) (qE E R cf.fz cf.n ops ops t H λts vs hs c b=>A5W E R ops bs ts vs hs (K c b))
def C0C (E:XE) (R:Rt) (cf:Cf) (id:Nat) (ops:List Oper) (t:Tm) (H:Hp) (K:Tm->Hp->Af):Af:=
 (λ(_:Unit)=>match A97 id cf.rc with
  |none=>zdr E R cf.fz cf.n ops ops t H K
  |some bs=>qE E R cf.fz cf.n ops ops t H λts vs hs c b=>A5W E R ops bs ts vs hs (K c b)) Iq
def A4s (E:XE) (R:Rt):A5M:= λcf id ops t H K=>
 @Bool.rec (λ_=>Af) (C0C E R cf id ops t H K) (C0B E R cf ops (B62 E (J1 E cf.fz) (Tk ops) (F7 (J1 E cf.fz) 0 ops) 0 0 ops) t H K) cf.b
section
variable {E:XE} {P:Program} {R:Rt} {t:Tm} {H:Hp} {r:AV×Hp} {ro:Option Nat} {N m:Nat} {fz:Bool}
def A1a {o:Op} (h:QK E o=true) (H H':Hp) (K:AV->Af):Rs E R t H o K=Rs E R t H' o K:=by
 cases o with
 |move x=>rfl
 |assign x=>rfl
 |pick c a b=>rfl
 |nilCheck x=>rfl
 |binOp a b c d e=>rfl
 |unOp a b c=>rfl
 |convert a b c=>
  have key:∀v,(E.ty.getK a λi=>E.ty.getK b λj=>cvK E a b i j v H K)=(E.ty.getK a λi=>E.ty.getK b λj=>cvK E a b i j v H' K):=by
   intro v;have h:(match E.ty.get a with|some i=>(match i.d with| .slice .. =>false| .pointer _=>false| .other=>false|_=>true)|none=>false)=true:=h;rw[BT.getK_eq,BT.getK_eq];cases hs:E.ty.get a with
   |none=>rfl
   |some i=>
    rw[hs] at h;simp only at h;simp only
    congr 1
    funext j
    unfold cvK;cases g:i.d with
    |slice e z=>rw[g] at h;cases h
    |pointer e=>rw[g] at h;cases h
    |other=>rw[g] at h;cases h
    |_=>rfl
  show(Kb E t c λv=>E.ty.getK a λi=>E.ty.getK b λj=>cvK E a b i j v H K)=(Kb E t c λv=>E.ty.getK a λi=>E.ty.getK b λj=>cvK E a b i j v H' K)
  congr 1
  funext v
  exact key v
 |makeFunc a b c=>rfl
 |fieldAddr a b c=>rfl
 |field a b c=>rfl
 |indexAddr a b c=>rfl
 |index a b c=>rfl
 |slice a b c d e=>
  have h:(match E.ty.get a with|some i=>(match i.d with| .array .. =>false|_=>true)|none=>false)=true:=h;have key:∀v l p m,(E.ty.getK a λi=>A2c i v l p m H K)=(E.ty.getK a λi=>A2c i v l p m H' K):=by
   intro v l p m;rw[BT.getK_eq,BT.getK_eq];cases hs:E.ty.get a with
   |none=>rfl
   |some i=>
    rw[hs] at h;simp only at h;simp only;unfold A2c;cases g:i.d with
    |array n e z=>rw[g] at h;cases h
    |_=>rfl
  show(Kb E t b λv=>qC E t c λl=>qC E t d λh=>qC E t e λm=>E.ty.getK a λi=>A2c i v l h m H K)=(Kb E t b λv=>qC E t c λl=>qC E t d λh=>qC E t e λm=>E.ty.getK a λi=>A2c i v l h m H' K)
  congr 1
  funext v
  congr 1
  funext l
  congr 1
  funext p
  congr 1
  funext m
  exact key v l p m
 |extract a b=>rfl
 |build a b=>rfl
 |buildSlice a b c=>rfl
 |call c=>
  unfold QK at h;obtain⟨callee,args,ts⟩:=c;cases callee with
  |value f=>cases h
  |invoke a b=>cases h
  |builtin b=>
   cases b with
   |len=>
    have h:(match ts.toList with|[ty]=>(match E.ty.get ty with|some i=>(match i.d with| .map .. =>false|_=>true)|none=>false)|_=>false)=true:=h;have u:∀s,Rs E R t s (.call ⟨.builtin .len,args,ts⟩) K=(match args.toList,ts.toList with|[x],[ty]=>Kb E t x λv=>E.ty.getK ty λi=>B2f i v s K|_,_=>none):= λ_=>rfl;rw[u,u];split
    ·rename_i x ty w q;rw[q] at h
     congr 1
     funext v
     rw[BT.getK_eq,BT.getK_eq];cases hs:E.ty.get ty with
     |none=>rfl
     |some i=>
      simp only[hs] at h;simp only;unfold B2f;cases g:i.d with
      |map k e=>rw[g] at h;cases h
      |_=>rfl
    ·rfl
   |min=>rfl
   |max=>rfl
   |_=>cases h
 |_=>cases h
inductive Trc (S:Oper->Tm->Hp->AV->Hp->Prop) (ef:Oper->Bool):List Oper->Tm->Hp->List AV->List Hp->Tm->Hp->Prop
 |nil {t:Tm} {H:Hp}:Trc S ef [] t H [] [H] t H
 |rd {o:Oper} {l:List Oper} {t:Tm} {H:Hp} {v:AV} {vs:List AV} {hs:List Hp} {t':Tm} {H':Hp} (he:ef o=false) (h:S o t H v H) (k:Trc S ef l (R5 t o.dst v) H vs hs t' H'):Trc S ef (o::l) t H (v::vs) hs t' H'
 |ef {o:Oper} {l:List Oper} {t:Tm} {H H1:Hp} {v:AV} {vs:List AV} {hs:List Hp} {t':Tm} {H':Hp} (he:ef o=true) (h:S o t H v H1) (k:Trc S ef l (R5 t o.dst v) H1 vs hs t' H'):Trc S ef (o::l) t H (v::vs) (H::hs) t' H'
def Stp (E:XE) (R:Rt) (fz:Bool) (N:Nat) (all:List Oper) (o:Oper) (t:Tm) (H:Hp) (v:AV) (b:Hp):Prop:=
 dok N o.dst/\(((GX all (IK all o t) o= .run\/GX all (IK all o t) o= .dep true)/\
  ((J1 E fz o=false/\(∃d,Rs E R (IK all o t) H o.op (λv=>some (v,[]))=some (v,d))/\b=H)\/(J1 E fz o=true/\zop E R fz (IK all o t) H o.op (λv c=>some (v,c))=some (v,b))))\/
  ((GX all (IK all o t) o= .skip\/GX all (IK all o t) o= .dep false)/\v= .v undef/\b=H))
def A00 (lv:List Nat) (t:Tm):∀K:Tm->Af,Zx lv t K=K (gF lv t):=by
 induction lv with
 |nil=>intro K;rfl
 |cons u lv ih=>
  intro K;have e:Zx (u::lv) t K=gtm t u λv=>Zx lv t λl=>K ((u,v)::l):=rfl;rw[e,Wo,ih];rfl
def A4r {x:Operand} {K:AV->Af} (h:Kb E t x K=some r):∃v b,Kb E t x (λv=>some (v,[]))=some (v,b)/\K v=some r:=by
 cases x with
 |tmp i=>
  have h:gtm t i K=some r:=h;rw[Wo] at h;exact⟨_,[],(Wo t i _).trans rfl,h⟩
 |const v=>exact⟨_,[],rfl,h⟩
 |global g=>
  have h:(E.gl.getK g λcs=>K (.iptr cs))=some r:=h;obtain⟨cs,h1,h2⟩:=Bc h;refine⟨_,[],?_,h2⟩;have:Kb E t (.global g) (λv=>some (v,[]))=E.gl.getK g λcs=>some (.iptr cs,[]):=rfl;rw[this,BT.getK_eq,h1]
 |func f=>exact⟨_,[],rfl,h⟩
def xB {o:Op} {K:AV->Af} (h:Z! E R t H o K=some r):∃v b,Rs E R t H o (λv=>some (v,[]))=some (v,b)/\K v=some r:=by
 unfold Z! at h;split at h
 ·exact A4r h
 ·exact A4r h
 ·exact Rp h
def A5S {all:List Oper}:∀(l:List Oper) (t:Tm) (H:Hp) (K:Tm->Hp->Af),zdr E R fz N all l t H K=some r->
 ∃vs hs c b,Trc (Stp E R fz N all) (J1 E fz) l t H vs hs c b/\K c b=some r:=by
 intro l
 induction l with
 |nil=>intro t H K h;exact⟨_,_,_,_,.nil,h⟩
 |cons o l ih=>
  intro t H K h;have h:A1N N o.dst (Zx (Od all o) t λu=>A6T o.guard
   (@Bool.rec (λ_=>Af) (Z! E R u H o.op λv=>Qr t o.dst v λc=>zdr E R fz N all l c H K) (Ef (zop E R fz u H o.op λv b=>some (v,b)) λv b=>Qr t o.dst v λc=>zdr E R fz N all l c b K) (Qf E fz o.op))
   (Ef (A5P E R fz all o u H) λv b=>Qr t o.dst v λc=>zdr E R fz N all l c b K))=some r:=h
  obtain⟨n,h⟩:=lR h;rw[A00] at h;have s:gF (Od all o) t=IK all o t:=rfl;rw[s] at h;cases k:o.guard with
  |none=>
   have g:GX all (IK all o t) o= .run:=by unfold GX;rw[k]
   rw[k] at h;have h:@Bool.rec (λ_=>Af) (Z! E R (IK all o t) H o.op λv=>Qr t o.dst v λc=>zdr E R fz N all l c H K) (Ef (zop E R fz (IK all o t) H o.op λv b=>some (v,b)) λv b=>Qr t o.dst v λc=>zdr E R fz N all l c b K) (Qf E fz o.op)=some r:=h;cases he:Qf E fz o.op
   ·rw[he] at h;obtain⟨v,x,p,d⟩:=xB h;rw[Th] at d;obtain⟨vs,hs,c,b,e,f⟩:=ih _ _ _ d;exact⟨_,_,_,_,.rd he ⟨n,.inl ⟨.inl g,.inl ⟨he,⟨_,p⟩,rfl⟩⟩⟩ e,f⟩
   ·rw[he] at h;obtain⟨v,w,p,d⟩:=Vf h;rw[Th] at d;obtain⟨vs,hs,c,b,e,f⟩:=ih _ _ _ d;exact⟨_,_,_,_,.ef he ⟨n,.inl ⟨.inl g,.inr ⟨he,p⟩⟩⟩ e,f⟩
  |some A=>
   rw[k] at h;have h:(Ef (A5P E R fz all o (IK all o t) H) λv b=>Qr t o.dst v λc=>zdr E R fz N all l c b K)=some r:=h;obtain⟨v,w,p,d⟩:=Vf h;rw[Th] at d;obtain⟨vs,hs,c,b,e,f⟩:=ih _ _ _ d;rcases gJ p with⟨h1,h2⟩|⟨h1,h2⟩
   ·cases he:Qf E fz o.op
    ·rw[he] at h1;obtain⟨B,x,q,j⟩:=Rp h1;injection j with j;injection j with j y
     subst j y;exact⟨_,_,_,_,.rd he ⟨n,.inl ⟨h2,.inl ⟨he,⟨_,q⟩,rfl⟩⟩⟩ e,f⟩
    ·rw[he] at h1;exact⟨_,_,_,_,.ef he ⟨n,.inl ⟨h2,.inr ⟨he,h1⟩⟩⟩ e,f⟩
   ·have h1:some (AV.v undef,H)=some (v,w):=h1;injection h1 with h1;injection h1 with q j
    subst q j;cases he:J1 E fz o
    ·exact⟨_,_,_,_,.rd he ⟨n,.inr ⟨h2,rfl,rfl⟩⟩ e,f⟩
    ·exact⟨_,_,_,_,.ef he ⟨n,.inr ⟨h2,rfl,rfl⟩⟩ e,f⟩
def Vm (ef:Oper->Bool) (l:List Oper) (i:Nat):Nat:=((l.take i).filter ef).length
def jG (o:Oper) (l:List Oper) (val:Nat->AV) (t:Tm):∀i,IE (o::l) val t (λ_=>true) (i+1)=IE l (λj=>val (j+1)) (R5 t o.dst (val 0)) (λ_=>true) i:=by
 intro i
 induction i with
 |zero=>rfl
 |succ i ih=>
  have c:IE (o::l) val t (λ_=>true) (i+1+1)=(match true,(o::l)[i+1]? with|true,some b=>R5 (IE (o::l) val t (λ_=>true) (i+1)) b.dst (val (i+1))|_,_=>IE (o::l) val t (λ_=>true) (i+1)):=rfl;have d:IE l (λj=>val (j+1)) (R5 t o.dst (val 0)) (λ_=>true) (i+1)=(match true,l[i]? with|true,some b=>R5 (IE l (λj=>val (j+1)) (R5 t o.dst (val 0)) (λ_=>true) i) b.dst (val (i+1))|_,_=>IE l (λj=>val (j+1)) (R5 t o.dst (val 0)) (λ_=>true) i):=rfl;rw[c,d,ih,l0r]
theorem Trc.at {S:Oper->Tm->Hp->AV->Hp->Prop} {l:List Oper} {vs:List AV} {e:Tm} {H':Hp} (h:Trc S ef l t H vs hs e H'):
 hs.getD 0 []=H/\e=IE l (λj=>vs.getD j .dk) t (λ_=>true) l.length/\H'=hs.getD (Vm ef l l.length) []/\
 ∀(i:Nat) (o:Oper),l[i]?=some o->S o (IE l (λj=>vs.getD j .dk) t (λ_=>true) i) (hs.getD (Vm ef l i) []) (vs.getD i .dk) (hs.getD (Vm ef l (i+1)) []):=by
 induction h with
 |nil=>exact⟨rfl,rfl,rfl,λi o h=>by simp at h⟩
 |@rd o l t H v vs hs e H' he c k ih=>
  obtain⟨h1,h2,f,g⟩:=ih;have hc:∀i,Vm ef (o::l) (i+1)=Vm ef l i:= λi=>by simp[Vm,he]
  have d:∀i,IE (o::l) (λj=>(v::vs).getD j .dk) t (λ_=>true) (i+1)=IE l (λj=>vs.getD j .dk) (R5 t o.dst v) (λ_=>true) i:= λi=>by rw[jG];simp
  refine⟨h1,?_,?_,?_⟩
  ·rw[LP,d];exact h2
  ·rw[LP,hc];exact f
  ·intro i p b;cases i with
   |zero=>
    simp at b;subst b;rw[hc,show Vm ef (o::l) 0=0 from rfl,show Vm ef l 0=0 from rfl,h1];exact c
   |succ i=>
    rw[hc,hc,d];have:=g i p (by simpa using b);simpa using this
 |@ef o l t H n v vs hs e H' he c k ih=>
  obtain⟨h1,h2,f,g⟩:=ih;have hc:∀i,Vm ef (o::l) (i+1)=Vm ef l i+1:= λi=>by simp[Vm,he]
  have d:∀i,IE (o::l) (λj=>(v::vs).getD j .dk) t (λ_=>true) (i+1)=IE l (λj=>vs.getD j .dk) (R5 t o.dst v) (λ_=>true) i:= λi=>by rw[jG];simp
  refine⟨rfl,?_,?_,?_⟩
  ·rw[LP,d];exact h2
  ·rw[LP,hc];simpa using f
  ·intro i p b;cases i with
   |zero=>
    simp at b;subst b;rw[hc,show Vm ef (o::l) 0=0 from rfl,show Vm ef l 0=0 from rfl];have:(H::hs).getD (0+1) []=n:=by simpa using h1
    rw[this];exact c
   |succ i=>
    rw[hc,hc,d];have:=g i p (by simpa using b);simpa using this
def P':∀(l:List Oper) (n a e:Nat),(F7 ef n l)[a]?=some e->∃j o,e=n+j/\l[j]?=some o/\ef o=true/\Vm ef l j=a:=by
 intro l
 induction l with
 |nil=>intro n a e h;simp[F7] at h
 |cons o l ih=>
  intro n a e h;unfold F7 at h;cases he:ef o
  ·rw[he] at h;obtain⟨j,p,h1,h2,b,c⟩:=ih _ _ _ h;exact⟨j+1,p,by omega,by simpa using h2,b,by simpa [Vm,he] using c⟩
  ·rw[he] at h;cases a with
   |zero=>simp at h;exact⟨0,o,by omega,rfl,he,rfl⟩
   |succ a=>
    obtain⟨j,p,h1,h2,b,c⟩:=ih _ _ _ (by simpa using h);exact⟨j+1,p,by omega,by simpa using h2,b,by simpa [Vm,he] using c⟩
def B1J:∀(l:List Oper) (n j:Nat) (o:Oper),l[j]?=some o->ef o=true->(F7 ef n l)[Vm ef l j]?=some (n+j):=by
 intro l
 induction l with
 |nil=>intro n j o h;simp at h
 |cons p l ih=>
  intro n j o h he;unfold F7;cases j with
  |zero=>simp at h;subst h;rw[he];rfl
  |succ j=>
   have:=ih (n+1) j o (by simpa using h) he;cases b:ef p
   ·simpa [Vm,b,kX,Nat.add_comm 1 j] using this
   ·simpa [Vm,b,kX,Nat.add_comm 1 j] using this
def O_:∀(l:List Oper) (n:Nat),(F7 ef n l).length=Vm ef l l.length:=by
 intro l
 induction l with
 |nil=>intro n;rfl
 |cons p l ih=>
  intro n;unfold F7;cases b:ef p
  ·simpa [Vm,b] using ih (n+1)
  ·simpa [Vm,b] using ih (n+1)
def uF (l:List Oper) {i j:Nat} (h:i<=j):Vm ef l i<=Vm ef l j:=by
 unfold Vm;have:l.take i=(l.take j).take i:=by rw[List.take_take,l22 h]
 rw[this];exact((List.take_sublist i (l.take j)).filter ef).length_le
def Yu {l:List Oper} {o:Oper} (h:l[i]?=some o):Vm ef l (i+1)=Vm ef l i+(if ef o then 1 else 0):=by
 unfold Vm;rw[List.take_add_one,h,List.filter_append,EY];cases he:ef o<;>simp[he]
def A96:∀(l:List Oper) (n:Nat),A0A E ef ms efs n l=true->∀(j:Nat) (o:Oper),l[j]?=some o->ef o=false->QK E o.op=true\/∀e∈efs,(e<n+j->tb (ms.getD (n+j) 0) e=true)/\(n+j<=e->tb (ms.getD e 0) (n+j)=true):=by
 intro l
 induction l with
 |nil=>intro n _ j o h;simp at h
 |cons p l ih=>
  intro n h j o c he;simp only[A0A,Kw] at h;cases j with
  |zero=>
   simp at c;subst c;have h1:=h.1;rw[he,Bool.false_or,l1i] at h1;rcases h1 with h1|h1
   ·exact .inl h1
   ·refine .inr λe hm=> ?_;have:=GH.1 h1 e hm;cases hb:Nat.blt e n
    ·rw[hb] at this;have:¬e<n:= λb=>by rw[<-Wj,hb] at b;cases b
     exact⟨λb=>by omega,λ_=>by simpa using ‹_›⟩
    ·rw[hb] at this;have b:e<n:=by rw[<-Wj];exact hb
     exact⟨λ_=>this,λd=>by omega⟩
  |succ j=>
   have:=ih (n+1) h.2 j o (by simpa using c) he;rw[show n+(j+1)=n+1+j from by omega];exact this
def Stp.aopg (d:XE.Ok D E P) (e:RSound D E P R) {all:List Oper} {o:Oper} {c:Hp} (h:Stp E R fz N all o t H v c):B5e P E.G ro N all o (IK all o t) H v c:=by
 obtain⟨_,⟨b,h⟩|⟨b,h1,h2⟩⟩:=h
 ·refine .inl ⟨b,?_⟩;rcases h with⟨_,⟨n,h⟩,rfl⟩|⟨_,h⟩
  ·refine Tv.mono (Td d e h) ?_;rintro k f ⟨j,h⟩;injection h with h;injection h with h
   exact⟨h,j⟩
  ·refine Tv.mono (iZ d e h) ?_;intro k f h;injection h with h;injection h with h g
   exact⟨h,g⟩
 ·exact .inr ⟨b,h1,h2⟩
def A5T (w:XE.Ok D E P) (C:RSound D E P R) {id:Nat} (hD:xQ ops (F7 (J1 E cf.fz) 0 ops)=true) (A:A0A E (J1 E cf.fz) (Tk ops) (F7 (J1 E cf.fz) 0 ops) 0 ops=true) (h:zdr E R cf.fz cf.n ops ops t H K=some r):
 Tc P E.G ro m cf.n (.region id ops.toArray true) (λe t' x=>e= .normal/\K t' x=some r) t H:=by
 obtain⟨vs,hs,t',x,X,hK⟩:=A5S ops t H K h;obtain⟨h0,V,B,q⟩:=X.at;have hk:=rN hD;have hr:=A96 ops 0 A;have e0:H=(λk=>hs.getD k []) 0:=h0.symm;rw[e0];refine A1S (efs:=F7 (J1 E cf.fz) 0 ops) (val:= λj=>vs.getD j .dk) (Hs:= λk=>hs.getD k []) w.mix hk (λo c=> ?_) ?_ ?_ ?_
 ·obtain⟨i,L⟩:=List.getElem?_of_mem c;exact(q i o L).1
 ·intro i o c Q k ae hp;have he:J1 E cf.fz o=false:=by
   cases he:J1 E cf.fz o
   ·rfl
   ·exact absurd (B1J ops 0 i o c he) (by rw[JQ];exact Q _)
  have g:=q i o c;have F:Vm (J1 E cf.fz) ops (i+1)=Vm (J1 E cf.fz) ops i:=by rw[Yu c,he];simp
  rw[F] at g;rcases hr i o c he with hf|d
  ·refine Stp.aopg (fz:=cf.fz) w C ?_;obtain⟨Z,⟨J,h⟩|⟨J,h1,h2⟩⟩:=g
   ·rcases h with⟨_,⟨H0,h⟩,_⟩|⟨h,_⟩
    ·exact⟨Z,.inl ⟨J,.inl ⟨he,⟨H0,by rw[A1a hf _ (hs.getD (Vm (J1 E cf.fz) ops i) [])];exact h⟩,rfl⟩⟩⟩
    ·rw[he] at h;cases h
   ·exact⟨Z,.inr ⟨J,h1,rfl⟩⟩
  ·have s:=O_ (ef:=J1 E cf.fz) ops 0;have ac:i<ops.length:=(yB.1 c).1;have M:k=Vm (J1 E cf.fz) ops i:=by
    rcases Nat.lt_trichotomy k (Vm (J1 E cf.fz) ops i) with O|heq|aa
    ·exfalso;have b:k<(F7 (J1 E cf.fz) 0 ops).length:=by rw[s];exact l2s O (uF ops (by omega))
     obtain⟨j,p,h1,h2,u,y⟩:=P' ops 0 k _ (K9 b);have ad:j<i:=by
      rcases Nat.lt_or_ge j i with h|h
      ·exact h
      ·exfalso;have:=uF (ef:=J1 E cf.fz) ops h;omega
     have:=(d _ (Qe b)).1 (by omega);rw[JQ,xL] at this;have:=hp.1 k _ (K9 b) (Pu this);omega
    ·exact heq
    ·exfalso;have f:Vm (J1 E cf.fz) ops i<(F7 (J1 E cf.fz) 0 ops).length:=by omega
     obtain⟨j,p,h1,h2,u,y⟩:=P' ops 0 _ _ (K9 f);have ab:i<=j:=by
      rcases Nat.lt_or_ge j i with h|h
      ·exfalso;have Y:=uF (ef:=J1 E cf.fz) ops (show j+1<=i from h);rw[Yu h2,u] at Y;simp at Y;omega
      ·exact h
     have:=(d _ (Qe f)).2 (by omega);rw[JQ,xL] at this;have:=hp.2 _ _ (K9 f) (Pu this);omega
   rw[M];exact Stp.aopg (fz:=cf.fz) w C g
 ·intro a i o c L;obtain⟨j,p,h1,h2,u,y⟩:=P' ops 0 a i L;rw[JQ] at h1;subst h1;rw[c] at h2;injection h2 with h2;subst h2
  have:=q i o c;rw[Yu c,u,y] at this;exact Stp.aopg (fz:=cf.fz) w C this
 ·refine⟨rfl,?_⟩;rw[<-V];have:hs.getD (F7 (J1 E cf.fz) 0 ops).length []=x:=by rw[O_];exact B.symm
  rw[this];exact hK
def A2m {all:List Oper}:∀(l:List Oper) (t:Tm) (H:Hp) (K:List Tm->List AV->List Hp->Tm->Hp->Af),qE E R fz N all l t H K=some r->
 ∃ts vs hs c b,Trc (Stp E R fz N all) (J1 E fz) l t H vs hs c b/\K ts vs hs c b=some r/\vs.length=l.length/\∀(i:Nat) (o:Oper),l[i]?=some o->ts[i]?=some (IK all o (IE l (λj=>vs.getD j .dk) t (λ_=>true) i)):=by
 intro l
 induction l with
 |nil=>intro t H K h;exact⟨_,_,_,_,_,.nil,h,rfl,λi o h=>by simp at h⟩
 |cons o l ih=>
  intro t H K h;have h:A1N N o.dst (Zx (Od all o) t λx=>A6T o.guard
   (@Bool.rec (λ_=>Af) (Z! E R x H o.op λv=>Qr t o.dst v λc=>qE E R fz N all l c H λts vs hs=>K (x::ts) (v::vs) hs) (Ef (zop E R fz x H o.op λv b=>some (v,b)) λv b=>Qr t o.dst v λc=>qE E R fz N all l c b λts vs hs=>K (x::ts) (v::vs) (H::hs)) (Qf E fz o.op))
   (Ef (A5P E R fz all o x H) λv b=>Qr t o.dst v λc=>qE E R fz N all l c b λts vs hs=>K (x::ts) (v::vs) (@Bool.rec (λ_=>List Hp) hs (H::hs) (Qf E fz o.op))))=some r:=h
  obtain⟨w,h⟩:=lR h;rw[A00] at h;have F:gF (Od all o) t=IK all o t:=rfl;rw[F] at h;have key:∀(v:AV) (ts:List Tm) (vs:List AV),(∀(i:Nat) (p:Oper),l[i]?=some p->ts[i]?=some (IK all p (IE l (λj=>vs.getD j .dk) (R5 t o.dst v) (λ_=>true) i)))->
   ∀(i:Nat) (p:Oper),(o::l)[i]?=some p->(IK all o t::ts)[i]?=some (IK all p (IE (o::l) (λj=>(v::vs).getD j .dk) t (λ_=>true) i)):=by
   intro v ts vs M i p C;cases i with
   |zero=>simp at C;subst C;rfl
   |succ i=>
    rw[jG];have:=M i p (by simpa using C);simpa using this
  cases u:o.guard with
  |none=>
   have q:GX all (IK all o t) o= .run:=by unfold GX;rw[u]
   rw[u] at h;have h:@Bool.rec (λ_=>Af) (Z! E R (IK all o t) H o.op λv=>Qr t o.dst v λc=>qE E R fz N all l c H λts vs hs=>K (IK all o t::ts) (v::vs) hs) (Ef (zop E R fz (IK all o t) H o.op λv b=>some (v,b)) λv b=>Qr t o.dst v λc=>qE E R fz N all l c b λts vs hs=>K (IK all o t::ts) (v::vs) (H::hs)) (Qf E fz o.op)=some r:=h;cases he:Qf E fz o.op
   ·rw[he] at h;obtain⟨v,L,y,f⟩:=xB h;rw[Th] at f;obtain⟨ts,vs,hs,c,b,g,e,k,n⟩:=ih _ _ _ f;exact⟨_,_,_,_,_,.rd he ⟨w,.inl ⟨.inl q,.inl ⟨he,⟨_,y⟩,rfl⟩⟩⟩ g,e,by simp[k],key v ts vs n⟩
   ·rw[he] at h;obtain⟨v,J,y,f⟩:=Vf h;rw[Th] at f;obtain⟨ts,vs,hs,c,b,g,e,k,n⟩:=ih _ _ _ f;exact⟨_,_,_,_,_,.ef he ⟨w,.inl ⟨.inl q,.inr ⟨he,y⟩⟩⟩ g,e,by simp[k],key v ts vs n⟩
  |some Q=>
   rw[u] at h;have h:(Ef (A5P E R fz all o (IK all o t) H) λv b=>Qr t o.dst v λc=>qE E R fz N all l c b λts vs hs=>K (IK all o t::ts) (v::vs) (@Bool.rec (λ_=>List Hp) hs (H::hs) (Qf E fz o.op)))=some r:=h;obtain⟨v,J,y,f⟩:=Vf h;rw[Th] at f;obtain⟨ts,vs,hs,c,b,g,e,k,n⟩:=ih _ _ _ f;rcases gJ y with⟨h1,h2⟩|⟨h1,h2⟩
   ·cases he:Qf E fz o.op
    ·rw[he] at h1 e;obtain⟨O,L,B,d⟩:=Rp h1;injection d with d;injection d with d A
     subst d A;exact⟨_,_,_,_,_,.rd he ⟨w,.inl ⟨h2,.inl ⟨he,⟨_,B⟩,rfl⟩⟩⟩ g,e,by simp[k],key O ts vs n⟩
    ·rw[he] at h1 e;exact⟨_,_,_,_,_,.ef he ⟨w,.inl ⟨h2,.inr ⟨he,h1⟩⟩⟩ g,e,by simp[k],key v ts vs n⟩
   ·have h1:some (AV.v undef,H)=some (v,J):=h1;injection h1 with h1;injection h1 with B d
    subst B d;cases he:J1 E fz o
    ·have s:Qf E fz o.op=false:=he;rw[s] at e;exact⟨_,_,_,_,_,.rd he ⟨w,.inr ⟨h2,rfl,rfl⟩⟩ g,e,by simp[k],key _ ts vs n⟩
    ·have s:Qf E fz o.op=true:=he;rw[s] at e;exact⟨_,_,_,_,_,.ef he ⟨w,.inr ⟨h2,rfl,rfl⟩⟩ g,e,by simp[k],key _ ts vs n⟩
def YH:∀{l:List α} {n:Nat} {K:α->Af},vW l n K=some r->∃a,l[n]?=some a/\K a=some r:=by
 intro l
 induction l with
 |nil=>intro n K h;cases h
 |cons a l ih=>
  intro n K h;cases n with
  |zero=>exact⟨a,rfl,h⟩
  |succ n=>
   obtain⟨b,h1,h2⟩:=ih (show vW l n K=some r from h);exact⟨b,by simpa using h1,h2⟩
def A5V {all:List Oper} {ts:List Tm} {vs:List AV} {K:Af}:∀{bs:List (Nat×Nat)},A5W E R all bs ts vs hs K=some r->
 K=some r/\∀p∈bs,∃o b v e,all[p.1]?=some o/\ts[p.1]?=some b/\vs[p.1]?=some v/\hs[p.2]?=some e/\(((GX all b o= .run\/GX all b o= .dep true)/\∃f,Rs E R b e o.op (λu=>some (u,[]))=some (v,f))\/(GX all b o= .skip\/GX all b o= .dep false)):=by
 intro bs
 induction bs with
 |nil=>intro h;exact⟨h,λp d=>by simp at d⟩
 |cons p bs ih=>
  intro h;obtain⟨i,k⟩:=p;have h:(vW all i λo=>vW ts i λb=>vW vs i λv=>vW hs k λH=>QQ (gdK all b o.guard λg=>@Bool.rec (λ_=>Af) (some (.v (.bool true),[])) (Ba (Rs E R b H o.op λu=>some (u,[])) v) g) (A5W E R all bs ts vs hs K))=some r:=h;obtain⟨o,h1,h⟩:=YH h;obtain⟨b,h2,h⟩:=YH h;obtain⟨v,n,h⟩:=YH h;obtain⟨e,q,h⟩:=YH h;obtain⟨⟨f,s⟩,w⟩:=A9V h;obtain⟨x,y⟩:=ih w;refine⟨x,λp d=> ?_⟩;simp only[Uf] at d;rcases d with rfl|d
  ·refine⟨o,b,v,e,h1,h2,n,q,?_⟩;rcases gJ s with⟨j,c⟩|⟨j,c⟩
   ·exact .inl ⟨c,rM j⟩
   ·exact .inr c
  ·exact y p d
def B3U {i k:Nat} (g:C1E ops efs i k):∀(l:List Nat) (a:Nat),(∀b,l[b]?=efs[a+b]?)->A6w (Tk ops) i k a l=true:=by
 intro l
 induction l with
 |nil=>intro a _;rfl
 |cons e l ih=>
  intro a f;have d:efs[a]?=some e:=by have:=f 0;simpa using this.symm
  simp only[A6w,Kw,l1i,X!];refine⟨?_,?_,ih (a+1) λb=> ?_⟩
  ·cases c:tb ((Tk ops).getD i 0) e
   ·exact .inl rfl
   ·refine .inr ?_;rw[xL] at c;rw[Wj];exact g.1 a e d (Pu c)
  ·cases c:tb ((Tk ops).getD e 0) i
   ·exact .inl rfl
   ·refine .inr ?_;rw[xL] at c;rw[iS];exact g.2 a e d (Pu c)
  ·have:=f (b+1);rw[l0r] at this;rw[this];congr 1;omega
def A6m:∀(l:List Oper) (n c:Nat),A6n E ef ms efs bs n c l=true->∀(j:Nat) (o:Oper),l[j]?=some o->ef o=false->QK E o.op=true\/∀k,k<=efs.length->A6w ms (n+j) k 0 efs=true->k=c+Vm ef l j\/(n+j,k)∈bs:=by
 intro l
 induction l with
 |nil=>intro n c _ j o h;simp at h
 |cons p l ih=>
  intro n c h j o f he;simp only[A6n,Kw] at h;cases j with
  |zero=>
   simp at f;subst f;have h1:=h.1;rw[he,Bool.false_or,l1i] at h1;rcases h1 with h1|h1
   ·exact .inl h1
   ·refine .inr λk s e=> ?_;have h2:=GH.1 h1 k (K8.2 (by omega));rw[Nat.add_zero] at e;rw[e] at h2;simp only[l1i,Bool.not_true,xY,false_or,Kw,List.any_eq_true] at h2;rcases h2 with h2|⟨q,hq,b,d⟩
    ·exact .inl (by rw[YM h2];simp[Vm])
    ·refine .inr ?_;obtain⟨q1,q2⟩:=q;have b:=YM b;have d:=YM d;simp only at b d;subst b d;exact hq
  |succ j=>
   have:=ih (n+1) _ h.2 j o (by simpa using f) he;rw[show n+(j+1)=n+1+j from by omega];rcases this with b|b
   ·exact .inl b
   ·refine .inr λk s e=> ?_;rcases b k s e with d|d
    ·refine .inl ?_;rw[d];cases g:ef p<;>simp[Vm,g]
     omega
    ·exact .inr d
def qD (w:XE.Ok D E P) (F:RSound D E P R) {id:Nat} (hD:xQ ops (F7 (J1 E cf.fz) 0 ops)=true) (M:A6n E (J1 E cf.fz) (Tk ops) (F7 (J1 E cf.fz) 0 ops) bs 0 0 ops=true) 
 (h:(qE E R cf.fz cf.n ops ops t H λts vs hs J u=>A5W E R ops bs ts vs hs (K J u))=some r):
 Tc P E.G ro m cf.n (.region id ops.toArray true) (λe J u=>e= .normal/\K J u=some r) t H:=by
 obtain⟨ts,vs,hs,J,u,ad,Q,af,ae⟩:=A2m ops t H _ h;obtain⟨Q,x⟩:=A5V Q;obtain⟨h0,ac,O,s⟩:=ad.at;have hk:=rN hD;have hr:=A6m ops 0 0 M;have e0:H=(λk=>hs.getD k []) 0:=h0.symm;rw[e0];refine A1S (efs:=F7 (J1 E cf.fz) 0 ops) (val:= λj=>vs.getD j .dk) (Hs:= λk=>hs.getD k []) w.mix hk (λo c=> ?_) ?_ ?_ ?_
 ·obtain⟨i,Y⟩:=List.getElem?_of_mem c;exact(s i o Y).1
 ·intro i o c ab k aa hp;have he:J1 E cf.fz o=false:=by
   cases he:J1 E cf.fz o
   ·rfl
   ·exact absurd (B1J ops 0 i o c he) (by rw[JQ];exact ab _)
  have g:=s i o c;have V:Vm (J1 E cf.fz) ops (i+1)=Vm (J1 E cf.fz) ops i:=by rw[Yu c,he];simp
  rw[V] at g;rcases hr i o c he with hf|A
  ·refine Stp.aopg (fz:=cf.fz) w F ?_;obtain⟨y,⟨d,h⟩|⟨d,h1,h2⟩⟩:=g
   ·rcases h with⟨_,⟨L,h⟩,_⟩|⟨h,_⟩
    ·exact⟨y,.inl ⟨d,.inl ⟨he,⟨L,by rw[A1a hf _ (hs.getD (Vm (J1 E cf.fz) ops i) [])];exact h⟩,rfl⟩⟩⟩
    ·rw[he] at h;cases h
   ·exact⟨y,.inr ⟨d,h1,rfl⟩⟩
  ·rcases A k aa (by rw[JQ];exact B3U hp _ 0 (λb=>by rw[JQ])) with Z|q
   ·rw[Z,JQ];exact Stp.aopg (fz:=cf.fz) w F g
   ·rw[JQ] at q;obtain⟨o',t1,v,Hk,h1,h2,B,C,f⟩:=x _ q;simp only at h1 h2 B C;rw[c] at h1;injection h1 with h1;subst h1
    rw[ae i o c] at h2;injection h2 with h2;subst h2
    have hv:vs.getD i .dk=v:=by rw[Vl,B];rfl
    have X:hs.getD k []=Hk:=by rw[Vl,C];rfl
    refine Stp.aopg (fz:=cf.fz) w F ?_;obtain⟨y,⟨d,h⟩|⟨d,h1,h2⟩⟩:=g
    ·rcases f with⟨_,L,f⟩|f
     ·refine⟨y,.inl ⟨d,.inl ⟨he,⟨L,?_⟩,rfl⟩⟩⟩;rw[hv,X];exact f
     ·exfalso;rcases d with d|d<;>rcases f with f|f<;>(rw[d] at f;cases f)
    ·exact⟨y,.inr ⟨d,h1,rfl⟩⟩
 ·intro a i o c Y;obtain⟨j,p,h1,h2,B,C⟩:=P' ops 0 a i Y;rw[JQ] at h1;subst h1;rw[c] at h2;injection h2 with h2;subst h2
  have:=s i o c;rw[Yu c,B,C] at this;exact Stp.aopg (fz:=cf.fz) w F this
 ·refine⟨rfl,?_⟩;rw[<-ac];have:hs.getD (F7 (J1 E cf.fz) 0 ops).length []=u:=by rw[O_];exact O.symm
  rw[this];exact Q
def A2l (g:XE.Ok D E P) (j:RSound D E P R) {id:Nat} (b:rO E cf id ops=true) (h:C0C E R cf id ops t H K=some r):
 Tc P E.G ro m cf.n (.region id ops.toArray true) (λe f d=>e= .normal/\K f d=some r) t H:=by
 unfold rO at b;rw[Kw] at b;have h:(match A97 id cf.rc with
  |none=>zdr E R cf.fz cf.n ops ops t H K
  |some bs=>qE E R cf.fz cf.n ops ops t H λts vs hs f d=>A5W E R ops bs ts vs hs (K f d))=some r:=h
 cases c:A97 id cf.rc with
 |none=>rw[c] at b h;exact A5T g j b.1 b.2 h
 |some bs=>rw[c] at b h;exact qD g j b.1 b.2 h
def A02 (f:∀E cf id ops,D E cf id ops=true->rO E cf id ops=true) (d:XE.Ok D E P) (e:RSound D E P R):A4l D E P (A4s E R):=by
 intro ro cf id ops t H K r m hb h;unfold A4s at h;cases c:cf.b
 ·rw[c] at h;exact A2l d e (f _ _ _ _ (hb c)) h
 ·rw[c] at h;unfold C0B at h;obtain⟨h1,h2⟩:=L9 h;rw[Kw] at h1;exact qD d e h1.1 h1.2 h2
end
end
end Go.Abs
end
