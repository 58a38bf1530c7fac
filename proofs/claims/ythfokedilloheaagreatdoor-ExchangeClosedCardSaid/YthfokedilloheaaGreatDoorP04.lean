import Derived.Test.YthfokedilloheaaGreatDoorP03
set_option linter.all false
set_option maxHeartbeats 100000000
noncomputable section
namespace Go.Abs
open Go.RowKit
section
variable{cf:Cf}{c:Code}{e:Exit}{Q:Exit->Tm->Hp->Prop}{H:Hp}{K:KQ}{N:Nat}{t t':Tm}
abbrev A6m:=Cf->Nat->List Oper->Tm->Hp->(Tm->Ru)->Af
def yN(e:Exit)(t:Tm)(H:Hp)(k:Tm->Ru)(K:KQ):Af:=(λ(_:Unit)=>match e with|.normal=>k t H|e=>K e t H) Ic
def A4J(id:Nat)(e:Exit)(t:Tm)(H:Hp)(K:KQ):Af:=(λ(_:Unit)=>match e with|.exit i=>@Bool.rec (λ_=>Af) (K (.exit i) t H) (K .normal t H) (Nat.beq i id)|e=>K e t H) Ic
def A1(v:AV)(x y:Af):Af:=match v with|.v (.bool true)=>x|.v (.bool false)=>y|_=>none
def dE(lv:Hb)(t:Tm):(Tm->Af)->Af:=@List.rec Nat (λ_=>(Tm->Af)->Af) (λK=>K []) (λu _ ih K=>gtm t u λv=>ih λl=>K ((u,v)::l)) lv
def Cur(lv:Hb):Type:=@List.rec Nat (λ_=>Type) Ru (λ_ _ ih=>AV->ih) lv
def B29(lv:Hb):(Tm->Ru)->Cur lv:=
 @List.rec Nat (λlv=>(Tm->Ru)->Cur lv) (λF H=>F [] H) (λu _ ih F v=>ih λt H=>F ((u,v)::t) H) lv
def B27(lv:Hb):Cur lv->Tm->Ru:=
 @List.rec Nat (λlv=>Cur lv->Tm->Ru) (λc _ H=>c H) (λu _ ih c t H=>gtm t u λv=>ih (c v) t H) lv
def iP(lv:Hb)(t:Tm):Tm:=lv.map λu=>(u,HW t u)
def C_(lv:Hb):∀(F:Tm->Ru)(t:Tm)(H:Hp),B27 lv (B29 lv F) t H=F (iP lv t) H:=by
 induction lv with
 |nil=>intro F t H;rfl
 |cons u lv ih=>
  intro F t H;have e:B27 (u::lv) (B29 (u::lv) F) t H=gtm t u λv=>B27 lv (B29 lv λt H=>F ((u,v)::t) H) t H:=rfl;rw[e,UE,ih];rfl
def B6S(lv:Hb)(body:Tm->Hp->KQ->Af)(K:KQ)(n:Nat):Cur lv:=
 @Nat.rec (λ_=>Cur lv) (B29 lv λ_ _=>none) (λ_ ih=>B29 lv λt H=>body t H λe b a=>yN e b a (λt H=>B27 lv ih t H) K) n
def yD(lv:Hb)(body:Tm->Hp->KQ->Af)(K:KQ)(n:Nat)(t:Tm)(H:Hp):Af:=B27 lv (B6S lv body K n) t H
def A2N(lv:Hb)(body:Tm->Hp->KQ->Af)(K:KQ)(t:Tm)(H:Hp):yD lv body K 0 t H=none:=C_ lv _ t H
def A2O(lv:Hb)(body:Tm->Hp->KQ->Af)(K:KQ)(n:Nat)(t:Tm)(H:Hp):yD lv body K (n+1) t H=body (iP lv t) H λe b a=>yN e b a (yD lv body K n) K:=C_ lv _ t H
def A3i(lv:Hb)(t:Tm)(u:Nat):HW (iP lv t) u=HW t u\/HW (iP lv t) u=.dk:=by
 induction lv with
 |nil=>exact .inr rfl
 |cons v lv ih=>
  have e:HW (iP (v::lv) t) u=if u=v then HW t v else HW (iP lv t) u:=rfl
  rw[e];split
  ·rename_i h;subst h;exact .inl rfl
  ·exact ih
def B6i(p:Option (Option Code))(t:Tm)(H:Hp)(K:KQ):Af:=
 match p with
 |some none=>K .normal t H
 |some (some .ret)=>K .ret t H
 |some (some (.exit id))=>K (.exit id) t H
 |some (some (.goto l))=>K (.goto l) t H
 |_=>none
def A2K(E:XE)(R:Rt)(cf:Cf)(g:Operand)(ps:Array Tmp)(i j:Code)(t:Tm)(H:Hp)(K:KQ):Af:=
 @Bool.rec (λ_=>Af) (dE cf.lv t λt=>Ku E t g λf=>match f with
  |.fn (.func g) first cap=>It H λs=>YX first (.yl s::cap) λall=>R.call g all ((s,.loop cf.n t ps i j (some none))::H) λ_ d=>IQ d s λx=>dI x λ_ _ _ _ _ a=>LJ d s .gone λh=>B6i a t h K
  |_=>none) none cf.b
def A1E(e:Exit)(t:Tm)(H:Hp)(k:Nat->Tm->Ru)(K:KQ):Af:=(λ(_:Unit)=>match e with|.goto l=>k l t H|e=>K e t H) Ic
def A4Z(run:A01)(cf:Cf)(c:Code)(K:KQ)(n:Nat):Nat->Tm->Ru:=
 @Nat.rec (λ_=>Nat->Tm->Ru) (λ_ _ _=>none) (λ_ ih l t H=>match findLabel c l with
  |some rest=>run cf rest t H λe t H=>A1E e t H ih K
  |none=>none) n
def fQ(E:XE)(R:Rt)(Z:A6m)(cf:Cf)(c:Code):Tm->Hp->KQ->Af:=
 @Code.rec (λ_=>Tm->Hp->KQ->Af)
  (λt H K=>K .normal t H)
  (λid f draw t H K=>C0k cf.rc id (λt H=>@Bool.rec (λ_=>Af) (A6p E R cf.fz cf.n f.toList f.toList t H λt H=>K .normal t H) (Z cf id f.toList t H λt H=>K .normal t H) draw) t H)
  (λ_ _ a d t H K=>a t H λe t H=>yN e t H (λt H=>d t H K) K)
  (λx _ _ a d t H K=>Ku E t x λv=>A1 v (a t H K) (d t H K))
  (λid _ ih t H K=>ih t H λe t H=>A4J id e t H K)
  (λ_ ih t H K=>yD cf.lv ih K E.lf t H)
  (λg ps h i _ _ t H K=>A2K E R cf g ps h i t H K)
  (λid t H K=>K (.exit id) t H)
  (λc ih t H K=>@Bool.rec (λ_=>Af) (ih t H λe t H=>A1E e t H (A4Z R.run cf c K E.lf) K) none cf.b)
  (λ_ t H K=>K .normal t H)
  (λl t H K=>K (.goto l) t H)
  (λt H K=>K .ret t H)
  (λ_ _ _ _=>none) c
section
variable{D:XE->Cf->Nat->List Oper->Bool}{E:XE}{P:Program}{R:Rt}{Z:A6m}{r:AV×Hp}{ro:Option Nat}{m:Nat}
def A4V(D:XE->Cf->Nat->List Oper->Bool)(E:XE)(P:Program)(Z:A6m):Prop:=
 ∀(ro:Option Nat)(cf:Cf)(id:Nat)(a:List Oper)(t:Tm)(H:Hp)(K:Tm->Ru)(r:AV×Hp)(m:Nat),(cf.b=false->D E cf id a=true)->Z cf id a t H K=some r->
  QA P E.G ro m cf.n (.region id a.toArray true) (λe t' d=>e=.normal/\K t' d=some r) t H
def sT{k:Tm->Ru}(h:yN e t H k K=some r):(e=.normal/\k t H=some r)\/(e≠.normal/\K e t H=some r):=by
 unfold yN at h;split at h
 ·exact .inl ⟨rfl,h⟩
 ·rename_i a;exact .inr ⟨a,h⟩
theorem QA.congr{G:Gl}(hc:∀u,HW t' u=HW t u\/HW t' u=.dk)(h:QA P G ro m N c Q t' H):QA P G ro m N c Q t H:=
 λw0 b C a w s=>h w0 b C a w (s.congr hc)
theorem oU.congr{G:Gl}(hc:∀u,HW t' u=HW t u\/HW t' u=.dk)(h:oU P G ro m N c Q t' H):oU P G ro m N c Q t H:=
 λw0 b C a w s=>h w0 b C a w (s.congr hc)
def A2P:∀(lv:Hb)(K:Tm->Af),dE lv t K=some r->∃t',K t'=some r/\∀u,HW t' u=HW t u\/HW t' u=.dk:=by
 intro lv
 induction lv with
 |nil=>intro K h;exact⟨[],h,λu=>.inr rfl⟩
 |cons v lv ih=>
  intro K h;have h:(gtm t v λx=>dE lv t λl=>K ((v,x)::l))=some r:=h;rw[UE]at h;obtain⟨t',h1,h2⟩:=ih _ h;refine⟨_,h1,λu=>?_⟩;simp only[HW];split
  ·rename_i a;rw[a];exact .inl rfl
  ·exact h2 u
def A0m{G:Gl}{lv:Hb}{body:Tm->Hp->KQ->Af}(hb:∀t H(K:KQ),body t H K=some r->QA P G ro m N c (λe t' a=>K e t' a=some r) t H):∀(n:Nat)(t:Tm)(H:Hp),yD lv body K n t H=some r->
 oU P G ro m N c (λe t' a=>K e t' a=some r) t H:=by
 intro n
 induction n with
 |zero=>intro t H h;rw[A2N]at h;cases h
 |succ n ih=>
  intro t H h;rw[A2O]at h;refine oU.congr (A3i lv t) (A4R (QA.mono (hb _ _ _ h) λe f d hq=>?_));rcases sT hq with⟨rfl,h⟩|⟨b,h⟩
  ·exact ih _ _ h
  ·cases e with
   |normal=>exact absurd rfl b
   |_=>exact h
def E?(M:XE.Ok D E P)(O:RSound D E P R)(q:ro≠none->cf.b=true){g:Operand}{ps:Array Tmp}{s u:Code}(h:A2K E R cf g ps s u t H K=some r):QA P E.G ro m cf.n (.rangeFunc g ps s u) (λe t' j=>K e t' j=some r) t H:=by
 unfold A2K at h;cases hb:cf.b
 ·rw[hb]at h;have hn:ro=none:=by
   cases ro with
   |none=>rfl
   |some b=>have:=q (by simp);rw[hb]at this;cases this
  subst hn;obtain⟨t',h,hc⟩:=A2P _ _ h;refine QA.congr hc ?_;have h:=Bg M h;split at h
  ·rename_i f first cap X;rw[Ca,MZ]at h;obtain⟨⟨fn,h1,h2,L⟩,d⟩:=O.call _ _ _ _ _ h;have e:first++AV.yl (Ar H)::cap=first++[.yl (Ar H)]++cap:=by simp
   rw[e]at d;refine A4O X h1 h2 L ?_;intro w0 C w ys hr V;refine(d w0 C w ys hr V).mono ?_;rintro e w' ⟨v,y,B,j,he,p,hv,hx,Y⟩;refine⟨v,y,B,j,he,p,hv,hx,?_⟩;obtain⟨x,i,k⟩:=I4 rfl Y;obtain⟨N',t2,aa,F,J,A,rfl,a⟩:=eI k;rw[Dg]at a;unfold B6i at a;split at a
   ·exact⟨_,_,_,_,_,_,i,a⟩
   ·exact⟨_,_,_,_,_,_,i,a⟩
   ·exact⟨_,_,_,_,_,_,i,a⟩
   ·exact⟨_,_,_,_,_,_,i,a⟩
   ·cases a
  ·cases h
 ·rw[hb]at h;cases h
def A7W{D:Nat->List Oper->Bool}:∀(c:Code)(l:Nat)(rest:Code),Ti D c=true->findLabel c l=some rest->Ti D rest=true:=by
 intro c
 induction c with
 |seq a b g i=>
  intro l rest d h;simp only[Ti,KK]at d;unfold findLabel at h;split at h
  ·rename_i r0 f;injection h with h
   subst h;simp only[Ti,KK];exact⟨g _ _ d.1 f,d.2⟩
  ·exact i _ _ d.2 h
 |label j=>
  intro l rest d h;unfold findLabel at h;split at h
  ·injection h with h;subst h;rfl
  ·cases h
 |_=>intro l rest d h;simp[findLabel]at h
def A1D{k:Nat->Tm->Ru}(a:∀l,e≠.goto l)(h:A1E e t H k K=some r):K e t H=some r:=by
 cases e with
 |goto l=>exact absurd rfl (a l)
 |_=>exact h
def A0o(f:RSound D E P R)(g:Ti (D E cf) c=true):∀(n l:Nat)(t:Tm)(H:Hp),A4Z R.run cf c K n l t H=some r->
 ∃rest,findLabel c l=some rest/\A04 P E.G m cf.n c rest (λe t' d=>K e t' d=some r) t H:=by
 intro n
 induction n with
 |zero=>intro l t H h;cases h
 |succ n ih=>
  intro l t H h;have h:(match findLabel c l with
   |some rest=>R.run cf rest t H λe t H=>A1E e t H (A4Z R.run cf c K n) K
   |none=>none)=some r:=h
  split at h
  ·rename_i rest b;refine⟨rest,b,D' (λl t H hq=>ih l t H hq) (λe t H a hq=>A1D a hq) (f.run none cf rest t H _ r m (λh=>absurd rfl h) (λ_=>A7W _ _ _ g b) h)⟩
  ·cases h
def A0r(q:XE.Ok D E P)(u:RSound D E P R)(M:A4V D E P Z)(p:ro≠none->cf.b=true):∀(c:Code)(t:Tm)(H:Hp)(K:KQ),(cf.b=false->Ti (D E cf) c=true)->fQ E R Z cf c t H K=some r->
 QA P E.G ro m cf.n c (λe t' J=>K e t' J=some r) t H:=by
 intro c
 induction c with
 |skip=>intro t H K _ h;exact B2i h
 |region id k draw=>
  intro t H K d h;refine A49 (λt H h=>?_) cf.rc t H h;have e:k=k.toList.toArray:=by simp
  cases draw
  ·rw[e];exact QA.mono (A4N (A2M q u _ _ _ _ h)) (by rintro _ _ _ ⟨rfl,h⟩;exact h)
  ·rw[e];exact QA.mono (M ro cf id k.toList t H _ r m d h) (by rintro _ _ _ ⟨rfl,h⟩;exact h)
 |seq x y C F=>
  intro t H K d h;have h:(fQ E R Z cf x t H λe t H=>yN e t H (λt H=>fQ E R Z cf y t H K) K)=some r:=h;have f:cf.b=false->Ti (D E cf) x=true/\Ti (D E cf) y=true:=λhb=>by simpa [Ti] using d hb
  refine B5N (QA.mono (C t H _ (λhb=>(f hb).1) h) λe O L hq=>?_);rcases sT hq with⟨rfl,h⟩|⟨j,h⟩
  ·exact F _ _ _ (λhb=>(f hb).2) h
  ·cases e with
   |normal=>exact absurd rfl j
   |_=>exact h
 |cond x a b A B=>
  intro t H K d h;have h:(Ku E t x λv=>A1 v (fQ E R Z cf a t H K) (fQ E R Z cf b t H K))=some r:=h;have f:cf.b=false->Ti (D E cf) a=true/\Ti (D E cf) b=true:=λhb=>by simpa [Ti] using d hb
  have h:=Bg q h;unfold A1 at h;split at h
  ·rename_i hv;exact A2o hv (λ_=>A _ _ _ (λhb=>(f hb).1) h) (λhb=>by cases hb)
  ·rename_i hv;exact A2o hv (λhb=>by cases hb) (λ_=>B _ _ _ (λhb=>(f hb).2) h)
  ·cases h
 |block id x ih=>
  intro t H K d h;have h:(fQ E R Z cf x t H λe t H=>A4J id e t H K)=some r:=h;refine A85 (QA.mono (ih t H _ d h) λe O L hq=>?_);unfold A4J at hq;cases e with
  |exit i=>
   simp only at hq;simp only[A3C];cases hi:Nat.beq i id
   ·rw[hi]at hq;rw[CD (λe=>by rw[e,oH]at hi;cases hi)];exact hq
   ·rw[hi]at hq;rw[Dr (Zy hi)];exact hq
  |_=>exact hq
 |loop x ih=>
  intro t H K d h;have h:yD cf.lv (λt H K=>fQ E R Z cf x t H K) K E.lf t H=some r:=h;exact A2m (A0m (λt H K h=>ih t H K d h) _ _ _ h)
 |rangeFunc g ps V X _ _=>
  intro t H K _ h;exact E? q u p h
 |exit id=>intro t H K _ h;exact B2k h
 |scope x ih=>
  intro t H K d h;have h:@Bool.rec (λ_=>Af) (fQ E R Z cf x t H λe t H=>A1E e t H (A4Z R.run cf x K E.lf) K) none cf.b=some r:=h;cases hb:cf.b
  ·rw[hb]at h;have hn:ro=none:=by
    cases ro with
    |none=>rfl
    |some b=>have:=p (by simp);rw[hb]at this;cases this
   subst hn;have w:Ti (D E cf) x=true:=d hb;exact A83 (D' (λl t H hq=>A0o u w _ _ _ _ hq) (λe t H j hq=>A1D j hq) (ih t H _ d h))
  ·rw[hb]at h;cases h
 |label l=>intro t H K _ h;exact A84 h
 |goto l=>intro t H K _ h;exact B2j h
 |ret=>intro t H K _ h;exact B5O h
 |refuse s=>intro t H K _ h;cases h
end
end
section
variable{v:AV}{a:Af}{cf:Cf}{bs:List (Nat×Nat)}{hs:List Hp}{efs ms:Hb}{ops:List Oper}{i:Nat}{ef:Oper->Bool}{K:Tm->Ru}{α:Type}{D:XE->Cf->Nat->List Oper->Bool}
def Rl(E:XE):Op->Bool
 |.move _=>true
 |.assign _=>true
 |.pick .. =>true
 |.nilCheck _=>true
 |.binOp .. =>true
 |.unOp .. =>true
 |.convert s _ _=>match E.ty.get s with
  |some i=>match i.d with
   |.slice .. =>false
   |.pointer _=>false
   |.other=>false
   |_=>true
  |none=>false
 |.makeFunc .. =>true
 |.fieldAddr .. =>true
 |.field .. =>true
 |.indexAddr .. =>true
 |.index .. =>true
 |.slice ty _ _ _ _=>match E.ty.get ty with
  |some i=>match i.d with
   |.array .. =>false
   |_=>true
  |none=>false
 |.extract .. =>true
 |.build .. =>true
 |.buildSlice .. =>true
 |.call c=>match c.callee with
  |.builtin .len=>match c.argTypes.toList with
   |[ty]=>(match E.ty.get ty with
    |some i=>match i.d with
     |.map .. =>false
     |_=>true
    |none=>false)
   |_=>false
  |.builtin .min=>true
  |.builtin .max=>true
  |_=>false
 |_=>false
def Qx(E:XE)(fz:Bool):Op->Bool
 |.move _=>false
 |.assign _=>false
 |.pick .. =>false
 |.nilCheck _=>false
 |.binOp .. =>false
 |.unOp .. =>false
 |.convert s d _=>match E.ty.get s,E.ty.get d with
  |some i,some j=>match i.d,j.d with
   |.string,.slice .. =>true
   |_,_=>false
  |_,_=>true
 |.makeFunc .. =>false
 |.fieldAddr .. =>false
 |.field .. =>false
 |.indexAddr .. =>false
 |.index .. =>false
 |.slice .. =>false
 |.extract .. =>false
 |.build .. =>false
 |.buildSlice .. =>!fz
 |.load .. =>false
 |.lookup .. =>false
 |.makeInterface .. =>false
 |.call c=>match c.callee with
  |.value (.func f)=>E.imp f
  |.value (.tmp _)=>!fz
  |.builtin .len=>false
  |.builtin .min=>false
  |.builtin .max=>false
  |.builtin .cap=>false
  |.builtin .unsafeSliceData=>false
  |_=>true
 |_=>true
def A0k(E:XE)(R:Rt)(t:Tm)(H:Hp)(o:Op)(K:K2):Af:=
 (λ(_:Unit)=>match o with
  |.move x=>Ku E t x K
  |.assign x=>Ku E t x K
  |o=>Au (RL E R t H o λv=>some (v,[])) K) Ic
def A6q(E:XE)(R:Rt)(fz:Bool)(all:List Oper)(o:Oper)(t1:Tm)(H:Hp):Af:=
 gdK all t1 o.guard λg=>@Bool.rec (λ_=>Af) (some (.v undef,H)) (@Bool.rec (λ_=>Af) (Au (RL E R t1 H o.op λv=>some (v,[])) λv=>some (v,H)) (zop E R fz t1 H o.op λv b=>some (v,b)) (Qx E fz o.op)) g
def zdr(E:XE)(R:Rt)(fz:Bool)(N:Nat)(all:List Oper)(l:List Oper):Tm->Hp->(Tm->Ru)->Af:=
 @List.rec Oper (λ_=>Tm->Hp->(Tm->Ru)->Af) (λt H K=>K t H)
  (λo _ ih t H K=>A2e N o.dst (dE (OB all o) t λd=>A7A o.guard
   (@Bool.rec (λ_=>Af) (A0k E R d H o.op λv=>QJ t o.dst v λc=>ih c H K) (D6 (zop E R fz d H o.op λv b=>some (v,b)) λv b=>QJ t o.dst v λc=>ih c b K) (Qx E fz o.op))
   (D6 (A6q E R fz all o d H) λv b=>QJ t o.dst v λc=>ih c b K))) l
def rU(E:XE)(R:Rt)(fz:Bool)(N:Nat)(all:List Oper)(l:List Oper):Tm->Hp->(List Tm->Is->List Hp->Tm->Ru)->Af:=
 @List.rec Oper (λ_=>Tm->Hp->(List Tm->Is->List Hp->Tm->Ru)->Af) (λt H K=>K [] [] [H] t H)
  (λo _ ih t H K=>A2e N o.dst (dE (OB all o) t λb=>A7A o.guard
   (@Bool.rec (λ_=>Af) (A0k E R b H o.op λv=>QJ t o.dst v λd=>ih d H λts vs hs=>K (b::ts) (v::vs) hs) (D6 (zop E R fz b H o.op λv c=>some (v,c)) λv c=>QJ t o.dst v λd=>ih d c λts vs hs=>K (b::ts) (v::vs) (H::hs)) (Qx E fz o.op))
   (D6 (A6q E R fz all o b H) λv c=>QJ t o.dst v λd=>ih d c λts vs hs=>K (b::ts) (v::vs) (@Bool.rec (λ_=>List Hp) hs (H::hs) (Qx E fz o.op))))) l
def xA(l:List α)(n:Nat)(K:α->Af):Af:=
 (λ(_:Unit)=>@List.rec α (λ_=>Nat->Af) (λ_=>none) (λa _ ih n=>@Nat.rec (λ_=>Af) (K a) (λm _=>ih m) n) l n) Ic
def fB:AV->AV->Bool
 |.v x,.v y=>fZ x y
 |.ptr r p k,.ptr c h e=>Nat.beq r c&&(Nat.beq p h&&Nat.beq k e)
 |.sl z r o n,.sl j c g f=>Nat.beq z j&&(Nat.beq r c&&(Nat.beq o g&&Nat.beq n f))
 |.iptr cs,.iptr d=>vW (VQ 6) cs d
 |.mp r,.mp c=>Nat.beq r c
 |a,b=>VQ 6 a b
def B5R{a b:AV}(h:fB a b=true):a=b:=by
 unfold fB at h;split at h
 ·rw[qT h]
 ·simp only[KK]at h;rw[Zy h.1,Zy h.2.1,Zy h.2.2]
 ·simp only[KK]at h;rw[Zy h.1,Zy h.2.1,Zy h.2.2.1,Zy h.2.2.2]
 ·rw[rO (A4U 6) h]
 ·rw[Zy h]
 ·exact A4U 6 _ _ h
def Bc(a:Af)(v:AV):Af:=match a with
 |some (u,_)=>some (.v (.bool (fB u v)),[])
 |none=>none
def QB(a:Af)(K:Af):Af:=match a with
 |some (.v (.bool true),_)=>K
 |_=>none
def B0C{K:Af}{r:AV×Hp}(h:QB a K=some r):(∃b,a=some (.v (.bool true),b))/\K=some r:=by
 unfold QB at h;split at h
 ·exact⟨⟨_,rfl⟩,h⟩
 ·cases h
def sZ{H0:Hp}(h:Bc a v=some (.v (.bool true),H0)):∃b,a=some (v,b):=by
 unfold Bc at h;split at h
 ·injection h with h
  injection h with h _
  injection h with h
  injection h with h
  exact⟨_,by rw[B5R h]⟩
 ·cases h
def A6y(E:XE)(R:Rt)(all:List Oper)(bs:List (Nat×Nat))(ts:List Tm)(vs:Is)(hs:List Hp)(K:Af):Af:=
 (λ(_:Unit)=>@List.rec (Nat×Nat) (λ_=>Af) K (λp _ ih=>@Prod.rec Nat Nat (λ_=>Af) (λi k=>xA all i λo=>xA ts i λb=>xA vs i λv=>xA hs k λH=>
  QB (gdK all b o.guard λg=>@Bool.rec (λ_=>Af) (some (.v (.bool true),[])) (Bc (RL E R b H o.op λu=>some (u,[])) v) g) ih) p) bs) Ic
def FC(ef:Oper->Bool):Nat->List Oper->Hb
 |_,[]=>[]
 |i,o::l=>match ef o with
  |true=>i::FC ef (i+1) l
  |false=>FC ef (i+1) l
def A0Z(E:XE)(ef:Oper->Bool)(ms efs:Hb):Nat->List Oper->Bool
 |_,[]=>true
 |i,o::l=>(ef o||(Rl E o.op||efs.all λe=>match Nat.blt e i with
  |true=>tb (ms.getD i 0) e
  |false=>tb (ms.getD e 0) i))&&A0Z E ef ms efs (i+1) l
def J5(E:XE)(fz:Bool)(o:Oper):Bool:=Qx E fz o.op
def A7a(ms:Hb)(i k:Nat):Nat->Hb->Bool
 |_,[]=>true
 |a,e::l=>(!tb (ms.getD i 0) e||Nat.blt a k)&&((!tb (ms.getD e 0) i||Nat.ble k a)&&A7a ms i k (a+1) l)
def A71(E:XE)(ef:Oper->Bool)(ms efs:Hb)(bs:List (Nat×Nat)):Nat->Nat->List Oper->Bool
 |_,_,[]=>true
 |i,b,o::l=>(ef o||(Rl E o.op||(List.range (efs.length+1)).all λk=>Nat.beq k b||(!A7a ms i k 0 efs||bs.any λp=>Nat.beq p.1 i&&Nat.beq p.2 k)))&&
  A71 E ef ms efs bs (i+1) (match ef o with|true=>b+1|false=>b) l
def A9N(id:Nat):List (Nat×List (Nat×Nat))->Option (List (Nat×Nat))
 |[]=>none
 |p::l=>match Nat.beq p.1 id with|true=>some p.2|false=>A9N id l
def tB(E:XE)(cf:Cf)(id:Nat)(ops:List Oper):Bool:=
 yT ops (FC (J5 E cf.fz) 0 ops)&&(match A9N id cf.rc with
  |none=>A0Z E (J5 E cf.fz) (TG ops) (FC (J5 E cf.fz) 0 ops) 0 ops
  |some bs=>A71 E (J5 E cf.fz) (TG ops) (FC (J5 E cf.fz) 0 ops) bs 0 0 ops)
def B6P(E:XE)(ef:Oper->Bool)(ms efs:Hb):Nat->Nat->List Oper->List (Nat×Nat)
 |_,_,[]=>[]
 |i,b,o::l=>(match ef o||Rl E o.op with
  |true=>[]
  |false=>((List.range (efs.length+1)).filter λk=>!Nat.beq k b&&A7a ms i k 0 efs).map λk=>(i,k))++B6P E ef ms efs (i+1) (match ef o with|true=>b+1|false=>b) l
def C1v(E:XE)(R:Rt)(cf:Cf)(ops:List Oper)(bs:List (Nat×Nat))(t:Tm)(H:Hp)(K:Tm->Ru):Af:=
 ckS (yT ops (FC (J5 E cf.fz) 0 ops)&&A71 E (J5 E cf.fz) (TG ops) (FC (J5 E cf.fz) 0 ops) bs 0 0 ops) (rU E R cf.fz cf.n ops ops t H λts vs hs c b=>A6y E R ops bs ts vs hs (K c b))
def C1w(E:XE)(R:Rt)(cf:Cf)(id:Nat)(ops:List Oper)(t:Tm)(H:Hp)(K:Tm->Ru):Af:=
 (λ(_:Unit)=>match A9N id cf.rc with
  |none=>zdr E R cf.fz cf.n ops ops t H K
  |some bs=>rU E R cf.fz cf.n ops ops t H λts vs hs c b=>A6y E R ops bs ts vs hs (K c b)) Ic
def A51(E:XE)(R:Rt):A6m:=λcf id ops t H K=>
 @Bool.rec (λ_=>Af) (C1w E R cf id ops t H K) (C1v E R cf ops (B6P E (J5 E cf.fz) (TG ops) (FC (J5 E cf.fz) 0 ops) 0 0 ops) t H K) cf.b
section
variable{E:XE}{P:Program}{R:Rt}{t:Tm}{H:Hp}{r:AV×Hp}{ro:Option Nat}{N m:Nat}{fz:Bool}
def A1A{o:Op}(h:Rl E o=true)(H H':Hp)(K:K2):RL E R t H o K=RL E R t H' o K:=by
 cases o with
 |move x=>rfl
 |assign x=>rfl
 |pick c a b=>rfl
 |nilCheck x=>rfl
 |binOp a b c d e=>rfl
 |unOp a b c=>rfl
 |convert a b c=>
  have key:∀v,(E.ty.getK a λi=>E.ty.getK b λj=>cvK E a b i j v H K)=(E.ty.getK a λi=>E.ty.getK b λj=>cvK E a b i j v H' K):=by
   intro v;have h:(match E.ty.get a with|some i=>(match i.d with|.slice .. =>false|.pointer _=>false|.other=>false|_=>true)|none=>false)=true:=h;rw[BT.getK_eq,BT.getK_eq];cases hs:E.ty.get a with
   |none=>rfl
   |some i=>
    rw[hs]at h;simp only at h;simp only
    congr 1
    funext j
    unfold cvK;cases g:i.d with
    |slice e z=>rw[g]at h;cases h
    |pointer e=>rw[g]at h;cases h
    |other=>rw[g]at h;cases h
    |_=>rfl
  show(Ku E t c λv=>E.ty.getK a λi=>E.ty.getK b λj=>cvK E a b i j v H K)=(Ku E t c λv=>E.ty.getK a λi=>E.ty.getK b λj=>cvK E a b i j v H' K)
  congr 1
  funext v
  exact key v
 |makeFunc a b c=>rfl
 |fieldAddr a b c=>rfl
 |field a b c=>rfl
 |indexAddr a b c=>rfl
 |index a b c=>rfl
 |slice a b c d e=>
  have h:(match E.ty.get a with|some i=>(match i.d with|.array .. =>false|_=>true)|none=>false)=true:=h;have key:∀v l p m,(E.ty.getK a λi=>A2I i v l p m H K)=(E.ty.getK a λi=>A2I i v l p m H' K):=by
   intro v l p m;rw[BT.getK_eq,BT.getK_eq];cases hs:E.ty.get a with
   |none=>rfl
   |some i=>
    rw[hs]at h;simp only at h;simp only;unfold A2I;cases g:i.d with
    |array n e z=>rw[g]at h;cases h
    |_=>rfl
  show(Ku E t b λv=>rS E t c λl=>rS E t d λh=>rS E t e λm=>E.ty.getK a λi=>A2I i v l h m H K)=(Ku E t b λv=>rS E t c λl=>rS E t d λh=>rS E t e λm=>E.ty.getK a λi=>A2I i v l h m H' K)
  congr 1
  funext v
  congr 1
  funext l
  congr 1
  funext p
  congr 1
  funext m
  exact key v l p m
 |extract a b=>rfl
 |build a b=>rfl
 |buildSlice a b c=>rfl
 |call c=>
  unfold Rl at h;obtain⟨callee,args,ts⟩:=c;cases callee with
  |value f=>cases h
  |invoke a b=>cases h
  |builtin b=>
   cases b with
   |len=>
    have h:(match ts.toList with|[ty]=>(match E.ty.get ty with|some i=>(match i.d with|.map .. =>false|_=>true)|none=>false)|_=>false)=true:=h;have u:∀s,RL E R t s (.call ⟨.builtin .len,args,ts⟩) K=(match args.toList,ts.toList with|[x],[ty]=>Ku E t x λv=>E.ty.getK ty λi=>B2W i v s K|_,_=>none):=λ_=>rfl;rw[u,u];split
    ·rename_i x ty w q;rw[q]at h
     congr 1
     funext v
     rw[BT.getK_eq,BT.getK_eq];cases hs:E.ty.get ty with
     |none=>rfl
     |some i=>
      simp only[hs]at h;simp only;unfold B2W;cases g:i.d with
      |map k e=>rw[g]at h;cases h
      |_=>rfl
    ·rfl
   |min=>rfl
   |max=>rfl
   |_=>cases h
 |_=>cases h
inductive Trc(S:Oper->Tm->Hp->AV->Hp->Prop)(ef:Oper->Bool):List Oper->Tm->Hp->Is->List Hp->Tm->Hp->Prop
 |nil {t:Tm} {H:Hp}:Trc S ef [] t H [] [H] t H
 |rd {o:Oper} {l:List Oper} {t:Tm} {H:Hp} {v:AV} {vs:Is} {hs:List Hp} {t':Tm} {H':Hp} (he:ef o=false) (h:S o t H v H) (k:Trc S ef l (RS t o.dst v) H vs hs t' H'):Trc S ef (o::l) t H (v::vs) hs t' H'
 |ef {o:Oper} {l:List Oper} {t:Tm} {H H1:Hp} {v:AV} {vs:Is} {hs:List Hp} {t':Tm} {H':Hp} (he:ef o=true) (h:S o t H v H1) (k:Trc S ef l (RS t o.dst v) H1 vs hs t' H'):Trc S ef (o::l) t H (v::vs) (H::hs) t' H'
def Stp(E:XE)(R:Rt)(fz:Bool)(N:Nat)(all:List Oper)(o:Oper)(t:Tm)(H:Hp)(v:AV)(b:Hp):Prop:=
 dok N o.dst/\(((Hf all (IU all o t) o=.run\/Hf all (IU all o t) o=.dep true)/\
  ((J5 E fz o=false/\(∃d,RL E R (IU all o t) H o.op (λv=>some (v,[]))=some (v,d))/\b=H)\/(J5 E fz o=true/\zop E R fz (IU all o t) H o.op (λv c=>some (v,c))=some (v,b))))\/
  ((Hf all (IU all o t) o=.skip\/Hf all (IU all o t) o=.dep false)/\v=.v undef/\b=H))
def A0n(lv:Hb)(t:Tm):∀K:Tm->Af,dE lv t K=K (iP lv t):=by
 induction lv with
 |nil=>intro K;rfl
 |cons u lv ih=>
  intro K;have e:dE (u::lv) t K=gtm t u λv=>dE lv t λl=>K ((u,v)::l):=rfl;rw[e,UE,ih];rfl
def A50{x:Operand}{K:K2}(h:Ku E t x K=some r):∃v b,Ku E t x (λv=>some (v,[]))=some (v,b)/\K v=some r:=by
 cases x with
 |tmp i=>
  have h:gtm t i K=some r:=h;rw[UE]at h;exact⟨_,[],(UE t i _).trans rfl,h⟩
 |const v=>exact⟨_,[],rfl,h⟩
 |global g=>
  have h:(E.gl.getK g λcs=>K (.iptr cs))=some r:=h;obtain⟨cs,h1,h2⟩:=Bh h;refine⟨_,[],?_,h2⟩;have:Ku E t (.global g) (λv=>some (v,[]))=E.gl.getK g λcs=>some (.iptr cs,[]):=rfl;rw[this,BT.getK_eq,h1]
 |func f=>exact⟨_,[],rfl,h⟩
def yC{o:Op}{K:K2}(h:A0k E R t H o K=some r):∃v b,RL E R t H o (λv=>some (v,[]))=some (v,b)/\K v=some r:=by
 unfold A0k at h;split at h
 ·exact A50 h
 ·exact A50 h
 ·exact RJ h
def A6u{all:List Oper}:∀(l:List Oper)(t:Tm)(H:Hp)(K:Tm->Ru),zdr E R fz N all l t H K=some r->
 ∃vs hs c b,Trc (Stp E R fz N all) (J5 E fz) l t H vs hs c b/\K c b=some r:=by
 intro l
 induction l with
 |nil=>intro t H K h;exact⟨_,_,_,_,.nil,h⟩
 |cons o l ih=>
  intro t H K h;have h:A2e N o.dst (dE (OB all o) t λu=>A7A o.guard
   (@Bool.rec (λ_=>Af) (A0k E R u H o.op λv=>QJ t o.dst v λc=>zdr E R fz N all l c H K) (D6 (zop E R fz u H o.op λv b=>some (v,b)) λv b=>QJ t o.dst v λc=>zdr E R fz N all l c b K) (Qx E fz o.op))
   (D6 (A6q E R fz all o u H) λv b=>QJ t o.dst v λc=>zdr E R fz N all l c b K))=some r:=h
  obtain⟨n,h⟩:=nJ h;rw[A0n]at h;have s:iP (OB all o) t=IU all o t:=rfl;rw[s]at h;cases k:o.guard with
  |none=>
   have g:Hf all (IU all o t) o=.run:=by unfold Hf;rw[k]
   rw[k]at h;have h:@Bool.rec (λ_=>Af) (A0k E R (IU all o t) H o.op λv=>QJ t o.dst v λc=>zdr E R fz N all l c H K) (D6 (zop E R fz (IU all o t) H o.op λv b=>some (v,b)) λv b=>QJ t o.dst v λc=>zdr E R fz N all l c b K) (Qx E fz o.op)=some r:=h;cases he:Qx E fz o.op
   ·rw[he]at h;obtain⟨v,x,p,d⟩:=yC h;rw[TC]at d;obtain⟨vs,hs,c,b,e,f⟩:=ih _ _ _ d;exact⟨_,_,_,_,.rd he ⟨n,.inl ⟨.inl g,.inl ⟨he,⟨_,p⟩,rfl⟩⟩⟩ e,f⟩
   ·rw[he]at h;obtain⟨v,w,p,d⟩:=VI h;rw[TC]at d;obtain⟨vs,hs,c,b,e,f⟩:=ih _ _ _ d;exact⟨_,_,_,_,.ef he ⟨n,.inl ⟨.inl g,.inr ⟨he,p⟩⟩⟩ e,f⟩
  |some A=>
   rw[k]at h;have h:(D6 (A6q E R fz all o (IU all o t) H) λv b=>QJ t o.dst v λc=>zdr E R fz N all l c b K)=some r:=h;obtain⟨v,w,p,d⟩:=VI h;rw[TC]at d;obtain⟨vs,hs,c,b,e,f⟩:=ih _ _ _ d;rcases iT p with⟨h1,h2⟩|⟨h1,h2⟩
   ·cases he:Qx E fz o.op
    ·rw[he]at h1;obtain⟨B,x,q,j⟩:=RJ h1;injection j with j;injection j with j y
     subst j y;exact⟨_,_,_,_,.rd he ⟨n,.inl ⟨h2,.inl ⟨he,⟨_,q⟩,rfl⟩⟩⟩ e,f⟩
    ·rw[he]at h1;exact⟨_,_,_,_,.ef he ⟨n,.inl ⟨h2,.inr ⟨he,h1⟩⟩⟩ e,f⟩
   ·have h1:some (AV.v undef,H)=some (v,w):=h1;injection h1 with h1;injection h1 with q j
    subst q j;cases he:J5 E fz o
    ·exact⟨_,_,_,_,.rd he ⟨n,.inr ⟨h2,rfl,rfl⟩⟩ e,f⟩
    ·exact⟨_,_,_,_,.ef he ⟨n,.inr ⟨h2,rfl,rfl⟩⟩ e,f⟩
def VP(ef:Oper->Bool)(l:List Oper)(i:Nat):Nat:=((l.take i).filter ef).length
def kQ(o:Oper)(l:List Oper)(val:Nat->AV)(t:Tm):∀i,IN (o::l) val t (λ_=>true) (i+1)=IN l (λj=>val (j+1)) (RS t o.dst (val 0)) (λ_=>true) i:=by
 intro i
 induction i with
 |zero=>rfl
 |succ i ih=>
  have c:IN (o::l) val t (λ_=>true) (i+1+1)=(match true,(o::l)[i+1]? with|true,some b=>RS (IN (o::l) val t (λ_=>true) (i+1)) b.dst (val (i+1))|_,_=>IN (o::l) val t (λ_=>true) (i+1)):=rfl;have d:IN l (λj=>val (j+1)) (RS t o.dst (val 0)) (λ_=>true) (i+1)=(match true,l[i]? with|true,some b=>RS (IN l (λj=>val (j+1)) (RS t o.dst (val 0)) (λ_=>true) i) b.dst (val (i+1))|_,_=>IN l (λj=>val (j+1)) (RS t o.dst (val 0)) (λ_=>true) i):=rfl;rw[c,d,ih,l0r]
theorem Trc.at{S:Oper->Tm->Hp->AV->Hp->Prop}{l:List Oper}{vs:Is}{e:Tm}{H':Hp}(h:Trc S ef l t H vs hs e H'):
 hs.getD 0 []=H/\e=IN l (λj=>vs.getD j .dk) t (λ_=>true) l.length/\H'=hs.getD (VP ef l l.length) []/\
 ∀(i:Nat)(o:Oper),l[i]?=some o->S o (IN l (λj=>vs.getD j .dk) t (λ_=>true) i) (hs.getD (VP ef l i) []) (vs.getD i .dk) (hs.getD (VP ef l (i+1)) []):=by
 induction h with
 |nil=>exact⟨rfl,rfl,rfl,λi o h=>by simp at h⟩
 |@rd o l t H v vs hs e H' he c k ih=>
  obtain⟨h1,h2,f,g⟩:=ih;have hc:∀i,VP ef (o::l) (i+1)=VP ef l i:=λi=>by simp[VP,he]
  have d:∀i,IN (o::l) (λj=>(v::vs).getD j .dk) t (λ_=>true) (i+1)=IN l (λj=>vs.getD j .dk) (RS t o.dst v) (λ_=>true) i:=λi=>by rw[kQ];simp
  refine⟨h1,?_,?_,?_⟩
  ·rw[Mr,d];exact h2
  ·rw[Mr,hc];exact f
  ·intro i p b;cases i with
   |zero=>
    simp at b;subst b;rw[hc,show VP ef (o::l) 0=0 from rfl,show VP ef l 0=0 from rfl,h1];exact c
   |succ i=>
    rw[hc,hc,d];have:=g i p (by simpa using b);simpa using this
 |@ef o l t H n v vs hs e H' he c k ih=>
  obtain⟨h1,h2,f,g⟩:=ih;have hc:∀i,VP ef (o::l) (i+1)=VP ef l i+1:=λi=>by simp[VP,he]
  have d:∀i,IN (o::l) (λj=>(v::vs).getD j .dk) t (λ_=>true) (i+1)=IN l (λj=>vs.getD j .dk) (RS t o.dst v) (λ_=>true) i:=λi=>by rw[kQ];simp
  refine⟨rfl,?_,?_,?_⟩
  ·rw[Mr,d];exact h2
  ·rw[Mr,hc];simpa using f
  ·intro i p b;cases i with
   |zero=>
    simp at b;subst b;rw[hc,show VP ef (o::l) 0=0 from rfl,show VP ef l 0=0 from rfl];have:(H::hs).getD (0+1) []=n:=by simpa using h1
    rw[this];exact c
   |succ i=>
    rw[hc,hc,d];have:=g i p (by simpa using b);simpa using this
def V!:∀(l:List Oper)(n a e:Nat),(FC ef n l)[a]?=some e->∃j o,e=n+j/\l[j]?=some o/\ef o=true/\VP ef l j=a:=by
 intro l
 induction l with
 |nil=>intro n a e h;simp[FC]at h
 |cons o l ih=>
  intro n a e h;unfold FC at h;cases he:ef o
  ·rw[he]at h;obtain⟨j,p,h1,h2,b,c⟩:=ih _ _ _ h;exact⟨j+1,p,by omega,by simpa using h2,b,by simpa [VP,he] using c⟩
  ·rw[he]at h;cases a with
   |zero=>simp at h;exact⟨0,o,by omega,rfl,he,rfl⟩
   |succ a=>
    obtain⟨j,p,h1,h2,b,c⟩:=ih _ _ _ (by simpa using h);exact⟨j+1,p,by omega,by simpa using h2,b,by simpa [VP,he] using c⟩
def B2l:∀(l:List Oper)(n j:Nat)(o:Oper),l[j]?=some o->ef o=true->(FC ef n l)[VP ef l j]?=some (n+j):=by
 intro l
 induction l with
 |nil=>intro n j o h;simp at h
 |cons p l ih=>
  intro n j o h he;unfold FC;cases j with
  |zero=>simp at h;subst h;rw[he];rfl
  |succ j=>
   have:=ih (n+1) j o (by simpa using h) he;cases b:ef p
   ·simpa [VP,b,kE,Nat.add_comm 1 j] using this
   ·simpa [VP,b,kE,Nat.add_comm 1 j] using this
def V':∀(l:List Oper)(n:Nat),(FC ef n l).length=VP ef l l.length:=by
 intro l
 induction l with
 |nil=>intro n;rfl
 |cons p l ih=>
  intro n;unfold FC;cases b:ef p
  ·simpa [VP,b] using ih (n+1)
  ·simpa [VP,b] using ih (n+1)
def vO(l:List Oper){i j:Nat}(h:i<=j):VP ef l i<=VP ef l j:=by
 unfold VP;have:l.take i=(l.take j).take i:=by rw[List.take_take,l22 h]
 rw[this];exact((List.take_sublist i (l.take j)).filter ef).length_le
def Zf{l:List Oper}{o:Oper}(h:l[i]?=some o):VP ef l (i+1)=VP ef l i+(if ef o then 1 else 0):=by
 unfold VP;rw[List.take_add_one,h,List.filter_append,Ez];cases he:ef o<;>simp[he]
def A9M:∀(l:List Oper)(n:Nat),A0Z E ef ms efs n l=true->∀(j:Nat)(o:Oper),l[j]?=some o->ef o=false->Rl E o.op=true\/∀e∈efs,(e<n+j->tb (ms.getD (n+j) 0) e=true)/\(n+j<=e->tb (ms.getD e 0) (n+j)=true):=by
 intro l
 induction l with
 |nil=>intro n _ j o h;simp at h
 |cons p l ih=>
  intro n h j o c he;simp only[A0Z,KK]at h;cases j with
  |zero=>
   simp at c;subst c;have h1:=h.1;rw[he,Bool.false_or,l1i]at h1;rcases h1 with h1|h1
   ·exact .inl h1
   ·refine .inr λe hm=>?_;have:=G9.1 h1 e hm;cases hb:Nat.blt e n
    ·rw[hb]at this;have:¬e<n:=λb=>by rw[<-Xe,hb]at b;cases b
     exact⟨λb=>by omega,λ_=>by simpa using ‹_›⟩
    ·rw[hb]at this;have b:e<n:=by rw[<-Xe];exact hb
     exact⟨λ_=>this,λd=>by omega⟩
  |succ j=>
   have:=ih (n+1) h.2 j o (by simpa using c) he;rw[show n+(j+1)=n+1+j from by omega];exact this
def Stp.aopg(d:XE.Ok D E P)(e:RSound D E P R){all:List Oper}{o:Oper}{c:Hp}(h:Stp E R fz N all o t H v c):B5X P E.G ro N all o (IU all o t) H v c:=by
 obtain⟨_,⟨b,h⟩|⟨b,h1,h2⟩⟩:=h
 ·refine .inl ⟨b,?_⟩;rcases h with⟨_,⟨n,h⟩,rfl⟩|⟨_,h⟩
  ·refine TR.mono (T8 d e h) ?_;rintro k f ⟨j,h⟩;injection h with h;injection h with h
   exact⟨h,j⟩
  ·refine TR.mono (kJ d e h) ?_;intro k f h;injection h with h;injection h with h g
   exact⟨h,g⟩
 ·exact .inr ⟨b,h1,h2⟩
def A6v(w:XE.Ok D E P)(C:RSound D E P R){id:Nat}(hD:yT ops (FC (J5 E cf.fz) 0 ops)=true)(A:A0Z E (J5 E cf.fz) (TG ops) (FC (J5 E cf.fz) 0 ops) 0 ops=true)(h:zdr E R cf.fz cf.n ops ops t H K=some r):
 QA P E.G ro m cf.n (.region id ops.toArray true) (λe t' x=>e=.normal/\K t' x=some r) t H:=by
 obtain⟨vs,hs,t',x,V,hK⟩:=A6u ops t H K h;obtain⟨h0,Q,B,q⟩:=V.at;have hk:=tA hD;have hr:=A9M ops 0 A;have e0:H=(λk=>hs.getD k []) 0:=h0.symm;rw[e0];refine A2n (efs:=FC (J5 E cf.fz) 0 ops) (val:=λj=>vs.getD j .dk) (Hs:=λk=>hs.getD k []) w.mix hk (λo c=>?_) ?_ ?_ ?_
 ·obtain⟨i,hi⟩:=List.getElem?_of_mem c;exact(q i o hi).1
 ·intro i o c O k ae Z;have he:J5 E cf.fz o=false:=by
   cases he:J5 E cf.fz o
   ·rfl
   ·exact absurd (B2l ops 0 i o c he) (by rw[Kk];exact O _)
  have g:=q i o c;have F:VP (J5 E cf.fz) ops (i+1)=VP (J5 E cf.fz) ops i:=by rw[Zf c,he];simp
  rw[F]at g;rcases hr i o c he with hf|d
  ·refine Stp.aopg (fz:=cf.fz) w C ?_;obtain⟨Y,⟨J,h⟩|⟨J,h1,h2⟩⟩:=g
   ·rcases h with⟨_,⟨H0,h⟩,_⟩|⟨h,_⟩
    ·exact⟨Y,.inl ⟨J,.inl ⟨he,⟨H0,by rw[A1A hf _ (hs.getD (VP (J5 E cf.fz) ops i) [])];exact h⟩,rfl⟩⟩⟩
    ·rw[he]at h;cases h
   ·exact⟨Y,.inr ⟨J,h1,rfl⟩⟩
  ·have s:=V' (ef:=J5 E cf.fz) ops 0;have ac:i<ops.length:=(zE.1 c).1;have L:k=VP (J5 E cf.fz) ops i:=by
    rcases Nat.lt_trichotomy k (VP (J5 E cf.fz) ops i) with M|heq|aa
    ·exfalso;have b:k<(FC (J5 E cf.fz) 0 ops).length:=by rw[s];exact l2r M (vO ops (by omega))
     obtain⟨j,p,h1,h2,u,y⟩:=V! ops 0 k _ (KL b);have ad:j<i:=by
      rcases Nat.lt_or_ge j i with h|h
      ·exact h
      ·exfalso;have:=vO (ef:=J5 E cf.fz) ops h;omega
     have:=(d _ (NT b)).1 (by omega);rw[Kk,yO]at this;have:=Z.1 k _ (KL b) (PR this);omega
    ·exact heq
    ·exfalso;have f:VP (J5 E cf.fz) ops i<(FC (J5 E cf.fz) 0 ops).length:=by omega
     obtain⟨j,p,h1,h2,u,y⟩:=V! ops 0 _ _ (KL f);have ab:i<=j:=by
      rcases Nat.lt_or_ge j i with h|h
      ·exfalso;have X:=vO (ef:=J5 E cf.fz) ops (show j+1<=i from h);rw[Zf h2,u]at X;simp at X;omega
      ·exact h
     have:=(d _ (NT f)).2 (by omega);rw[Kk,yO]at this;have:=Z.2 _ _ (KL f) (PR this);omega
   rw[L];exact Stp.aopg (fz:=cf.fz) w C g
 ·intro a i o c hi;obtain⟨j,p,h1,h2,u,y⟩:=V! ops 0 a i hi;rw[Kk]at h1;subst h1;rw[c]at h2;injection h2 with h2;subst h2
  have:=q i o c;rw[Zf c,u,y]at this;exact Stp.aopg (fz:=cf.fz) w C this
 ·refine⟨rfl,?_⟩;rw[<-Q];have:hs.getD (FC (J5 E cf.fz) 0 ops).length []=x:=by rw[V'];exact B.symm
  rw[this];exact hK
def A2R{all:List Oper}:∀(l:List Oper)(t:Tm)(H:Hp)(K:List Tm->Is->List Hp->Tm->Ru),rU E R fz N all l t H K=some r->
 ∃ts vs hs c b,Trc (Stp E R fz N all) (J5 E fz) l t H vs hs c b/\K ts vs hs c b=some r/\vs.length=l.length/\∀(i:Nat)(o:Oper),l[i]?=some o->ts[i]?=some (IU all o (IN l (λj=>vs.getD j .dk) t (λ_=>true) i)):=by
 intro l
 induction l with
 |nil=>intro t H K h;exact⟨_,_,_,_,_,.nil,h,rfl,λi o h=>by simp at h⟩
 |cons o l ih=>
  intro t H K h;have h:A2e N o.dst (dE (OB all o) t λx=>A7A o.guard
   (@Bool.rec (λ_=>Af) (A0k E R x H o.op λv=>QJ t o.dst v λc=>rU E R fz N all l c H λts vs hs=>K (x::ts) (v::vs) hs) (D6 (zop E R fz x H o.op λv b=>some (v,b)) λv b=>QJ t o.dst v λc=>rU E R fz N all l c b λts vs hs=>K (x::ts) (v::vs) (H::hs)) (Qx E fz o.op))
   (D6 (A6q E R fz all o x H) λv b=>QJ t o.dst v λc=>rU E R fz N all l c b λts vs hs=>K (x::ts) (v::vs) (@Bool.rec (λ_=>List Hp) hs (H::hs) (Qx E fz o.op))))=some r:=h
  obtain⟨w,h⟩:=nJ h;rw[A0n]at h;have F:iP (OB all o) t=IU all o t:=rfl;rw[F]at h;have key:∀(v:AV)(ts:List Tm)(vs:Is),(∀(i:Nat)(p:Oper),l[i]?=some p->ts[i]?=some (IU all p (IN l (λj=>vs.getD j .dk) (RS t o.dst v) (λ_=>true) i)))->
   ∀(i:Nat)(p:Oper),(o::l)[i]?=some p->(IU all o t::ts)[i]?=some (IU all p (IN (o::l) (λj=>(v::vs).getD j .dk) t (λ_=>true) i)):=by
   intro v ts vs M i p C;cases i with
   |zero=>simp at C;subst C;rfl
   |succ i=>
    rw[kQ];have:=M i p (by simpa using C);simpa using this
  cases u:o.guard with
  |none=>
   have q:Hf all (IU all o t) o=.run:=by unfold Hf;rw[u]
   rw[u]at h;have h:@Bool.rec (λ_=>Af) (A0k E R (IU all o t) H o.op λv=>QJ t o.dst v λc=>rU E R fz N all l c H λts vs hs=>K (IU all o t::ts) (v::vs) hs) (D6 (zop E R fz (IU all o t) H o.op λv b=>some (v,b)) λv b=>QJ t o.dst v λc=>rU E R fz N all l c b λts vs hs=>K (IU all o t::ts) (v::vs) (H::hs)) (Qx E fz o.op)=some r:=h;cases he:Qx E fz o.op
   ·rw[he]at h;obtain⟨v,L,y,f⟩:=yC h;rw[TC]at f;obtain⟨ts,vs,hs,c,b,g,e,k,n⟩:=ih _ _ _ f;exact⟨_,_,_,_,_,.rd he ⟨w,.inl ⟨.inl q,.inl ⟨he,⟨_,y⟩,rfl⟩⟩⟩ g,e,by simp[k],key v ts vs n⟩
   ·rw[he]at h;obtain⟨v,J,y,f⟩:=VI h;rw[TC]at f;obtain⟨ts,vs,hs,c,b,g,e,k,n⟩:=ih _ _ _ f;exact⟨_,_,_,_,_,.ef he ⟨w,.inl ⟨.inl q,.inr ⟨he,y⟩⟩⟩ g,e,by simp[k],key v ts vs n⟩
  |some Q=>
   rw[u]at h;have h:(D6 (A6q E R fz all o (IU all o t) H) λv b=>QJ t o.dst v λc=>rU E R fz N all l c b λts vs hs=>K (IU all o t::ts) (v::vs) (@Bool.rec (λ_=>List Hp) hs (H::hs) (Qx E fz o.op)))=some r:=h;obtain⟨v,J,y,f⟩:=VI h;rw[TC]at f;obtain⟨ts,vs,hs,c,b,g,e,k,n⟩:=ih _ _ _ f;rcases iT y with⟨h1,h2⟩|⟨h1,h2⟩
   ·cases he:Qx E fz o.op
    ·rw[he]at h1 e;obtain⟨O,L,B,d⟩:=RJ h1;injection d with d;injection d with d A
     subst d A;exact⟨_,_,_,_,_,.rd he ⟨w,.inl ⟨h2,.inl ⟨he,⟨_,B⟩,rfl⟩⟩⟩ g,e,by simp[k],key O ts vs n⟩
    ·rw[he]at h1 e;exact⟨_,_,_,_,_,.ef he ⟨w,.inl ⟨h2,.inr ⟨he,h1⟩⟩⟩ g,e,by simp[k],key v ts vs n⟩
   ·have h1:some (AV.v undef,H)=some (v,J):=h1;injection h1 with h1;injection h1 with B d
    subst B d;cases he:J5 E fz o
    ·have s:Qx E fz o.op=false:=he;rw[s]at e;exact⟨_,_,_,_,_,.rd he ⟨w,.inr ⟨h2,rfl,rfl⟩⟩ g,e,by simp[k],key _ ts vs n⟩
    ·have s:Qx E fz o.op=true:=he;rw[s]at e;exact⟨_,_,_,_,_,.ef he ⟨w,.inr ⟨h2,rfl,rfl⟩⟩ g,e,by simp[k],key _ ts vs n⟩
def Zt:∀{l:List α}{n:Nat}{K:α->Af},xA l n K=some r->∃a,l[n]?=some a/\K a=some r:=by
 intro l
 induction l with
 |nil=>intro n K h;cases h
 |cons a l ih=>
  intro n K h;cases n with
  |zero=>exact⟨a,rfl,h⟩
  |succ n=>
   obtain⟨b,h1,h2⟩:=ih (show xA l n K=some r from h);exact⟨b,by simpa using h1,h2⟩
def A6x{all:List Oper}{ts:List Tm}{vs:Is}{K:Af}:∀{bs:List (Nat×Nat)},A6y E R all bs ts vs hs K=some r->
 K=some r/\∀p∈bs,∃o b v e,all[p.1]?=some o/\ts[p.1]?=some b/\vs[p.1]?=some v/\hs[p.2]?=some e/\(((Hf all b o=.run\/Hf all b o=.dep true)/\∃f,RL E R b e o.op (λu=>some (u,[]))=some (v,f))\/(Hf all b o=.skip\/Hf all b o=.dep false)):=by
 intro bs
 induction bs with
 |nil=>intro h;exact⟨h,λp d=>by simp at d⟩
 |cons p bs ih=>
  intro h;obtain⟨i,k⟩:=p;have h:(xA all i λo=>xA ts i λb=>xA vs i λv=>xA hs k λH=>QB (gdK all b o.guard λg=>@Bool.rec (λ_=>Af) (some (.v (.bool true),[])) (Bc (RL E R b H o.op λu=>some (u,[])) v) g) (A6y E R all bs ts vs hs K))=some r:=h;obtain⟨o,h1,h⟩:=Zt h;obtain⟨b,h2,h⟩:=Zt h;obtain⟨v,n,h⟩:=Zt h;obtain⟨e,q,h⟩:=Zt h;obtain⟨⟨f,s⟩,w⟩:=B0C h;obtain⟨x,y⟩:=ih w;refine⟨x,λp d=>?_⟩;simp only[Xd]at d;rcases d with rfl|d
  ·refine⟨o,b,v,e,h1,h2,n,q,?_⟩;rcases iT s with⟨j,c⟩|⟨j,c⟩
   ·exact .inl ⟨c,sZ j⟩
   ·exact .inr c
  ·exact y p d
def B4D{i k:Nat}(g:C2B ops efs i k):∀(l:Hb)(a:Nat),(∀b,l[b]?=efs[a+b]?)->A7a (TG ops) i k a l=true:=by
 intro l
 induction l with
 |nil=>intro a _;rfl
 |cons e l ih=>
  intro a f;have d:efs[a]?=some e:=by have:=f 0;simpa using this.symm
  simp only[A7a,KK,l1i,l19];refine⟨?_,?_,ih (a+1) λb=>?_⟩
  ·cases c:tb ((TG ops).getD i 0) e
   ·exact .inl rfl
   ·refine .inr ?_;rw[yO]at c;rw[Xe];exact g.1 a e d (PR c)
  ·cases c:tb ((TG ops).getD e 0) i
   ·exact .inl rfl
   ·refine .inr ?_;rw[yO]at c;rw[kD];exact g.2 a e d (PR c)
  ·have:=f (b+1);rw[l0r]at this;rw[this];congr 1;omega
def A70:∀(l:List Oper)(n c:Nat),A71 E ef ms efs bs n c l=true->∀(j:Nat)(o:Oper),l[j]?=some o->ef o=false->Rl E o.op=true\/∀k,k<=efs.length->A7a ms (n+j) k 0 efs=true->k=c+VP ef l j\/(n+j,k)∈bs:=by
 intro l
 induction l with
 |nil=>intro n c _ j o h;simp at h
 |cons p l ih=>
  intro n c h j o f he;simp only[A71,KK]at h;cases j with
  |zero=>
   simp at f;subst f;have h1:=h.1;rw[he,Bool.false_or,l1i]at h1;rcases h1 with h1|h1
   ·exact .inl h1
   ·refine .inr λk s e=>?_;have h2:=G9.1 h1 k (KT.2 (by omega));rw[Nat.add_zero]at e;rw[e]at h2;simp only[l1i,Bool.not_true,xT,false_or,KK,List.any_eq_true]at h2;rcases h2 with h2|⟨q,hq,b,d⟩
    ·exact .inl (by rw[Zy h2];simp[VP])
    ·refine .inr ?_;obtain⟨q1,q2⟩:=q;have b:=Zy b;have d:=Zy d;simp only at b d;subst b d;exact hq
  |succ j=>
   have:=ih (n+1) _ h.2 j o (by simpa using f) he;rw[show n+(j+1)=n+1+j from by omega];rcases this with b|b
   ·exact .inl b
   ·refine .inr λk s e=>?_;rcases b k s e with d|d
    ·refine .inl ?_;rw[d];cases g:ef p<;>simp[VP,g]
     omega
    ·exact .inr d
def rT(w:XE.Ok D E P)(F:RSound D E P R){id:Nat}(hD:yT ops (FC (J5 E cf.fz) 0 ops)=true)(M:A71 E (J5 E cf.fz) (TG ops) (FC (J5 E cf.fz) 0 ops) bs 0 0 ops=true)(h:(rU E R cf.fz cf.n ops ops t H λts vs hs J u=>A6y E R ops bs ts vs hs (K J u))=some r):
 QA P E.G ro m cf.n (.region id ops.toArray true) (λe J u=>e=.normal/\K J u=some r) t H:=by
 obtain⟨ts,vs,hs,J,u,ac,Q,ae,ad⟩:=A2R ops t H _ h;obtain⟨Q,x⟩:=A6x Q;obtain⟨h0,ab,O,s⟩:=ac.at;have hk:=tA hD;have hr:=A70 ops 0 0 M;have e0:H=(λk=>hs.getD k []) 0:=h0.symm;rw[e0];refine A2n (efs:=FC (J5 E cf.fz) 0 ops) (val:=λj=>vs.getD j .dk) (Hs:=λk=>hs.getD k []) w.mix hk (λo c=>?_) ?_ ?_ ?_
 ·obtain⟨i,hi⟩:=List.getElem?_of_mem c;exact(s i o hi).1
 ·intro i o c aa k Z hp;have he:J5 E cf.fz o=false:=by
   cases he:J5 E cf.fz o
   ·rfl
   ·exact absurd (B2l ops 0 i o c he) (by rw[Kk];exact aa _)
  have g:=s i o c;have V:VP (J5 E cf.fz) ops (i+1)=VP (J5 E cf.fz) ops i:=by rw[Zf c,he];simp
  rw[V]at g;rcases hr i o c he with hf|A
  ·refine Stp.aopg (fz:=cf.fz) w F ?_;obtain⟨y,⟨d,h⟩|⟨d,h1,h2⟩⟩:=g
   ·rcases h with⟨_,⟨L,h⟩,_⟩|⟨h,_⟩
    ·exact⟨y,.inl ⟨d,.inl ⟨he,⟨L,by rw[A1A hf _ (hs.getD (VP (J5 E cf.fz) ops i) [])];exact h⟩,rfl⟩⟩⟩
    ·rw[he]at h;cases h
   ·exact⟨y,.inr ⟨d,h1,rfl⟩⟩
  ·rcases A k Z (by rw[Kk];exact B4D hp _ 0 (λb=>by rw[Kk])) with Y|q
   ·rw[Y,Kk];exact Stp.aopg (fz:=cf.fz) w F g
   ·rw[Kk]at q;obtain⟨o',t1,v,Hk,h1,h2,B,C,f⟩:=x _ q;simp only at h1 h2 B C;rw[c]at h1;injection h1 with h1;subst h1
    rw[ad i o c]at h2;injection h2 with h2;subst h2
    have hv:vs.getD i .dk=v:=by rw[UT,B];rfl
    have X:hs.getD k []=Hk:=by rw[UT,C];rfl
    refine Stp.aopg (fz:=cf.fz) w F ?_;obtain⟨y,⟨d,h⟩|⟨d,h1,h2⟩⟩:=g
    ·rcases f with⟨_,L,f⟩|f
     ·refine⟨y,.inl ⟨d,.inl ⟨he,⟨L,?_⟩,rfl⟩⟩⟩;rw[hv,X];exact f
     ·exfalso;rcases d with d|d<;>rcases f with f|f<;>(rw[d]at f;cases f)
    ·exact⟨y,.inr ⟨d,h1,rfl⟩⟩
 ·intro a i o c hi;obtain⟨j,p,h1,h2,B,C⟩:=V! ops 0 a i hi;rw[Kk]at h1;subst h1;rw[c]at h2;injection h2 with h2;subst h2
  have:=s i o c;rw[Zf c,B,C]at this;exact Stp.aopg (fz:=cf.fz) w F this
 ·refine⟨rfl,?_⟩;rw[<-ab];have:hs.getD (FC (J5 E cf.fz) 0 ops).length []=u:=by rw[V'];exact O.symm
  rw[this];exact Q
def A2Q(g:XE.Ok D E P)(j:RSound D E P R){id:Nat}(b:tB E cf id ops=true)(h:C1w E R cf id ops t H K=some r):
 QA P E.G ro m cf.n (.region id ops.toArray true) (λe f d=>e=.normal/\K f d=some r) t H:=by
 unfold tB at b;rw[KK]at b;have h:(match A9N id cf.rc with
  |none=>zdr E R cf.fz cf.n ops ops t H K
  |some bs=>rU E R cf.fz cf.n ops ops t H λts vs hs f d=>A6y E R ops bs ts vs hs (K f d))=some r:=h
 cases c:A9N id cf.rc with
 |none=>rw[c]at b h;exact A6v g j b.1 b.2 h
 |some bs=>rw[c]at b h;exact rT g j b.1 b.2 h
def A0q(f:∀E cf id ops,D E cf id ops=true->tB E cf id ops=true)(d:XE.Ok D E P)(e:RSound D E P R):A4V D E P (A51 E R):=by
 intro ro cf id ops t H K r m hb h;unfold A51 at h;cases c:cf.b
 ·rw[c]at h;exact A2Q d e (f _ _ _ _ (hb c)) h
 ·rw[c]at h;unfold C1v at h;obtain⟨h1,h2⟩:=LZ h;rw[KK]at h1;exact rT d e h1.1 h1.2 h2
end
end
def jn{α:Type}(k:α)(F:α->Af):Af:=(λ(_:Unit)=>F k) Ic
def oY(R:Rt)(n:Nat)(f:AV)(t:Tm)(ps:Array Tmp)(d e:Code)(H:Hp)(K:Option (Option Code)->Ru):Af:=
 match f with
 |.fn (.func g) first cap=>It H λs=>YX first (.yl s::cap) λall=>R.call g all ((s,.loop n t ps d e (some none))::H) λ_ b=>IQ b s λx=>dI x λ_ _ _ _ _ a=>LJ b s .gone λc=>K a c
 |_=>none
def oE(p:Option (Option Code))(x y:Af)(e g:Nat->Af):Af:=
 match p with
 |some none=>x
 |some (some .ret)=>y
 |some (some (.exit id))=>e id
 |some (some (.goto l))=>g l
 |_=>none
def rdK(run:A01)(N:Nat)(t:Tm)(ps:Array Tmp)(args:Is)(f g:Code)(H:Hp)(P:Hp->Ru->Af)(Q:Exit->Ru):Af:=
 A3g t ps.toList args λa=>run ⟨true,a.map (·.1),false,N,[]⟩ f a H λe h b=>match e with
  |.normal=>P b λc=>run ⟨true,a.map (·.1),false,N,[]⟩ g h c λe _ d=>Q e d
  |_=>none
def A0V:Code->List (Operand×Array Tmp×Code×Code)
 |.seq x y=>A0V x++A0V y
 |.cond _ x y=>A0V x++A0V y
 |.block _ x=>A0V x
 |.loop x=>A0V x
 |.scope x=>A0V x
 |.rangeFunc g ps a b=>[(g,ps,a,b)]
 |_=>[]
def X0(c:Code)(k:Nat):Operand×Array Tmp×Code×Code:=(A0V c).getD k (.func 0,#[],.skip,.skip)
abbrev zI:AV:=.v (.int .i64 0)
abbrev zS:AV:=.v (.string ⟨⟨[]⟩⟩)
abbrev zL:AV:=.v (.slice none 0 0)
abbrev zB:AV:=.v (.bool false)
section
variable{s u:Ha}
abbrev I(n:Int):AV:=.v (.int .i64 n)
abbrev Bo(b:Bool):AV:=.v (.bool b)
abbrev S(l:Ha):AV:=.v (.string ⟨⟨l⟩⟩)
section
variable{K:K2}{i j:TI}{k:IntKind}{a b:Int}
def Dl:As i .add (.v (.int k a)) (.v (.int k b)) K=K (.v (.int k (k.wrap (a+b)))):=by
 have:As i .add (.v (.int k a)) (.v (.int k b)) K=ck (decide (k=k)) (MQ k (a+b) λz=>K (.v (.int k z))):=rfl;rw[this,GI rfl];exact HP _ _ _
def J6:As i .sub (.v (.int k a)) (.v (.int k b)) K=K (.v (.int k (k.wrap (a-b)))):=by
 have:As i .sub (.v (.int k a)) (.v (.int k b)) K=ck (decide (k=k)) (MQ k (a-b) λz=>K (.v (.int k z))):=rfl;rw[this,GI rfl];exact HP _ _ _
def OU:As i .mul (.v (.int k a)) (.v (.int k b)) K=K (.v (.int k (k.wrap (a*b)))):=by
 have:As i .mul (.v (.int k a)) (.v (.int k b)) K=ck (decide (k=k)) (MQ k (a*b) λz=>K (.v (.int k z))):=rfl;rw[this,GI rfl];exact HP _ _ _
def A2b(h:b≠0):As i .quo (.v (.int k a)) (.v (.int k b)) K=K (.v (.int k (k.wrap (a.tdiv b)))):=by
 have:As i .quo (.v (.int k a)) (.v (.int k b)) K=ck (decide (k=k)) (ck (!ieq b 0) (MQ k (a.tdiv b) λz=>K (.v (.int k z)))):=rfl;rw[this,GI rfl,QX,HN h];exact HP _ _ _
def Q9(h:b≠0):As i .rem (.v (.int k a)) (.v (.int k b)) K=K (.v (.int k (a.tmod b))):=by
 have:As i .rem (.v (.int k a)) (.v (.int k b)) K=ck (decide (k=k)) (ck (!ieq b 0) (fI (a.tmod b) λz=>K (.v (.int k z)))):=rfl;rw[this,GI rfl,QX,HN h];exact VC (a.tmod b) (λz=>K (.v (.int k z)))
def Dk:As i .lss (.v (.int k a)) (.v (.int k b)) K=K (Bo (decide (a<b))):=by
 have:As i .lss (.v (.int k a)) (.v (.int k b)) K=ck (decide (k=k)) (bB (!qL b a) K):=rfl;rw[this,GI rfl,LI];have e:(!decide (b<=a))=decide (a<b):=by rw[uQ];simp
 rw[e];exact OX _ _
def jL:As i .leq (.v (.int k a)) (.v (.int k b)) K=K (Bo (decide (a<=b))):=by
 have:As i .leq (.v (.int k a)) (.v (.int k b)) K=ck (decide (k=k)) (bB (qL a b) K):=rfl;rw[this,GI rfl,LI];exact OX _ _
def DT:As i .gtr (.v (.int k a)) (.v (.int k b)) K=K (Bo (decide (b<a))):=by
 have:As i .gtr (.v (.int k a)) (.v (.int k b)) K=ck (decide (k=k)) (bB (!qL a b) K):=rfl;rw[this,GI rfl,LI];have e:(!decide (a<=b))=decide (b<a):=by rw[uQ];simp
 rw[e];exact OX _ _
def KX:As i .geq (.v (.int k a)) (.v (.int k b)) K=K (Bo (decide (b<=a))):=by
 have:As i .geq (.v (.int k a)) (.v (.int k b)) K=ck (decide (k=k)) (bB (qL b a) K):=rfl;rw[this,GI rfl,LI];exact OX _ _
def Cv:As i .eql (.v (.int k a)) (.v (.int k b)) K=K (Bo (decide (a=b))):=by
 have:As i .eql (.v (.int k a)) (.v (.int k b)) K=ck (decide (k=k)) (bB (ieq a b) K):=rfl;rw[this,GI rfl,QX];exact OX _ _
def I6:As i .neq (.v (.int k a)) (.v (.int k b)) K=K (Bo (!decide (a=b))):=by
 have:As i .neq (.v (.int k a)) (.v (.int k b)) K=ck (decide (k=k)) (bB (!ieq a b) K):=rfl;rw[this,GI rfl,QX];exact OX _ _
def Lb:As i .eql (S s) (S u) K=K (Bo (decide (s=u))):=by
 have:As i .eql (S s) (S u) K=bB (eqB s u) K:=rfl;rw[this,QZ,OX,show(s==u)=decide (s=u) from by by_cases h:s=u<;>simp[h]]
def ZC:As i .neq (S s) (S u) K=K (Bo (!decide (s=u))):=by
 have:As i .neq (S s) (S u) K=bB (!eqB s u) K:=rfl;rw[this,QZ,OX,show(s==u)=decide (s=u) from by by_cases h:s=u<;>simp[h]]
def Fa{q:Bool}{x y:Af}:A1 (Bo q) x y=if q=true then x else y:=by cases q<;>rfl
end
def BH{α:Type}(k:α)(F:α->Af):jn k F=F k:=rfl
def CX{x:Int}(h1: -9223372036854775808<=x)(h2:x<9223372036854775808):IntKind.i64.wrap x=x:=by
 simp only[IntKind.wrap,IntKind.bits,IntKind.signed];have c:(2^64:Int)=18446744073709551616:=by decide
 have d:(2^(64-1):Int)=9223372036854775808:=by decide
 simp only[c,d,l1b,decide_eq_true_eq];split<;>omega
end
def A2L{E:XE}{g:Nat}{R:Rt}{args:Is}{H:Hp}{K:K2}(h:∀s,args≠[.ptr s 0 0]):zpm E g R args H K=Aq R g args H K:=by
 show @Bool.rec (λ_=>Af) (Aq R g args H K) (Lc R g args H K) (E.lm g)=_;cases E.lm g
 ·rfl
 ·show Lc R g args H K=_;unfold Lc;split
  ·rename_i s;exact absurd rfl (h s)
  ·rfl
section
variable{v:AV}{b q q':Bool}{H:Hp}{args:Is}{D n:Nat}{P:Program}{R:Rt}{F:Rt->AV->AV->AV->AV->Hp->KV->Af}{α:Type}{x:Value}
def BT.All(p:Nat->α->Prop):BT α->Prop
 |.leaf=>True
 |.node k v l r=>p k v/\l.All p/\r.All p
def Z?{p:Nat->α->Prop}:(BT.leaf:BT α).All p:=trivial
def Z!{p:Nat->α->Prop}{k:Nat}{v:α}{l r:BT α}(h:p k v)(a:l.All p)(hr:r.All p):(BT.node k v l r).All p:=⟨h,a,hr⟩
theorem BT.All.get{p:Nat->α->Prop}:∀{b:BT α},b.All p->∀{i:Nat}{v:α},b.get i=some v->p i v:=by
 intro b
 induction b with
 |leaf=>intro _ i v h;cases h
 |node k w l r a c=>
  intro e i v h;obtain⟨h1,h2,d⟩:=e;simp only[BT.get]at h;split at h
  ·rename_i g;injection h with h
   subst h;rw[Zy g];exact h1
  ·split at h
   ·exact a h2 h
   ·exact c d h
abbrev NF:=Rt->Is->Hp->KV->Af
def ar0(F:Hp->KV->Af)(l:Is):Hp->KV->Af:=match l with|[]=>F|_=>λ_ _=>none
def ar1(F:AV->Hp->KV->Af)(l:Is):Hp->KV->Af:=match l with|[a]=>F a|_=>λ_ _=>none
def ar2(F:AV->AV->Hp->KV->Af)(l:Is):Hp->KV->Af:=match l with|[a,b]=>F a b|_=>λ_ _=>none
def ar3(F:AV->AV->AV->Hp->KV->Af)(l:Is):Hp->KV->Af:=match l with|[a,b,c]=>F a b c|_=>λ_ _=>none
def ar4(F:AV->AV->AV->AV->Hp->KV->Af)(l:Is):Hp->KV->Af:=match l with|[a,b,c,d]=>F a b c d|_=>λ_ _=>none
def Pt(E:XE)(R:Rt):A01:=λa c t H K=>fQ E R (A51 E R) a c t H K
def Lk(E:XE)(f:Nat)(F:NF):Prop:=∀(R:Rt)(args:Is)(H:Hp)(K:KV)(r:AV×Hp),F R args H K=some r->zfn E (Pt E R) f args H K=some r
def lk0{E:XE}{f:Nat}{F:Rt->Hp->KV->Af}(h:∀R H K,zfn E (Pt E R) f [] H K=F R H K):Lk E f λR=>ar0 (F R):=λR args H K r hr=>by
 match args,hr with
 |[],hr=>exact(h R H K).trans hr
def lk1{E:XE}{f:Nat}{F:Rt->AV->Hp->KV->Af}(h:∀R a H K,zfn E (Pt E R) f [a] H K=F R a H K):Lk E f λR=>ar1 (F R):=λR args H K r hr=>by
 match args,hr with
 |[a],hr=>exact(h R a H K).trans hr
def lk2{E:XE}{f:Nat}{F:Rt->AV->AV->Hp->KV->Af}(h:∀R a b H K,zfn E (Pt E R) f [a,b] H K=F R a b H K):Lk E f λR=>ar2 (F R):=λR args H K r hr=>by
 match args,hr with
 |[a,b],hr=>exact(h R a b H K).trans hr
def lk3{E:XE}{f:Nat}{F:Rt->AV->AV->AV->Hp->KV->Af}(h:∀R a b c H K,zfn E (Pt E R) f [a,b,c] H K=F R a b c H K):Lk E f λR=>ar3 (F R):=λR args H K r hr=>by
 match args,hr with
 |[a,b,c],hr=>exact(h R a b c H K).trans hr
def lk4{E:XE}{f:Nat}(h:∀R a b c d H K,zfn E (Pt E R) f [a,b,c,d] H K=F R a b c d H K):Lk E f λR=>ar4 (F R):=λR args H K r hr=>by
 match args,hr with
 |[a,b,c,d],hr=>exact(h R a b c d H K).trans hr
def Zg(E:XE)(nT:BT NF)(R:Rt):B2y:=λf args H K=>match nT.get f with|some F=>F R args H K|none=>zfn E (Pt E R) f args H K
abbrev OF:=Is->Hp->KV->Af->Af
def E!(E:XE)(P:Program)(f:Nat)(F:OF):Prop:=∀(args:Is)(H:Hp)(K:KV)(alt:Af)(r:AV×Hp),F args H K alt=some r->
 alt=some r\/(dC P f/\Rh P E.G f args H (λc a=>K c a=some r))
def A2j(E:XE)(nT:BT NF)(oT:BT OF)(R:Rt):B2y:=λf args H K=>match oT.get f with
 |some F=>F args H K (Zg E nT R f args H K)
 |none=>Zg E nT R f args H K
def WX(E:XE)(nT:BT NF)(oT:BT OF)(n:Nat):Rt:=@Nat.rec (λ_=>Rt) ⟨λ_ _ _ _=>none,λ_ _ _ _ _=>none⟩ (λ_ R=>⟨A2j E nT oT R,Pt E R⟩) n
section
variable{E:XE}{nT:BT NF}{oT:BT OF}{f:Nat}
def Vw{F:NF}(h:nT.get f=some F)(a:oT.get f=none)(n:Nat)(args:Is)(H:Hp)(K:KV):(WX E nT oT (n+1)).call f args H K=F (WX E nT oT n) args H K:=by
 show A2j E nT oT (WX E nT oT n) f args H K=_;unfold A2j;rw[a];unfold Zg;simp only[h]
def A3V{F:Rt->Hp->KV->Af}(h:nT.get f=some λR=>ar0 (F R))(a:oT.get f=none)(n:Nat)(H:Hp)(K:KV):(WX E nT oT (n+1)).call f [] H K=F (WX E nT oT n) H K:=Vw h a n _ H K
def A3U{F:Rt->AV->Hp->KV->Af}(h:nT.get f=some λR=>ar1 (F R))(c:oT.get f=none)(n:Nat)(a:AV)(H:Hp)(K:KV):(WX E nT oT (n+1)).call f [a] H K=F (WX E nT oT n) a H K:=Vw h c n _ H K
def A3T{F:Rt->AV->AV->Hp->KV->Af}(h:nT.get f=some λR=>ar2 (F R))(c:oT.get f=none)(n:Nat)(a b:AV)(H:Hp)(K:KV):(WX E nT oT (n+1)).call f [a,b] H K=F (WX E nT oT n) a b H K:=Vw h c n _ H K
def A3S{F:Rt->AV->AV->AV->Hp->KV->Af}(h:nT.get f=some λR=>ar3 (F R))(d:oT.get f=none)(n:Nat)(a b c:AV)(H:Hp)(K:KV):(WX E nT oT (n+1)).call f [a,b,c] H K=F (WX E nT oT n) a b c H K:=Vw h d n _ H K
def A3R(h:nT.get f=some λR=>ar4 (F R))(e:oT.get f=none)(n:Nat)(a b c d:AV)(H:Hp)(K:KV):(WX E nT oT (n+1)).call f [a,b,c,d] H K=F (WX E nT oT n) a b c d H K:=Vw h e n _ H K
end
def A3Q{E:XE}{nT:BT NF}{oT:BT OF}(e:XE.Ok tB E P)(s:nT.All (Lk E))(p:oT.All (E! E P)):∀n,RSound tB E P (WX E nT oT n):=by
 intro n
 induction n with
 |zero=>
  refine⟨?_,?_⟩
  ·intro ro k c t H K r m h1 h2 h;cases h
  ·intro f args H K r h;cases h
 |succ n ih=>
  have u:A4V tB E P (A51 E (WX E nT oT n)):=A0q (λ_ _ _ _ h=>h) e ih;have a:jZ tB E P (Pt E (WX E nT oT n)):=λro k c t H K r m i w h=>A0r e ih u i c t H K w h;have d:∀(f:Nat)(args:Is)(H:Hp)(K:KV)(r:AV×Hp),Zg E nT (WX E nT oT n) f args H K=some r->dC P f/\Rh P E.G f args H (λv j=>K v j=some r):=λf args H K r h=>by
   unfold Zg at h;split at h
   ·rename_i F g;exact yE e a (s.get g _ _ _ _ _ h)
   ·exact yE e a h
  refine⟨a,λf args H K r h=>?_⟩;have h:A2j E nT oT (WX E nT oT n) f args H K=some r:=h;unfold A2j at h;split at h
  ·rename_i F g;rcases p.get g _ _ _ _ _ h with h|h
   ·exact d f args H K r h
   ·exact h
  ·exact d f args H K r h
def fD{G:Gl}{f:Nat}{K:KV}{r:AV×Hp}(g:K (.v x) H=some r)(hc:∀w0 C w a,Rel G w0 C H w->CF C w args a->Calls P f a.toArray w λe c=>e=.returned x/\Below w.heap.size w c):Rh P G f args H (λi d=>K i d=some r):=λw0 C w a hr h=>
 (hc w0 C w a hr h).mono λe c ⟨he,hb⟩=>⟨.v x,x,C,H,he,hr.of_below hb,.v _,(hr.ext_below hb).frm,g⟩
def PS(R:Rt)(f:Nat)(args:Is)(v:AV):Prop:=∀H K,Aq R f args H K=K v
def Fx(b:Bool)(D:Nat)(a c:AV)(H:Hp)(q:Bool):Prop:=∀K:Bool->K2,Ia b H D a K=K q c
def CA:Fx b D (.v x) (.v x) H false:=λK=>by cases D<;>rfl
def OD{cs:Is}:Fx true D (.list n cs) (.list n cs) H false:=λK=>by cases D<;>rfl
def Rx{cs:Is}:Fx true D (.iptr cs) (.iptr cs) H false:=λK=>by cases D<;>rfl
def iW{es:IH}:Fx true D (.imap es) (.imap es) H false:=λK=>by cases D<;>rfl
def Rm(b:Bool)(D:Nat)(l a:Is)(H:Hp)(q:Bool):Prop:=∀K:Bool->Is->Af,IK (Ia b H D) l K=K q a
def AI:Rm b D [] [] H false:=λ_=>rfl
def Ao{a c:AV}{l d:Is}(h:Fx b D a c H q)(k:Rm b D l d H q'):Rm b D (a::l) (c::d) H (q||q'):=λK=>by
 have e:IK (Ia b H D) (a::l) K=Ia b H D a λq c=>IK (Ia b H D) l λq' d=>K (@Bool.rec (λ_=>Bool) q' true q) (c::d):=rfl;rw[e,h,k];cases q<;>rfl
theorem K7(f:α->Value):∀(l:List α),Rm b D (l.map λx=>.v (f x)) (l.map λx=>.v (f x)) H false
 |[]=>AI
 |a::l=>Ao (q:=false) (q':=false) CA (K7 f l)
def LL{cs cs':Is}(h:Rm b D cs cs' H q):Fx b (D+1) (.agg cs) (.agg cs') H q:=λK=>h _
def eQ{cs cs':Is}(h:Rm b D cs cs' H q):Fx b (D+1) (.tup cs) (.tup cs') H q:=λK=>h _
def Bn{r:Nat}{x:Row}{K:Row->Af}(h:Ai H r=some x):IQ H r K=K x:=by
 induction H with
 |nil=>simp[Ai]at h
 |cons p H ih=>
  obtain⟨k,y⟩:=p;simp only[Ai]at h;have e:IQ ((k,y)::H) r K=@Bool.rec (λ_=>Af) (IQ H r K) (K y) (Nat.beq r k):=rfl;rw[e];by_cases a:r=k
  ·rw[Dr a]at h;rw[a,oH,<-(iF h).1]
  ·rw[CD a]at h;have:Nat.beq r k=false:=by
    cases hb:Nat.beq r k
    ·rfl
    ·exact absurd (Zy hb) a
   rw[this];exact ih h
def VA{sz s n:Nat}{e:TypeId}{cs cs':Is}(i:Ai H s=some (.cells q e cs))(hn:cs.length=n*sz)(h:Rm b D cs cs' H q'):Fx b (D+1) (.sl sz s 0 n) (.list n cs') H true:=λK=>by
 have d:Ia b H (D+1) (.sl sz s 0 n) K=IQ H s λx=>Kq x λ_ cs=>EL (Nat.mul n sz) (Do 0 cs) λc=>IK (Ia b H D) c λ_ a=>K true (.list n a):=rfl;rw[d,Bn i];have g:(Kq (.cells q e cs) λ_ cs=>EL (Nat.mul n sz) (Do 0 cs) λc=>IK (Ia b H D) c λ_ a=>K true (.list n a))=EL (n*sz) cs λc=>IK (Ia b H D) c λ_ a=>K true (.list n a):=rfl;rw[g,KZ _ _ _ (by omega),l25 (by omega),h]
def CS(R:Rt)(f:Nat)(args:Is)(v:AV):Prop:=∀K:KV,(∀c a,(∀b,∃q,Fx b depth c v a q)->K c a=some (v,[]))->R.call f args [] K=some (v,[])
def AQ{f:Nat}{args args':Is}{K:K2}(hc:CS R f args' v)(e:Rm true depth args args' H q):Aq R f args H K=K v:=by
 unfold Aq;rw[e];have:=hc (λa c=>Ia (!q) c depth a λ_ g=>some (g,[])) (λa i h=>by
  obtain⟨q',d⟩:=h (!q);exact d _)
 rw[this];rfl
def CS.ps{f:Nat}(hc:CS R f args v)(a:∀H,Rm true depth args args H false):PS R f args v:=λH K=>AQ hc (a H)
end
section
variable{v zi zj:AV}{H:Hp}{k q:IntKind}{a a' b b':Nat}
abbrev W(x:BitVec 32):AV:=.v (.int .u32 (x.toNat:Int))
abbrev By(b:UInt8):AV:=.v (.int .u8 (b.toNat:Int))
def L3(l:Ha):Is:=l.map λb=>By b
def Eg(l:List (BitVec 32)):Is:=l.map λx=>W x
def Ye(h:k.signed=false)(z:Int):k.wrap z=z%(2^k.bits:Nat):=by
 simp only[IntKind.wrap,h,Bool.false_and];simp
def L9(x:BitVec 32):BitVec.ofInt 32 (x.toNat:Int)=x:=by
 apply BitVec.eq_of_toNat_eq;simp
def fW{n:Nat}(h:n<4294967296):IntKind.u32.wrap (n:Int)=(n:Int):=by
 rw[Ye rfl];show(n:Int)%(4294967296:Nat)=n;omega
section
variable{K:K2}{i j:TI}{x y:BitVec 32}
def W?(op:BinOp)(f:IT)(d:Jb op=false)(c:A4q op=f):As i op (W x) (W y) K=f .u32 x.toNat y.toNat K:=by
 have:As i op (W x) (W y) K=@Bool.rec (λ_=>Af) (ck (decide (IntKind.u32=.u32)) (A4q op .u32 x.toNat y.toNat K)) (A4q op .u32 x.toNat y.toNat K) (Jb op):=rfl;rw[this,d,c];rfl
def Qh:As i .add (W x) (W y) K=K (W (x+y)):=by
 rw[W? .add B57 rfl rfl];unfold B57;rw[HP,Ye rfl];have:((x.toNat:Int)+(y.toNat:Int))%(2^IntKind.u32.bits:Nat)=((x+y).toNat:Int):=by
  rw[BitVec.toNat_add];show((x.toNat:Int)+(y.toNat:Int))%(4294967296:Nat)=_;simp only[Int.natCast_emod,Int.natCast_add]
 show K (.v (.int .u32 (((x.toNat:Int)+(y.toNat:Int))%(2^IntKind.u32.bits:Nat))))=_;rw[this]
def VG:As i .xor (W x) (W y) K=K (W (x^^^y)):=by
 rw[W? .xor B55 rfl rfl];unfold B55;rw[VC];have e:(BitVec.ofInt IntKind.u32.bits (x.toNat:Int)^^^BitVec.ofInt IntKind.u32.bits (y.toNat:Int)).toNat=(x^^^y).toNat:=by
  show(BitVec.ofInt 32 (x.toNat:Int)^^^BitVec.ofInt 32 (y.toNat:Int)).toNat=_;rw[L9,L9]
 rw[e,fW (x^^^y).isLt]
def B':As i .and (W x) (W y) K=K (W (x&&&y)):=by
 rw[W? .and B56 rfl rfl];unfold B56;rw[VC];have e:(BitVec.ofInt IntKind.u32.bits (x.toNat:Int)&&&BitVec.ofInt IntKind.u32.bits (y.toNat:Int)).toNat=(x&&&y).toNat:=by
  show(BitVec.ofInt 32 (x.toNat:Int)&&&BitVec.ofInt 32 (y.toNat:Int)).toNat=_;rw[L9,L9]
 rw[e,fW (x&&&y).isLt]
def jK:As i .or (W x) (W y) K=K (W (x|||y)):=by
 rw[W? .or iOr rfl rfl];unfold iOr;rw[VC];have e:(BitVec.ofInt IntKind.u32.bits (x.toNat:Int)|||BitVec.ofInt IntKind.u32.bits (y.toNat:Int)).toNat=(x|||y).toNat:=by
  show(BitVec.ofInt 32 (x.toNat:Int)|||BitVec.ofInt 32 (y.toNat:Int)).toNat=_;rw[L9,L9]
 rw[e,fW (x|||y).isLt]
def B1v:MB .xor (W x) K=K (W (~~~x)):=by
 have c:MB .xor (W x) K=fI (IntKind.u32.wrap ((BitVec.ofInt IntKind.u32.bits (if IntKind.u32.signed=true then-1 else IntKind.u32.max)^^^BitVec.ofInt IntKind.u32.bits (x.toNat:Int)).toNat)) λz=>K (.v (.int .u32 z)):=rfl;rw[c,VC];have e:(BitVec.ofInt IntKind.u32.bits (if IntKind.u32.signed=true then-1 else IntKind.u32.max)^^^BitVec.ofInt IntKind.u32.bits (x.toNat:Int)).toNat=(~~~x).toNat:=by
  show(BitVec.ofInt 32 4294967295^^^BitVec.ofInt 32 (x.toNat:Int)).toNat=_;rw[L9];have:BitVec.ofInt 32 4294967295=BitVec.allOnes 32:=by decide
  rw[this,BitVec.allOnes_xor]
 rw[e,fW (~~~x).isLt]
def JM{z:Int}{k:Nat}(hz:z=k)(c:k<=32):As i .shr (W x) (.v (.int q z)) K=K (W (x>>>k)):=by
 subst hz;have:As i .shr (W x) (.v (.int q (k:Int))) K=ck (qL 0 (k:Int)) (fI ((x.toNat:Int).fdiv (2^(min (k:Int).toNat 32))) λz=>K (.v (.int .u32 z))):=rfl;rw[this,VC];have h1:qL 0 (k:Int)=true:=by rw[LI];simp
 have h2:(x.toNat:Int).fdiv (2^(min (k:Int).toNat 32))=((x>>>k).toNat:Int):=by
  rw[mI,l22 c,BitVec.toNat_ushiftRight,Nat.shiftRight_eq_div_pow];have:((2:Int)^k)=((2^k:Nat):Int):=by simp
  rw[this,Int.fdiv_eq_ediv_of_nonneg _ (Int.natCast_nonneg _)];exact(Int.natCast_ediv _ _).symm
 rw[h1,h2];rfl
def LY{z:Int}{k:Nat}(hz:z=k)(c:k<=32):As i .shl (W x) (.v (.int q z)) K=K (W (x<<<k)):=by
 subst hz;have:As i .shl (W x) (.v (.int q (k:Int))) K=ck (qL 0 (k:Int)) (MQ .u32 ((x.toNat:Int)*2^(min (k:Int).toNat 32)) λz=>K (.v (.int .u32 z))):=rfl;rw[this,HP,Ye rfl];have h1:qL 0 (k:Int)=true:=by rw[LI];simp
 have h2:((x.toNat:Int)*2^(min (k:Int).toNat 32))%(2^IntKind.u32.bits:Nat)=((x<<<k).toNat:Int):=by
  rw[mI,l22 c,BitVec.toNat_shiftLeft,Nat.shiftLeft_eq];have:((2:Int)^k)=((2^k:Nat):Int):=by simp
  rw[this,<-Int.natCast_mul];exact(Int.natCast_emod _ _).symm
 rw[h1,h2];rfl
def B1O:Hj ⟨a,b,.int k,zi⟩ ⟨a',b',.int .u8,zj⟩ (W x) K=K (By (UInt8.ofNat x.toNat)):=by
 have:Hj ⟨a,b,.int k,zi⟩ ⟨a',b',.int .u8,zj⟩ (W x) K=MQ .u8 (x.toNat:Int) λz=>K (.v (.int .u8 z)):=rfl;rw[this,HP,Ye rfl];have:(x.toNat:Int)%(2^IntKind.u8.bits:Nat)=((UInt8.ofNat x.toNat).toNat:Int):=by
  rw[UInt8.toNat_ofNat'];exact(Int.natCast_emod _ _).symm
 rw[this]
def B1P{c:UInt8}:Hj ⟨a,b,.int k,zi⟩ ⟨a',b',.int .u32,zj⟩ (By c) K=K (W (BitVec.ofNat 32 c.toNat)):=by
 have:Hj ⟨a,b,.int k,zi⟩ ⟨a',b',.int .u32,zj⟩ (By c) K=MQ .u32 (c.toNat:Int) λz=>K (.v (.int .u32 z)):=rfl;rw[this,HP,Ye rfl];have:(c.toNat:Int)%(2^IntKind.u32.bits:Nat)=((BitVec.ofNat 32 c.toNat).toNat:Int):=by
  rw[BitVec.toNat_ofNat];exact(Int.natCast_emod _ _).symm
 rw[this]
def B1Y:Au (some (v,H)) K=K v:=id rfl
def A4D{c:KV}:D6 (some (v,H)) c=c v H:=id rfl
end
end
section
variable{v:AV}{H H':Hp}{e n s sz:Nat}{K:Nat->Is->Af}{P:Nat->Prop}{x y:Row}{ie:TI}
def Wf(H:Hp):Prop:=∀k∈H.map (·.1),k<Ar H
def B0V(H:Hp)(r:Nat)(y:Row):(upd H r y).map (·.1)=H.map (·.1):=by
 induction H with
 |nil=>rfl
 |cons p H ih=>
  obtain⟨k,x⟩:=p;by_cases a:r=k
  ·subst a;simp[upd]
  ·simp[upd,a,ih]
def Fq:Wf []:=λk h=>by simp at h
def AF(h:Wf H):Wf ((Ar H,x)::H):=λk a=>by
 show k<Ar H+1;simp only[XC,Xd]at a;rcases a with rfl|a
 ·omega
 ·have:=h k a;omega
def Bi{r:Nat}(h:Wf H):Wf (upd H r y):=λk a=>by rw[B1];rw[B0V]at a;exact h k a
def B0I(h:Ai H s=some x):s∈H.map (·.1):=by
 induction H with
 |nil=>simp[Ai]at h
 |cons p H ih=>
  obtain⟨k,y⟩:=p;simp only[Ai]at h;split at h
  ·rename_i a;simp[a]
  ·simp[ih h]
def Wf.lt(h:Wf H)(a:Ai H s=some x):s<Ar H:=h s (B0I a)
def Ax(a:x≠.gone):Ai ((Ar H,x)::H) (Ar H)=some x:=by
 simp only[Ai,Dr];cases x<;>first|rfl|exact absurd rfl a
def A6(b:s<Ar H)(a:Ai H s=some y):Ai ((Ar H,x)::H) s=some y:=by
 simp only[Ai];rw[CD (by omega)];exact a
structure Lat(H H':Hp)(P:Nat->Prop):Prop where
 wf:Wf H->Wf H'
 nx:Ar H<=Ar H'
 keep:Wf H->∀s x,Ai H s=some x->¬P s->Ai H' s=some x
def Lat.refl(H:Hp)(P:Nat->Prop):Lat H H P:=⟨id,LH _,λ_ _ _ h _=>h⟩
def Lat.trans{H H' a:Hp}{P Q R:Nat->Prop}(h:Lat H H' P)(k:Lat H' a Q)(f:∀s,s<Ar H->P s->R s)(hq:∀s,s<Ar H->Q s->R s):Lat H a R:=
 ⟨λw=>k.wf (h.wf w),fG h.nx k.nx,λw s x b hn=>k.keep (h.wf w) s x (h.keep w s x b λc=>hn (f s (w.lt b) c)) λd=>hn (hq s (w.lt b) d)⟩
def Lat.cons(H:Hp)(x:Row)(P:Nat->Prop):Lat H ((Ar H,x)::H) P:=⟨AF,l1u _,λw s y a _=>A6 (w.lt a) a⟩
theorem Lat.upd(H:Hp)(r:Nat)(y:Row)(a:P r):Lat H (upd H r y) P:=⟨Bi,by rw[B1];exact LH _,λ_ s x b hn=>by rw[Ag (λe=>hn (by rw[e];exact a))];exact b⟩
def AU(H:Hp)(e sz:Nat)(v:AV)(n:Nat)(cs:Is):Prop:=
 (v=.v (.slice none 0 0)/\n=0/\cs=[])\/∃r q,v=.sl sz r 0 n/\Ai H r=some (.cells q e cs)/\cs.length=n*sz
def A4(v:AV)(s:Nat):Prop:=∃sz o n,v=.sl sz s o n
def AU.lat{cs:Is}(h:AU H e sz v n cs)(w:Wf H)(k:Lat H H' P)(b:∀s,A4 v s->¬P s):AU H' e sz v n cs:=by
 rcases h with h|⟨r,q,h1,h2,a⟩
 ·exact .inl h
 ·exact .inr ⟨r,q,h1,k.keep w r _ h2 (b r ⟨sz,0,n,h1⟩),a⟩
theorem AU.lt{cs:Is}(h:AU H e sz v n cs)(w:Wf H)(d:A4 v s):s<Ar H:=by
 obtain⟨a,b,c,rfl⟩:=d;rcases h with⟨h,_⟩|⟨r,q,h1,h2,f⟩
 ·cases h
 ·injection h1 with _ h1;subst h1;exact w.lt h2
def VD{cs:Is}:T7 H (.list n cs) K=K n cs:=rfl
def C0y{l:Ha}:T7 H (S l) K=K l.length (L3 l):=by
 have:T7 H (S l) K=HQ l 0 λm=>eU l λc=>K m c:=rfl;rw[this,Cs,Z7,Kk];rfl
def B1z:T7 H (.v (.slice none 0 0)) K=K 0 []:=rfl
def OT{cs:Is}(h:AU H e sz v n cs):T7 H v K=K n cs:=by
 rcases h with⟨rfl,rfl,rfl⟩|⟨r,q,rfl,h2,a⟩
 ·rfl
 ·have:T7 H (.sl sz r 0 n) K=IQ H r λx=>Kq x λ_ cs=>EL (Nat.mul n sz) (Do 0 cs) λc=>K n c:=rfl;rw[this,Bn h2];show EL (n*sz) cs (λc=>K n c)=_;rw[KZ _ _ _ (by omega),l25 (by omega)]
def apt{e sz n m:Nat}{ie i2:TI}{v src:AV}{cs ys:Is}(h:AU H e sz v n cs)(Q:∀K:Nat->Is->Af,T7 H src K=K m ys)(k:ys.length=m*sz)(h1:ys.all AV.one=true)(hsz:sz≠0)(hz:(B0 ie.zero).length=sz)(R:(dG i2.d&&RW sz src)=true)(hb:(n+m)*ie.bytes<=70368744177664)(j:n+m<=70368744177664):
 ∃A H',(∀K:KV,Dy e sz ie i2 v src H K=K A H')/\AU H' e sz A (n+m) (cs++ys)/\(∀s,A4 A s->s=Ar H)/\Lat H H' (A4 v):=by
 have f:∀K:KV,VH e sz ie i2 v src H K=(match(generalizing:=false) v with
  |.v (.slice none 0 0)=>ck (Nat.ble (Nat.mul m ie.bytes) 70368744177664&&Nat.ble m 70368744177664) (@Bool.rec (λ_=>Af) (It H λr=>K (.sl sz r 0 m) ((r,.cells false e ys)::H)) (K (.v (.slice none 0 0)) H) (Nat.beq m 0))
  |.sl t r1 o n=>IQ H r1 λx=>Kq x λE cs=>HQ cs 0 λcl=>
   ck (Nat.beq E e&&(Nat.beq t sz&&(Nat.beq (Nat.add o (Nat.mul n sz)) cl&&(Nat.ble (Nat.mul (Nat.add n m) ie.bytes) 70368744177664&&Nat.ble (Nat.add n m) 70368744177664))))
    (YX (Do o cs) ys λi=>LJ H r1 .gone λH'=>It H λr=>fN (Nat.add n m) λnm=>K (.sl sz r 0 nm) ((r,.cells false e i)::H'))
  |_=>none):=λK=>by
  unfold VH;rw[Q,Cs,CM,Cs];have c:(Nat.beq (0+ys.length) (Nat.mul m sz)&&(NQ ys&&(!Nat.beq sz 0&&(Nat.beq (0+(B0 ie.zero).length) sz&&(dG i2.d&&RW sz src)))))=true:=by
   have p:Nat.beq sz 0=false:=by
    cases hb:Nat.beq sz 0
    ·rfl
    ·exact absurd (Zy hb) hsz
   rw[FN,h1,R,hz,k,p];simp
  rw[c];rfl
 rcases h with⟨rfl,rfl,rfl⟩|⟨r,q,rfl,h2,D⟩
 ·have c:(Nat.ble (Nat.mul m ie.bytes) 70368744177664&&Nat.ble m 70368744177664)=true:=by
   simp only[Kk]at hb j;rw[KK,kD,kD];exact⟨hb,j⟩
  cases m with
  |zero=>
   refine⟨.v (.slice none 0 0),H,λK=>?_,.inl ⟨rfl,rfl,by rw[l3b];exact kC (by rw[k,Nat.zero_mul])⟩,λs ⟨a,b,c,g⟩=>by(cases g),⟨λw=>w,LH _,λ_ u y V _=>V⟩⟩;show VH e sz ie i2 (.v (.slice none 0 0)) src H K=_;rw[f K];simp only[c];rfl
  |succ m=>
   refine⟨.sl sz (Ar H) 0 (m+1),(Ar H,.cells false e ys)::H,λK=>?_,.inr ⟨Ar H,false,by rw[Kk],by rw[l3b];exact Ax (by simp),by rw[l3b,Kk];exact k⟩,λs ⟨a,b,c,g⟩=>by injection g with _ g;exact g.symm,Lat.cons _ _ _⟩;show VH e sz ie i2 (.v (.slice none 0 0)) src H K=_;rw[f K];have M:Nat.beq (m+1) 0=false:=rfl;simp only[c,M,Ca];rfl
 ·refine⟨.sl sz (Ar H) 0 (n+m),(Ar H,.cells false e (cs++ys))::upd H r .gone,λK=>?_,.inr ⟨Ar H,false,rfl,?_,by rw[Ez,D,k,l1e]⟩,λs ⟨a,b,c,g⟩=>by injection g with _ g;exact g.symm,?_⟩
  ·have N:Dy e sz ie i2 (.sl sz r 0 n) src H K=IQ H r λx=>Kq x λE cs=>HQ cs 0 λcl=>@Bool.rec (λ_=>Af) (SY (Nat.add 0 (Nat.mul n sz)) cs λi=>LJ H r (.cells false E i) λL=>VH e sz ie i2 (.sl sz r 0 n) src L K) (VH e sz ie i2 (.sl sz r 0 n) src H K) (Nat.beq (Nat.add 0 (Nat.mul n sz)) cl):=rfl;rw[N,Bn h2];have C:∀F:TypeId->Is->Af,Kq (.cells q e cs) F=F e cs:=λ_=>rfl;rw[C,Cs];have B:Nat.beq (Nat.add 0 (Nat.mul n sz)) (0+cs.length)=true:=by
    show Nat.beq (0+n*sz) (0+cs.length)=true;rw[D];exact oH _
   rw[B];show VH e sz ie i2 (.sl sz r 0 n) src H K=_;rw[f K];simp only;rw[Bn h2,C,Cs];have c:(Nat.beq e e&&(Nat.beq sz sz&&(Nat.beq (Nat.add 0 (Nat.mul n sz)) (0+cs.length)&&(Nat.ble (Nat.mul (Nat.add n m) ie.bytes) 70368744177664&&Nat.ble (Nat.add n m) 70368744177664))))=true:=by
    rw[B,oH,oH];simp only[l1b,KK,kD];exact⟨hb,j⟩
   rw[c];show YX (Do 0 cs) ys _=_;rw[MZ,Dg,Ca,Ef,C9];rfl
  ·have:=Ax (H:=upd H r .gone) (x:=.cells false e (cs++ys)) (by simp);rw[B1]at this;exact this
  ·have O:Lat H (upd H r .gone) (A4 (.sl sz r 0 n)):=Lat.upd H r .gone ⟨sz,0,n,rfl⟩;have J:=Lat.cons (upd H r .gone) (.cells false e (cs++ys)) (A4 (.sl sz r 0 n));rw[B1]at J;exact O.trans J (λ_ _ h=>h) (λ_ _ h=>h)
def zN(a:AV):∀n(K:Is->Af),YT n [a] K=K (List.replicate n a):=by
 intro n K;rw[YS]
 congr 1
 induction n with
 |zero=>rfl
 |succ n ih=>simp[Yo,ih,l1c]
def nQ{a z:AV}(hz:∀K:Is->Af,He ie.zero K=K [z])(c:∀K:Is->Af,He a K=K [a])(h1:AV.one a=true)(K:KV):FV e 1 ie 1 [(0,1,a)] H K=K (.sl 1 (Ar H) 0 1) ((Ar H,.cells false e [a])::H):=by
 unfold FV;rw[hz];show YT 1 [z] (λcs=>eT [(0,1,a)] cs λb=>It H λs=>K (.sl 1 s 0 1) ((s,.cells false e b)::H))=_;rw[zN];show He a (λvs=>HQ vs 0 λn=>ck (Nat.beq n 1) (ck (NQ vs) (Ey 0 vs [z] λb=>It H λs=>K (.sl 1 s 0 1) ((s,.cells false e b)::H))))=_;rw[c];have:NQ [a]=true:=by rw[FN];simp[h1]
 show ck (NQ [a]) (It H λs=>K (.sl 1 s 0 1) ((s,.cells false e [a])::H))=_;rw[this,Ca];rfl
def NY{cs:Is}(h:cs.length=n):AU ((Ar H,.cells false e cs)::H) e 1 (.sl 1 (Ar H) 0 n) n cs:=.inr ⟨Ar H,false,rfl,Ax (by simp),by omega⟩
def A6e(l:Ha):(L3 l).all AV.one=true:=by simp[L3,AV.one,Value.oneCell']
def Qo(l:Ha):(L3 l).length=l.length:=by simp[L3]
def jP(a b:Ha):L3 a++L3 b=L3 (a++b):=by simp[L3]
end
section
variable{K:K2}{q:Bool}{aZ bd:Code}{H:Hp}{N e m p r s:Nat}{to:Option (Option Code)}{x:Row}{i t:TI}{α:Type}
def A3o:∀(l:List α)(k:Nat)(a:α),k<l.length->splice l k [a]=l.set k a:=by
 intro l
 induction l with
 |nil=>intro k a h;simp at h
 |cons b l ih=>
  intro k a h;cases k with
  |zero=>simp[splice]
  |succ k=>
   have:=ih k a (by simpa using h);simp only[splice,List.length_singleton]at this⊢;simp[this]
def VY(l vs:List α)(h:vs.length=l.length):splice l 0 vs=vs:=by simp[splice,h]
def Bv{ty:Nat}{cs:Is}{K:KV}(hz:i.zero=.agg cs):Bw ty i H K=K (.ptr (Ar H) 0 0) ((Ar H,.cells true ty cs)::H):=by
 unfold Bw;rw[hz,CM,Ca];rfl
def nI{ty:Nat}{v:Value}{K:KV}(h1:AV.one (.v v)=true):GZ ty (.v v) H K=K (.ptr (Ar H) 0 0) ((Ar H,.cells true ty [.v v])::H):=by
 unfold GZ;rw[CM,FN,Ca];have:(B0 (.v v)).all AV.one=true:=by simp[B0,h1]
 rw[this];rfl
def C0E{ty n:Nat}{cs:Is}{K:KV}:GZ ty (.list n cs) H K=K (.ptr (Ar H) 0 0) ((Ar H,.cells true ty [.list n cs])::H):=by
 unfold GZ;rw[CM,FN,Ca];rfl
def Es{ty:Nat}{cs:Is}{K:KV}(h1:cs.all AV.one=true):GZ ty (.agg cs) H K=K (.ptr (Ar H) 0 0) ((Ar H,.cells true ty cs)::H):=by
 unfold GZ;rw[CM,FN,Ca];have:(B0 (.agg cs)).all AV.one=true:=h1;rw[this];rfl
def AC{cs:Is}(h:Ai H r=some x):Ai (upd H r (.cells q e cs)) r=some (.cells q e cs):=by
 rw[BF h];rfl
def D5{cs:Is}{v:AV}{K:Ru}(c:Ai H s=some (.cells q e cs))(d:p<cs.length)(hz:i.size=1)(hv:B0 v=[v])(h1:AV.one v=true):DN i (.ptr s p 0) v H K=K (upd H s (.cells q e (cs.set p v))):=by
 have b:DN i (.ptr s p 0) v H K=IQ H s λx=>gH x λq e cs=>He v λvs=>HQ vs 0 λn=>ck (Nat.beq n i.size) (ck (NQ vs) (Ey (Nat.add p 0) vs cs λa=>LJ H s (.cells q e a) K)):=rfl;rw[b,Bn c];show He v _=_;rw[CM,hv,Cs,hz,FN];have:[v].all AV.one=true:=by simp[h1]
 rw[this];show Ey p [v] cs _=_;rw[Ix _ _ _ _ (by simp;omega),A3o _ _ _ d,Dg]
def BQ{cs vs:Is}{K:Ru}(d:Ai H s=some (.cells q e cs))(b:vs.length=cs.length)(hz:i.size=cs.length)(h1:vs.all AV.one=true):DN i (.ptr s 0 0) (.agg vs) H K=K (upd H s (.cells q e vs)):=by
 have c:DN i (.ptr s 0 0) (.agg vs) H K=IQ H s λx=>gH x λq e cs=>He (.agg vs) λvs=>HQ vs 0 λn=>ck (Nat.beq n i.size) (ck (NQ vs) (Ey 0 vs cs λa=>LJ H s (.cells q e a) K)):=rfl;rw[c,Bn d];show(He (.agg vs) λvs=>HQ vs 0 λn=>ck (Nat.beq n i.size) (ck (NQ vs) (Ey 0 vs cs λa=>LJ H s (.cells q e a) K)))=_;have hc:B0 (.agg vs)=vs:=rfl;rw[CM,hc,Cs,hz,FN,h1,b,Kk,oH];show Ey 0 vs cs _=_;rw[Ix _ _ _ _ (by omega),VY _ _ b,Dg]
def Br{cs:Is}(h:t.d.isAgg=true)(hz:t.size=cs.length)(a:Ai H r=some (.cells q e cs)):AE t (.ptr r 0 0) H K=K (.agg cs):=by
 have:AE t (.ptr r 0 0) H K=IQ H r λx=>Kq x λ_ cs=>@Bool.rec (λ_=>Af) (hdK (Do 0 cs) K) (EL t.size (Do 0 cs) λc=>K (.agg c)) t.d.isAgg:=rfl;rw[this,h,Bn a];show EL t.size (Do 0 cs) _=_;rw[C9,rC,hz,KZ _ _ _ (by omega),wC]
def AL{cs:Is}(h:t.d.isAgg=false)(b:Ai H r=some (.cells q e cs))(a:p<cs.length):AE t (.ptr r p 0) H K=K (cs.getD p .dk):=by
 have:AE t (.ptr r p 0) H K=IQ H r λx=>Kq x λ_ cs=>@Bool.rec (λ_=>Af) (hdK (Do (Nat.add p 0) cs) K) (EL t.size (Do (Nat.add p 0) cs) λc=>K (.agg c)) t.d.isAgg:=rfl;rw[this,h,Bn b];show hdK (Do p cs) K=_;rw[C9,rF a,UT,KL a];rfl
def EO{z:Int}(k:Nat)(c:t.d=.array m e 1)(hz:z=k)(h:k<m):D1 t (.ptr s 0 0) (.v (.int .i64 z)) K=K (.ptr s k 0):=by
 subst hz;have f:D1 t (.ptr s 0 0) (.v (.int .i64 (k:Int))) K=iN (k:Int) λn=>ck (Nat.blt n m) (fN (Nat.add 0 (Nat.mul n 1)) λq=>K (.ptr s q 0)):=by
  obtain⟨a,b,d,z⟩:=t;simp only at c;subst c;rfl
 rw[f,Kr,Ef];have h2:Nat.add 0 (Nat.mul k 1)=k:=by show 0+k*1=k;omega
 have g:Nat.blt k m=true:=by rw[Xe];exact h
 rw[h2,g];rfl
def A69{t j:TI}{cs:Is}{z:Int}(k:Nat)(f:t.d=.array m e 1)(u:j.d.isAgg=false)(hz:z=k)(w:k<m)(hc:m<=cs.length):jI t j (.agg cs) (.v (.int .i64 z)) K=K (cs.getD k .dk):=by
 subst hz;have g:jI t j (.agg cs) (.v (.int .i64 (k:Int))) K=iN (k:Int) λn=>ck (Nat.blt n m) (oP j (Do (Nat.mul n 1) cs) K):=by
  obtain⟨a,b,d,z⟩:=t;simp only at f;subst f;rfl
 rw[g,Kr];have h2:Nat.mul k 1=k:=oI k;have h:Nat.blt k m=true:=by rw[Xe];exact w
 have c:k<cs.length:=by omega
 rw[h2,h,C9,rF c,UT,KL c];show oP j (cs[k]::cs.drop (k+1)) K=_;unfold oP;rw[u];rfl
def I3{r p k:Nat}:L0 (.ptr r p k) K=K (.ptr r p k):=id rfl
theorem Pq{R:Rt}{args:Is}{t:Tm}{ps:Array Tmp}{K:KV}(f:Ai H r=some (.loop N t ps aZ bd (some none)))(g:zA N ps.toList=true):
 NV R r args H K=rdK R.run N t ps args aZ bd H (λc d=>EB c r true none d) (λe b=>match e with
  |.normal=>EB b r false (some none) λa=>K (.v (.bool true)) a
  |.ret=>EB b r false (some (some .ret)) λa=>K (.v (.bool false)) a
  |.exit id=>EB b r false (some (some (.exit id))) λa=>K (.v (.bool false)) a
  |.goto l=>EB b r false (some (some (.goto l))) λa=>K (.v (.bool false)) a
  |_=>none):=by
 unfold NV;rw[Bn f];show ck (zA N ps.toList) _=_;rw[g];rfl
def P0{t:Tm}{ps:Array Tmp}{K:Ru}(a:Ai H r=some (.loop N t ps aZ bd (some none))):EB H r true to K=K (upd H r (.loop N t ps aZ bd to)):=by
 unfold EB;rw[Bn a];show LJ H r _ K=_;rw[Dg]
def Pz{t:Tm}{ps:Array Tmp}{K:Ru}(a:Ai H r=some (.loop N t ps aZ bd none)):EB H r false to K=K (upd H r (.loop N t ps aZ bd to)):=by
 unfold EB;rw[Bn a];show LJ H r _ K=_;rw[Dg]
def Fg{t:Tm}{ps:Array Tmp}(h:Ai H r=some x):Ai (upd H r (.loop N t ps aZ bd to)) r=some (.loop N t ps aZ bd to):=by
 rw[BF h];rfl
end
section
variable{a b:AV}{f:Nat}{P:Program}{α:Type}
def BT.allB(c:Nat->α->Bool):BT α->Bool
 |.leaf=>true
 |.node k v l r=>c k v&&(l.allB c&&r.allB c)
def B2s{c:Nat->α->Bool}{p:Nat->α->Prop}(h:∀k v,c k v=true->p k v):∀{b:BT α},b.allB c=true->b.All p:=by
 intro b
 induction b with
 |leaf=>intro _;trivial
 |node k v l r d e=>
  intro hb;simp only[BT.allB,KK]at hb;exact⟨h k v hb.1,d hb.2.1,e hb.2.2⟩
def A3L:TD->Bool
 |.slice _ 0=>true
 |.array _ _ 0=>true
 |_=>false
def A53:AV->AV->Bool
 |.v (.int k n),.v (.int d e)=>decide (k=d)&&decide (n=e)
 |.v (.bool b),.v (.bool c)=>b==c
 |.v (.string s),.v (.string g)=>s.data.toList.isEmpty&&g.data.toList.isEmpty
 |.v (.slice none 0 0),.v (.slice none 0 0)=>true
 |.v (.pointer none),.v (.pointer none)=>true
 |.v (.map none),.v (.map none)=>true
 |.v .nilFunc,.v .nilFunc=>true
 |.v .nilIface,.v .nilIface=>true
 |_,_=>false
def kK:Is->Is->Bool
 |[],[]=>true
 |a::c,b::d=>A53 a b&&kK c d
 |_,_=>false
def zeq:AV->AV->Bool
 |.agg cs,.agg ds=>kK cs ds
 |a,b=>A53 a b
def nY(h:A53 a b=true):a=b:=by
 unfold A53 at h;split at h<;>simp at h<;>try rfl
 ·rw[h.1,h.2]
 ·rw[h]
 ·rename_i s c;obtain⟨⟨l⟩⟩:=s;obtain⟨⟨d⟩⟩:=c;simp at h;rw[h.1,h.2]
def F! :∀{c d:Is},kK c d=true->c=d:=by
 intro c
 induction c with
 |nil=>intro d h;cases d<;>simp[kK]at h⊢
 |cons a c ih=>
  intro d h;cases d with
  |nil=>simp[kK]at h
  |cons b d=>
   simp only[kK,KK]at h;rw[nY h.1,ih h.2]
def A6t(h:zeq a b=true):a=b:=by
 unfold zeq at h;split at h
 ·rw[F! h]
 ·exact nY h
def B7s:TD->TD->Bool
 |.int k,.int g=>decide (k=g)
 |.bool,.bool=>true
 |.string,.string=>true
 |.pointer e,.pointer c=>decide (e=c)
 |.slice e n,.slice c h=>decide (e=c)&&decide (n=h)
 |.array m e n,.array j c h=>decide (m=j)&&decide (e=c)&&decide (n=h)
 |.struct i,.struct d=>decide (i=d)
 |.map k e,.map g c=>decide (k=g)&&decide (e=c)
 |.func,.func=>true
 |.iface,.iface=>true
 |.other,.other=>true
 |_,_=>false
def A3j{a b:TD}(h:B7s a b=true):a=b:=by
 unfold B7s at h;split at h<;>simp at h<;>try rfl
 ·rw[h]
 ·rw[h]
 ·rw[h.1,h.2]
 ·rw[h.1.1,h.1.2,h.2]
 ·rw[h]
 ·rw[h.1,h.2]
def tiB(P:Program)(t:Nat)(i:TI):Bool:=
 match P.info? t with
 |some x=>match P.underlying t,x.zero with
  |some u,some z=>Nat.beq x.size i.size&&(Nat.beq x.bytes i.bytes&&(B7s (td P u) i.d&&(zeq (tQ z) i.zero&& !A3L i.d)))
  |_,_=>false
 |none=>false
def TiR(P:Program)(t:Nat)(i:TI):Prop:=TOk1 P t i/\A3L i.d=false
def B7r(t:Nat)(i:TI)(h:tiB P t i=true):TiR P t i:=by
 unfold tiB at h;split at h
 ·rename_i x c;split at h
  ·rename_i u z j hz;simp only[KK,l19]at h;obtain⟨h1,h2,d,e,g⟩:=h;refine⟨⟨?_,?_,?_⟩,g⟩
   ·rw[c];simp[Zy h1,Zy h2]
   ·rw[c];simp[hz,A6t e]
   ·rw[j];simp[A3j d]
  ·cases h
 ·cases h
def FnR(P:Program)(f:Nat)(x:XFn):Prop:=(P.funcs[f]?).map (λfn=>(fn.body,fn.ntmps,fn.results.toList,fn.name== "runtime.NumGoroutine"))=some (some x.c,x.n,x.rs,false)
def FnR.ex{x:XFn}(h:FnR P f x):∃fn,P.funcs[f]?=some fn/\fn.body=some x.c/\fn.ntmps=x.n/\fn.results.toList=x.rs/\(fn.name== "runtime.NumGoroutine")=false:=by
 unfold FnR at h;cases d:P.funcs[f]? with
 |none=>rw[d]at h;simp at h
 |some fn=>
  rw[d]at h;simp only[zC,l0z,Prod.mk.injEq]at h;exact⟨fn,rfl,h.1,h.2.1,h.2.2.1,h.2.2.2⟩
def DrR(E:XE)(_:Nat)(x:XFn):Prop:=Ti (tB E ⟨false,x.lv,x.fz,x.n,x.rc⟩) x.c=true
def eqR(P:Program)(t:Nat)(ks:List LK):Prop:=leaves P 6 t=some (true,ks)/\P.eqGuardType P.depth t=false
def glR(_:Nat)(cs:Is):Prop:=cs.all isV=true
def C2W(P:Program)(l:Lie):Prop:=liesAt P P.depth l.1 (l.2.1/P.cellsOf l.1) l.2.2.1 l.2.2.2 1=true/\(P.info? l.2.2.2).isSome=true
def C1B{E:XE}(d:E.ty.All (TiR P))(m:E.T=E.ty.get)(c:P.follows .mixedOrders=true)(k:E.gl.All glR)(y:E.ft.All (FnR P))(w:E.ft.All (DrR E))(he:E.eqt.All (eqR P))(A:∀l∈E.lie,C2W P l)(B:P.underlying E.up=some .unsafePointer)(hn:∀f,E.ne f=true->kB P f):XE.Ok tB E P where
 ty:=λt i h=>(d.get (by rw[m]at h;exact h)).1
 pos:=λt i e p h j q=>by
  have:=(d.get (by rw[m]at h;exact h)).2;subst q;rcases j with j|⟨n,j⟩<;>(rw[j]at this;simp[A3L]at this)
 mix:=c
 gl:=λg cs h=>k.get h
 fn:=λf x h=>by
  obtain⟨fn,h1,h2,r,s,v⟩:=(y.get h).ex;exact⟨fn,h1,h2,r,s,v,w.get h⟩
 eq:=λt ks h=>⟨(he.get h).1,(he.get h).2⟩
 lie:=λe n o u h=>A _ h
 up:=λ_=>B
 ne:=hn
def R_{fn:Func}(g:P.funcs[f]?=some fn)(d:(fn.name== "runtime.NumGoroutine")=false)(hb:fn.body.isNone=true)(hn:Extern.findNext fn=none)(he:Extern.find fn=some Extern.AbiNoEscape.same):kB P f:=by
 intro x w;have:Extern.AbiNoEscape.same #[x]=pure x:=rfl;have c:¬fn.name= "runtime.NumGoroutine" :=by simpa using d
 have e:fn.body=none:=by simpa using hb
 simp[callFunc,g,c,e,hn,he,mark,this];rfl
end
end Go.Abs
end
