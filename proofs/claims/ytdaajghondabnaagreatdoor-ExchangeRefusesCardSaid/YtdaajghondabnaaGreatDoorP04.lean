import Derived.Test.YtdaajghondabnaaGreatDoorP03
set_option linter.all false
set_option maxHeartbeats 100000000
noncomputable section
namespace Go.Abs
open Go.RowKit
section
variable{K:KV}{d:Option Tmp}
def A24(b:Bool)(all:Is)(H:Hp)(K:KV)(x:Af):Af:=
 (λ(_:Unit)=>match b with
  |true=>(match all with|[v]=>K v H|_=>none)
  |false=>x) HY
def C4(E:XE)(R:Rt)(f:AV)(b:Is)(H:Hp)(K:KV):Af:=
 match f with
 |.fn (.func g) first cap=>SX b cap λa=>SX first a λall=>A24 (E.ne g) all H K (@Bool.rec (λ_=>Af) (zpm E g R all H λv=>K v H) (R.call g all H K) (E.imp g))
 |.yl r=>NY R r b H K
 |_=>none
def H_(E:XE)(R:Rt)(f:AV)(b:Is)(H:Hp)(K:KV):Af:=
 match f with
 |.fn (.func g) first cap=>SX b cap λa=>SX first a λall=>A24 (E.ne g) all H K (@Bool.rec (λ_=>Af) (zpm E g R all H λv=>K v H) (@Bool.rec (λ_=>Af) (R.call g all H K) (Ap R g all H λv=>K v H) (E.lm g)) (E.imp g))
 |.yl r=>NY R r b H K
 |_=>none
def A31(E:XE)(R:Rt)(fz:Bool)(t:Tm)(H:Hp)(c:Call)(K:KV):Af:=
 match c.callee with
 |.value b=>Ko E t b λf=>rV E t c.args.toList λa=>@Bool.rec (λ_=>Af) (C4 E R f a H K) (H_ E R f a H K) fz
 |.builtin .append=>Ye E R t H c K
 |.builtin .copy=>Ye E R t H c K
 |.builtin .clear=>Ye E R t H c K
 |.builtin .delete=>Ye E R t H c K
 |.builtin .unsafeString=>Ye E R t H c K
 |.builtin _=>I? E R t H c λv=>K v H
 |_=>none
def B6t:TD->Bool
 |.string=>true
 |_=>false
def zcv(E:XE)(R:Rt)(t:Tm)(H:Hp)(s d:TypeId)(x:Operand)(K:KV):Af:=
 E.ty.getK s λi=>E.ty.getK d λj=>(λ(_:Unit)=>match j.d with
  |.slice e _=>ckS (B6t i.d) (E.ty.getK e λb=>ckS (A4b b.d) (Ko E t x λa=>A2a e a H K))
  |_=>RJ E R t H (.convert s d x) λv=>K v H) HY
def zop(E:XE)(R:Rt)(fz:Bool)(t:Tm)(H:Hp)(o:Op)(K:KV):Af:=
 match o with
 |.call c=>A31 E R fz t H c K
 |.store a b c=>fX E R t H (.store a b c) K
 |.alloc a=>fX E R t H (.alloc a) K
 |.box a b=>fX E R t H (.box a b) K
 |.makeSlice a b c=>fX E R t H (.makeSlice a b c) K
 |.makeMap a b=>fX E R t H (.makeMap a b) K
 |.mapUpdate a b c d=>fX E R t H (.mapUpdate a b c d) K
 |.insert a b c d=>fX E R t H (.insert a b c d) K
 |.mapEntry a b c=>fX E R t H (.mapEntry a b c) K
 |.entryStore a b c d=>fX E R t H (.entryStore a b c d) K
 |.range a b=>fX E R t H (.range a b) K
 |.next a b=>fX E R t H (.next a b) K
 |.convert a b c=>zcv E R t H a b c K
 |.buildSlice a b c=>@Bool.rec (λ_=>Af) (fX E R t H (.buildSlice a b c) K) (RJ E R t H (.buildSlice a b c) λv=>K v H) fz
 |o=>RJ E R t H o λv=>K v H
def gdV(want:Bool)(v:AV)(K:Bool->Af):Af:=
 match v with
 |.v (.bool b)=>@Bool.rec (λ_=>Af) (@Bool.rec (λ_=>Af) (K true) (K false) b) (@Bool.rec (λ_=>Af) (K false) (K true) b) want
 |.dk=>none
 |_=>K false
def gdK(all:List Oper)(t:Tm)(g:Option (Nat×Bool))(K:Bool->Af):Af:=
 match g with
 |none=>K true
 |some (j,want)=>match all[j]? with
  |some p=>match p.dst with
   |some d=>gtm t d λv=>gdV want v K
   |none=>K false
  |none=>K false
def A2r(N:Nat)(d:Option Tmp)(K:Af):Af:=(λ(_:Unit)=>match d with|some d=>ckS (Nat.blt d N) K|none=>K) HY
def QI(t:Tm)(d:Option Tmp)(v:AV)(K:Tm->Af):Af:=(λ(_:Unit)=>match d with|some d=>K ((d,v)::t)|none=>K t) HY
def A7C(g:Option (Nat×Bool))(x y:Af):Af:=(λ(_:Unit)=>match g with|none=>x|some _=>y) HY
def Dy(a:Af)(K:KV):Af:=match a with|some (v,H)=>K v H|none=>none
def A6u(E:XE)(R:Rt)(fz:Bool)(N:Nat)(all:List Oper)(l:List Oper):Tm->Hp->(Tm->Ru)->Af:=
 @List.rec Oper (λ_=>Tm->Hp->(Tm->Ru)->Af) (λt H K=>K t H)
  (λo _ ih t H K=>A2r N o.dst (A7C o.guard (zop E R fz t H o.op λv a=>QI t o.dst v λb=>ih b a K)
   (Dy (gdK all t o.guard λg=>@Bool.rec (λ_=>Af) (some (.v undef,H)) (zop E R fz t H o.op λv a=>some (v,a)) g) λv a=>QI t o.dst v λb=>ih b a K))) l
section
variable{D:XE->Cf->Nat->List Oper->Bool}{E:XE}{P:Program}{R:Rt}{t:Tm}{H:Hp}{r:AV×Hp}{ro:Option Nat}{N m:Nat}{fz:Bool}
def I_(k:XE.Ok D E P)(f:RSound D E P R){o:Oper}{c:Call}(e:o.op=.call c)(h:A31 E R fz t H c K=some r):TO P E.G ro N o t H (λv w=>K v w=some r):=by
 unfold A31 at h;split at h
 ·rename_i q a;have h:=RL k _ _ (Bg k h);cases fz
  ·have h:C4 E R (JN E.G t q) ([]++c.args.toList.map (JN E.G t)) H K=some r:=h;unfold C4 at h;split at h
   ·rename_i g first cap i;rw[Jx,Jx,<-fQ]at h;cases b:E.ne g
    rotate_left
    ·rw[b]at h;unfold A24 at h;simp only at h;split at h
     ·rename_i v j;exact A6n (k.ne g b) e a i j h
     ·cases h
    rw[b]at h;have h:@Bool.rec (λ_=>Af) (zpm E g R (first++c.args.toList.map (JN E.G t)++cap) H λv=>K v H) (R.call g (first++c.args.toList.map (JN E.G t)++cap) H K) (E.imp g)=some r:=h;cases p:E.imp g
    ·rw[p]at h;obtain⟨⟨fn,h1,h2,n⟩,hc⟩:=fG f h;exact TO.mono (Ti e a i h1 h2 n hc) (by rintro _ _ ⟨rfl,h⟩;exact h)
    ·rw[p]at h;obtain⟨⟨fn,h1,h2,n⟩,hc⟩:=f.call _ _ _ _ _ h;exact Ti e a i h1 h2 n hc
   ·rename_i s i;exact VT f e a i h
   ·cases h
  ·have h:H_ E R (JN E.G t q) ([]++c.args.toList.map (JN E.G t)) H K=some r:=h;unfold H_ at h;split at h
   ·rename_i g first cap i;rw[Jx,Jx,<-fQ]at h;cases b:E.ne g
    rotate_left
    ·rw[b]at h;unfold A24 at h;simp only at h;split at h
     ·rename_i v j;exact A6n (k.ne g b) e a i j h
     ·cases h
    rw[b]at h;have h:@Bool.rec (λ_=>Af) (zpm E g R (first++c.args.toList.map (JN E.G t)++cap) H λv=>K v H) (@Bool.rec (λ_=>Af) (R.call g (first++c.args.toList.map (JN E.G t)++cap) H K) (Ap R g (first++c.args.toList.map (JN E.G t)++cap) H λv=>K v H) (E.lm g)) (E.imp g)=some r:=h;cases p:E.imp g
    ·rw[p]at h;obtain⟨⟨fn,h1,h2,n⟩,hc⟩:=fG f h;exact TO.mono (Ti e a i h1 h2 n hc) (by rintro _ _ ⟨rfl,h⟩;exact h)
    ·rw[p]at h;have h:@Bool.rec (λ_=>Af) (R.call g (first++c.args.toList.map (JN E.G t)++cap) H K) (Ap R g (first++c.args.toList.map (JN E.G t)++cap) H λv=>K v H) (E.lm g)=some r:=h;cases u:E.lm g
     ·rw[u]at h;obtain⟨⟨fn,h1,h2,n⟩,hc⟩:=f.call _ _ _ _ _ h;exact Ti e a i h1 h2 n hc
     ·rw[u]at h;obtain⟨⟨fn,h1,h2,n⟩,hc⟩:=Zn f (K:=λv=>K v H) h;exact TO.mono (Ti e a i h1 h2 n hc) (by rintro _ _ ⟨rfl,h⟩;exact h)
   ·rename_i s i;exact VT f e a i h
   ·cases h
 ·exact XA5 k f e h
 ·exact XA5 k f e h
 ·exact XA5 k f e h
 ·exact XA5 k f e h
 ·exact XA5 k f e h
 ·exact TO.mono (fZ k f e h) (by rintro _ _ ⟨rfl,h⟩;exact h)
 ·cases h
def A6A(f:XE.Ok D E P)(hR:RSound D E P R){o:Oper}{s d:TypeId}{x:Operand}(F:o.op=.convert s d x)(h:zcv E R t H s d x K=some r):TO P E.G ro N o t H (λv u=>K v u=some r):=by
 obtain⟨i,hi,h⟩:=Bi h;obtain⟨j,hj,h⟩:=Bi h;simp only at h;split at h
 ·rename_i e z hd;obtain⟨n,h⟩:=LP h;obtain⟨Q,B,h⟩:=Bi h;obtain⟨b,h⟩:=LP h;have h:=Bg f h;refine UT (λc hc=>by rw[F]at hc;cases hc) λw0 s0 C N a w st=>?_;obtain⟨str,hy,v,u,X,Y,V,Z,g,hv,hr,hx⟩:=A4t (P:=P) st.rel (Bb st x) h;refine⟨v,u,X,Y,V,Z,.inl ?_,hv,hr,hx⟩;have A:(convert s d (a.eval x)).run P w=.ok X V:=by
   obtain⟨u1,J,O⟩:=(f.ty s i hi).under;obtain⟨L,_⟩:=(f.ty d j hj).elem_slice hd;obtain⟨u3,M,y⟩:=(f.ty e Q B).under;have q:u3=.int .u8:=by
    cases hq:Q.d with
    |int k=>
     rw[hq]at b y;cases k<;>simp[A4b]at b
     cases u3<;>simp[td]at y
     rw[y]
    |_=>rw[hq]at b;simp[A4b]at b
   have p:u1=.string:=by
    cases hq:i.d with
    |string=>
     rw[hq]at O;cases u1<;>simp[td]at O
     rfl
    |_=>rw[hq]at n;simp[B6t]at n
   subst q p;rw[hy];unfold convert;rw[Dm,run_underlying J w];simp only[Gc];rw[Dm,run_underlying L w];simp only[Gc];rw[Dm,run_underlying M w];simp only[Gc];exact g
  simp only[execOp,F];rw[Dm,A];rfl
 ·exact TO.mono (T3 (K:=λv=>K v H) f hR (by rw[F];exact h)) (by rintro _ _ ⟨rfl,h⟩;exact h)
def kH(b:XE.Ok D E P)(e:RSound D E P R){o:Oper}(h:zop E R fz t H o.op K=some r):TO P E.G ro N o t H (λv f=>K v f=some r):=by
 unfold zop at h;split at h
 ·rename_i c a;exact I_ b e a h
 ·rename_i a;exact Ig b e (by rw[a];exact h)
 ·rename_i a;exact Ig b e (by rw[a];exact h)
 ·rename_i a;exact Ig b e (by rw[a];exact h)
 ·rename_i a;exact Ig b e (by rw[a];exact h)
 ·rename_i a;exact Ig b e (by rw[a];exact h)
 ·rename_i a;exact Ig b e (by rw[a];exact h)
 ·rename_i a;exact Ig b e (by rw[a];exact h)
 ·rename_i a;exact Ig b e (by rw[a];exact h)
 ·rename_i a;exact Ig b e (by rw[a];exact h)
 ·rename_i a;exact Ig b e (by rw[a];exact h)
 ·rename_i a;exact Ig b e (by rw[a];exact h)
 ·rename_i a;exact A6A b e a h
 ·rename_i a;cases fz
  ·exact Ig b e (by rw[a];exact h)
  ·exact TO.mono (T3 (K:=λv=>K v H) b e (by rw[a];exact h)) (by rintro _ _ ⟨rfl,h⟩;exact h)
 ·exact TO.mono (T3 b e h) (by rintro _ _ ⟨rfl,h⟩;exact h)
def iU{all:List Oper}{o:Oper}{K:Bool->Af}(h:gdK all t o.guard K=some r):(K true=some r/\(GZ all t o=.run\/GZ all t o=.dep true))\/(K false=some r/\(GZ all t o=.skip\/GZ all t o=.dep false)):=by
 unfold gdK at h;unfold GZ;split at h
 ·rename_i c;rw[c];exact .inl ⟨h,.inl rfl⟩
 ·rename_i j want c;rw[c];simp only;split at h
  ·rename_i p e;rw[e];simp only;split at h
   ·rename_i d a;rw[a];rw[UI]at h;simp only;unfold gdV at h;split at h
    ·rename_i b hb;rw[hb];simp only[US];cases want<;>cases b
     ·exact .inl ⟨h,.inr rfl⟩
     ·exact .inr ⟨h,.inr rfl⟩
     ·exact .inr ⟨h,.inr rfl⟩
     ·exact .inl ⟨h,.inr rfl⟩
    ·cases h
    ·rename_i h1 h2;refine .inr ⟨h,.inl ?_⟩;have:US (HS t d)=.skip:=by
      unfold US;split
      ·rename_i b hb;exact absurd hb (h1 b)
      ·rename_i hb;exact absurd hb h2
      ·rfl
     rw[this]
   ·rename_i a;rw[a];exact .inr ⟨h,.inl rfl⟩
  ·rename_i e;rw[e];exact .inr ⟨h,.inl rfl⟩
def nJ{K:Af}(h:A2r N d K=some r):dok N d/\K=some r:=by
 unfold A2r at h;split at h
 ·obtain⟨h1,h2⟩:=B7 h;rw[Xi]at h1;exact⟨h1,h2⟩
 ·exact⟨trivial,h⟩
def VK{a:Af}(h:Dy a K=some r):∃v b,a=some (v,b)/\K v b=some r:=by
 unfold Dy at h;split at h
 ·exact⟨_,_,rfl,h⟩
 ·cases h
def T8{v:AV}{K:Tm->Af}:QI t d v K=K (RQ t d v):=by cases d<;>rfl
def A2V(y:XE.Ok D E P)(A:RSound D E P R){all:List Oper}:∀(l:List Oper)(t:Tm)(H:Hp)(K:Tm->Ru),A6u E R fz N all l t H K=some r->
 A0d P E.G ro m N all.toArray l (λe f b=>e=.normal/\K f b=some r) t H:=by
 intro l
 induction l with
 |nil=>intro t H K h;exact B2k ⟨rfl,h⟩
 |cons o l ih=>
  intro t H K h;have h:A2r N o.dst (A7C o.guard (zop E R fz t H o.op λv b=>QI t o.dst v λf=>A6u E R fz N all l f b K)
   (Dy (gdK all t o.guard λg=>@Bool.rec (λ_=>Af) (some (.v undef,H)) (zop E R fz t H o.op λv b=>some (v,b)) g) λv b=>QI t o.dst v λf=>A6u E R fz N all l f b K))=some r:=h
  obtain⟨p,h⟩:=nJ h;intro w0 O C a w s;have j:=wG s.tmps all o;cases c:o.guard with
  |none=>
   have k:GZ all t o=.run:=by unfold GZ;rw[c]
   rw[c]at h;have h:(zop E R fz t H o.op λv b=>QI t o.dst v λf=>A6u E R fz N all l f b K)=some r:=h;refine A2B p s (j.1 k) (TO.mono (kH y A h) λv b i=>?_);rw[T8]at i;exact ih _ _ _ i
  |some F=>
   rw[c]at h;have h:(Dy (gdK all t (some F) λg=>@Bool.rec (λ_=>Af) (some (.v undef,H)) (zop E R fz t H o.op λv b=>some (v,b)) g) λv b=>QI t o.dst v λf=>A6u E R fz N all l f b K)=some r:=h;rw[<-c]at h;obtain⟨v,B,J,n⟩:=VK h;rw[T8]at n;rcases iU J with⟨h1,h2⟩|⟨h1,h2⟩
   ·have x:Region.wanted o (yielded all.toArray a.tmps)=true:=by
     rcases h2 with h2|h2
     ·exact j.1 h2
     ·exact j.2.2 _ h2
    refine A2B p s x (TO.mono (kH y A h1) λQ b i=>?_);injection i with i;injection i with q u
    subst q u;exact ih _ _ _ n
   ·have x:Region.wanted o (yielded all.toArray a.tmps)=false:=by
     rcases h2 with h2|h2
     ·exact j.2.1 h2
     ·exact j.2.2 _ h2
    have h1:some (AV.v undef,H)=some (v,B):=h1;injection h1 with h1;injection h1 with L M
    subst L M;exact A87 p s x (ih _ _ _ n)
end
end
section
variable{c:Code}{Q:Exit->Tm->Hp->Prop}{F:Tm->Ru}
def B5B(a:AV)(H:Hp)(K:KV):Af:=match a with
 |.sl sz r o n=>IR H r λx=>Ki x λ_ cs=>EO (Nat.mul n sz) (Dn o cs) λc=>ck (c.all (fB 3)) (XA4 H r .gone λb=>K (.list n c) b)
 |a=>K a H
def B5f(F:Tm->Ru)(us:List (Nat×Nat)):Tm->Ru:=
 @List.rec (Nat×Nat) (λ_=>Tm->Ru) F (λu _ ih t H=>gtm t u.1 λa=>B5B a H λd b=>ih ((u.1,d)::t) b) us
def C0k(rc:List (Nat×List (Nat×Nat)))(id:Nat)(F:Tm->Ru)(t:Tm)(H:Hp):Af:=(λ(_:Unit)=>@List.rec (Nat×List (Nat×Nat)) (λ_=>Tm->Ru) F (λp _ ih=>@Bool.rec (λ_=>Tm->Ru) ih (B5f F p.2) (Nat.beq p.1 (Nat.add id 1000000))) rc t H) HY
section
variable{P:Program}{G:Gl}{w0:Base}{C:Ctx}{H:Hp}{w:World}{r:AV×Hp}{ro:Option Nat}{m N:Nat}
def A4z(hr:Rel G w0 C H w){a:AV}{y:Value}(O:VRel C w a y){K:KV}(h:B5B a H K=some r):∃v L C',K v L=some r/\VRel C' w v y/\Rel G w0 C' L w/\Ext w0.own C w C' w:=by
 unfold B5B at h;split at h
 ·rename_i sz s o n;obtain⟨q0,e,cs,x,h1⟩:=JS h;obtain⟨d,h2⟩:=LG _ _ _ _ h1;rw[CA]at d h2;obtain⟨hc,k⟩:=B7 h2;rw[Dg]at k;cases O with
  |slz ac=>
   have k:K (.list 0 ((cs.drop o).take (0*sz))) (cut H s)=some r:=k;rw[Nat.zero_mul,List.take_zero]at k;exact⟨_,_,C,k,.list0,hr.cut_row s,.refl _ _ _⟩
  |@sl _ _ _ _ _ _ bk M cap arr T fz D q aa R=>
   rcases hr.rows s _ x with⟨_,h6⟩|⟨V,b,g,Z,t⟩
   ·rw[h6]at D;cases D
   ·have p:=t.at_.symm.trans D;injection p with p;injection p with p;injection p with X Y;subst X Y
    obtain⟨J,u⟩:=hr.freeze x t;have f:CG C w ((cs.drop o).take (n*sz)) ((((g.toList.drop b).take cs.length).drop o).take (n*sz)):=(t.vals.unsel.drop o).take _;have ab:((cs.drop o).take (n*sz)).length=n*sz:=by
     have:n*sz<=(cs.drop o).length:=d;rw[l0h];omega
    refine⟨_,_,C.fix V,k,.list q (λi=>((((g.toList.drop b).take cs.length).drop o).take (n*sz)).getD i undef) (λi j=>.inr rfl) (λi j=>?_) (λi j=>?_),J,u⟩
    ·have j:i<((cs.drop o).take (n*sz)).length:=j;have A:i<n*sz:=by omega
     have B:o+i<cs.length:=by have:n*sz<=(cs.drop o).length:=d;simp at this;omega
     rw[kD,t.cell];rw[UW,zR,Dq A,qH,zR,Dq B,qH,l27];have hf:=t.fits;rw[l1p (by omega)];rfl
    ·have h4:=f.get i j;have h5:fB 3 (((cs.drop o).take (n*sz))[i])=true:=GG.1 hc _ (Qk j);rw[UW,KL (by rw[f.1];exact j)];exact(VRel.down (C:=C) (C':=C.bare) rfl rfl 3 _ _ h5 h4).mono u.bare
 ·exact⟨_,_,C,h,O,hr,.refl _ _ _⟩
def QB.ghost{t:Tm}(h:∀w0 b C a w,St G w0 b C N t H a w->∃d g f,St G w0 b d N g f a w/\Ext w0.own C w d w/\QB P G ro m N c Q g f):QB P G ro m N c Q t H:=λw0 b C a w s=>by
 obtain⟨d,g,f,h1,h2,q⟩:=h w0 b C a w s;exact wpIn_mono (q w0 b d a w h1) λe v x ⟨i,u,j,k,n,p⟩=>⟨i,u,j,k,h2.frm.trans n,p⟩
def A4g(j:∀t H,F t H=some r->QB P G ro m N c Q t H):∀(us:List (Nat×Nat))(t:Tm)(H:Hp),B5f F us t H=some r->QB P G ro m N c Q t H:=by
 intro us
 induction us with
 |nil=>intro t H h;exact j t H h
 |cons u us ih=>
  intro t H h;have h:(gtm t u.1 λa=>B5B a H λg b=>B5f F us ((u.1,g)::t) b)=some r:=h;rw[UI]at h;refine QB.ghost λw0 n C a w s=>?_;obtain⟨v,b,e,k,hv,d,he⟩:=A4z s.rel (s.tmps u.1) h;refine⟨e,(u.1,v)::t,b,⟨d,s.size,λi=>?_,s.defers.mono he.B he.keepB,s.le⟩,he,ih _ _ k⟩;show VRel e w (if i=u.1 then v else HS t i) _;by_cases f:i=u.1
  ·subst f;rw[Dq rfl];exact hv
  ·rw[CF f];exact(s.tmps i).mono he
def A4h{id:Nat}(a:∀t H,F t H=some r->QB P G ro m N c Q t H):∀(rc:List (Nat×List (Nat×Nat)))(t:Tm)(H:Hp),C0k rc id F t H=some r->QB P G ro m N c Q t H:=by
 intro rc
 induction rc with
 |nil=>intro t H h;exact a t H h
 |cons p rc ih=>
  intro t H h;have h:@Bool.rec (λ_=>Tm->Ru) (C0k rc id F) (B5f F p.2) (Nat.beq p.1 (Nat.add id 1000000)) t H=some r:=h;cases hb:Nat.beq p.1 (Nat.add id 1000000)
  ·rw[hb]at h;exact ih t H h
  ·rw[hb]at h;exact A4g a _ t H h
end
end
section
variable{cf:Cf}{c:Code}{e:Exit}{Q:Exit->Tm->Hp->Prop}{H:Hp}{K:KQ}{N:Nat}{t t':Tm}
abbrev A6r:=Cf->Nat->List Oper->Tm->Hp->(Tm->Ru)->Af
def yY(e:Exit)(t:Tm)(H:Hp)(k:Tm->Ru)(K:KQ):Af:=(λ(_:Unit)=>match e with|.normal=>k t H|e=>K e t H) HY
def A4Q(id:Nat)(e:Exit)(t:Tm)(H:Hp)(K:KQ):Af:=(λ(_:Unit)=>match e with|.exit i=>@Bool.rec (λ_=>Af) (K (.exit i) t H) (K .normal t H) (Nat.beq i id)|e=>K e t H) HY
def A1(v:AV)(x y:Af):Af:=match v with|.v (.bool true)=>x|.v (.bool false)=>y|_=>none
def dH(lv:Hb)(t:Tm):(Tm->Af)->Af:=@List.rec Nat (λ_=>(Tm->Af)->Af) (λK=>K []) (λu _ ih K=>gtm t u λv=>ih λl=>K ((u,v)::l)) lv
def Cur(lv:Hb):Type:=@List.rec Nat (λ_=>Type) Ru (λ_ _ ih=>AV->ih) lv
def B25(lv:Hb):(Tm->Ru)->Cur lv:=
 @List.rec Nat (λlv=>(Tm->Ru)->Cur lv) (λF H=>F [] H) (λu _ ih F v=>ih λt H=>F ((u,v)::t) H) lv
def B23(lv:Hb):Cur lv->Tm->Ru:=
 @List.rec Nat (λlv=>Cur lv->Tm->Ru) (λc _ H=>c H) (λu _ ih c t H=>gtm t u λv=>ih (c v) t H) lv
def iS(lv:Hb)(t:Tm):Tm:=lv.map λu=>(u,HS t u)
def F!(lv:Hb):∀(F:Tm->Ru)(t:Tm)(H:Hp),B23 lv (B25 lv F) t H=F (iS lv t) H:=by
 induction lv with
 |nil=>intro F t H;rfl
 |cons u lv ih=>
  intro F t H;have e:B23 (u::lv) (B25 (u::lv) F) t H=gtm t u λv=>B23 lv (B25 lv λt H=>F ((u,v)::t) H) t H:=rfl;rw[e,UI,ih];rfl
def B6R(lv:Hb)(body:Tm->Hp->KQ->Af)(K:KQ)(n:Nat):Cur lv:=
 @Nat.rec (λ_=>Cur lv) (B25 lv λ_ _=>none) (λ_ ih=>B25 lv λt H=>body t H λe b a=>yY e b a (λt H=>B23 lv ih t H) K) n
def yQ(lv:Hb)(body:Tm->Hp->KQ->Af)(K:KQ)(n:Nat)(t:Tm)(H:Hp):Af:=B23 lv (B6R lv body K n) t H
def A2W(lv:Hb)(body:Tm->Hp->KQ->Af)(K:KQ)(t:Tm)(H:Hp):yQ lv body K 0 t H=none:=F! lv _ t H
def A2X(lv:Hb)(body:Tm->Hp->KQ->Af)(K:KQ)(n:Nat)(t:Tm)(H:Hp):yQ lv body K (n+1) t H=body (iS lv t) H λe b a=>yY e b a (yQ lv body K n) K:=F! lv _ t H
def A3q(lv:Hb)(t:Tm)(u:Nat):HS (iS lv t) u=HS t u\/HS (iS lv t) u=.dk:=by
 induction lv with
 |nil=>exact .inr rfl
 |cons v lv ih=>
  have e:HS (iS (v::lv) t) u=if u=v then HS t v else HS (iS lv t) u:=rfl
  rw[e];split
  ·rename_i h;subst h;exact .inl rfl
  ·exact ih
def B6h(p:Option (Option Code))(t:Tm)(H:Hp)(K:KQ):Af:=
 match p with
 |some none=>K .normal t H
 |some (some .ret)=>K .ret t H
 |some (some (.exit id))=>K (.exit id) t H
 |some (some (.goto l))=>K (.goto l) t H
 |_=>none
def A2T(E:XE)(R:Rt)(cf:Cf)(g:Operand)(ps:Array Tmp)(i j:Code)(t:Tm)(H:Hp)(K:KQ):Af:=
 @Bool.rec (λ_=>Af) (dH cf.lv t λt=>Ko E t g λf=>match f with
  |.fn (.func g) first cap=>Io H λs=>Za first (.yl s::cap) λall=>R.call g all ((s,.loop cf.n t ps i j (some none))::H) λ_ d=>IR d s λx=>dL x λ_ _ _ _ _ a=>XA4 d s .gone λh=>B6h a t h K
  |_=>none) none cf.b
def A1S(e:Exit)(t:Tm)(H:Hp)(k:Nat->Tm->Ru)(K:KQ):Af:=(λ(_:Unit)=>match e with|.goto l=>k l t H|e=>K e t H) HY
def A54(run:A0a)(cf:Cf)(c:Code)(K:KQ)(n:Nat):Nat->Tm->Ru:=
 @Nat.rec (λ_=>Nat->Tm->Ru) (λ_ _ _=>none) (λ_ ih l t H=>match findLabel c l with
  |some rest=>run cf rest t H λe t H=>A1S e t H ih K
  |none=>none) n
def fY(E:XE)(R:Rt)(Z:A6r)(cf:Cf)(c:Code):Tm->Hp->KQ->Af:=
 @Code.rec (λ_=>Tm->Hp->KQ->Af)
  (λt H K=>K .normal t H)
  (λid f draw t H K=>C0k cf.rc id (λt H=>@Bool.rec (λ_=>Af) (A6u E R cf.fz cf.n f.toList f.toList t H λt H=>K .normal t H) (Z cf id f.toList t H λt H=>K .normal t H) draw) t H)
  (λ_ _ a d t H K=>a t H λe t H=>yY e t H (λt H=>d t H K) K)
  (λx _ _ a d t H K=>Ko E t x λv=>A1 v (a t H K) (d t H K))
  (λid _ ih t H K=>ih t H λe t H=>A4Q id e t H K)
  (λ_ ih t H K=>yQ cf.lv ih K E.lf t H)
  (λg ps h i _ _ t H K=>A2T E R cf g ps h i t H K)
  (λid t H K=>K (.exit id) t H)
  (λc ih t H K=>@Bool.rec (λ_=>Af) (ih t H λe t H=>A1S e t H (A54 R.run cf c K E.lf) K) none cf.b)
  (λ_ t H K=>K .normal t H)
  (λl t H K=>K (.goto l) t H)
  (λt H K=>K .ret t H)
  (λ_ _ _ _=>none) c
section
variable{D:XE->Cf->Nat->List Oper->Bool}{E:XE}{P:Program}{R:Rt}{Z:A6r}{r:AV×Hp}{ro:Option Nat}{m:Nat}
def A50(D:XE->Cf->Nat->List Oper->Bool)(E:XE)(P:Program)(Z:A6r):Prop:=
 ∀(ro:Option Nat)(cf:Cf)(id:Nat)(a:List Oper)(t:Tm)(H:Hp)(K:Tm->Ru)(r:AV×Hp)(m:Nat),(cf.b=false->D E cf id a=true)->Z cf id a t H K=some r->
  QB P E.G ro m cf.n (.region id a.toArray true) (λe t' d=>e=.normal/\K t' d=some r) t H
def sU{k:Tm->Ru}(h:yY e t H k K=some r):(e=.normal/\k t H=some r)\/(e≠.normal/\K e t H=some r):=by
 unfold yY at h;split at h
 ·exact .inl ⟨rfl,h⟩
 ·rename_i a;exact .inr ⟨a,h⟩
theorem QB.congr{G:Gl}(hc:∀u,HS t' u=HS t u\/HS t' u=.dk)(h:QB P G ro m N c Q t' H):QB P G ro m N c Q t H:=
 λw0 b C a w s=>h w0 b C a w (s.congr hc)
theorem oO.congr{G:Gl}(hc:∀u,HS t' u=HS t u\/HS t' u=.dk)(h:oO P G ro m N c Q t' H):oO P G ro m N c Q t H:=
 λw0 b C a w s=>h w0 b C a w (s.congr hc)
def A2Y:∀(lv:Hb)(K:Tm->Af),dH lv t K=some r->∃t',K t'=some r/\∀u,HS t' u=HS t u\/HS t' u=.dk:=by
 intro lv
 induction lv with
 |nil=>intro K h;exact⟨[],h,λu=>.inr rfl⟩
 |cons v lv ih=>
  intro K h;have h:(gtm t v λx=>dH lv t λl=>K ((v,x)::l))=some r:=h;rw[UI]at h;obtain⟨t',h1,h2⟩:=ih _ h;refine⟨_,h1,λu=>?_⟩;simp only[HS];split
  ·rename_i a;rw[a];exact .inl rfl
  ·exact h2 u
def A0u{G:Gl}{lv:Hb}{body:Tm->Hp->KQ->Af}(hb:∀t H(K:KQ),body t H K=some r->QB P G ro m N c (λe t' a=>K e t' a=some r) t H):∀(n:Nat)(t:Tm)(H:Hp),yQ lv body K n t H=some r->
 oO P G ro m N c (λe t' a=>K e t' a=some r) t H:=by
 intro n
 induction n with
 |zero=>intro t H h;rw[A2W]at h;cases h
 |succ n ih=>
  intro t H h;rw[A2X]at h;refine oO.congr (A3q lv t) (A4Y (QB.mono (hb _ _ _ h) λe f d hq=>?_));rcases sU hq with⟨rfl,h⟩|⟨b,h⟩
  ·exact ih _ _ h
  ·cases e with
   |normal=>exact absurd rfl b
   |_=>exact h
def H!(M:XE.Ok D E P)(O:RSound D E P R)(q:ro≠none->cf.b=true){g:Operand}{ps:Array Tmp}{s u:Code}(h:A2T E R cf g ps s u t H K=some r):QB P E.G ro m cf.n (.rangeFunc g ps s u) (λe t' j=>K e t' j=some r) t H:=by
 unfold A2T at h;cases hb:cf.b
 ·rw[hb]at h;have hn:ro=none:=by
   cases ro with
   |none=>rfl
   |some b=>have:=q (by simp);rw[hb]at this;cases this
  subst hn;obtain⟨t',h,hc⟩:=A2Y _ _ h;refine QB.congr hc ?_;have h:=Bg M h;split at h
  ·rename_i f first cap X;rw[Ca,MX]at h;obtain⟨⟨fn,h1,h2,L⟩,d⟩:=O.call _ _ _ _ _ h;have e:first++AV.yl (As H)::cap=first++[.yl (As H)]++cap:=by simp
   rw[e]at d;refine A4V X h1 h2 L ?_;intro w0 C w ys hr V;refine(d w0 C w ys hr V).mono ?_;rintro e w' ⟨v,y,B,j,he,p,hv,hx,Y⟩;refine⟨v,y,B,j,he,p,hv,hx,?_⟩;obtain⟨x,i,k⟩:=I0 rfl Y;obtain⟨N',t2,aa,F,J,A,rfl,a⟩:=eQ k;rw[Dg]at a;unfold B6h at a;split at a
   ·exact⟨_,_,_,_,_,_,i,a⟩
   ·exact⟨_,_,_,_,_,_,i,a⟩
   ·exact⟨_,_,_,_,_,_,i,a⟩
   ·exact⟨_,_,_,_,_,_,i,a⟩
   ·cases a
  ·cases h
 ·rw[hb]at h;cases h
def A7Y{D:Nat->List Oper->Bool}:∀(c:Code)(l:Nat)(rest:Code),Te D c=true->findLabel c l=some rest->Te D rest=true:=by
 intro c
 induction c with
 |seq a b g i=>
  intro l rest d h;simp only[Te,KF]at d;unfold findLabel at h;split at h
  ·rename_i r0 f;injection h with h
   subst h;simp only[Te,KF];exact⟨g _ _ d.1 f,d.2⟩
  ·exact i _ _ d.2 h
 |label j=>
  intro l rest d h;unfold findLabel at h;split at h
  ·injection h with h;subst h;rfl
  ·cases h
 |_=>intro l rest d h;simp[findLabel]at h
def A1R{k:Nat->Tm->Ru}(a:∀l,e≠.goto l)(h:A1S e t H k K=some r):K e t H=some r:=by
 cases e with
 |goto l=>exact absurd rfl (a l)
 |_=>exact h
def A0w(f:RSound D E P R)(g:Te (D E cf) c=true):∀(n l:Nat)(t:Tm)(H:Hp),A54 R.run cf c K n l t H=some r->
 ∃rest,findLabel c l=some rest/\A0c P E.G m cf.n c rest (λe t' d=>K e t' d=some r) t H:=by
 intro n
 induction n with
 |zero=>intro l t H h;cases h
 |succ n ih=>
  intro l t H h;have h:(match findLabel c l with
   |some rest=>R.run cf rest t H λe t H=>A1S e t H (A54 R.run cf c K n) K
   |none=>none)=some r:=h
  split at h
  ·rename_i rest b;refine⟨rest,b,F? (λl t H hq=>ih l t H hq) (λe t H a hq=>A1R a hq) (f.run none cf rest t H _ r m (λh=>absurd rfl h) (λ_=>A7Y _ _ _ g b) h)⟩
  ·cases h
def A0z(u:XE.Ok D E P)(w:RSound D E P R)(O:A50 D E P Z)(q:ro≠none->cf.b=true):∀(c:Code)(t:Tm)(H:Hp)(K:KQ),(cf.b=false->Te (D E cf) c=true)->fY E R Z cf c t H K=some r->
 QB P E.G ro m cf.n c (λe t' L=>K e t' L=some r) t H:=by
 intro c
 induction c with
 |skip=>intro t H K _ h;exact B2d h
 |region id k draw=>
  intro t H K d h;refine A4h (λt H h=>?_) cf.rc t H h;have e:k=k.toList.toArray:=by simp
  cases draw
  ·rw[e];exact QB.mono (A4U (A2V u w _ _ _ _ h)) (by rintro _ _ _ ⟨rfl,h⟩;exact h)
  ·rw[e];exact QB.mono (O ro cf id k.toList t H _ r m d h) (by rintro _ _ _ ⟨rfl,h⟩;exact h)
 |seq x y F J=>
  intro t H K d h;have h:(fY E R Z cf x t H λe t H=>yY e t H (λt H=>fY E R Z cf y t H K) K)=some r:=h;have f:cf.b=false->Te (D E cf) x=true/\Te (D E cf) y=true:=λhb=>by simpa [Te] using d hb
  refine B5N (QB.mono (F t H _ (λhb=>(f hb).1) h) λe V M hq=>?_);rcases sU hq with⟨rfl,h⟩|⟨j,h⟩
  ·exact J _ _ _ (λhb=>(f hb).2) h
  ·cases e with
   |normal=>exact absurd rfl j
   |_=>exact h
 |cond x a b B C=>
  intro t H K d h;have h:(Ko E t x λv=>A1 v (fY E R Z cf a t H K) (fY E R Z cf b t H K))=some r:=h;have f:cf.b=false->Te (D E cf) a=true/\Te (D E cf) b=true:=λhb=>by simpa [Te] using d hb
  have h:=Bg u h;unfold A1 at h;split at h
  ·rename_i hv;exact A2z hv (λ_=>B _ _ _ (λhb=>(f hb).1) h) (λhb=>by cases hb)
  ·rename_i hv;exact A2z hv (λhb=>by cases hb) (λ_=>C _ _ _ (λhb=>(f hb).2) h)
  ·cases h
 |block id x ih=>
  intro t H K d h;have h:(fY E R Z cf x t H λe t H=>A4Q id e t H K)=some r:=h;refine A86 (QB.mono (ih t H _ d h) λe V M hq=>?_);unfold A4Q at hq;cases e with
  |exit i=>
   simp only at hq;simp only[A3K];cases p:Nat.beq i id
   ·rw[p]at hq;rw[CF (λe=>by rw[e,oG]at p;cases p)];exact hq
   ·rw[p]at hq;rw[Dq (Z5 p)];exact hq
  |_=>exact hq
 |loop x ih=>
  intro t H K d h;have h:yQ cf.lv (λt H K=>fY E R Z cf x t H K) K E.lf t H=some r:=h;exact A2x (A0u (λt H K h=>ih t H K d h) _ _ _ h)
 |rangeFunc g ps X Y _ _=>
  intro t H K _ h;exact H! u w q h
 |exit id=>intro t H K _ h;exact B2f h
 |scope x ih=>
  intro t H K d h;have h:@Bool.rec (λ_=>Af) (fY E R Z cf x t H λe t H=>A1S e t H (A54 R.run cf x K E.lf) K) none cf.b=some r:=h;cases hb:cf.b
  ·rw[hb]at h;have hn:ro=none:=by
    cases ro with
    |none=>rfl
    |some b=>have:=q (by simp);rw[hb]at this;cases this
   subst hn;have A:Te (D E cf) x=true:=d hb;exact A84 (F? (λl t H hq=>A0w w A _ _ _ _ hq) (λe t H j hq=>A1R j hq) (ih t H _ d h))
  ·rw[hb]at h;cases h
 |label l=>intro t H K _ h;exact A85 h
 |goto l=>intro t H K _ h;exact B2e h
 |ret=>intro t H K _ h;exact B5O h
 |refuse s=>intro t H K _ h;cases h
end
end
section
variable{v:AV}{a:Af}{cf:Cf}{bs:List (Nat×Nat)}{hs:List Hp}{efs ms:Hb}{ops:List Oper}{i:Nat}{ef:Oper->Bool}{K:Tm->Ru}{α:Type}{D:XE->Cf->Nat->List Oper->Bool}
def Rf(E:XE):Op->Bool
 |.move _=>true
 |.assign _=>true
 |.pick .. =>true
 |.nilCheck _=>true
 |.binOp .. =>true
 |.unOp .. =>true
 |.convert s _ _=>match E.ty.get s with
  |some i=>match i.d with
   |.slice .. =>false
   |.pointer _=>false
   |.other=>false
   |_=>true
  |none=>false
 |.makeFunc .. =>true
 |.fieldAddr .. =>true
 |.field .. =>true
 |.indexAddr .. =>true
 |.index .. =>true
 |.slice ty _ _ _ _=>match E.ty.get ty with
  |some i=>match i.d with
   |.array .. =>false
   |_=>true
  |none=>false
 |.extract .. =>true
 |.build .. =>true
 |.buildSlice .. =>true
 |.call c=>match c.callee with
  |.builtin .len=>match c.argTypes.toList with
   |[ty]=>(match E.ty.get ty with
    |some i=>match i.d with
     |.map .. =>false
     |_=>true
    |none=>false)
   |_=>false
  |.builtin .min=>true
  |.builtin .max=>true
  |_=>false
 |_=>false
def Qx(E:XE)(fz:Bool):Op->Bool
 |.move _=>false
 |.assign _=>false
 |.pick .. =>false
 |.nilCheck _=>false
 |.binOp .. =>false
 |.unOp .. =>false
 |.convert s d _=>match E.ty.get s,E.ty.get d with
  |some i,some j=>match i.d,j.d with
   |.string,.slice .. =>true
   |_,_=>false
  |_,_=>true
 |.makeFunc .. =>false
 |.fieldAddr .. =>false
 |.field .. =>false
 |.indexAddr .. =>false
 |.index .. =>false
 |.slice .. =>false
 |.extract .. =>false
 |.build .. =>false
 |.buildSlice .. =>!fz
 |.load .. =>false
 |.lookup .. =>false
 |.makeInterface .. =>false
 |.call c=>match c.callee with
  |.value (.func f)=>E.imp f
  |.value (.tmp _)=>!fz
  |.builtin .len=>false
  |.builtin .min=>false
  |.builtin .max=>false
  |.builtin .cap=>false
  |.builtin .unsafeSliceData=>false
  |_=>true
 |_=>true
def A0s(E:XE)(R:Rt)(t:Tm)(H:Hp)(o:Op)(K:K2):Af:=
 (λ(_:Unit)=>match o with
  |.move x=>Ko E t x K
  |.assign x=>Ko E t x K
  |o=>Au (RJ E R t H o λv=>some (v,[])) K) HY
def A6v(E:XE)(R:Rt)(fz:Bool)(all:List Oper)(o:Oper)(t1:Tm)(H:Hp):Af:=
 gdK all t1 o.guard λg=>@Bool.rec (λ_=>Af) (some (.v undef,H)) (@Bool.rec (λ_=>Af) (Au (RJ E R t1 H o.op λv=>some (v,[])) λv=>some (v,H)) (zop E R fz t1 H o.op λv b=>some (v,b)) (Qx E fz o.op)) g
def zdr(E:XE)(R:Rt)(fz:Bool)(N:Nat)(all:List Oper)(l:List Oper):Tm->Hp->(Tm->Ru)->Af:=
 @List.rec Oper (λ_=>Tm->Hp->(Tm->Ru)->Af) (λt H K=>K t H)
  (λo _ ih t H K=>A2r N o.dst (dH (OG all o) t λd=>A7C o.guard
   (@Bool.rec (λ_=>Af) (A0s E R d H o.op λv=>QI t o.dst v λc=>ih c H K) (Dy (zop E R fz d H o.op λv b=>some (v,b)) λv b=>QI t o.dst v λc=>ih c b K) (Qx E fz o.op))
   (Dy (A6v E R fz all o d H) λv b=>QI t o.dst v λc=>ih c b K))) l
def rU(E:XE)(R:Rt)(fz:Bool)(N:Nat)(all:List Oper)(l:List Oper):Tm->Hp->(List Tm->Is->List Hp->Tm->Ru)->Af:=
 @List.rec Oper (λ_=>Tm->Hp->(List Tm->Is->List Hp->Tm->Ru)->Af) (λt H K=>K [] [] [H] t H)
  (λo _ ih t H K=>A2r N o.dst (dH (OG all o) t λb=>A7C o.guard
   (@Bool.rec (λ_=>Af) (A0s E R b H o.op λv=>QI t o.dst v λd=>ih d H λts vs hs=>K (b::ts) (v::vs) hs) (Dy (zop E R fz b H o.op λv c=>some (v,c)) λv c=>QI t o.dst v λd=>ih d c λts vs hs=>K (b::ts) (v::vs) (H::hs)) (Qx E fz o.op))
   (Dy (A6v E R fz all o b H) λv c=>QI t o.dst v λd=>ih d c λts vs hs=>K (b::ts) (v::vs) (@Bool.rec (λ_=>List Hp) hs (H::hs) (Qx E fz o.op))))) l
def xN(l:List α)(n:Nat)(K:α->Af):Af:=
 (λ(_:Unit)=>@List.rec α (λ_=>Nat->Af) (λ_=>none) (λa _ ih n=>@Nat.rec (λ_=>Af) (K a) (λm _=>ih m) n) l n) HY
def fF:AV->AV->Bool
 |.v x,.v y=>gF x y
 |.ptr r p k,.ptr c h e=>Nat.beq r c&&(Nat.beq p h&&Nat.beq k e)
 |.sl z r o n,.sl j c g f=>Nat.beq z j&&(Nat.beq r c&&(Nat.beq o g&&Nat.beq n f))
 |.iptr cs,.iptr d=>wI (VS 6) cs d
 |.mp r,.mp c=>Nat.beq r c
 |a,b=>VS 6 a b
def B5R{a b:AV}(h:fF a b=true):a=b:=by
 unfold fF at h;split at h
 ·rw[qR h]
 ·simp only[KF]at h;rw[Z5 h.1,Z5 h.2.1,Z5 h.2.2]
 ·simp only[KF]at h;rw[Z5 h.1,Z5 h.2.1,Z5 h.2.2.1,Z5 h.2.2.2]
 ·rw[rN (A4Z 6) h]
 ·rw[Z5 h]
 ·exact A4Z 6 _ _ h
def Ba(a:Af)(v:AV):Af:=match a with
 |some (u,_)=>some (.v (.bool (fF u v)),[])
 |none=>none
def Qq(a:Af)(K:Af):Af:=match a with
 |some (.v (.bool true),_)=>K
 |_=>none
def B0x{K:Af}{r:AV×Hp}(h:Qq a K=some r):(∃b,a=some (.v (.bool true),b))/\K=some r:=by
 unfold Qq at h;split at h
 ·exact⟨⟨_,rfl⟩,h⟩
 ·cases h
def tA{H0:Hp}(h:Ba a v=some (.v (.bool true),H0)):∃b,a=some (v,b):=by
 unfold Ba at h;split at h
 ·injection h with h
  injection h with h _
  injection h with h
  injection h with h
  exact⟨_,by rw[B5R h]⟩
 ·cases h
def A6C(E:XE)(R:Rt)(all:List Oper)(bs:List (Nat×Nat))(ts:List Tm)(vs:Is)(hs:List Hp)(K:Af):Af:=
 (λ(_:Unit)=>@List.rec (Nat×Nat) (λ_=>Af) K (λp _ ih=>@Prod.rec Nat Nat (λ_=>Af) (λi k=>xN all i λo=>xN ts i λb=>xN vs i λv=>xN hs k λH=>
  Qq (gdK all b o.guard λg=>@Bool.rec (λ_=>Af) (some (.v (.bool true),[])) (Ba (RJ E R b H o.op λu=>some (u,[])) v) g) ih) p) bs) HY
def FF(ef:Oper->Bool):Nat->List Oper->Hb
 |_,[]=>[]
 |i,o::l=>match ef o with
  |true=>i::FF ef (i+1) l
  |false=>FF ef (i+1) l
def A1b(E:XE)(ef:Oper->Bool)(ms efs:Hb):Nat->List Oper->Bool
 |_,[]=>true
 |i,o::l=>(ef o||(Rf E o.op||efs.all λe=>match Nat.blt e i with
  |true=>tb (ms.getD i 0) e
  |false=>tb (ms.getD e 0) i))&&A1b E ef ms efs (i+1) l
def J5(E:XE)(fz:Bool)(o:Oper):Bool:=Qx E fz o.op
def A7d(ms:Hb)(i k:Nat):Nat->Hb->Bool
 |_,[]=>true
 |a,e::l=>(!tb (ms.getD i 0) e||Nat.blt a k)&&((!tb (ms.getD e 0) i||Nat.ble k a)&&A7d ms i k (a+1) l)
def A74(E:XE)(ef:Oper->Bool)(ms efs:Hb)(bs:List (Nat×Nat)):Nat->Nat->List Oper->Bool
 |_,_,[]=>true
 |i,b,o::l=>(ef o||(Rf E o.op||(List.range (efs.length+1)).all λk=>Nat.beq k b||(!A7d ms i k 0 efs||bs.any λp=>Nat.beq p.1 i&&Nat.beq p.2 k)))&&
  A74 E ef ms efs bs (i+1) (match ef o with|true=>b+1|false=>b) l
def A9I(id:Nat):List (Nat×List (Nat×Nat))->Option (List (Nat×Nat))
 |[]=>none
 |p::l=>match Nat.beq p.1 id with|true=>some p.2|false=>A9I id l
def tC(E:XE)(cf:Cf)(id:Nat)(ops:List Oper):Bool:=
 zF ops (FF (J5 E cf.fz) 0 ops)&&(match A9I id cf.rc with
  |none=>A1b E (J5 E cf.fz) (TB ops) (FF (J5 E cf.fz) 0 ops) 0 ops
  |some bs=>A74 E (J5 E cf.fz) (TB ops) (FF (J5 E cf.fz) 0 ops) bs 0 0 ops)
def B6O(E:XE)(ef:Oper->Bool)(ms efs:Hb):Nat->Nat->List Oper->List (Nat×Nat)
 |_,_,[]=>[]
 |i,b,o::l=>(match ef o||Rf E o.op with
  |true=>[]
  |false=>((List.range (efs.length+1)).filter λk=>!Nat.beq k b&&A7d ms i k 0 efs).map λk=>(i,k))++B6O E ef ms efs (i+1) (match ef o with|true=>b+1|false=>b) l
def C1x(E:XE)(R:Rt)(cf:Cf)(ops:List Oper)(bs:List (Nat×Nat))(t:Tm)(H:Hp)(K:Tm->Ru):Af:=
 ckS (zF ops (FF (J5 E cf.fz) 0 ops)&&A74 E (J5 E cf.fz) (TB ops) (FF (J5 E cf.fz) 0 ops) bs 0 0 ops) (rU E R cf.fz cf.n ops ops t H λts vs hs c b=>A6C E R ops bs ts vs hs (K c b))
def C1y(E:XE)(R:Rt)(cf:Cf)(id:Nat)(ops:List Oper)(t:Tm)(H:Hp)(K:Tm->Ru):Af:=
 (λ(_:Unit)=>match A9I id cf.rc with
  |none=>zdr E R cf.fz cf.n ops ops t H K
  |some bs=>rU E R cf.fz cf.n ops ops t H λts vs hs c b=>A6C E R ops bs ts vs hs (K c b)) HY
def A56(E:XE)(R:Rt):A6r:=λcf id ops t H K=>
 @Bool.rec (λ_=>Af) (C1y E R cf id ops t H K) (C1x E R cf ops (B6O E (J5 E cf.fz) (TB ops) (FF (J5 E cf.fz) 0 ops) 0 0 ops) t H K) cf.b
section
variable{E:XE}{P:Program}{R:Rt}{t:Tm}{H:Hp}{r:AV×Hp}{ro:Option Nat}{N m:Nat}{fz:Bool}
def A1O{o:Op}(h:Rf E o=true)(H H':Hp)(K:K2):RJ E R t H o K=RJ E R t H' o K:=by
 cases o with
 |move x=>rfl
 |assign x=>rfl
 |pick c a b=>rfl
 |nilCheck x=>rfl
 |binOp a b c d e=>rfl
 |unOp a b c=>rfl
 |convert a b c=>
  have key:∀v,(E.ty.getK a λi=>E.ty.getK b λj=>cvK E a b i j v H K)=(E.ty.getK a λi=>E.ty.getK b λj=>cvK E a b i j v H' K):=by
   intro v;have h:(match E.ty.get a with|some i=>(match i.d with|.slice .. =>false|.pointer _=>false|.other=>false|_=>true)|none=>false)=true:=h;rw[BT.getK_eq,BT.getK_eq];cases hs:E.ty.get a with
   |none=>rfl
   |some i=>
    rw[hs]at h;simp only at h;simp only
    congr 1
    funext j
    unfold cvK;cases g:i.d with
    |slice e z=>rw[g]at h;cases h
    |pointer e=>rw[g]at h;cases h
    |other=>rw[g]at h;cases h
    |_=>rfl
  show(Ko E t c λv=>E.ty.getK a λi=>E.ty.getK b λj=>cvK E a b i j v H K)=(Ko E t c λv=>E.ty.getK a λi=>E.ty.getK b λj=>cvK E a b i j v H' K)
  congr 1
  funext v
  exact key v
 |makeFunc a b c=>rfl
 |fieldAddr a b c=>rfl
 |field a b c=>rfl
 |indexAddr a b c=>rfl
 |index a b c=>rfl
 |slice a b c d e=>
  have h:(match E.ty.get a with|some i=>(match i.d with|.array .. =>false|_=>true)|none=>false)=true:=h;have key:∀v l p m,(E.ty.getK a λi=>A2R i v l p m H K)=(E.ty.getK a λi=>A2R i v l p m H' K):=by
   intro v l p m;rw[BT.getK_eq,BT.getK_eq];cases hs:E.ty.get a with
   |none=>rfl
   |some i=>
    rw[hs]at h;simp only at h;simp only;unfold A2R;cases g:i.d with
    |array n e z=>rw[g]at h;cases h
    |_=>rfl
  show(Ko E t b λv=>rS E t c λl=>rS E t d λh=>rS E t e λm=>E.ty.getK a λi=>A2R i v l h m H K)=(Ko E t b λv=>rS E t c λl=>rS E t d λh=>rS E t e λm=>E.ty.getK a λi=>A2R i v l h m H' K)
  congr 1
  funext v
  congr 1
  funext l
  congr 1
  funext p
  congr 1
  funext m
  exact key v l p m
 |extract a b=>rfl
 |build a b=>rfl
 |buildSlice a b c=>rfl
 |call c=>
  unfold Rf at h;obtain⟨callee,args,ts⟩:=c;cases callee with
  |value f=>cases h
  |invoke a b=>cases h
  |builtin b=>
   cases b with
   |len=>
    have h:(match ts.toList with|[ty]=>(match E.ty.get ty with|some i=>(match i.d with|.map .. =>false|_=>true)|none=>false)|_=>false)=true:=h;have u:∀s,RJ E R t s (.call ⟨.builtin .len,args,ts⟩) K=(match args.toList,ts.toList with|[x],[ty]=>Ko E t x λv=>E.ty.getK ty λi=>B2O i v s K|_,_=>none):=λ_=>rfl;rw[u,u];split
    ·rename_i x ty w q;rw[q]at h
     congr 1
     funext v
     rw[BT.getK_eq,BT.getK_eq];cases hs:E.ty.get ty with
     |none=>rfl
     |some i=>
      simp only[hs]at h;simp only;unfold B2O;cases g:i.d with
      |map k e=>rw[g]at h;cases h
      |_=>rfl
    ·rfl
   |min=>rfl
   |max=>rfl
   |_=>cases h
 |_=>cases h
inductive Trc(S:Oper->Tm->Hp->AV->Hp->Prop)(ef:Oper->Bool):List Oper->Tm->Hp->Is->List Hp->Tm->Hp->Prop
 |nil {t:Tm} {H:Hp}:Trc S ef [] t H [] [H] t H
 |rd {o:Oper} {l:List Oper} {t:Tm} {H:Hp} {v:AV} {vs:Is} {hs:List Hp} {t':Tm} {H':Hp} (he:ef o=false) (h:S o t H v H) (k:Trc S ef l (RQ t o.dst v) H vs hs t' H'):Trc S ef (o::l) t H (v::vs) hs t' H'
 |ef {o:Oper} {l:List Oper} {t:Tm} {H H1:Hp} {v:AV} {vs:Is} {hs:List Hp} {t':Tm} {H':Hp} (he:ef o=true) (h:S o t H v H1) (k:Trc S ef l (RQ t o.dst v) H1 vs hs t' H'):Trc S ef (o::l) t H (v::vs) (H::hs) t' H'
def Stp(E:XE)(R:Rt)(fz:Bool)(N:Nat)(all:List Oper)(o:Oper)(t:Tm)(H:Hp)(v:AV)(b:Hp):Prop:=
 dok N o.dst/\(((GZ all (IS all o t) o=.run\/GZ all (IS all o t) o=.dep true)/\
  ((J5 E fz o=false/\(∃d,RJ E R (IS all o t) H o.op (λv=>some (v,[]))=some (v,d))/\b=H)\/(J5 E fz o=true/\zop E R fz (IS all o t) H o.op (λv c=>some (v,c))=some (v,b))))\/
  ((GZ all (IS all o t) o=.skip\/GZ all (IS all o t) o=.dep false)/\v=.v undef/\b=H))
def A0v(lv:Hb)(t:Tm):∀K:Tm->Af,dH lv t K=K (iS lv t):=by
 induction lv with
 |nil=>intro K;rfl
 |cons u lv ih=>
  intro K;have e:dH (u::lv) t K=gtm t u λv=>dH lv t λl=>K ((u,v)::l):=rfl;rw[e,UI,ih];rfl
def A55{x:Operand}{K:K2}(h:Ko E t x K=some r):∃v b,Ko E t x (λv=>some (v,[]))=some (v,b)/\K v=some r:=by
 cases x with
 |tmp i=>
  have h:gtm t i K=some r:=h;rw[UI]at h;exact⟨_,[],(UI t i _).trans rfl,h⟩
 |const v=>exact⟨_,[],rfl,h⟩
 |global g=>
  have h:(E.gl.getK g λcs=>K (.iptr cs))=some r:=h;obtain⟨cs,h1,h2⟩:=Bi h;refine⟨_,[],?_,h2⟩;have:Ko E t (.global g) (λv=>some (v,[]))=E.gl.getK g λcs=>some (.iptr cs,[]):=rfl;rw[this,BT.getK_eq,h1]
 |func f=>exact⟨_,[],rfl,h⟩
def yP{o:Op}{K:K2}(h:A0s E R t H o K=some r):∃v b,RJ E R t H o (λv=>some (v,[]))=some (v,b)/\K v=some r:=by
 unfold A0s at h;split at h
 ·exact A55 h
 ·exact A55 h
 ·exact RH h
def A6y{all:List Oper}:∀(l:List Oper)(t:Tm)(H:Hp)(K:Tm->Ru),zdr E R fz N all l t H K=some r->
 ∃vs hs c b,Trc (Stp E R fz N all) (J5 E fz) l t H vs hs c b/\K c b=some r:=by
 intro l
 induction l with
 |nil=>intro t H K h;exact⟨_,_,_,_,.nil,h⟩
 |cons o l ih=>
  intro t H K h;have h:A2r N o.dst (dH (OG all o) t λu=>A7C o.guard
   (@Bool.rec (λ_=>Af) (A0s E R u H o.op λv=>QI t o.dst v λc=>zdr E R fz N all l c H K) (Dy (zop E R fz u H o.op λv b=>some (v,b)) λv b=>QI t o.dst v λc=>zdr E R fz N all l c b K) (Qx E fz o.op))
   (Dy (A6v E R fz all o u H) λv b=>QI t o.dst v λc=>zdr E R fz N all l c b K))=some r:=h
  obtain⟨n,h⟩:=nJ h;rw[A0v]at h;have s:iS (OG all o) t=IS all o t:=rfl;rw[s]at h;cases k:o.guard with
  |none=>
   have g:GZ all (IS all o t) o=.run:=by unfold GZ;rw[k]
   rw[k]at h;have h:@Bool.rec (λ_=>Af) (A0s E R (IS all o t) H o.op λv=>QI t o.dst v λc=>zdr E R fz N all l c H K) (Dy (zop E R fz (IS all o t) H o.op λv b=>some (v,b)) λv b=>QI t o.dst v λc=>zdr E R fz N all l c b K) (Qx E fz o.op)=some r:=h;cases he:Qx E fz o.op
   ·rw[he]at h;obtain⟨v,x,p,d⟩:=yP h;rw[T8]at d;obtain⟨vs,hs,c,b,e,f⟩:=ih _ _ _ d;exact⟨_,_,_,_,.rd he ⟨n,.inl ⟨.inl g,.inl ⟨he,⟨_,p⟩,rfl⟩⟩⟩ e,f⟩
   ·rw[he]at h;obtain⟨v,w,p,d⟩:=VK h;rw[T8]at d;obtain⟨vs,hs,c,b,e,f⟩:=ih _ _ _ d;exact⟨_,_,_,_,.ef he ⟨n,.inl ⟨.inl g,.inr ⟨he,p⟩⟩⟩ e,f⟩
  |some A=>
   rw[k]at h;have h:(Dy (A6v E R fz all o (IS all o t) H) λv b=>QI t o.dst v λc=>zdr E R fz N all l c b K)=some r:=h;obtain⟨v,w,p,d⟩:=VK h;rw[T8]at d;obtain⟨vs,hs,c,b,e,f⟩:=ih _ _ _ d;rcases iU p with⟨h1,h2⟩|⟨h1,h2⟩
   ·cases he:Qx E fz o.op
    ·rw[he]at h1;obtain⟨B,x,q,j⟩:=RH h1;injection j with j;injection j with j y
     subst j y;exact⟨_,_,_,_,.rd he ⟨n,.inl ⟨h2,.inl ⟨he,⟨_,q⟩,rfl⟩⟩⟩ e,f⟩
    ·rw[he]at h1;exact⟨_,_,_,_,.ef he ⟨n,.inl ⟨h2,.inr ⟨he,h1⟩⟩⟩ e,f⟩
   ·have h1:some (AV.v undef,H)=some (v,w):=h1;injection h1 with h1;injection h1 with q j
    subst q j;cases he:J5 E fz o
    ·exact⟨_,_,_,_,.rd he ⟨n,.inr ⟨h2,rfl,rfl⟩⟩ e,f⟩
    ·exact⟨_,_,_,_,.ef he ⟨n,.inr ⟨h2,rfl,rfl⟩⟩ e,f⟩
def VR(ef:Oper->Bool)(l:List Oper)(i:Nat):Nat:=((l.take i).filter ef).length
def kO(o:Oper)(l:List Oper)(val:Nat->AV)(t:Tm):∀i,IM (o::l) val t (λ_=>true) (i+1)=IM l (λj=>val (j+1)) (RQ t o.dst (val 0)) (λ_=>true) i:=by
 intro i
 induction i with
 |zero=>rfl
 |succ i ih=>
  have c:IM (o::l) val t (λ_=>true) (i+1+1)=(match true,(o::l)[i+1]? with|true,some b=>RQ (IM (o::l) val t (λ_=>true) (i+1)) b.dst (val (i+1))|_,_=>IM (o::l) val t (λ_=>true) (i+1)):=rfl;have d:IM l (λj=>val (j+1)) (RQ t o.dst (val 0)) (λ_=>true) (i+1)=(match true,l[i]? with|true,some b=>RQ (IM l (λj=>val (j+1)) (RQ t o.dst (val 0)) (λ_=>true) i) b.dst (val (i+1))|_,_=>IM l (λj=>val (j+1)) (RQ t o.dst (val 0)) (λ_=>true) i):=rfl;rw[c,d,ih,l0r]
theorem Trc.at{S:Oper->Tm->Hp->AV->Hp->Prop}{l:List Oper}{vs:Is}{e:Tm}{H':Hp}(h:Trc S ef l t H vs hs e H'):
 hs.getD 0 []=H/\e=IM l (λj=>vs.getD j .dk) t (λ_=>true) l.length/\H'=hs.getD (VR ef l l.length) []/\
 ∀(i:Nat)(o:Oper),l[i]?=some o->S o (IM l (λj=>vs.getD j .dk) t (λ_=>true) i) (hs.getD (VR ef l i) []) (vs.getD i .dk) (hs.getD (VR ef l (i+1)) []):=by
 induction h with
 |nil=>exact⟨rfl,rfl,rfl,λi o h=>by simp at h⟩
 |@rd o l t H v vs hs e H' he c k ih=>
  obtain⟨h1,h2,f,g⟩:=ih;have hc:∀i,VR ef (o::l) (i+1)=VR ef l i:=λi=>by simp[VR,he]
  have d:∀i,IM (o::l) (λj=>(v::vs).getD j .dk) t (λ_=>true) (i+1)=IM l (λj=>vs.getD j .dk) (RQ t o.dst v) (λ_=>true) i:=λi=>by rw[kO];simp
  refine⟨h1,?_,?_,?_⟩
  ·rw[Mi,d];exact h2
  ·rw[Mi,hc];exact f
  ·intro i p b;cases i with
   |zero=>
    simp at b;subst b;rw[hc,show VR ef (o::l) 0=0 from rfl,show VR ef l 0=0 from rfl,h1];exact c
   |succ i=>
    rw[hc,hc,d];have:=g i p (by simpa using b);simpa using this
 |@ef o l t H n v vs hs e H' he c k ih=>
  obtain⟨h1,h2,f,g⟩:=ih;have hc:∀i,VR ef (o::l) (i+1)=VR ef l i+1:=λi=>by simp[VR,he]
  have d:∀i,IM (o::l) (λj=>(v::vs).getD j .dk) t (λ_=>true) (i+1)=IM l (λj=>vs.getD j .dk) (RQ t o.dst v) (λ_=>true) i:=λi=>by rw[kO];simp
  refine⟨rfl,?_,?_,?_⟩
  ·rw[Mi,d];exact h2
  ·rw[Mi,hc];simpa using f
  ·intro i p b;cases i with
   |zero=>
    simp at b;subst b;rw[hc,show VR ef (o::l) 0=0 from rfl,show VR ef l 0=0 from rfl];have:(H::hs).getD (0+1) []=n:=by simpa using h1
    rw[this];exact c
   |succ i=>
    rw[hc,hc,d];have:=g i p (by simpa using b);simpa using this
def Y':∀(l:List Oper)(n a e:Nat),(FF ef n l)[a]?=some e->∃j o,e=n+j/\l[j]?=some o/\ef o=true/\VR ef l j=a:=by
 intro l
 induction l with
 |nil=>intro n a e h;simp[FF]at h
 |cons o l ih=>
  intro n a e h;unfold FF at h;cases he:ef o
  ·rw[he]at h;obtain⟨j,p,h1,h2,b,c⟩:=ih _ _ _ h;exact⟨j+1,p,by omega,by simpa using h2,b,by simpa [VR,he] using c⟩
  ·rw[he]at h;cases a with
   |zero=>simp at h;exact⟨0,o,by omega,rfl,he,rfl⟩
   |succ a=>
    obtain⟨j,p,h1,h2,b,c⟩:=ih _ _ _ (by simpa using h);exact⟨j+1,p,by omega,by simpa using h2,b,by simpa [VR,he] using c⟩
def B2g:∀(l:List Oper)(n j:Nat)(o:Oper),l[j]?=some o->ef o=true->(FF ef n l)[VR ef l j]?=some (n+j):=by
 intro l
 induction l with
 |nil=>intro n j o h;simp at h
 |cons p l ih=>
  intro n j o h he;unfold FF;cases j with
  |zero=>simp at h;subst h;rw[he];rfl
  |succ j=>
   have:=ih (n+1) j o (by simpa using h) he;cases b:ef p
   ·simpa [VR,b,kD,Nat.add_comm 1 j] using this
   ·simpa [VR,b,kD,Nat.add_comm 1 j] using this
def X_:∀(l:List Oper)(n:Nat),(FF ef n l).length=VR ef l l.length:=by
 intro l
 induction l with
 |nil=>intro n;rfl
 |cons p l ih=>
  intro n;unfold FF;cases b:ef p
  ·simpa [VR,b] using ih (n+1)
  ·simpa [VR,b] using ih (n+1)
def vX(l:List Oper){i j:Nat}(h:i<=j):VR ef l i<=VR ef l j:=by
 unfold VR;have:l.take i=(l.take j).take i:=by rw[List.take_take,l22 h]
 rw[this];exact((List.take_sublist i (l.take j)).filter ef).length_le
def Zk{l:List Oper}{o:Oper}(h:l[i]?=some o):VR ef l (i+1)=VR ef l i+(if ef o then 1 else 0):=by
 unfold VR;rw[List.take_add_one,h,List.filter_append,EK];cases he:ef o<;>simp[he]
def A9H:∀(l:List Oper)(n:Nat),A1b E ef ms efs n l=true->∀(j:Nat)(o:Oper),l[j]?=some o->ef o=false->Rf E o.op=true\/∀e∈efs,(e<n+j->tb (ms.getD (n+j) 0) e=true)/\(n+j<=e->tb (ms.getD e 0) (n+j)=true):=by
 intro l
 induction l with
 |nil=>intro n _ j o h;simp at h
 |cons p l ih=>
  intro n h j o c he;simp only[A1b,KF]at h;cases j with
  |zero=>
   simp at c;subst c;have h1:=h.1;rw[he,Bool.false_or,l1i]at h1;rcases h1 with h1|h1
   ·exact .inl h1
   ·refine .inr λe hm=>?_;have:=GG.1 h1 e hm;cases hb:Nat.blt e n
    ·rw[hb]at this;have:¬e<n:=λb=>by rw[<-Xi,hb]at b;cases b
     exact⟨λb=>by omega,λ_=>by simpa using ‹_›⟩
    ·rw[hb]at this;have b:e<n:=by rw[<-Xi];exact hb
     exact⟨λ_=>this,λd=>by omega⟩
  |succ j=>
   have:=ih (n+1) h.2 j o (by simpa using c) he;rw[show n+(j+1)=n+1+j from by omega];exact this
def Stp.aopg(d:XE.Ok D E P)(e:RSound D E P R){all:List Oper}{o:Oper}{c:Hp}(h:Stp E R fz N all o t H v c):B5W P E.G ro N all o (IS all o t) H v c:=by
 obtain⟨_,⟨b,h⟩|⟨b,h1,h2⟩⟩:=h
 ·refine .inl ⟨b,?_⟩;rcases h with⟨_,⟨n,h⟩,rfl⟩|⟨_,h⟩
  ·refine TO.mono (T3 d e h) ?_;rintro k f ⟨j,h⟩;injection h with h;injection h with h
   exact⟨h,j⟩
  ·refine TO.mono (kH d e h) ?_;intro k f h;injection h with h;injection h with h g
   exact⟨h,g⟩
 ·exact .inr ⟨b,h1,h2⟩
def A6z(w:XE.Ok D E P)(C:RSound D E P R){id:Nat}(hD:zF ops (FF (J5 E cf.fz) 0 ops)=true)(A:A1b E (J5 E cf.fz) (TB ops) (FF (J5 E cf.fz) 0 ops) 0 ops=true)(h:zdr E R cf.fz cf.n ops ops t H K=some r):
 QB P E.G ro m cf.n (.region id ops.toArray true) (λe t' x=>e=.normal/\K t' x=some r) t H:=by
 obtain⟨vs,hs,t',x,X,hK⟩:=A6y ops t H K h;obtain⟨h0,V,B,q⟩:=X.at;have hk:=tB hD;have hr:=A9H ops 0 A;have e0:H=(λk=>hs.getD k []) 0:=h0.symm;rw[e0];refine A2y (efs:=FF (J5 E cf.fz) 0 ops) (val:=λj=>vs.getD j .dk) (Hs:=λk=>hs.getD k []) w.mix hk (λo c=>?_) ?_ ?_ ?_
 ·obtain⟨i,L⟩:=List.getElem?_of_mem c;exact(q i o L).1
 ·intro i o c Q k ae hp;have he:J5 E cf.fz o=false:=by
   cases he:J5 E cf.fz o
   ·rfl
   ·exact absurd (B2g ops 0 i o c he) (by rw[Kd];exact Q _)
  have g:=q i o c;have F:VR (J5 E cf.fz) ops (i+1)=VR (J5 E cf.fz) ops i:=by rw[Zk c,he];simp
  rw[F]at g;rcases hr i o c he with hf|d
  ·refine Stp.aopg (fz:=cf.fz) w C ?_;obtain⟨Z,⟨J,h⟩|⟨J,h1,h2⟩⟩:=g
   ·rcases h with⟨_,⟨H0,h⟩,_⟩|⟨h,_⟩
    ·exact⟨Z,.inl ⟨J,.inl ⟨he,⟨H0,by rw[A1O hf _ (hs.getD (VR (J5 E cf.fz) ops i) [])];exact h⟩,rfl⟩⟩⟩
    ·rw[he]at h;cases h
   ·exact⟨Z,.inr ⟨J,h1,rfl⟩⟩
  ·have s:=X_ (ef:=J5 E cf.fz) ops 0;have ac:i<ops.length:=(zT.1 c).1;have M:k=VR (J5 E cf.fz) ops i:=by
    rcases Nat.lt_trichotomy k (VR (J5 E cf.fz) ops i) with O|heq|aa
    ·exfalso;have b:k<(FF (J5 E cf.fz) 0 ops).length:=by rw[s];exact l2r O (vX ops (by omega))
     obtain⟨j,p,h1,h2,u,y⟩:=Y' ops 0 k _ (KL b);have ad:j<i:=by
      rcases Nat.lt_or_ge j i with h|h
      ·exact h
      ·exfalso;have:=vX (ef:=J5 E cf.fz) ops h;omega
     have:=(d _ (Qk b)).1 (by omega);rw[Kd,yZ]at this;have:=hp.1 k _ (KL b) (PR this);omega
    ·exact heq
    ·exfalso;have f:VR (J5 E cf.fz) ops i<(FF (J5 E cf.fz) 0 ops).length:=by omega
     obtain⟨j,p,h1,h2,u,y⟩:=Y' ops 0 _ _ (KL f);have ab:i<=j:=by
      rcases Nat.lt_or_ge j i with h|h
      ·exfalso;have Y:=vX (ef:=J5 E cf.fz) ops (show j+1<=i from h);rw[Zk h2,u]at Y;simp at Y;omega
      ·exact h
     have:=(d _ (Qk f)).2 (by omega);rw[Kd,yZ]at this;have:=hp.2 _ _ (KL f) (PR this);omega
   rw[M];exact Stp.aopg (fz:=cf.fz) w C g
 ·intro a i o c L;obtain⟨j,p,h1,h2,u,y⟩:=Y' ops 0 a i L;rw[Kd]at h1;subst h1;rw[c]at h2;injection h2 with h2;subst h2
  have:=q i o c;rw[Zk c,u,y]at this;exact Stp.aopg (fz:=cf.fz) w C this
 ·refine⟨rfl,?_⟩;rw[<-V];have:hs.getD (FF (J5 E cf.fz) 0 ops).length []=x:=by rw[X_];exact B.symm
  rw[this];exact hK
def A30{all:List Oper}:∀(l:List Oper)(t:Tm)(H:Hp)(K:List Tm->Is->List Hp->Tm->Ru),rU E R fz N all l t H K=some r->
 ∃ts vs hs c b,Trc (Stp E R fz N all) (J5 E fz) l t H vs hs c b/\K ts vs hs c b=some r/\vs.length=l.length/\∀(i:Nat)(o:Oper),l[i]?=some o->ts[i]?=some (IS all o (IM l (λj=>vs.getD j .dk) t (λ_=>true) i)):=by
 intro l
 induction l with
 |nil=>intro t H K h;exact⟨_,_,_,_,_,.nil,h,rfl,λi o h=>by simp at h⟩
 |cons o l ih=>
  intro t H K h;have h:A2r N o.dst (dH (OG all o) t λx=>A7C o.guard
   (@Bool.rec (λ_=>Af) (A0s E R x H o.op λv=>QI t o.dst v λc=>rU E R fz N all l c H λts vs hs=>K (x::ts) (v::vs) hs) (Dy (zop E R fz x H o.op λv b=>some (v,b)) λv b=>QI t o.dst v λc=>rU E R fz N all l c b λts vs hs=>K (x::ts) (v::vs) (H::hs)) (Qx E fz o.op))
   (Dy (A6v E R fz all o x H) λv b=>QI t o.dst v λc=>rU E R fz N all l c b λts vs hs=>K (x::ts) (v::vs) (@Bool.rec (λ_=>List Hp) hs (H::hs) (Qx E fz o.op))))=some r:=h
  obtain⟨w,h⟩:=nJ h;rw[A0v]at h;have F:iS (OG all o) t=IS all o t:=rfl;rw[F]at h;have key:∀(v:AV)(ts:List Tm)(vs:Is),(∀(i:Nat)(p:Oper),l[i]?=some p->ts[i]?=some (IS all p (IM l (λj=>vs.getD j .dk) (RQ t o.dst v) (λ_=>true) i)))->
   ∀(i:Nat)(p:Oper),(o::l)[i]?=some p->(IS all o t::ts)[i]?=some (IS all p (IM (o::l) (λj=>(v::vs).getD j .dk) t (λ_=>true) i)):=by
   intro v ts vs M i p C;cases i with
   |zero=>simp at C;subst C;rfl
   |succ i=>
    rw[kO];have:=M i p (by simpa using C);simpa using this
  cases u:o.guard with
  |none=>
   have q:GZ all (IS all o t) o=.run:=by unfold GZ;rw[u]
   rw[u]at h;have h:@Bool.rec (λ_=>Af) (A0s E R (IS all o t) H o.op λv=>QI t o.dst v λc=>rU E R fz N all l c H λts vs hs=>K (IS all o t::ts) (v::vs) hs) (Dy (zop E R fz (IS all o t) H o.op λv b=>some (v,b)) λv b=>QI t o.dst v λc=>rU E R fz N all l c b λts vs hs=>K (IS all o t::ts) (v::vs) (H::hs)) (Qx E fz o.op)=some r:=h;cases he:Qx E fz o.op
   ·rw[he]at h;obtain⟨v,L,y,f⟩:=yP h;rw[T8]at f;obtain⟨ts,vs,hs,c,b,g,e,k,n⟩:=ih _ _ _ f;exact⟨_,_,_,_,_,.rd he ⟨w,.inl ⟨.inl q,.inl ⟨he,⟨_,y⟩,rfl⟩⟩⟩ g,e,by simp[k],key v ts vs n⟩
   ·rw[he]at h;obtain⟨v,J,y,f⟩:=VK h;rw[T8]at f;obtain⟨ts,vs,hs,c,b,g,e,k,n⟩:=ih _ _ _ f;exact⟨_,_,_,_,_,.ef he ⟨w,.inl ⟨.inl q,.inr ⟨he,y⟩⟩⟩ g,e,by simp[k],key v ts vs n⟩
  |some Q=>
   rw[u]at h;have h:(Dy (A6v E R fz all o (IS all o t) H) λv b=>QI t o.dst v λc=>rU E R fz N all l c b λts vs hs=>K (IS all o t::ts) (v::vs) (@Bool.rec (λ_=>List Hp) hs (H::hs) (Qx E fz o.op)))=some r:=h;obtain⟨v,J,y,f⟩:=VK h;rw[T8]at f;obtain⟨ts,vs,hs,c,b,g,e,k,n⟩:=ih _ _ _ f;rcases iU y with⟨h1,h2⟩|⟨h1,h2⟩
   ·cases he:Qx E fz o.op
    ·rw[he]at h1 e;obtain⟨O,L,B,d⟩:=RH h1;injection d with d;injection d with d A
     subst d A;exact⟨_,_,_,_,_,.rd he ⟨w,.inl ⟨h2,.inl ⟨he,⟨_,B⟩,rfl⟩⟩⟩ g,e,by simp[k],key O ts vs n⟩
    ·rw[he]at h1 e;exact⟨_,_,_,_,_,.ef he ⟨w,.inl ⟨h2,.inr ⟨he,h1⟩⟩⟩ g,e,by simp[k],key v ts vs n⟩
   ·have h1:some (AV.v undef,H)=some (v,J):=h1;injection h1 with h1;injection h1 with B d
    subst B d;cases he:J5 E fz o
    ·have s:Qx E fz o.op=false:=he;rw[s]at e;exact⟨_,_,_,_,_,.rd he ⟨w,.inr ⟨h2,rfl,rfl⟩⟩ g,e,by simp[k],key _ ts vs n⟩
    ·have s:Qx E fz o.op=true:=he;rw[s]at e;exact⟨_,_,_,_,_,.ef he ⟨w,.inr ⟨h2,rfl,rfl⟩⟩ g,e,by simp[k],key _ ts vs n⟩
def Zw:∀{l:List α}{n:Nat}{K:α->Af},xN l n K=some r->∃a,l[n]?=some a/\K a=some r:=by
 intro l
 induction l with
 |nil=>intro n K h;cases h
 |cons a l ih=>
  intro n K h;cases n with
  |zero=>exact⟨a,rfl,h⟩
  |succ n=>
   obtain⟨b,h1,h2⟩:=ih (show xN l n K=some r from h);exact⟨b,by simpa using h1,h2⟩
def A6B{all:List Oper}{ts:List Tm}{vs:Is}{K:Af}:∀{bs:List (Nat×Nat)},A6C E R all bs ts vs hs K=some r->
 K=some r/\∀p∈bs,∃o b v e,all[p.1]?=some o/\ts[p.1]?=some b/\vs[p.1]?=some v/\hs[p.2]?=some e/\(((GZ all b o=.run\/GZ all b o=.dep true)/\∃f,RJ E R b e o.op (λu=>some (u,[]))=some (v,f))\/(GZ all b o=.skip\/GZ all b o=.dep false)):=by
 intro bs
 induction bs with
 |nil=>intro h;exact⟨h,λp d=>by simp at d⟩
 |cons p bs ih=>
  intro h;obtain⟨i,k⟩:=p;have h:(xN all i λo=>xN ts i λb=>xN vs i λv=>xN hs k λH=>Qq (gdK all b o.guard λg=>@Bool.rec (λ_=>Af) (some (.v (.bool true),[])) (Ba (RJ E R b H o.op λu=>some (u,[])) v) g) (A6C E R all bs ts vs hs K))=some r:=h;obtain⟨o,h1,h⟩:=Zw h;obtain⟨b,h2,h⟩:=Zw h;obtain⟨v,n,h⟩:=Zw h;obtain⟨e,q,h⟩:=Zw h;obtain⟨⟨f,s⟩,w⟩:=B0x h;obtain⟨x,y⟩:=ih w;refine⟨x,λp d=>?_⟩;simp only[Xh]at d;rcases d with rfl|d
  ·refine⟨o,b,v,e,h1,h2,n,q,?_⟩;rcases iU s with⟨j,c⟩|⟨j,c⟩
   ·exact .inl ⟨c,tA j⟩
   ·exact .inr c
  ·exact y p d
def B4z{i k:Nat}(g:C2G ops efs i k):∀(l:Hb)(a:Nat),(∀b,l[b]?=efs[a+b]?)->A7d (TB ops) i k a l=true:=by
 intro l
 induction l with
 |nil=>intro a _;rfl
 |cons e l ih=>
  intro a f;have d:efs[a]?=some e:=by have:=f 0;simpa using this.symm
  simp only[A7d,KF,l1i,l19];refine⟨?_,?_,ih (a+1) λb=>?_⟩
  ·cases c:tb ((TB ops).getD i 0) e
   ·exact .inl rfl
   ·refine .inr ?_;rw[yZ]at c;rw[Xi];exact g.1 a e d (PR c)
  ·cases c:tb ((TB ops).getD e 0) i
   ·exact .inl rfl
   ·refine .inr ?_;rw[yZ]at c;rw[kC];exact g.2 a e d (PR c)
  ·have:=f (b+1);rw[l0r]at this;rw[this];congr 1;omega
def A73:∀(l:List Oper)(n c:Nat),A74 E ef ms efs bs n c l=true->∀(j:Nat)(o:Oper),l[j]?=some o->ef o=false->Rf E o.op=true\/∀k,k<=efs.length->A7d ms (n+j) k 0 efs=true->k=c+VR ef l j\/(n+j,k)∈bs:=by
 intro l
 induction l with
 |nil=>intro n c _ j o h;simp at h
 |cons p l ih=>
  intro n c h j o f he;simp only[A74,KF]at h;cases j with
  |zero=>
   simp at f;subst f;have h1:=h.1;rw[he,Bool.false_or,l1i]at h1;rcases h1 with h1|h1
   ·exact .inl h1
   ·refine .inr λk s e=>?_;have h2:=GG.1 h1 k (KR.2 (by omega));rw[Nat.add_zero]at e;rw[e]at h2;simp only[l1i,Bool.not_true,yG,false_or,KF,List.any_eq_true]at h2;rcases h2 with h2|⟨q,hq,b,d⟩
    ·exact .inl (by rw[Z5 h2];simp[VR])
    ·refine .inr ?_;obtain⟨q1,q2⟩:=q;have b:=Z5 b;have d:=Z5 d;simp only at b d;subst b d;exact hq
  |succ j=>
   have:=ih (n+1) _ h.2 j o (by simpa using f) he;rw[show n+(j+1)=n+1+j from by omega];rcases this with b|b
   ·exact .inl b
   ·refine .inr λk s e=>?_;rcases b k s e with d|d
    ·refine .inl ?_;rw[d];cases g:ef p<;>simp[VR,g]
     omega
    ·exact .inr d
def rT(w:XE.Ok D E P)(F:RSound D E P R){id:Nat}(hD:zF ops (FF (J5 E cf.fz) 0 ops)=true)(M:A74 E (J5 E cf.fz) (TB ops) (FF (J5 E cf.fz) 0 ops) bs 0 0 ops=true)(h:(rU E R cf.fz cf.n ops ops t H λts vs hs J u=>A6C E R ops bs ts vs hs (K J u))=some r):
 QB P E.G ro m cf.n (.region id ops.toArray true) (λe J u=>e=.normal/\K J u=some r) t H:=by
 obtain⟨ts,vs,hs,J,u,ad,Q,af,ae⟩:=A30 ops t H _ h;obtain⟨Q,x⟩:=A6B Q;obtain⟨h0,ac,O,s⟩:=ad.at;have hk:=tB hD;have hr:=A73 ops 0 0 M;have e0:H=(λk=>hs.getD k []) 0:=h0.symm;rw[e0];refine A2y (efs:=FF (J5 E cf.fz) 0 ops) (val:=λj=>vs.getD j .dk) (Hs:=λk=>hs.getD k []) w.mix hk (λo c=>?_) ?_ ?_ ?_
 ·obtain⟨i,Y⟩:=List.getElem?_of_mem c;exact(s i o Y).1
 ·intro i o c ab k aa hp;have he:J5 E cf.fz o=false:=by
   cases he:J5 E cf.fz o
   ·rfl
   ·exact absurd (B2g ops 0 i o c he) (by rw[Kd];exact ab _)
  have g:=s i o c;have V:VR (J5 E cf.fz) ops (i+1)=VR (J5 E cf.fz) ops i:=by rw[Zk c,he];simp
  rw[V]at g;rcases hr i o c he with hf|A
  ·refine Stp.aopg (fz:=cf.fz) w F ?_;obtain⟨y,⟨d,h⟩|⟨d,h1,h2⟩⟩:=g
   ·rcases h with⟨_,⟨L,h⟩,_⟩|⟨h,_⟩
    ·exact⟨y,.inl ⟨d,.inl ⟨he,⟨L,by rw[A1O hf _ (hs.getD (VR (J5 E cf.fz) ops i) [])];exact h⟩,rfl⟩⟩⟩
    ·rw[he]at h;cases h
   ·exact⟨y,.inr ⟨d,h1,rfl⟩⟩
  ·rcases A k aa (by rw[Kd];exact B4z hp _ 0 (λb=>by rw[Kd])) with Z|q
   ·rw[Z,Kd];exact Stp.aopg (fz:=cf.fz) w F g
   ·rw[Kd]at q;obtain⟨o',t1,v,Hk,h1,h2,B,C,f⟩:=x _ q;simp only at h1 h2 B C;rw[c]at h1;injection h1 with h1;subst h1
    rw[ae i o c]at h2;injection h2 with h2;subst h2
    have hv:vs.getD i .dk=v:=by rw[UW,B];rfl
    have X:hs.getD k []=Hk:=by rw[UW,C];rfl
    refine Stp.aopg (fz:=cf.fz) w F ?_;obtain⟨y,⟨d,h⟩|⟨d,h1,h2⟩⟩:=g
    ·rcases f with⟨_,L,f⟩|f
     ·refine⟨y,.inl ⟨d,.inl ⟨he,⟨L,?_⟩,rfl⟩⟩⟩;rw[hv,X];exact f
     ·exfalso;rcases d with d|d<;>rcases f with f|f<;>(rw[d]at f;cases f)
    ·exact⟨y,.inr ⟨d,h1,rfl⟩⟩
 ·intro a i o c Y;obtain⟨j,p,h1,h2,B,C⟩:=Y' ops 0 a i Y;rw[Kd]at h1;subst h1;rw[c]at h2;injection h2 with h2;subst h2
  have:=s i o c;rw[Zk c,B,C]at this;exact Stp.aopg (fz:=cf.fz) w F this
 ·refine⟨rfl,?_⟩;rw[<-ac];have:hs.getD (FF (J5 E cf.fz) 0 ops).length []=u:=by rw[X_];exact O.symm
  rw[this];exact Q
def A2Z(g:XE.Ok D E P)(j:RSound D E P R){id:Nat}(b:tC E cf id ops=true)(h:C1y E R cf id ops t H K=some r):
 QB P E.G ro m cf.n (.region id ops.toArray true) (λe f d=>e=.normal/\K f d=some r) t H:=by
 unfold tC at b;rw[KF]at b;have h:(match A9I id cf.rc with
  |none=>zdr E R cf.fz cf.n ops ops t H K
  |some bs=>rU E R cf.fz cf.n ops ops t H λts vs hs f d=>A6C E R ops bs ts vs hs (K f d))=some r:=h
 cases c:A9I id cf.rc with
 |none=>rw[c]at b h;exact A6z g j b.1 b.2 h
 |some bs=>rw[c]at b h;exact rT g j b.1 b.2 h
def A0y(f:∀E cf id ops,D E cf id ops=true->tC E cf id ops=true)(d:XE.Ok D E P)(e:RSound D E P R):A50 D E P (A56 E R):=by
 intro ro cf id ops t H K r m hb h;unfold A56 at h;cases c:cf.b
 ·rw[c]at h;exact A2Z d e (f _ _ _ _ (hb c)) h
 ·rw[c]at h;unfold C1x at h;obtain⟨h1,h2⟩:=LP h;rw[KF]at h1;exact rT d e h1.1 h1.2 h2
end
end
def jn{α:Type}(k:α)(F:α->Af):Af:=(λ(_:Unit)=>F k) HY
def oS(R:Rt)(n:Nat)(f:AV)(t:Tm)(ps:Array Tmp)(d e:Code)(H:Hp)(K:Option (Option Code)->Ru):Af:=
 match f with
 |.fn (.func g) first cap=>Io H λs=>Za first (.yl s::cap) λall=>R.call g all ((s,.loop n t ps d e (some none))::H) λ_ b=>IR b s λx=>dL x λ_ _ _ _ _ a=>XA4 b s .gone λc=>K a c
 |_=>none
def oD(p:Option (Option Code))(x y:Af)(e g:Nat->Af):Af:=
 match p with
 |some none=>x
 |some (some .ret)=>y
 |some (some (.exit id))=>e id
 |some (some (.goto l))=>g l
 |_=>none
def rdK(run:A0a)(N:Nat)(t:Tm)(ps:Array Tmp)(args:Is)(f g:Code)(H:Hp)(P:Hp->Ru->Af)(Q:Exit->Ru):Af:=
 A3o t ps.toList args λa=>run ⟨true,a.map (·.1),false,N,[]⟩ f a H λe h b=>match e with
  |.normal=>P b λc=>run ⟨true,a.map (·.1),false,N,[]⟩ g h c λe _ d=>Q e d
  |_=>none
def A17:Code->List (Operand×Array Tmp×Code×Code)
 |.seq x y=>A17 x++A17 y
 |.cond _ x y=>A17 x++A17 y
 |.block _ x=>A17 x
 |.loop x=>A17 x
 |.scope x=>A17 x
 |.rangeFunc g ps a b=>[(g,ps,a,b)]
 |_=>[]
def XG(c:Code)(k:Nat):Operand×Array Tmp×Code×Code:=(A17 c).getD k (.func 0,#[],.skip,.skip)
abbrev zI:AV:=.v (.int .i64 0)
abbrev zS:AV:=.v (.string ⟨⟨[]⟩⟩)
abbrev zL:AV:=.v (.slice none 0 0)
abbrev zB:AV:=.v (.bool false)
section
variable{s u:Ha}
abbrev I(n:Int):AV:=.v (.int .i64 n)
abbrev Bo(b:Bool):AV:=.v (.bool b)
abbrev S(l:Ha):AV:=.v (.string ⟨⟨l⟩⟩)
section
variable{K:K2}{i j:TI}{k:IntKind}{a b:Int}
def CY:Ar i .add (.v (.int k a)) (.v (.int k b)) K=K (.v (.int k (k.wrap (a+b)))):=by
 have:Ar i .add (.v (.int k a)) (.v (.int k b)) K=ck (decide (k=k)) (MM k (a+b) λz=>K (.v (.int k z))):=rfl;rw[this,HR rfl];exact HJ _ _ _
def J6:Ar i .sub (.v (.int k a)) (.v (.int k b)) K=K (.v (.int k (k.wrap (a-b)))):=by
 have:Ar i .sub (.v (.int k a)) (.v (.int k b)) K=ck (decide (k=k)) (MM k (a-b) λz=>K (.v (.int k z))):=rfl;rw[this,HR rfl];exact HJ _ _ _
def OZ:Ar i .mul (.v (.int k a)) (.v (.int k b)) K=K (.v (.int k (k.wrap (a*b)))):=by
 have:Ar i .mul (.v (.int k a)) (.v (.int k b)) K=ck (decide (k=k)) (MM k (a*b) λz=>K (.v (.int k z))):=rfl;rw[this,HR rfl];exact HJ _ _ _
def A2o(h:b≠0):Ar i .quo (.v (.int k a)) (.v (.int k b)) K=K (.v (.int k (k.wrap (a.tdiv b)))):=by
 have:Ar i .quo (.v (.int k a)) (.v (.int k b)) K=ck (decide (k=k)) (ck (!ieq b 0) (MM k (a.tdiv b) λz=>K (.v (.int k z)))):=rfl;rw[this,HR rfl,QS,HW h];exact HJ _ _ _
def Q9(h:b≠0):Ar i .rem (.v (.int k a)) (.v (.int k b)) K=K (.v (.int k (a.tmod b))):=by
 have:Ar i .rem (.v (.int k a)) (.v (.int k b)) K=ck (decide (k=k)) (ck (!ieq b 0) (fI (a.tmod b) λz=>K (.v (.int k z)))):=rfl;rw[this,HR rfl,QS,HW h];exact VG (a.tmod b) (λz=>K (.v (.int k z)))
def D8:Ar i .lss (.v (.int k a)) (.v (.int k b)) K=K (Bo (decide (a<b))):=by
 have:Ar i .lss (.v (.int k a)) (.v (.int k b)) K=ck (decide (k=k)) (bB (!qJ b a) K):=rfl;rw[this,HR rfl,LD];have e:(!decide (b<=a))=decide (a<b):=by rw[vA];simp
 rw[e];exact NO _ _
def jO:Ar i .leq (.v (.int k a)) (.v (.int k b)) K=K (Bo (decide (a<=b))):=by
 have:Ar i .leq (.v (.int k a)) (.v (.int k b)) K=ck (decide (k=k)) (bB (qJ a b) K):=rfl;rw[this,HR rfl,LD];exact NO _ _
def Ef:Ar i .gtr (.v (.int k a)) (.v (.int k b)) K=K (Bo (decide (b<a))):=by
 have:Ar i .gtr (.v (.int k a)) (.v (.int k b)) K=ck (decide (k=k)) (bB (!qJ a b) K):=rfl;rw[this,HR rfl,LD];have e:(!decide (a<=b))=decide (b<a):=by rw[vA];simp
 rw[e];exact NO _ _
def KO:Ar i .geq (.v (.int k a)) (.v (.int k b)) K=K (Bo (decide (b<=a))):=by
 have:Ar i .geq (.v (.int k a)) (.v (.int k b)) K=ck (decide (k=k)) (bB (qJ b a) K):=rfl;rw[this,HR rfl,LD];exact NO _ _
def Cl:Ar i .eql (.v (.int k a)) (.v (.int k b)) K=K (Bo (decide (a=b))):=by
 have:Ar i .eql (.v (.int k a)) (.v (.int k b)) K=ck (decide (k=k)) (bB (ieq a b) K):=rfl;rw[this,HR rfl,QS];exact NO _ _
def I3:Ar i .neq (.v (.int k a)) (.v (.int k b)) K=K (Bo (!decide (a=b))):=by
 have:Ar i .neq (.v (.int k a)) (.v (.int k b)) K=ck (decide (k=k)) (bB (!ieq a b) K):=rfl;rw[this,HR rfl,QS];exact NO _ _
def Mn:Ar i .eql (S s) (S u) K=K (Bo (decide (s=u))):=by
 have:Ar i .eql (S s) (S u) K=bB (eqB s u) K:=rfl;rw[this,QU,NO,show(s==u)=decide (s=u) from by by_cases h:s=u<;>simp[h]]
def RF:Ar i .neq (S s) (S u) K=K (Bo (!decide (s=u))):=by
 have:Ar i .neq (S s) (S u) K=bB (!eqB s u) K:=rfl;rw[this,QU,NO,show(s==u)=decide (s=u) from by by_cases h:s=u<;>simp[h]]
def Ff{q:Bool}{x y:Af}:A1 (Bo q) x y=if q=true then x else y:=by cases q<;>rfl
end
def BE{α:Type}(k:α)(F:α->Af):jn k F=F k:=rfl
def CQ{x:Int}(h1: -9223372036854775808<=x)(h2:x<9223372036854775808):IntKind.i64.wrap x=x:=by
 simp only[IntKind.wrap,IntKind.bits,IntKind.signed];have c:(2^64:Int)=18446744073709551616:=by decide
 have d:(2^(64-1):Int)=9223372036854775808:=by decide
 simp only[c,d,l1b,decide_eq_true_eq];split<;>omega
end
def A2U{E:XE}{g:Nat}{R:Rt}{args:Is}{H:Hp}{K:K2}(h:∀s,args≠[.ptr s 0 0]):zpm E g R args H K=Ap R g args H K:=by
 show @Bool.rec (λ_=>Af) (Ap R g args H K) (JR R g args H K) (E.lm g)=_;cases E.lm g
 ·rfl
 ·show JR R g args H K=_;unfold JR;split
  ·rename_i s;exact absurd rfl (h s)
  ·rfl
section
variable{v:AV}{b q q':Bool}{H:Hp}{args:Is}{D n:Nat}{P:Program}{R:Rt}{F:Rt->AV->AV->AV->AV->Hp->KV->Af}{α:Type}{x:Value}
def BT.All(p:Nat->α->Prop):BT α->Prop
 |.leaf=>True
 |.node k v l r=>p k v/\l.All p/\r.All p
def A07{p:Nat->α->Prop}:(BT.leaf:BT α).All p:=trivial
def A06{p:Nat->α->Prop}{k:Nat}{v:α}{l r:BT α}(h:p k v)(a:l.All p)(hr:r.All p):(BT.node k v l r).All p:=⟨h,a,hr⟩
theorem BT.All.get{p:Nat->α->Prop}:∀{b:BT α},b.All p->∀{i:Nat}{v:α},b.get i=some v->p i v:=by
 intro b
 induction b with
 |leaf=>intro _ i v h;cases h
 |node k w l r a c=>
  intro e i v h;obtain⟨h1,h2,d⟩:=e;simp only[BT.get]at h;split at h
  ·rename_i g;injection h with h
   subst h;rw[Z5 g];exact h1
  ·split at h
   ·exact a h2 h
   ·exact c d h
abbrev NF:=Rt->Is->Hp->KV->Af
def ar0(F:Hp->KV->Af)(l:Is):Hp->KV->Af:=match l with|[]=>F|_=>λ_ _=>none
def ar1(F:AV->Hp->KV->Af)(l:Is):Hp->KV->Af:=match l with|[a]=>F a|_=>λ_ _=>none
def ar2(F:AV->AV->Hp->KV->Af)(l:Is):Hp->KV->Af:=match l with|[a,b]=>F a b|_=>λ_ _=>none
def ar3(F:AV->AV->AV->Hp->KV->Af)(l:Is):Hp->KV->Af:=match l with|[a,b,c]=>F a b c|_=>λ_ _=>none
def ar4(F:AV->AV->AV->AV->Hp->KV->Af)(l:Is):Hp->KV->Af:=match l with|[a,b,c,d]=>F a b c d|_=>λ_ _=>none
def Mq(E:XE)(R:Rt):A0a:=λa c t H K=>fY E R (A56 E R) a c t H K
def Lk(E:XE)(f:Nat)(F:NF):Prop:=∀(R:Rt)(args:Is)(H:Hp)(K:KV)(r:AV×Hp),F R args H K=some r->H? E (Mq E R) f args H K=some r
def lk0{E:XE}{f:Nat}{F:Rt->Hp->KV->Af}(h:∀R H K,H? E (Mq E R) f [] H K=F R H K):Lk E f λR=>ar0 (F R):=λR args H K r hr=>by
 match args,hr with
 |[],hr=>exact(h R H K).trans hr
def lk1{E:XE}{f:Nat}{F:Rt->AV->Hp->KV->Af}(h:∀R a H K,H? E (Mq E R) f [a] H K=F R a H K):Lk E f λR=>ar1 (F R):=λR args H K r hr=>by
 match args,hr with
 |[a],hr=>exact(h R a H K).trans hr
def lk2{E:XE}{f:Nat}{F:Rt->AV->AV->Hp->KV->Af}(h:∀R a b H K,H? E (Mq E R) f [a,b] H K=F R a b H K):Lk E f λR=>ar2 (F R):=λR args H K r hr=>by
 match args,hr with
 |[a,b],hr=>exact(h R a b H K).trans hr
def lk3{E:XE}{f:Nat}{F:Rt->AV->AV->AV->Hp->KV->Af}(h:∀R a b c H K,H? E (Mq E R) f [a,b,c] H K=F R a b c H K):Lk E f λR=>ar3 (F R):=λR args H K r hr=>by
 match args,hr with
 |[a,b,c],hr=>exact(h R a b c H K).trans hr
def lk4{E:XE}{f:Nat}(h:∀R a b c d H K,H? E (Mq E R) f [a,b,c,d] H K=F R a b c d H K):Lk E f λR=>ar4 (F R):=λR args H K r hr=>by
 match args,hr with
 |[a,b,c,d],hr=>exact(h R a b c d H K).trans hr
def Zl(E:XE)(nT:BT NF)(R:Rt):B2v:=λf args H K=>match nT.get f with|some F=>F R args H K|none=>H? E (Mq E R) f args H K
abbrev OF:=Is->Hp->KV->Af->Af
def G_(E:XE)(P:Program)(f:Nat)(F:OF):Prop:=∀(args:Is)(H:Hp)(K:KV)(alt:Af)(r:AV×Hp),F args H K alt=some r->
 alt=some r\/(dF P f/\Ra P E.G f args H (λc a=>K c a=some r))
def A2u(E:XE)(nT:BT NF)(oT:BT OF)(R:Rt):B2v:=λf args H K=>match oT.get f with
 |some F=>F args H K (Zl E nT R f args H K)
 |none=>Zl E nT R f args H K
def Xa(E:XE)(nT:BT NF)(oT:BT OF)(n:Nat):Rt:=@Nat.rec (λ_=>Rt) ⟨λ_ _ _ _=>none,λ_ _ _ _ _=>none⟩ (λ_ R=>⟨A2u E nT oT R,Mq E R⟩) n
section
variable{E:XE}{nT:BT NF}{oT:BT OF}{f:Nat}
def Vy{F:NF}(h:nT.get f=some F)(a:oT.get f=none)(n:Nat)(args:Is)(H:Hp)(K:KV):(Xa E nT oT (n+1)).call f args H K=F (Xa E nT oT n) args H K:=by
 show A2u E nT oT (Xa E nT oT n) f args H K=_;unfold A2u;rw[a];unfold Zl;simp only[h]
def A42{F:Rt->Hp->KV->Af}(h:nT.get f=some λR=>ar0 (F R))(a:oT.get f=none)(n:Nat)(H:Hp)(K:KV):(Xa E nT oT (n+1)).call f [] H K=F (Xa E nT oT n) H K:=Vy h a n _ H K
def A41{F:Rt->AV->Hp->KV->Af}(h:nT.get f=some λR=>ar1 (F R))(c:oT.get f=none)(n:Nat)(a:AV)(H:Hp)(K:KV):(Xa E nT oT (n+1)).call f [a] H K=F (Xa E nT oT n) a H K:=Vy h c n _ H K
def A40{F:Rt->AV->AV->Hp->KV->Af}(h:nT.get f=some λR=>ar2 (F R))(c:oT.get f=none)(n:Nat)(a b:AV)(H:Hp)(K:KV):(Xa E nT oT (n+1)).call f [a,b] H K=F (Xa E nT oT n) a b H K:=Vy h c n _ H K
def A3Z{F:Rt->AV->AV->AV->Hp->KV->Af}(h:nT.get f=some λR=>ar3 (F R))(d:oT.get f=none)(n:Nat)(a b c:AV)(H:Hp)(K:KV):(Xa E nT oT (n+1)).call f [a,b,c] H K=F (Xa E nT oT n) a b c H K:=Vy h d n _ H K
def A3Y(h:nT.get f=some λR=>ar4 (F R))(e:oT.get f=none)(n:Nat)(a b c d:AV)(H:Hp)(K:KV):(Xa E nT oT (n+1)).call f [a,b,c,d] H K=F (Xa E nT oT n) a b c d H K:=Vy h e n _ H K
end
def A3X{E:XE}{nT:BT NF}{oT:BT OF}(e:XE.Ok tC E P)(s:nT.All (Lk E))(p:oT.All (G_ E P)):∀n,RSound tC E P (Xa E nT oT n):=by
 intro n
 induction n with
 |zero=>
  refine⟨?_,?_⟩
  ·intro ro k c t H K r m h1 h2 h;cases h
  ·intro f args H K r h;cases h
 |succ n ih=>
  have u:A50 tC E P (A56 E (Xa E nT oT n)):=A0y (λ_ _ _ _ h=>h) e ih;have a:jY tC E P (Mq E (Xa E nT oT n)):=λro k c t H K r m i w h=>A0z e ih u i c t H K w h;have d:∀(f:Nat)(args:Is)(H:Hp)(K:KV)(r:AV×Hp),Zl E nT (Xa E nT oT n) f args H K=some r->dF P f/\Ra P E.G f args H (λv j=>K v j=some r):=λf args H K r h=>by
   unfold Zl at h;split at h
   ·rename_i F g;exact yR e a (s.get g _ _ _ _ _ h)
   ·exact yR e a h
  refine⟨a,λf args H K r h=>?_⟩;have h:A2u E nT oT (Xa E nT oT n) f args H K=some r:=h;unfold A2u at h;split at h
  ·rename_i F g;rcases p.get g _ _ _ _ _ h with h|h
   ·exact d f args H K r h
   ·exact h
  ·exact d f args H K r h
def fJ{G:Gl}{f:Nat}{K:KV}{r:AV×Hp}(g:K (.v x) H=some r)(hc:∀w0 C w a,Rel G w0 C H w->CG C w args a->Calls P f a.toArray w λe c=>e=.returned x/\Below w.heap.size w c):Ra P G f args H (λi d=>K i d=some r):=λw0 C w a hr h=>
 (hc w0 C w a hr h).mono λe c ⟨he,hb⟩=>⟨.v x,x,C,H,he,hr.of_below hb,.v _,(hr.ext_below hb).frm,g⟩
def PS(R:Rt)(f:Nat)(args:Is)(v:AV):Prop:=∀H K,Ap R f args H K=K v
def Fx(b:Bool)(D:Nat)(a c:AV)(H:Hp)(q:Bool):Prop:=∀K:Bool->K2,HV b H D a K=K q c
def CC:Fx b D (.v x) (.v x) H false:=λK=>by cases D<;>rfl
def OI{cs:Is}:Fx true D (.list n cs) (.list n cs) H false:=λK=>by cases D<;>rfl
def Rq{cs:Is}:Fx true D (.iptr cs) (.iptr cs) H false:=λK=>by cases D<;>rfl
def iY{es:IH}:Fx true D (.imap es) (.imap es) H false:=λK=>by cases D<;>rfl
def R9(b:Bool)(D:Nat)(l a:Is)(H:Hp)(q:Bool):Prop:=∀K:Bool->Is->Af,II (HV b H D) l K=K q a
def AH:R9 b D [] [] H false:=λ_=>rfl
def Ao{a c:AV}{l d:Is}(h:Fx b D a c H q)(k:R9 b D l d H q'):R9 b D (a::l) (c::d) H (q||q'):=λK=>by
 have e:II (HV b H D) (a::l) K=HV b H D a λq c=>II (HV b H D) l λq' d=>K (@Bool.rec (λ_=>Bool) q' true q) (c::d):=rfl;rw[e,h,k];cases q<;>rfl
theorem K1(f:α->Value):∀(l:List α),R9 b D (l.map λx=>.v (f x)) (l.map λx=>.v (f x)) H false
 |[]=>AH
 |a::l=>Ao (q:=false) (q':=false) CC (K1 f l)
def LF{cs cs':Is}(h:R9 b D cs cs' H q):Fx b (D+1) (.agg cs) (.agg cs') H q:=λK=>h _
def eV{cs cs':Is}(h:R9 b D cs cs' H q):Fx b (D+1) (.tup cs) (.tup cs') H q:=λK=>h _
def Bp{r:Nat}{x:Row}{K:Row->Af}(h:Ai H r=some x):IR H r K=K x:=by
 induction H with
 |nil=>simp[Ai]at h
 |cons p H ih=>
  obtain⟨k,y⟩:=p;simp only[Ai]at h;have e:IR ((k,y)::H) r K=@Bool.rec (λ_=>Af) (IR H r K) (K y) (Nat.beq r k):=rfl;rw[e];by_cases a:r=k
  ·rw[Dq a]at h;rw[a,oG,<-(iK h).1]
  ·rw[CF a]at h;have:Nat.beq r k=false:=by
    cases hb:Nat.beq r k
    ·rfl
    ·exact absurd (Z5 hb) a
   rw[this];exact ih h
def VE{sz s n:Nat}{e:TypeId}{cs cs':Is}(i:Ai H s=some (.cells q e cs))(hn:cs.length=n*sz)(h:R9 b D cs cs' H q'):Fx b (D+1) (.sl sz s 0 n) (.list n cs') H true:=λK=>by
 have d:HV b H (D+1) (.sl sz s 0 n) K=IR H s λx=>Ki x λ_ cs=>EO (Nat.mul n sz) (Dn 0 cs) λc=>II (HV b H D) c λ_ a=>K true (.list n a):=rfl;rw[d,Bp i];have g:(Ki (.cells q e cs) λ_ cs=>EO (Nat.mul n sz) (Dn 0 cs) λc=>II (HV b H D) c λ_ a=>K true (.list n a))=EO (n*sz) cs λc=>II (HV b H D) c λ_ a=>K true (.list n a):=rfl;rw[g,KS _ _ _ (by omega),l25 (by omega),h]
def CS(R:Rt)(f:Nat)(args:Is)(v:AV):Prop:=∀K:KV,(∀c a,(∀b,∃q,Fx b depth c v a q)->K c a=some (v,[]))->R.call f args [] K=some (v,[])
def AP{f:Nat}{args args':Is}{K:K2}(hc:CS R f args' v)(e:R9 true depth args args' H q):Ap R f args H K=K v:=by
 unfold Ap;rw[e];have:=hc (λa c=>HV (!q) c depth a λ_ g=>some (g,[])) (λa i h=>by
  obtain⟨q',d⟩:=h (!q);exact d _)
 rw[this];rfl
def CS.ps{f:Nat}(hc:CS R f args v)(a:∀H,R9 true depth args args H false):PS R f args v:=λH K=>AP hc (a H)
end
section
variable{v zi zj:AV}{H:Hp}{k q:IntKind}{a a' b b':Nat}
abbrev W(x:BitVec 32):AV:=.v (.int .u32 (x.toNat:Int))
abbrev By(b:UInt8):AV:=.v (.int .u8 (b.toNat:Int))
def Lw(l:Ha):Is:=l.map λb=>By b
def Eg(l:List (BitVec 32)):Is:=l.map λx=>W x
def Yh(h:k.signed=false)(z:Int):k.wrap z=z%(2^k.bits:Nat):=by
 simp only[IntKind.wrap,h,Bool.false_and];simp
def L5(x:BitVec 32):BitVec.ofInt 32 (x.toNat:Int)=x:=by
 apply BitVec.eq_of_toNat_eq;simp
def gB{n:Nat}(h:n<4294967296):IntKind.u32.wrap (n:Int)=(n:Int):=by
 rw[Yh rfl];show(n:Int)%(4294967296:Nat)=n;omega
section
variable{K:K2}{i j:TI}{x y:BitVec 32}
def Z'(op:BinOp)(f:IT)(d:Ja op=false)(c:A4y op=f):Ar i op (W x) (W y) K=f .u32 x.toNat y.toNat K:=by
 have:Ar i op (W x) (W y) K=@Bool.rec (λ_=>Af) (ck (decide (IntKind.u32=.u32)) (A4y op .u32 x.toNat y.toNat K)) (A4y op .u32 x.toNat y.toNat K) (Ja op):=rfl;rw[this,d,c];rfl
def Qh:Ar i .add (W x) (W y) K=K (W (x+y)):=by
 rw[Z' .add B56 rfl rfl];unfold B56;rw[HJ,Yh rfl];have:((x.toNat:Int)+(y.toNat:Int))%(2^IntKind.u32.bits:Nat)=((x+y).toNat:Int):=by
  rw[BitVec.toNat_add];show((x.toNat:Int)+(y.toNat:Int))%(4294967296:Nat)=_;simp only[Int.natCast_emod,Int.natCast_add]
 show K (.v (.int .u32 (((x.toNat:Int)+(y.toNat:Int))%(2^IntKind.u32.bits:Nat))))=_;rw[this]
def VI:Ar i .xor (W x) (W y) K=K (W (x^^^y)):=by
 rw[Z' .xor B54 rfl rfl];unfold B54;rw[VG];have e:(BitVec.ofInt IntKind.u32.bits (x.toNat:Int)^^^BitVec.ofInt IntKind.u32.bits (y.toNat:Int)).toNat=(x^^^y).toNat:=by
  show(BitVec.ofInt 32 (x.toNat:Int)^^^BitVec.ofInt 32 (y.toNat:Int)).toNat=_;rw[L5,L5]
 rw[e,gB (x^^^y).isLt]
def D_:Ar i .and (W x) (W y) K=K (W (x&&&y)):=by
 rw[Z' .and B55 rfl rfl];unfold B55;rw[VG];have e:(BitVec.ofInt IntKind.u32.bits (x.toNat:Int)&&&BitVec.ofInt IntKind.u32.bits (y.toNat:Int)).toNat=(x&&&y).toNat:=by
  show(BitVec.ofInt 32 (x.toNat:Int)&&&BitVec.ofInt 32 (y.toNat:Int)).toNat=_;rw[L5,L5]
 rw[e,gB (x&&&y).isLt]
def jN:Ar i .or (W x) (W y) K=K (W (x|||y)):=by
 rw[Z' .or iOr rfl rfl];unfold iOr;rw[VG];have e:(BitVec.ofInt IntKind.u32.bits (x.toNat:Int)|||BitVec.ofInt IntKind.u32.bits (y.toNat:Int)).toNat=(x|||y).toNat:=by
  show(BitVec.ofInt 32 (x.toNat:Int)|||BitVec.ofInt 32 (y.toNat:Int)).toNat=_;rw[L5,L5]
 rw[e,gB (x|||y).isLt]
def B1t:MC .xor (W x) K=K (W (~~~x)):=by
 have c:MC .xor (W x) K=fI (IntKind.u32.wrap ((BitVec.ofInt IntKind.u32.bits (if IntKind.u32.signed=true then-1 else IntKind.u32.max)^^^BitVec.ofInt IntKind.u32.bits (x.toNat:Int)).toNat)) λz=>K (.v (.int .u32 z)):=rfl;rw[c,VG];have e:(BitVec.ofInt IntKind.u32.bits (if IntKind.u32.signed=true then-1 else IntKind.u32.max)^^^BitVec.ofInt IntKind.u32.bits (x.toNat:Int)).toNat=(~~~x).toNat:=by
  show(BitVec.ofInt 32 4294967295^^^BitVec.ofInt 32 (x.toNat:Int)).toNat=_;rw[L5];have:BitVec.ofInt 32 4294967295=BitVec.allOnes 32:=by decide
  rw[this,BitVec.allOnes_xor]
 rw[e,gB (~~~x).isLt]
def JL{z:Int}{k:Nat}(hz:z=k)(c:k<=32):Ar i .shr (W x) (.v (.int q z)) K=K (W (x>>>k)):=by
 subst hz;have:Ar i .shr (W x) (.v (.int q (k:Int))) K=ck (qJ 0 (k:Int)) (fI ((x.toNat:Int).fdiv (2^(min (k:Int).toNat 32))) λz=>K (.v (.int .u32 z))):=rfl;rw[this,VG];have h1:qJ 0 (k:Int)=true:=by rw[LD];simp
 have h2:(x.toNat:Int).fdiv (2^(min (k:Int).toNat 32))=((x>>>k).toNat:Int):=by
  rw[mG,l22 c,BitVec.toNat_ushiftRight,Nat.shiftRight_eq_div_pow];have:((2:Int)^k)=((2^k:Nat):Int):=by simp
  rw[this,Int.fdiv_eq_ediv_of_nonneg _ (Int.natCast_nonneg _)];exact(Int.natCast_ediv _ _).symm
 rw[h1,h2];rfl
def LO{z:Int}{k:Nat}(hz:z=k)(c:k<=32):Ar i .shl (W x) (.v (.int q z)) K=K (W (x<<<k)):=by
 subst hz;have:Ar i .shl (W x) (.v (.int q (k:Int))) K=ck (qJ 0 (k:Int)) (MM .u32 ((x.toNat:Int)*2^(min (k:Int).toNat 32)) λz=>K (.v (.int .u32 z))):=rfl;rw[this,HJ,Yh rfl];have h1:qJ 0 (k:Int)=true:=by rw[LD];simp
 have h2:((x.toNat:Int)*2^(min (k:Int).toNat 32))%(2^IntKind.u32.bits:Nat)=((x<<<k).toNat:Int):=by
  rw[mG,l22 c,BitVec.toNat_shiftLeft,Nat.shiftLeft_eq];have:((2:Int)^k)=((2^k:Nat):Int):=by simp
  rw[this,<-Int.natCast_mul];exact(Int.natCast_emod _ _).symm
 rw[h1,h2];rfl
def B1M:Hg ⟨a,b,.int k,zi⟩ ⟨a',b',.int .u8,zj⟩ (W x) K=K (By (UInt8.ofNat x.toNat)):=by
 have:Hg ⟨a,b,.int k,zi⟩ ⟨a',b',.int .u8,zj⟩ (W x) K=MM .u8 (x.toNat:Int) λz=>K (.v (.int .u8 z)):=rfl;rw[this,HJ,Yh rfl];have:(x.toNat:Int)%(2^IntKind.u8.bits:Nat)=((UInt8.ofNat x.toNat).toNat:Int):=by
  rw[UInt8.toNat_ofNat'];exact(Int.natCast_emod _ _).symm
 rw[this]
def B1N{c:UInt8}:Hg ⟨a,b,.int k,zi⟩ ⟨a',b',.int .u32,zj⟩ (By c) K=K (W (BitVec.ofNat 32 c.toNat)):=by
 have:Hg ⟨a,b,.int k,zi⟩ ⟨a',b',.int .u32,zj⟩ (By c) K=MM .u32 (c.toNat:Int) λz=>K (.v (.int .u32 z)):=rfl;rw[this,HJ,Yh rfl];have:(c.toNat:Int)%(2^IntKind.u32.bits:Nat)=((BitVec.ofNat 32 c.toNat).toNat:Int):=by
  rw[BitVec.toNat_ofNat];exact(Int.natCast_emod _ _).symm
 rw[this]
def B1W:Au (some (v,H)) K=K v:=id rfl
def A4K{c:KV}:Dy (some (v,H)) c=c v H:=id rfl
end
end
section
variable{v:AV}{H H':Hp}{e n s sz:Nat}{K:Nat->Is->Af}{P:Nat->Prop}{x y:Row}{ie:TI}
def Wf(H:Hp):Prop:=∀k∈H.map (·.1),k<As H
def B0S(H:Hp)(r:Nat)(y:Row):(upd H r y).map (·.1)=H.map (·.1):=by
 induction H with
 |nil=>rfl
 |cons p H ih=>
  obtain⟨k,x⟩:=p;by_cases a:r=k
  ·subst a;simp[upd]
  ·simp[upd,a,ih]
def FH:Wf []:=λk h=>by simp at h
def AG(h:Wf H):Wf ((As H,x)::H):=λk a=>by
 show k<As H+1;simp only[XI,Xh]at a;rcases a with rfl|a
 ·omega
 ·have:=h k a;omega
def Bj{r:Nat}(h:Wf H):Wf (upd H r y):=λk a=>by rw[B4];rw[B0S]at a;exact h k a
def B0E(h:Ai H s=some x):s∈H.map (·.1):=by
 induction H with
 |nil=>simp[Ai]at h
 |cons p H ih=>
  obtain⟨k,y⟩:=p;simp only[Ai]at h;split at h
  ·rename_i a;simp[a]
  ·simp[ih h]
def Wf.lt(h:Wf H)(a:Ai H s=some x):s<As H:=h s (B0E a)
def Ax(a:x≠.gone):Ai ((As H,x)::H) (As H)=some x:=by
 simp only[Ai,Dq];cases x<;>first|rfl|exact absurd rfl a
def A7(b:s<As H)(a:Ai H s=some y):Ai ((As H,x)::H) s=some y:=by
 simp only[Ai];rw[CF (by omega)];exact a
structure Lat(H H':Hp)(P:Nat->Prop):Prop where
 wf:Wf H->Wf H'
 nx:As H<=As H'
 keep:Wf H->∀s x,Ai H s=some x->¬P s->Ai H' s=some x
def Lat.refl(H:Hp)(P:Nat->Prop):Lat H H P:=⟨id,Mh _,λ_ _ _ h _=>h⟩
def Lat.trans{H H' a:Hp}{P Q R:Nat->Prop}(h:Lat H H' P)(k:Lat H' a Q)(f:∀s,s<As H->P s->R s)(hq:∀s,s<As H->Q s->R s):Lat H a R:=
 ⟨λw=>k.wf (h.wf w),XV h.nx k.nx,λw s x b hn=>k.keep (h.wf w) s x (h.keep w s x b λc=>hn (f s (w.lt b) c)) λd=>hn (hq s (w.lt b) d)⟩
def Lat.cons(H:Hp)(x:Row)(P:Nat->Prop):Lat H ((As H,x)::H) P:=⟨AG,l1u _,λw s y a _=>A7 (w.lt a) a⟩
theorem Lat.upd(H:Hp)(r:Nat)(y:Row)(a:P r):Lat H (upd H r y) P:=⟨Bj,by rw[B4];exact Mh _,λ_ s x b hn=>by rw[Ag (λe=>hn (by rw[e];exact a))];exact b⟩
def Bk(H:Hp)(e sz:Nat)(v:AV)(n:Nat)(cs:Is):Prop:=
 (v=.v (.slice none 0 0)/\n=0/\cs=[])\/∃r q,v=.sl sz r 0 n/\Ai H r=some (.cells q e cs)/\cs.length=n*sz
def A9(v:AV)(s:Nat):Prop:=∃sz o n,v=.sl sz s o n
def Bk.lat{cs:Is}(h:Bk H e sz v n cs)(w:Wf H)(k:Lat H H' P)(b:∀s,A9 v s->¬P s):Bk H' e sz v n cs:=by
 rcases h with h|⟨r,q,h1,h2,a⟩
 ·exact .inl h
 ·exact .inr ⟨r,q,h1,k.keep w r _ h2 (b r ⟨sz,0,n,h1⟩),a⟩
theorem Bk.lt{cs:Is}(h:Bk H e sz v n cs)(w:Wf H)(d:A9 v s):s<As H:=by
 obtain⟨a,b,c,rfl⟩:=d;rcases h with⟨h,_⟩|⟨r,q,h1,h2,f⟩
 ·cases h
 ·injection h1 with _ h1;subst h1;exact w.lt h2
def VH{cs:Is}:Tz H (.list n cs) K=K n cs:=rfl
def C0x{l:Ha}:Tz H (S l) K=K l.length (Lw l):=by
 have:Tz H (S l) K=HK l 0 λm=>eY l λc=>K m c:=rfl;rw[this,Cy,Z9,Kd];rfl
def B1x:Tz H (.v (.slice none 0 0)) K=K 0 []:=rfl
def R4{cs:Is}(h:Bk H e sz v n cs):Tz H v K=K n cs:=by
 rcases h with⟨rfl,rfl,rfl⟩|⟨r,q,rfl,h2,a⟩
 ·rfl
 ·have:Tz H (.sl sz r 0 n) K=IR H r λx=>Ki x λ_ cs=>EO (Nat.mul n sz) (Dn 0 cs) λc=>K n c:=rfl;rw[this,Bp h2];show EO (n*sz) cs (λc=>K n c)=_;rw[KS _ _ _ (by omega),l25 (by omega)]
def apt{e sz n m:Nat}{ie i2:TI}{v src:AV}{cs ys:Is}(h:Bk H e sz v n cs)(Q:∀K:Nat->Is->Af,Tz H src K=K m ys)(k:ys.length=m*sz)(h1:ys.all AV.one=true)(hsz:sz≠0)(hz:(B3 ie.zero).length=sz)(R:(dJ i2.d&&T6 sz src)=true)(hb:(n+m)*ie.bytes<=70368744177664)(j:n+m<=70368744177664):
 ∃A H',(∀K:KV,DK e sz ie i2 v src H K=K A H')/\Bk H' e sz A (n+m) (cs++ys)/\(∀s,A9 A s->s=As H)/\Lat H H' (A9 v):=by
 have f:∀K:KV,VJ e sz ie i2 v src H K=(match(generalizing:=false) v with
  |.v (.slice none 0 0)=>ck (Nat.ble (Nat.mul m ie.bytes) 70368744177664&&Nat.ble m 70368744177664) (@Bool.rec (λ_=>Af) (Io H λr=>K (.sl sz r 0 m) ((r,.cells false e ys)::H)) (K (.v (.slice none 0 0)) H) (Nat.beq m 0))
  |.sl t r1 o n=>IR H r1 λx=>Ki x λE cs=>HK cs 0 λcl=>
   ck (Nat.beq E e&&(Nat.beq t sz&&(Nat.beq (Nat.add o (Nat.mul n sz)) cl&&(Nat.ble (Nat.mul (Nat.add n m) ie.bytes) 70368744177664&&Nat.ble (Nat.add n m) 70368744177664))))
    (Za (Dn o cs) ys λi=>XA4 H r1 .gone λH'=>Io H λr=>fN (Nat.add n m) λnm=>K (.sl sz r 0 nm) ((r,.cells false e i)::H'))
  |_=>none):=λK=>by
  unfold VJ;rw[Q,Cy,CP,Cy];have c:(Nat.beq (0+ys.length) (Nat.mul m sz)&&(NT ys&&(!Nat.beq sz 0&&(Nat.beq (0+(B3 ie.zero).length) sz&&(dJ i2.d&&T6 sz src)))))=true:=by
   have p:Nat.beq sz 0=false:=by
    cases hb:Nat.beq sz 0
    ·rfl
    ·exact absurd (Z5 hb) hsz
   rw[FP,h1,R,hz,k,p];simp
  rw[c];rfl
 rcases h with⟨rfl,rfl,rfl⟩|⟨r,q,rfl,h2,D⟩
 ·have c:(Nat.ble (Nat.mul m ie.bytes) 70368744177664&&Nat.ble m 70368744177664)=true:=by
   simp only[Kd]at hb j;rw[KF,kC,kC];exact⟨hb,j⟩
  cases m with
  |zero=>
   refine⟨.v (.slice none 0 0),H,λK=>?_,.inl ⟨rfl,rfl,by rw[l3b];exact mH (by rw[k,Nat.zero_mul])⟩,λs ⟨a,b,c,g⟩=>by(cases g),⟨λw=>w,Mh _,λ_ u y V _=>V⟩⟩;show VJ e sz ie i2 (.v (.slice none 0 0)) src H K=_;rw[f K];simp only[c];rfl
  |succ m=>
   refine⟨.sl sz (As H) 0 (m+1),(As H,.cells false e ys)::H,λK=>?_,.inr ⟨As H,false,by rw[Kd],by rw[l3b];exact Ax (by simp),by rw[l3b,Kd];exact k⟩,λs ⟨a,b,c,g⟩=>by injection g with _ g;exact g.symm,Lat.cons _ _ _⟩;show VJ e sz ie i2 (.v (.slice none 0 0)) src H K=_;rw[f K];have M:Nat.beq (m+1) 0=false:=rfl;simp only[c,M,Ca];rfl
 ·refine⟨.sl sz (As H) 0 (n+m),(As H,.cells false e (cs++ys))::upd H r .gone,λK=>?_,.inr ⟨As H,false,rfl,?_,by rw[EK,D,k,l1e]⟩,λs ⟨a,b,c,g⟩=>by injection g with _ g;exact g.symm,?_⟩
  ·have N:DK e sz ie i2 (.sl sz r 0 n) src H K=IR H r λx=>Ki x λE cs=>HK cs 0 λcl=>@Bool.rec (λ_=>Af) (SU (Nat.add 0 (Nat.mul n sz)) cs λi=>XA4 H r (.cells false E i) λL=>VJ e sz ie i2 (.sl sz r 0 n) src L K) (VJ e sz ie i2 (.sl sz r 0 n) src H K) (Nat.beq (Nat.add 0 (Nat.mul n sz)) cl):=rfl;rw[N,Bp h2];have C:∀F:TypeId->Is->Af,Ki (.cells q e cs) F=F e cs:=λ_=>rfl;rw[C,Cy];have B:Nat.beq (Nat.add 0 (Nat.mul n sz)) (0+cs.length)=true:=by
    show Nat.beq (0+n*sz) (0+cs.length)=true;rw[D];exact oG _
   rw[B];show VJ e sz ie i2 (.sl sz r 0 n) src H K=_;rw[f K];simp only;rw[Bp h2,C,Cy];have c:(Nat.beq e e&&(Nat.beq sz sz&&(Nat.beq (Nat.add 0 (Nat.mul n sz)) (0+cs.length)&&(Nat.ble (Nat.mul (Nat.add n m) ie.bytes) 70368744177664&&Nat.ble (Nat.add n m) 70368744177664))))=true:=by
    rw[B,oG,oG];simp only[l1b,KF,kC];exact⟨hb,j⟩
   rw[c];show Za (Dn 0 cs) ys _=_;rw[MX,Dg,Ca,Ee,CA];rfl
  ·have:=Ax (H:=upd H r .gone) (x:=.cells false e (cs++ys)) (by simp);rw[B4]at this;exact this
  ·have O:Lat H (upd H r .gone) (A9 (.sl sz r 0 n)):=Lat.upd H r .gone ⟨sz,0,n,rfl⟩;have J:=Lat.cons (upd H r .gone) (.cells false e (cs++ys)) (A9 (.sl sz r 0 n));rw[B4]at J;exact O.trans J (λ_ _ h=>h) (λ_ _ h=>h)
def zZ(a:AV):∀n(K:Is->Af),YW n [a] K=K (List.replicate n a):=by
 intro n K;rw[YV]
 congr 1
 induction n with
 |zero=>rfl
 |succ n ih=>simp[Yq,ih,l1c]
def nP{a z:AV}(hz:∀K:Is->Af,GY ie.zero K=K [z])(c:∀K:Is->Af,GY a K=K [a])(h1:AV.one a=true)(K:KV):FU e 1 ie 1 [(0,1,a)] H K=K (.sl 1 (As H) 0 1) ((As H,.cells false e [a])::H):=by
 unfold FU;rw[hz];show YW 1 [z] (λcs=>eX [(0,1,a)] cs λb=>Io H λs=>K (.sl 1 s 0 1) ((s,.cells false e b)::H))=_;rw[zZ];show GY a (λvs=>HK vs 0 λn=>ck (Nat.beq n 1) (ck (NT vs) (Ey 0 vs [z] λb=>Io H λs=>K (.sl 1 s 0 1) ((s,.cells false e b)::H))))=_;rw[c];have:NT [a]=true:=by rw[FP];simp[h1]
 show ck (NT [a]) (Io H λs=>K (.sl 1 s 0 1) ((s,.cells false e [a])::H))=_;rw[this,Ca];rfl
def Ob{cs:Is}(h:cs.length=n):Bk ((As H,.cells false e cs)::H) e 1 (.sl 1 (As H) 0 n) n cs:=.inr ⟨As H,false,rfl,Ax (by simp),by omega⟩
def A6h(l:Ha):(Lw l).all AV.one=true:=by simp[Lw,AV.one,Value.oneCell']
def Qo(l:Ha):(Lw l).length=l.length:=by simp[Lw]
def jS(a b:Ha):Lw a++Lw b=Lw (a++b):=by simp[Lw]
end
section
variable{K:K2}{q:Bool}{aZ bd:Code}{H:Hp}{N e m p r s:Nat}{to:Option (Option Code)}{x:Row}{i t:TI}{α:Type}
def A3w:∀(l:List α)(k:Nat)(a:α),k<l.length->splice l k [a]=l.set k a:=by
 intro l
 induction l with
 |nil=>intro k a h;simp at h
 |cons b l ih=>
  intro k a h;cases k with
  |zero=>simp[splice]
  |succ k=>
   have:=ih k a (by simpa using h);simp only[splice,List.length_singleton]at this⊢;simp[this]
def VZ(l vs:List α)(h:vs.length=l.length):splice l 0 vs=vs:=by simp[splice,h]
def B1{ty:Nat}{cs:Is}{K:KV}(hz:i.zero=.agg cs):Bx ty i H K=K (.ptr (As H) 0 0) ((As H,.cells true ty cs)::H):=by
 unfold Bx;rw[hz,CP,Ca];rfl
def nI{ty:Nat}{v:Value}{K:KV}(h1:AV.one (.v v)=true):FN ty (.v v) H K=K (.ptr (As H) 0 0) ((As H,.cells true ty [.v v])::H):=by
 unfold FN;rw[CP,FP,Ca];have:(B3 (.v v)).all AV.one=true:=by simp[B3,h1]
 rw[this];rfl
def C0F{ty n:Nat}{cs:Is}{K:KV}:FN ty (.list n cs) H K=K (.ptr (As H) 0 0) ((As H,.cells true ty [.list n cs])::H):=by
 unfold FN;rw[CP,FP,Ca];rfl
def DN{ty:Nat}{cs:Is}{K:KV}(h1:cs.all AV.one=true):FN ty (.agg cs) H K=K (.ptr (As H) 0 0) ((As H,.cells true ty cs)::H):=by
 unfold FN;rw[CP,FP,Ca];have:(B3 (.agg cs)).all AV.one=true:=h1;rw[this];rfl
def AC{cs:Is}(h:Ai H r=some x):Ai (upd H r (.cells q e cs)) r=some (.cells q e cs):=by
 rw[BH h];rfl
def D6{cs:Is}{v:AV}{K:Ru}(c:Ai H s=some (.cells q e cs))(d:p<cs.length)(hz:i.size=1)(hv:B3 v=[v])(h1:AV.one v=true):DF i (.ptr s p 0) v H K=K (upd H s (.cells q e (cs.set p v))):=by
 have b:DF i (.ptr s p 0) v H K=IR H s λx=>gM x λq e cs=>GY v λvs=>HK vs 0 λn=>ck (Nat.beq n i.size) (ck (NT vs) (Ey (Nat.add p 0) vs cs λa=>XA4 H s (.cells q e a) K)):=rfl;rw[b,Bp c];show GY v _=_;rw[CP,hv,Cy,hz,FP];have:[v].all AV.one=true:=by simp[h1]
 rw[this];show Ey p [v] cs _=_;rw[Iu _ _ _ _ (by simp;omega),A3w _ _ _ d,Dg]
def BX{cs vs:Is}{K:Ru}(d:Ai H s=some (.cells q e cs))(b:vs.length=cs.length)(hz:i.size=cs.length)(h1:vs.all AV.one=true):DF i (.ptr s 0 0) (.agg vs) H K=K (upd H s (.cells q e vs)):=by
 have c:DF i (.ptr s 0 0) (.agg vs) H K=IR H s λx=>gM x λq e cs=>GY (.agg vs) λvs=>HK vs 0 λn=>ck (Nat.beq n i.size) (ck (NT vs) (Ey 0 vs cs λa=>XA4 H s (.cells q e a) K)):=rfl;rw[c,Bp d];show(GY (.agg vs) λvs=>HK vs 0 λn=>ck (Nat.beq n i.size) (ck (NT vs) (Ey 0 vs cs λa=>XA4 H s (.cells q e a) K)))=_;have hc:B3 (.agg vs)=vs:=rfl;rw[CP,hc,Cy,hz,FP,h1,b,Kd,oG];show Ey 0 vs cs _=_;rw[Iu _ _ _ _ (by omega),VZ _ _ b,Dg]
def Bu{cs:Is}(h:t.d.isAgg=true)(hz:t.size=cs.length)(a:Ai H r=some (.cells q e cs)):AD t (.ptr r 0 0) H K=K (.agg cs):=by
 have:AD t (.ptr r 0 0) H K=IR H r λx=>Ki x λ_ cs=>@Bool.rec (λ_=>Af) (hdK (Dn 0 cs) K) (EO t.size (Dn 0 cs) λc=>K (.agg c)) t.d.isAgg:=rfl;rw[this,h,Bp a];show EO t.size (Dn 0 cs) _=_;rw[CA,rB,hz,KS _ _ _ (by omega),wQ]
def AF{cs:Is}(h:t.d.isAgg=false)(b:Ai H r=some (.cells q e cs))(a:p<cs.length):AD t (.ptr r p 0) H K=K (cs.getD p .dk):=by
 have:AD t (.ptr r p 0) H K=IR H r λx=>Ki x λ_ cs=>@Bool.rec (λ_=>Af) (hdK (Dn (Nat.add p 0) cs) K) (EO t.size (Dn (Nat.add p 0) cs) λc=>K (.agg c)) t.d.isAgg:=rfl;rw[this,h,Bp b];show hdK (Dn p cs) K=_;rw[CA,uZ a,UW,KL a];rfl
def ER{z:Int}(k:Nat)(c:t.d=.array m e 1)(hz:z=k)(h:k<m):DC t (.ptr s 0 0) (.v (.int .i64 z)) K=K (.ptr s k 0):=by
 subst hz;have f:DC t (.ptr s 0 0) (.v (.int .i64 (k:Int))) K=iN (k:Int) λn=>ck (Nat.blt n m) (fN (Nat.add 0 (Nat.mul n 1)) λq=>K (.ptr s q 0)):=by
  obtain⟨a,b,d,z⟩:=t;simp only at c;subst c;rfl
 rw[f,Kk,Ee];have h2:Nat.add 0 (Nat.mul k 1)=k:=by show 0+k*1=k;omega
 have g:Nat.blt k m=true:=by rw[Xi];exact h
 rw[h2,g];rfl
def A6c{t j:TI}{cs:Is}{z:Int}(k:Nat)(f:t.d=.array m e 1)(u:j.d.isAgg=false)(hz:z=k)(w:k<m)(hc:m<=cs.length):jK t j (.agg cs) (.v (.int .i64 z)) K=K (cs.getD k .dk):=by
 subst hz;have g:jK t j (.agg cs) (.v (.int .i64 (k:Int))) K=iN (k:Int) λn=>ck (Nat.blt n m) (oL j (Dn (Nat.mul n 1) cs) K):=by
  obtain⟨a,b,d,z⟩:=t;simp only at f;subst f;rfl
 rw[g,Kk];have h2:Nat.mul k 1=k:=qZ k;have h:Nat.blt k m=true:=by rw[Xi];exact w
 have c:k<cs.length:=by omega
 rw[h2,h,CA,uZ c,UW,KL c];show oL j (cs[k]::cs.drop (k+1)) K=_;unfold oL;rw[u];rfl
def Iz{r p k:Nat}:Lu (.ptr r p k) K=K (.ptr r p k):=id rfl
theorem Pt{R:Rt}{args:Is}{t:Tm}{ps:Array Tmp}{K:KV}(f:Ai H r=some (.loop N t ps aZ bd (some none)))(g:zP N ps.toList=true):
 NY R r args H K=rdK R.run N t ps args aZ bd H (λc d=>EB c r true none d) (λe b=>match e with
  |.normal=>EB b r false (some none) λa=>K (.v (.bool true)) a
  |.ret=>EB b r false (some (some .ret)) λa=>K (.v (.bool false)) a
  |.exit id=>EB b r false (some (some (.exit id))) λa=>K (.v (.bool false)) a
  |.goto l=>EB b r false (some (some (.goto l))) λa=>K (.v (.bool false)) a
  |_=>none):=by
 unfold NY;rw[Bp f];show ck (zP N ps.toList) _=_;rw[g];rfl
def P0{t:Tm}{ps:Array Tmp}{K:Ru}(a:Ai H r=some (.loop N t ps aZ bd (some none))):EB H r true to K=K (upd H r (.loop N t ps aZ bd to)):=by
 unfold EB;rw[Bp a];show XA4 H r _ K=_;rw[Dg]
def Pz{t:Tm}{ps:Array Tmp}{K:Ru}(a:Ai H r=some (.loop N t ps aZ bd none)):EB H r false to K=K (upd H r (.loop N t ps aZ bd to)):=by
 unfold EB;rw[Bp a];show XA4 H r _ K=_;rw[Dg]
def Fk{t:Tm}{ps:Array Tmp}(h:Ai H r=some x):Ai (upd H r (.loop N t ps aZ bd to)) r=some (.loop N t ps aZ bd to):=by
 rw[BH h];rfl
end
section
variable{a b:AV}{f:Nat}{P:Program}{α:Type}
def BT.allB(c:Nat->α->Bool):BT α->Bool
 |.leaf=>true
 |.node k v l r=>c k v&&(l.allB c&&r.allB c)
def B2o{c:Nat->α->Bool}{p:Nat->α->Prop}(h:∀k v,c k v=true->p k v):∀{b:BT α},b.allB c=true->b.All p:=by
 intro b
 induction b with
 |leaf=>intro _;trivial
 |node k v l r d e=>
  intro hb;simp only[BT.allB,KF]at hb;exact⟨h k v hb.1,d hb.2.1,e hb.2.2⟩
def A3T:TD->Bool
 |.slice _ 0=>true
 |.array _ _ 0=>true
 |_=>false
def A58:AV->AV->Bool
 |.v (.int k n),.v (.int d e)=>decide (k=d)&&decide (n=e)
 |.v (.bool b),.v (.bool c)=>b==c
 |.v (.string s),.v (.string g)=>s.data.toList.isEmpty&&g.data.toList.isEmpty
 |.v (.slice none 0 0),.v (.slice none 0 0)=>true
 |.v (.pointer none),.v (.pointer none)=>true
 |.v (.map none),.v (.map none)=>true
 |.v .nilFunc,.v .nilFunc=>true
 |.v .nilIface,.v .nilIface=>true
 |_,_=>false
def kI:Is->Is->Bool
 |[],[]=>true
 |a::c,b::d=>A58 a b&&kI c d
 |_,_=>false
def zeq:AV->AV->Bool
 |.agg cs,.agg ds=>kI cs ds
 |a,b=>A58 a b
def nX(h:A58 a b=true):a=b:=by
 unfold A58 at h;split at h<;>simp at h<;>try rfl
 ·rw[h.1,h.2]
 ·rw[h]
 ·rename_i s c;obtain⟨⟨l⟩⟩:=s;obtain⟨⟨d⟩⟩:=c;simp at h;rw[h.1,h.2]
def I! :∀{c d:Is},kI c d=true->c=d:=by
 intro c
 induction c with
 |nil=>intro d h;cases d<;>simp[kI]at h⊢
 |cons a c ih=>
  intro d h;cases d with
  |nil=>simp[kI]at h
  |cons b d=>
   simp only[kI,KF]at h;rw[nX h.1,ih h.2]
def A6x(h:zeq a b=true):a=b:=by
 unfold zeq at h;split at h
 ·rw[I! h]
 ·exact nX h
def B7s:TD->TD->Bool
 |.int k,.int g=>decide (k=g)
 |.bool,.bool=>true
 |.string,.string=>true
 |.pointer e,.pointer c=>decide (e=c)
 |.slice e n,.slice c h=>decide (e=c)&&decide (n=h)
 |.array m e n,.array j c h=>decide (m=j)&&decide (e=c)&&decide (n=h)
 |.struct i,.struct d=>decide (i=d)
 |.map k e,.map g c=>decide (k=g)&&decide (e=c)
 |.func,.func=>true
 |.iface,.iface=>true
 |.other,.other=>true
 |_,_=>false
def A3r{a b:TD}(h:B7s a b=true):a=b:=by
 unfold B7s at h;split at h<;>simp at h<;>try rfl
 ·rw[h]
 ·rw[h]
 ·rw[h.1,h.2]
 ·rw[h.1.1,h.1.2,h.2]
 ·rw[h]
 ·rw[h.1,h.2]
def tiB(P:Program)(t:Nat)(i:TI):Bool:=
 match P.info? t with
 |some x=>match P.underlying t,x.zero with
  |some u,some z=>Nat.beq x.size i.size&&(Nat.beq x.bytes i.bytes&&(B7s (td P u) i.d&&(zeq (tS z) i.zero&& !A3T i.d)))
  |_,_=>false
 |none=>false
def TiR(P:Program)(t:Nat)(i:TI):Prop:=TOk1 P t i/\A3T i.d=false
def B7r(t:Nat)(i:TI)(h:tiB P t i=true):TiR P t i:=by
 unfold tiB at h;split at h
 ·rename_i x c;split at h
  ·rename_i u z j hz;simp only[KF,l19]at h;obtain⟨h1,h2,d,e,g⟩:=h;refine⟨⟨?_,?_,?_⟩,g⟩
   ·rw[c];simp[Z5 h1,Z5 h2]
   ·rw[c];simp[hz,A6x e]
   ·rw[j];simp[A3r d]
  ·cases h
 ·cases h
def FnR(P:Program)(f:Nat)(x:XFn):Prop:=(P.funcs[f]?).map (λfn=>(fn.body,fn.ntmps,fn.results.toList,fn.name== "runtime.NumGoroutine"))=some (some x.c,x.n,x.rs,false)
def FnR.ex{x:XFn}(h:FnR P f x):∃fn,P.funcs[f]?=some fn/\fn.body=some x.c/\fn.ntmps=x.n/\fn.results.toList=x.rs/\(fn.name== "runtime.NumGoroutine")=false:=by
 unfold FnR at h;cases d:P.funcs[f]? with
 |none=>rw[d]at h;simp at h
 |some fn=>
  rw[d]at h;simp only[zQ,l0z,Prod.mk.injEq]at h;exact⟨fn,rfl,h.1,h.2.1,h.2.2.1,h.2.2.2⟩
def DrR(E:XE)(_:Nat)(x:XFn):Prop:=Te (tC E ⟨false,x.lv,x.fz,x.n,x.rc⟩) x.c=true
def eqR(P:Program)(t:Nat)(ks:List LK):Prop:=leaves P 6 t=some (true,ks)/\P.eqGuardType P.depth t=false
def glR(_:Nat)(cs:Is):Prop:=cs.all isV=true
def C32(P:Program)(l:Lie):Prop:=liesAt P P.depth l.1 (l.2.1/P.cellsOf l.1) l.2.2.1 l.2.2.2 1=true/\(P.info? l.2.2.2).isSome=true
def C1D{E:XE}(d:E.ty.All (TiR P))(m:E.T=E.ty.get)(c:P.follows .mixedOrders=true)(k:E.gl.All glR)(y:E.ft.All (FnR P))(w:E.ft.All (DrR E))(he:E.eqt.All (eqR P))(A:∀l∈E.lie,C32 P l)(B:P.underlying E.up=some .unsafePointer)(hn:∀f,E.ne f=true->jZ P f):XE.Ok tC E P where
 ty:=λt i h=>(d.get (by rw[m]at h;exact h)).1
 pos:=λt i e p h j q=>by
  have:=(d.get (by rw[m]at h;exact h)).2;subst q;rcases j with j|⟨n,j⟩<;>(rw[j]at this;simp[A3T]at this)
 mix:=c
 gl:=λg cs h=>k.get h
 fn:=λf x h=>by
  obtain⟨fn,h1,h2,r,s,v⟩:=(y.get h).ex;exact⟨fn,h1,h2,r,s,v,w.get h⟩
 eq:=λt ks h=>⟨(he.get h).1,(he.get h).2⟩
 lie:=λe n o u h=>A _ h
 up:=λ_=>B
 ne:=hn
def U?{fn:Func}(g:P.funcs[f]?=some fn)(d:(fn.name== "runtime.NumGoroutine")=false)(hb:fn.body.isNone=true)(hn:Extern.findNext fn=none)(he:Extern.find fn=some Extern.AbiNoEscape.same):jZ P f:=by
 intro x w;have:Extern.AbiNoEscape.same #[x]=pure x:=rfl;have c:¬fn.name= "runtime.NumGoroutine" :=by simpa using d
 have e:fn.body=none:=by simpa using hb
 simp[callFunc,g,c,e,hn,he,mark,this];rfl
end
end Go.Abs
end
