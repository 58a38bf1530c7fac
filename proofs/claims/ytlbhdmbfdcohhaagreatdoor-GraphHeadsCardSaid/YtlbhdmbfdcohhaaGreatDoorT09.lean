import Derived.Test.YtlbhdmbfdcohhaaGreatDoorT07
import Derived.Test.YtlbhdmbfdcohhaaGreatDoorT08
set_option linter.all false
set_option maxHeartbeats 100000000
noncomputable section
namespace Go.Abs
open Go.RowKit
def B4Q (b:Bool) (all:List AV) (H:Hp) (K:KV) (x:Aj):Aj:=
 (λ(_:Unit)=>match b with
  |true=>(match all with|[v]=>K v H|_=>none)
  |false=>x) GU
def Dx (E:XE) (R:Rt) (f:AV) (aZ:List AV) (H:Hp) (K:KV):Aj:=
 match f with
 | .fn (.func g) first cap=>UU aZ cap λas'=>UU first as' λall=>B4Q (E.ne g) all H K (@Bool.rec (λ_=>Aj) (Ai R g all H λv=>K v H) (R.call g all H K) (E.imp g))
 | .yl r=>P0 R r aZ H K
 |_=>none
def A7L (E:XE) (R:Rt) (t:Tm) (H:Hp) (c:Call) (K:KV):Aj:=
 match c.callee with
 | .value fv=>IJ E t fv λf=>A0K E t c.args.toList λaZ=>Dx E R f aZ H K
 | .builtin .append=>Uc E R t H c K
 | .builtin .copy=>Uc E R t H c K
 | .builtin .clear=>Uc E R t H c K
 | .builtin .delete=>Uc E R t H c K
 | .builtin .unsafeString=>Uc E R t H c K
 | .builtin _=>A4h E R t H c λv=>K v H
 |_=>none
def B99:TD→Bool
 | .string=>true
 |_=>false
def zcv (E:XE) (R:Rt) (t:Tm) (H:Hp) (s d:TypeId) (x:Operand) (K:KV):Aj:=
 E.ty.getK s λi=>E.ty.getK d λj=>(λ(_:Unit)=>match j.d with
  | .slice e _=>ckS (B99 i.d) (E.ty.getK e λie=>ckS (A8O ie.d) (IJ E t x λa=>B1M e a H K))
  |_=>PA E R t H (.convert s d x) λv=>K v H) GU
def zop (E:XE) (R:Rt) (fz:Bool) (t:Tm) (H:Hp) (o:Op) (K:KV):Aj:=
 match o with
 | .call c=>A7L E R t H c K
 | .store a b c=>WC E R t H (.store a b c) K
 | .alloc a=>WC E R t H (.alloc a) K
 | .box a b=>WC E R t H (.box a b) K
 | .makeSlice a b c=>WC E R t H (.makeSlice a b c) K
 | .makeMap a b=>WC E R t H (.makeMap a b) K
 | .mapUpdate a b c d=>WC E R t H (.mapUpdate a b c d) K
 | .insert a b c d=>WC E R t H (.insert a b c d) K
 | .mapEntry a b c=>WC E R t H (.mapEntry a b c) K
 | .entryStore a b c d=>WC E R t H (.entryStore a b c d) K
 | .range a b=>WC E R t H (.range a b) K
 | .next a b=>WC E R t H (.next a b) K
 | .convert a b c=>zcv E R t H a b c K
 | .buildSlice a b c=>@Bool.rec (λ_=>Aj) (WC E R t H (.buildSlice a b c) K) (PA E R t H (.buildSlice a b c) λv=>K v H) fz
 |o=>PA E R t H o λv=>K v H
def gdV (want:Bool) (v:AV) (K:Bool→Aj):Aj:=
 match v with
 | .v (.bool b)=>@Bool.rec (λ_=>Aj) (@Bool.rec (λ_=>Aj) (K true) (K false) b) (@Bool.rec (λ_=>Aj) (K false) (K true) b) want
 | .dk=>none
 |_=>K false
def gdK (all:List Oper) (t:Tm) (g:Option (Nat×Bool)) (K:Bool→Aj):Aj:=
 match g with
 |none=>K true
 |some (j,want)=>match all[j]? with
  |some p=>match p.dst with
   |some d=>gtm t d λv=>gdV want v K
   |none=>K false
  |none=>K false
def A7h (N:Nat) (d:Option Tmp) (K:Aj):Aj:=(λ(_:Unit)=>match d with|some d=>ckS (Nat.blt d N) K|none=>K) GU
def OD (t:Tm) (d:Option Tmp) (v:AV) (K:Tm→Aj):Aj:=(λ(_:Unit)=>match d with|some d=>K ((d,v)::t)|none=>K t) GU
def B1x (g:Option (Nat×Bool)) (x y:Aj):Aj:=(λ(_:Unit)=>match g with|none=>x|some _=>y) GU
def Ed (a:Aj) (K:KV):Aj:=match a with|some (v,H)=>K v H|none=>none
def A7F (E:XE) (R:Rt) (fz:Bool) (N:Nat) (all:List Oper) (l:List Oper):Tm→Hp→(Tm→Hp→Aj)→Aj:=
 @List.rec Oper (λ_=>Tm→Hp→(Tm→Hp→Aj)→Aj) (λt H K=>K t H)
  (λo _ ih t H K=>A7h N o.dst (B1x o.guard (zop E R fz t H o.op λv H'=>OD t o.dst v λt'=>ih t' H' K)
   (Ed (gdK all t o.guard λg=>@Bool.rec (λ_=>Aj) (some (.v undef,H)) (zop E R fz t H o.op λv H'=>some (v,H')) g) λv H'=>OD t o.dst v λt'=>ih t' H' K))) l
section
variable {D:XE→Cf→Nat→List Oper→Bool} {E:XE} {P:Program} {R:Rt} {t:Tm} {H:Hp} {r:AV×Hp} {ro:Option Nat} {N m:Nat} {fz:Bool}
theorem A4i (hE:XE.Ok D E P) (hR:RSound D E P R) {o:Oper} {c:Call} (ho:o.op= .call c) {K:KV} (h:A7L E R t H c K=some r):Su P E.G ro N o t H (λv H'=>K v H'=some r):=by
 unfold A7L at h
 split at h
 ·rename_i fv hcal
  have h:=PB hE _ _ (AU hE h)
  unfold Dx at h
  split at h
  ·rename_i g first cap hf
   rw[KP,KP,←l0k] at h
   cases hne:E.ne g
   rotate_left
   ·rw[hne] at h
    unfold B4Q at h
    simp only at h
    split at h
    ·rename_i v hall
     exact B8F (hE.ne g hne) ho hcal hf hall h
    ·cases h
   rw[hne] at h
   have h:@Bool.rec (λ_=>Aj) (Ai R g (first++c.args.toList.map (Ku E.G t)++cap) H λv=>K v H) (R.call g (first++c.args.toList.map (Ku E.G t)++cap) H K) (E.imp g)=some r:=h
   cases hi:E.imp g
   ·rw[hi] at h
    obtain⟨⟨fn,h1,h2,h3⟩,hc⟩:=Zx hR h
    exact Su.mono (XK ho hcal hf h1 h2 h3 hc) (by rintro _ _ ⟨rfl,h⟩;exact h)
   ·rw[hi] at h
    obtain⟨⟨fn,h1,h2,h3⟩,hc⟩:=hR.call _ _ _ _ _ h
    exact XK ho hcal hf h1 h2 h3 hc
  ·rename_i s hf
   exact W9 hR ho hcal hf h
  ·cases h
 ·exact Kf hE hR ho h
 ·exact Kf hE hR ho h
 ·exact Kf hE hR ho h
 ·exact Kf hE hR ho h
 ·exact Kf hE hR ho h
 ·exact Su.mono (WE hE hR ho h) (by rintro _ _ ⟨rfl,h⟩;exact h)
 ·cases h
theorem B0H (hE:XE.Ok D E P) (hR:RSound D E P R) {o:Oper} {s d:TypeId} {x:Operand} (ho:o.op= .convert s d x) {K:KV} (h:zcv E R t H s d x K=some r):Su P E.G ro N o t H (λv H'=>K v H'=some r):=by
 obtain⟨i,hi,h⟩:=AZ h
 obtain⟨j,hj,h⟩:=AZ h
 simp only at h
 split at h
 ·rename_i e z hd
  obtain⟨hst,h⟩:=Kc h
  obtain⟨ie,hie,h⟩:=AZ h
  obtain⟨hu8,h⟩:=Kc h
  have h:=AU hE h
  refine R9 (λc hc=>by rw[ho] at hc;cases hc) λw0 s0 C N a w st=> ?_
  obtain⟨str,hy,v,H',y',C',w',hK,hrun,hv,hr,hx⟩:=A91 (P:=P) st.rel (AW st x) h
  refine⟨v,H',y',C',w',hK,.inl ?_,hv,hr,hx⟩
  have hcv:(convert s d (a.eval x)).run P w= .ok y' w':=by
   obtain⟨u1,hu1,e1⟩:=(hE.ty s i hi).under
   obtain⟨hu2,_⟩:=(hE.ty d j hj).elem_slice hd
   obtain⟨u3,hu3,e3⟩:=(hE.ty e ie hie).under
   have hu3':u3= .int .u8:=by
    cases hq:ie.d with
    |int k=>
     rw[hq] at hu8 e3
     cases k<;>simp[A8O] at hu8
     cases u3<;>simp[td] at e3
     rw[e3]
    |_=>rw[hq] at hu8;simp[A8O] at hu8
   have hu1':u1= .string:=by
    cases hq:i.d with
    |string=>
     rw[hq] at e1
     cases u1<;>simp[td] at e1
     rfl
    |_=>rw[hq] at hst;simp[B99] at hst
   subst hu3' hu1'
   rw[hy]
   unfold convert
   rw[CH,run_underlying hu1 w]
   simp only[EU]
   rw[CH,run_underlying hu2 w]
   simp only[EU]
   rw[CH,run_underlying hu3 w]
   simp only[EU]
   exact hrun
  simp only[execOp,ho]
  rw[CH,hcv]
  rfl
 ·exact Su.mono (QJ (K:= λv=>K v H) hE hR (by rw[ho];exact h)) (by rintro _ _ ⟨rfl,h⟩;exact h)
theorem XZ (hE:XE.Ok D E P) (hR:RSound D E P R) {o:Oper} {K:KV} (h:zop E R fz t H o.op K=some r):Su P E.G ro N o t H (λv H'=>K v H'=some r):=by
 unfold zop at h
 split at h
 ·rename_i c ho;exact A4i hE hR ho h
 ·rename_i ho;exact Gs hE hR (by rw[ho];exact h)
 ·rename_i ho;exact Gs hE hR (by rw[ho];exact h)
 ·rename_i ho;exact Gs hE hR (by rw[ho];exact h)
 ·rename_i ho;exact Gs hE hR (by rw[ho];exact h)
 ·rename_i ho;exact Gs hE hR (by rw[ho];exact h)
 ·rename_i ho;exact Gs hE hR (by rw[ho];exact h)
 ·rename_i ho;exact Gs hE hR (by rw[ho];exact h)
 ·rename_i ho;exact Gs hE hR (by rw[ho];exact h)
 ·rename_i ho;exact Gs hE hR (by rw[ho];exact h)
 ·rename_i ho;exact Gs hE hR (by rw[ho];exact h)
 ·rename_i ho;exact Gs hE hR (by rw[ho];exact h)
 ·rename_i ho;exact B0H hE hR ho h
 ·rename_i ho
  cases fz
  ·exact Gs hE hR (by rw[ho];exact h)
  ·exact Su.mono (QJ (K:= λv=>K v H) hE hR (by rw[ho];exact h)) (by rintro _ _ ⟨rfl,h⟩;exact h)
 ·exact Su.mono (QJ hE hR h) (by rintro _ _ ⟨rfl,h⟩;exact h)
theorem Xx {all:List Oper} {o:Oper} {K:Bool→Aj} (h:gdK all t o.guard K=some r):(K true=some r∧(FH all t o= .run∨FH all t o= .dep true))∨(K false=some r∧(FH all t o= .skip∨FH all t o= .dep false)):=by
 unfold gdK at h
 unfold FH
 split at h
 ·rename_i hg;rw[hg];exact .inl ⟨h,.inl rfl⟩
 ·rename_i j want hg
  rw[hg]
  simp only
  split at h
  ·rename_i p hp
   rw[hp]
   simp only
   split at h
   ·rename_i d hd
    rw[hd]
    rw[Tn] at h
    simp only
    unfold gdV at h
    split at h
    ·rename_i b hb
     rw[hb]
     simp only[R8]
     cases want<;>cases b
     ·exact .inl ⟨h,.inr rfl⟩
     ·exact .inr ⟨h,.inr rfl⟩
     ·exact .inr ⟨h,.inr rfl⟩
     ·exact .inl ⟨h,.inr rfl⟩
    ·cases h
    ·rename_i h1 h2
     refine .inr ⟨h,.inl ?_⟩
     have:R8 (Gt t d)= .skip:=by
      unfold R8
      split
      ·rename_i b hb;exact absurd hb (h1 b)
      ·rename_i hb;exact absurd hb h2
      ·rfl
     rw[this]
   ·rename_i hd;rw[hd];exact .inr ⟨h,.inl rfl⟩
  ·rename_i hp;rw[hp];exact .inr ⟨h,.inl rfl⟩
theorem YZ {d:Option Tmp} {K:Aj} (h:A7h N d K=some r):dok N d∧K=some r:=by
 unfold A7h at h
 split at h
 ·obtain⟨h1,h2⟩:=Bv h
  rw[UM] at h1
  exact⟨h1,h2⟩
 ·exact⟨trivial,h⟩
theorem Sp {a:Aj} {K:KV} (h:Ed a K=some r):∃v H',a=some (v,H')∧K v H'=some r:=by
 unfold Ed at h
 split at h
 ·exact⟨_,_,rfl,h⟩
 ·cases h
theorem QK {d:Option Tmp} {v:AV} {K:Tm→Aj}:OD t d v K=K (PG t d v):=by cases d<;>rfl
theorem A7E (hE:XE.Ok D E P) (hR:RSound D E P R) {all:List Oper}:∀(l:List Oper) (t:Tm) (H:Hp) (K:Tm→Hp→Aj),A7F E R fz N all l t H K=some r→
 A5x P E.G ro m N all.toArray l (λe t' H'=>e= .normal∧K t' H'=some r) t H:=by
 intro l
 induction l with
 |nil=>intro t H K h;exact B5D ⟨rfl,h⟩
 |cons o l ih=>
  intro t H K h
  have h:A7h N o.dst (B1x o.guard (zop E R fz t H o.op λv H'=>OD t o.dst v λt'=>A7F E R fz N all l t' H' K)
   (Ed (gdK all t o.guard λg=>@Bool.rec (λ_=>Aj) (some (.v undef,H)) (zop E R fz t H o.op λv H'=>some (v,H')) g) λv H'=>OD t o.dst v λt'=>A7F E R fz N all l t' H' K))=some r:=h
  obtain⟨hd,h⟩:=YZ h
  intro w0 s0 C a w s
  have hg:=A2y s.tmps all o
  cases hgd:o.guard with
  |none=>
   have hrun:FH all t o= .run:=by unfold FH;rw[hgd]
   rw[hgd] at h
   have h:(zop E R fz t H o.op λv H'=>OD t o.dst v λt'=>A7F E R fz N all l t' H' K)=some r:=h
   refine A7q hd s (hg.1 hrun) (Su.mono (XZ hE hR h) λv H' hk=> ?_)
   rw[QK] at hk
   exact ih _ _ _ hk
  |some gg=>
   rw[hgd] at h
   have h:(Ed (gdK all t (some gg) λg=>@Bool.rec (λ_=>Aj) (some (.v undef,H)) (zop E R fz t H o.op λv H'=>some (v,H')) g) λv H'=>OD t o.dst v λt'=>A7F E R fz N all l t' H' K)=some r:=h
   rw[←hgd] at h
   obtain⟨v,H1,h3,h4⟩:=Sp h
   rw[QK] at h4
   rcases Xx h3 with⟨h1,h2⟩|⟨h1,h2⟩
   ·have hw:Region.wanted o (yielded all.toArray a.tmps)=true:=by
     rcases h2 with h2|h2
     ·exact hg.1 h2
     ·exact hg.2.2 _ h2
    refine A7q hd s hw (Su.mono (XZ hE hR h1) λv' H' hk=> ?_)
    injection hk with hk;injection hk with hk1 hk2
    subst hk1 hk2
    exact ih _ _ _ h4
   ·have hw:Region.wanted o (yielded all.toArray a.tmps)=false:=by
     rcases h2 with h2|h2
     ·exact hg.2.1 h2
     ·exact hg.2.2 _ h2
    have h1:some (AV.v undef,H)=some (v,H1):=h1
    injection h1 with h1;injection h1 with h7 h8
    subst h7 h8
    exact B29 hd s hw (ih _ _ _ h4)
end
abbrev B0z:=Cf→Nat→List Oper→Tm→Hp→(Tm→Hp→Aj)→Aj
def A3y (e:Exit) (t:Tm) (H:Hp) (k:Tm→Hp→Aj) (K:KQ):Aj:=(λ(_:Unit)=>match e with| .normal=>k t H|e=>K e t H) GU
def A9j (id:Nat) (e:Exit) (t:Tm) (H:Hp) (K:KQ):Aj:=(λ(_:Unit)=>match e with| .exit i=>@Bool.rec (λ_=>Aj) (K (.exit i) t H) (K .normal t H) (Nat.beq i id)|e=>K e t H) GU
def Aw (v:AV) (x y:Aj):Aj:=match v with| .v (.bool true)=>x| .v (.bool false)=>y|_=>none
def VL (lv:List Nat) (t:Tm):(Tm→Aj)→Aj:=@List.rec Nat (λ_=>(Tm→Aj)→Aj) (λK=>K []) (λu _ ih K=>gtm t u λv=>ih λl=>K ((u,v)::l)) lv
def Cur (lv:List Nat):Type:=@List.rec Nat (λ_=>Type) (Hp→Aj) (λ_ _ ih=>AV→ih) lv
def B5q (lv:List Nat):(Tm→Hp→Aj)→Cur lv:=
 @List.rec Nat (λlv=>(Tm→Hp→Aj)→Cur lv) (λF H=>F [] H) (λu _ ih F v=>ih λt H=>F ((u,v)::t) H) lv
def B5o (lv:List Nat):Cur lv→Tm→Hp→Aj:=
 @List.rec Nat (λlv=>Cur lv→Tm→Hp→Aj) (λc _ H=>c H) (λu _ ih c t H=>gtm t u λv=>ih (c v) t H) lv
def Xs (lv:List Nat) (t:Tm):Tm:=lv.map λu=>(u,Gt t u)
theorem A4a (lv:List Nat):∀(F:Tm→Hp→Aj) (t:Tm) (H:Hp),B5o lv (B5q lv F) t H=F (Xs lv t) H:=by
 induction lv with
 |nil=>intro F t H;rfl
 |cons u lv ih=>
  intro F t H
  have e:B5o (u::lv) (B5q (u::lv) F) t H=gtm t u λv=>B5o lv (B5q lv λt H=>F ((u,v)::t) H) t H:=rfl
  rw[e,Tn,ih];rfl
def B9p (lv:List Nat) (body:Tm→Hp→KQ→Aj) (K:KQ) (n:Nat):Cur lv:=
 @Nat.rec (λ_=>Cur lv) (B5q lv λ_ _=>none) (λ_ ih=>B5q lv λt H=>body t H λe t1 H1=>A3y e t1 H1 (λt H=>B5o lv ih t H) K) n
def A3p (lv:List Nat) (body:Tm→Hp→KQ→Aj) (K:KQ) (n:Nat) (t:Tm) (H:Hp):Aj:=B5o lv (B9p lv body K n) t H
theorem A7G (lv:List Nat) (body:Tm→Hp→KQ→Aj) (K:KQ) (t:Tm) (H:Hp):A3p lv body K 0 t H=none:=A4a lv _ t H
theorem A7H (lv:List Nat) (body:Tm→Hp→KQ→Aj) (K:KQ) (n:Nat) (t:Tm) (H:Hp):A3p lv body K (n+1) t H=body (Xs lv t) H λe t1 H1=>A3y e t1 H1 (A3p lv body K n) K:=A4a lv _ t H
theorem A88 (lv:List Nat) (t:Tm) (u:Nat):Gt (Xs lv t) u=Gt t u∨Gt (Xs lv t) u= .dk:=by
 induction lv with
 |nil=>exact .inr rfl
 |cons v lv ih=>
  have e:Gt (Xs (v::lv) t) u=if u=v then Gt t v else Gt (Xs lv t) u:=rfl
  rw[e]
  split
  ·rename_i h;subst h;exact .inl rfl
  ·exact ih
def B8Y (p:Option (Option Code)) (t:Tm) (H:Hp) (K:KQ):Aj:=
 match p with
 |some none=>K .normal t H
 |some (some .ret)=>K .ret t H
 |some (some (.exit id))=>K (.exit id) t H
 |some (some (.goto l))=>K (.goto l) t H
 |_=>none
def A7D (E:XE) (R:Rt) (cf:Cf) (g:Operand) (ps:Array Tmp) (aZ bd:Code) (t:Tm) (H:Hp) (K:KQ):Aj:=
 @Bool.rec (λ_=>Aj) (VL cf.lv t λt=>IJ E t g λf=>match f with
  | .fn (.func g) first cap=>Ih H λs=>UV first (.yl s::cap) λall=>R.call g all ((s,.loop cf.n t ps aZ bd (some none))::H) λ_ H2=>J3 H2 s λx=>VO x λ_ _ _ _ _ pend=>Lx H2 s .gone λH3=>B8Y pend t H3 K
  |_=>none) none cf.b
def A6Q (e:Exit) (t:Tm) (H:Hp) (k:Nat→Tm→Hp→Aj) (K:KQ):Aj:=(λ(_:Unit)=>match e with| .goto l=>k l t H|e=>K e t H) GU
def A9v (run:A5t) (cf:Cf) (c:Code) (K:KQ) (n:Nat):Nat→Tm→Hp→Aj:=
 @Nat.rec (λ_=>Nat→Tm→Hp→Aj) (λ_ _ _=>none) (λ_ ih l t H=>match findLabel c l with
  |some rest=>run cf rest t H λe t H=>A6Q e t H ih K
  |none=>none) n
def WD (E:XE) (R:Rt) (Z:B0z) (cf:Cf) (c:Code):Tm→Hp→KQ→Aj:=
 @Code.rec (λ_=>Tm→Hp→KQ→Aj)
  (λt H K=>K .normal t H)
  (λid ops draw t H K=>@Bool.rec (λ_=>Aj) (A7F E R cf.fz cf.n ops.toList ops.toList t H λt H=>K .normal t H) (Z cf id ops.toList t H λt H=>K .normal t H) draw)
  (λ_ _ iha ihb t H K=>iha t H λe t H=>A3y e t H (λt H=>ihb t H K) K)
  (λx _ _ iha ihb t H K=>IJ E t x λv=>Aw v (iha t H K) (ihb t H K))
  (λid _ ih t H K=>ih t H λe t H=>A9j id e t H K)
  (λ_ ih t H K=>A3p cf.lv ih K E.lf t H)
  (λg ps aZ bd _ _ t H K=>A7D E R cf g ps aZ bd t H K)
  (λid t H K=>K (.exit id) t H)
  (λc ih t H K=>@Bool.rec (λ_=>Aj) (ih t H λe t H=>A6Q e t H (A9v R.run cf c K E.lf) K) none cf.b)
  (λ_ t H K=>K .normal t H)
  (λl t H K=>K (.goto l) t H)
  (λt H K=>K .ret t H)
  (λ_ _ _ _=>none) c
section
variable {D:XE→Cf→Nat→List Oper→Bool} {E:XE} {P:Program} {R:Rt} {Z:B0z} {r:AV×Hp} {ro:Option Nat} {m:Nat}
def A9u (D:XE→Cf→Nat→List Oper→Bool) (E:XE) (P:Program) (Z:B0z):Prop:=
 ∀(ro:Option Nat) (cf:Cf) (id:Nat) (ops:List Oper) (t:Tm) (H:Hp) (K:Tm→Hp→Aj) (r:AV×Hp) (m:Nat),(cf.b=false→D E cf id ops=true)→Z cf id ops t H K=some r→
  QI P E.G ro m cf.n (.region id ops.toArray true) (λe t' H'=>e= .normal∧K t' H'=some r) t H
theorem A14 {e:Exit} {t:Tm} {H:Hp} {k:Tm→Hp→Aj} {K:KQ} (h:A3y e t H k K=some r):(e= .normal∧k t H=some r)∨(e≠.normal∧K e t H=some r):=by
 unfold A3y at h
 split at h
 ·exact .inl ⟨rfl,h⟩
 ·rename_i hne;exact .inr ⟨hne,h⟩
theorem QI.congr {G:Gl} {N:Nat} {c:Code} {Q:Exit→Tm→Hp→Prop} {t t':Tm} {H:Hp} (hc:∀u,Gt t' u=Gt t u∨Gt t' u= .dk) (h:QI P G ro m N c Q t' H):QI P G ro m N c Q t H:=
 λw0 s0 C a w s=>h w0 s0 C a w (s.congr hc)
theorem Zy.congr {G:Gl} {N:Nat} {c:Code} {Q:Exit→Tm→Hp→Prop} {t t':Tm} {H:Hp} (hc:∀u,Gt t' u=Gt t u∨Gt t' u= .dk) (h:Zy P G ro m N c Q t' H):Zy P G ro m N c Q t H:=
 λw0 s0 C a w s=>h w0 s0 C a w (s.congr hc)
theorem A7I {t:Tm}:∀(lv:List Nat) (K:Tm→Aj),VL lv t K=some r→∃t',K t'=some r∧∀u,Gt t' u=Gt t u∨Gt t' u= .dk:=by
 intro lv
 induction lv with
 |nil=>intro K h;exact⟨[],h,λu=> .inr rfl⟩
 |cons v lv ih=>
  intro K h
  have h:(gtm t v λx=>VL lv t λl=>K ((v,x)::l))=some r:=h
  rw[Tn] at h
  obtain⟨t',h1,h2⟩:=ih _ h
  refine⟨_,h1,λu=> ?_⟩
  simp only[Gt]
  split
  ·rename_i hu;rw[hu];exact .inl rfl
  ·exact h2 u
theorem A5L {G:Gl} {N:Nat} {lv:List Nat} {c:Code} {body:Tm→Hp→KQ→Aj} (hb:∀t H (K:KQ),body t H K=some r→QI P G ro m N c (λe t' H'=>K e t' H'=some r) t H) {K:KQ}:∀(n:Nat) (t:Tm) (H:Hp),A3p lv body K n t H=some r→
 Zy P G ro m N c (λe t' H'=>K e t' H'=some r) t H:=by
 intro n
 induction n with
 |zero=>intro t H h;rw[A7G] at h;cases h
 |succ n ih=>
  intro t H h
  rw[A7H] at h
  refine Zy.congr (A88 lv t) (A9s (QI.mono (hb _ _ _ h) λe t1 H1 hq=> ?_))
  rcases A14 hq with⟨rfl,h⟩|⟨hne,h⟩
  ·exact ih _ _ h
  ·cases e with
   |normal=>exact absurd rfl hne
   |_=>exact h
theorem A4f (hE:XE.Ok D E P) (hR:RSound D E P R) {cf:Cf} (hro:ro≠none→cf.b=true) {g:Operand} {ps:Array Tmp} {aZ bd:Code} {t:Tm} {H:Hp} {K:KQ} (h:A7D E R cf g ps aZ bd t H K=some r):QI P E.G ro m cf.n (.rangeFunc g ps aZ bd) (λe t' H'=>K e t' H'=some r) t H:=by
 unfold A7D at h
 cases hb:cf.b
 ·rw[hb] at h
  have hn:ro=none:=by
   cases ro with
   |none=>rfl
   |some b=>have:=hro (by simp);rw[hb] at this;cases this
  subst hn
  obtain⟨t',h,hc⟩:=A7I _ _ h
  refine QI.congr hc ?_
  have h:=AU hE h
  split at h
  ·rename_i f first cap hf
   rw[Ca,KZ] at h
   obtain⟨⟨fn,h1,h2,h3⟩,hcall⟩:=hR.call _ _ _ _ _ h
   have e:first++AV.yl (A2 H)::cap=first++[.yl (A2 H)]++cap:=by simp
   rw[e] at hcall
   refine A9o hf h1 h2 h3 ?_
   intro w0 C w ys hr ha
   refine(hcall w0 C w ys hr ha).mono ?_
   rintro e w' ⟨v,y,C',H',he,hr',hv,hx,hk⟩
   refine⟨v,y,C',H',he,hr',hv,hx,?_⟩
   obtain⟨x,hl,hk2⟩:=Hf rfl hk
   obtain⟨N',t2,ps',as',bd',pend,rfl,hk3⟩:=Wm hk2
   rw[Db] at hk3
   unfold B8Y at hk3
   split at hk3
   ·exact⟨_,_,_,_,_,_,hl,hk3⟩
   ·exact⟨_,_,_,_,_,_,hl,hk3⟩
   ·exact⟨_,_,_,_,_,_,hl,hk3⟩
   ·exact⟨_,_,_,_,_,_,hl,hk3⟩
   ·cases hk3
  ·cases h
 ·rw[hb] at h;cases h
theorem B1Z {D:Nat→List Oper→Bool}:∀(c:Code) (l:Nat) (rest:Code),Qy D c=true→findLabel c l=some rest→Qy D rest=true:=by
 intro c
 induction c with
 |seq a b iha ihb=>
  intro l rest hd h
  simp only[Qy,Jq] at hd
  unfold findLabel at h
  split at h
  ·rename_i r0 hr0
   injection h with h
   subst h
   simp only[Qy,Jq]
   exact⟨iha _ _ hd.1 hr0,hd.2⟩
  ·exact ihb _ _ hd.2 h
 |label l'=>
  intro l rest hd h
  unfold findLabel at h
  split at h
  ·injection h with h;subst h;rfl
  ·cases h
 |_=>intro l rest hd h;simp[findLabel] at h
theorem A6P {e:Exit} {t:Tm} {H:Hp} {k:Nat→Tm→Hp→Aj} {K:KQ} (hne:∀l,e≠.goto l) (h:A6Q e t H k K=some r):K e t H=some r:=by
 cases e with
 |goto l=>exact absurd rfl (hne l)
 |_=>exact h
theorem A5N (hR:RSound D E P R) {cf:Cf} {c:Code} (hd:Qy (D E cf) c=true) {K:KQ}:∀(n l:Nat) (t:Tm) (H:Hp),A9v R.run cf c K n l t H=some r→
 ∃rest,findLabel c l=some rest∧A5w P E.G m cf.n c rest (λe t' H'=>K e t' H'=some r) t H:=by
 intro n
 induction n with
 |zero=>intro l t H h;cases h
 |succ n ih=>
  intro l t H h
  have h:(match findLabel c l with
   |some rest=>R.run cf rest t H λe t H=>A6Q e t H (A9v R.run cf c K n) K
   |none=>none)=some r:=h
  split at h
  ·rename_i rest hf
   refine⟨rest,hf,A4c (λl t H hq=>ih l t H hq) (λe t H hne hq=>A6P hne hq) (hR.run none cf rest t H _ r m (λh=>absurd rfl h) (λ_=>B1Z _ _ _ hd hf) h)⟩
  ·cases h
theorem A5P (hE:XE.Ok D E P) (hR:RSound D E P R) (hZ:A9u D E P Z) {cf:Cf} (hro:ro≠none→cf.b=true):∀(c:Code) (t:Tm) (H:Hp) (K:KQ),(cf.b=false→Qy (D E cf) c=true)→WD E R Z cf c t H K=some r→
 QI P E.G ro m cf.n c (λe t' H'=>K e t' H'=some r) t H:=by
 intro c
 induction c with
 |skip=>intro t H K _ h;exact B5v h
 |region id ops draw=>
  intro t H K hd h
  have h:@Bool.rec (λ_=>Aj) (A7F E R cf.fz cf.n ops.toList ops.toList t H λt H=>K .normal t H) (Z cf id ops.toList t H λt H=>K .normal t H) draw=some r:=h
  have e:ops=ops.toList.toArray:=by simp
  cases draw
  ·rw[e]
   exact QI.mono (A9n (A7E hE hR _ _ _ _ h)) (by rintro _ _ _ ⟨rfl,h⟩;exact h)
  ·rw[e]
   exact QI.mono (hZ ro cf id ops.toList t H _ r m hd h) (by rintro _ _ _ ⟨rfl,h⟩;exact h)
 |seq x y ihx ihy=>
  intro t H K hd h
  have h:(WD E R Z cf x t H λe t H=>A3y e t H (λt H=>WD E R Z cf y t H K) K)=some r:=h
  have hd':cf.b=false→Qy (D E cf) x=true∧Qy (D E cf) y=true:= λhb=>by simpa [Qy] using hd hb
  refine B8D (QI.mono (ihx t H _ (λhb=>(hd' hb).1) h) λe t1 H1 hq=> ?_)
  rcases A14 hq with⟨rfl,h⟩|⟨hne,h⟩
  ·exact ihy _ _ _ (λhb=>(hd' hb).2) h
  ·cases e with
   |normal=>exact absurd rfl hne
   |_=>exact h
 |cond x a b iha ihb=>
  intro t H K hd h
  have h:(IJ E t x λv=>Aw v (WD E R Z cf a t H K) (WD E R Z cf b t H K))=some r:=h
  have hd':cf.b=false→Qy (D E cf) a=true∧Qy (D E cf) b=true:= λhb=>by simpa [Qy] using hd hb
  have h:=AU hE h
  unfold Aw at h
  split at h
  ·rename_i hv
   exact A7o hv (λ_=>iha _ _ _ (λhb=>(hd' hb).1) h) (λhb=>by cases hb)
  ·rename_i hv
   exact A7o hv (λhb=>by cases hb) (λ_=>ihb _ _ _ (λhb=>(hd' hb).2) h)
  ·cases h
 |block id x ih=>
  intro t H K hd h
  have h:(WD E R Z cf x t H λe t H=>A9j id e t H K)=some r:=h
  refine B28 (QI.mono (ih t H _ hd h) λe t1 H1 hq=> ?_)
  unfold A9j at hq
  cases e with
  |exit i=>
   simp only at hq
   simp only[A8q]
   cases hi:Nat.beq i id
   ·rw[hi] at hq
    rw[if_neg (λe=>by rw[e,Zq] at hi;cases hi)]
    exact hq
   ·rw[hi] at hq
    rw[if_pos (VG hi)]
    exact hq
  |_=>exact hq
 |loop x ih=>
  intro t H K hd h
  have h:A3p cf.lv (λt H K=>WD E R Z cf x t H K) K E.lf t H=some r:=h
  exact A7m (A5L (λt H K h=>ih t H K hd h) _ _ _ h)
 |rangeFunc g ps aZ bd _ _=>
  intro t H K _ h
  exact A4f hE hR hro h
 |exit id=>intro t H K _ h;exact B5x h
 |scope x ih=>
  intro t H K hd h
  have h:@Bool.rec (λ_=>Aj) (WD E R Z cf x t H λe t H=>A6Q e t H (A9v R.run cf x K E.lf) K) none cf.b=some r:=h
  cases hb:cf.b
  ·rw[hb] at h
   have hn:ro=none:=by
    cases ro with
    |none=>rfl
    |some b=>have:=hro (by simp);rw[hb] at this;cases this
   subst hn
   have hdx:Qy (D E cf) x=true:=hd hb
   exact B26 (A4c (λl t H hq=>A5N hR hdx _ _ _ _ hq) (λe t H hne hq=>A6P hne hq) (ih t H _ hd h))
  ·rw[hb] at h;cases h
 |label l=>intro t H K _ h;exact B27 h
 |goto l=>intro t H K _ h;exact B5w h
 |ret=>intro t H K _ h;exact B8E h
 |refuse s=>intro t H K _ h;cases h
end
def QP (E:XE):Op→Bool
 | .move _=>true
 | .assign _=>true
 | .pick .. =>true
 | .nilCheck _=>true
 | .binOp .. =>true
 | .unOp .. =>true
 | .convert s _ _=>match E.ty.get s with
  |some i=>match i.d with
   | .slice .. =>false
   | .pointer _=>false
   | .other=>false
   |_=>true
  |none=>false
 | .makeFunc .. =>true
 | .fieldAddr .. =>true
 | .field .. =>true
 | .indexAddr .. =>true
 | .index .. =>true
 | .slice ty _ _ _ _=>match E.ty.get ty with
  |some i=>match i.d with
   | .array .. =>false
   |_=>true
  |none=>false
 | .extract .. =>true
 | .build .. =>true
 | .buildSlice .. =>true
 | .call c=>match c.callee with
  | .builtin .len=>match c.argTypes.toList with
   |[ty]=>(match E.ty.get ty with
    |some i=>match i.d with
     | .map .. =>false
     |_=>true
    |none=>false)
   |_=>false
  | .builtin .min=>true
  | .builtin .max=>true
  |_=>false
 |_=>false
def Om (E:XE) (fz:Bool):Op→Bool
 | .move _=>false
 | .assign _=>false
 | .pick .. =>false
 | .nilCheck _=>false
 | .binOp .. =>false
 | .unOp .. =>false
 | .convert s d _=>match E.ty.get s,E.ty.get d with
  |some i,some j=>match i.d,j.d with
   | .string,.slice .. =>true
   |_,_=>false
  |_,_=>true
 | .makeFunc .. =>false
 | .fieldAddr .. =>false
 | .field .. =>false
 | .indexAddr .. =>false
 | .index .. =>false
 | .slice .. =>false
 | .extract .. =>false
 | .build .. =>false
 | .buildSlice .. => !fz
 | .load .. =>false
 | .lookup .. =>false
 | .makeInterface .. =>false
 | .call c=>match c.callee with
  | .value (.func f)=>E.imp f
  | .value (.tmp _)=> !fz
  | .builtin .len=>false
  | .builtin .min=>false
  | .builtin .max=>false
  | .builtin .cap=>false
  | .builtin .unsafeSliceData=>false
  |_=>true
 |_=>true
def A5K (E:XE) (R:Rt) (t:Tm) (H:Hp) (o:Op) (K:AV→Aj):Aj:=
 (λ(_:Unit)=>match o with
  | .move x=>IJ E t x K
  | .assign x=>IJ E t x K
  |o=>Ah (PA E R t H o λv=>some (v,[])) K) GU
def B0C (E:XE) (R:Rt) (fz:Bool) (all:List Oper) (o:Oper) (t1:Tm) (H:Hp):Aj:=
 gdK all t1 o.guard λg=>@Bool.rec (λ_=>Aj) (some (.v undef,H)) (@Bool.rec (λ_=>Aj) (Ah (PA E R t1 H o.op λv=>some (v,[])) λv=>some (v,H)) (zop E R fz t1 H o.op λv H'=>some (v,H')) (Om E fz o.op)) g
def zdr (E:XE) (R:Rt) (fz:Bool) (N:Nat) (all:List Oper) (l:List Oper):Tm→Hp→(Tm→Hp→Aj)→Aj:=
 @List.rec Oper (λ_=>Tm→Hp→(Tm→Hp→Aj)→Aj) (λt H K=>K t H)
  (λo _ ih t H K=>A7h N o.dst (VL (M0 all o) t λt1=>B1x o.guard
   (@Bool.rec (λ_=>Aj) (A5K E R t1 H o.op λv=>OD t o.dst v λt'=>ih t' H K) (Ed (zop E R fz t1 H o.op λv H'=>some (v,H')) λv H'=>OD t o.dst v λt'=>ih t' H' K) (Om E fz o.op))
   (Ed (B0C E R fz all o t1 H) λv H'=>OD t o.dst v λt'=>ih t' H' K))) l
def A0J (E:XE) (R:Rt) (fz:Bool) (N:Nat) (all:List Oper) (l:List Oper):Tm→Hp→(List Tm→List AV→List Hp→Tm→Hp→Aj)→Aj:=
 @List.rec Oper (λ_=>Tm→Hp→(List Tm→List AV→List Hp→Tm→Hp→Aj)→Aj) (λt H K=>K [] [] [H] t H)
  (λo _ ih t H K=>A7h N o.dst (VL (M0 all o) t λt1=>B1x o.guard
   (@Bool.rec (λ_=>Aj) (A5K E R t1 H o.op λv=>OD t o.dst v λt'=>ih t' H λts vs hs=>K (t1::ts) (v::vs) hs) (Ed (zop E R fz t1 H o.op λv H'=>some (v,H')) λv H'=>OD t o.dst v λt'=>ih t' H' λts vs hs=>K (t1::ts) (v::vs) (H::hs)) (Om E fz o.op))
   (Ed (B0C E R fz all o t1 H) λv H'=>OD t o.dst v λt'=>ih t' H' λts vs hs=>K (t1::ts) (v::vs) (@Bool.rec (λ_=>List Hp) hs (H::hs) (Om E fz o.op))))) l
def A34 {α:Type} (l:List α) (n:Nat) (K:α→Aj):Aj:=
 (λ(_:Unit)=>@List.rec α (λ_=>Nat→Aj) (λ_=>none) (λa _ ih n=>@Nat.rec (λ_=>Aj) (K a) (λm _=>ih m) n) l n) GU
def Ww:AV→AV→Bool
 | .v x,.v y=>WK x y
 | .ptr r p k,.ptr r' p' k'=>Nat.beq r r'&&(Nat.beq p p'&&Nat.beq k k')
 | .sl z r o n,.sl z' r' o' n'=>Nat.beq z z'&&(Nat.beq r r'&&(Nat.beq o o'&&Nat.beq n n'))
 | .iptr cs,.iptr es=>A2z (XV 6) cs es
 | .mp r,.mp r'=>Nat.beq r r'
 |a,b=>XV 6 a b
theorem B8J {a b:AV} (h:Ww a b=true):a=b:=by
 unfold Ww at h
 split at h
 ·rw[A0k h]
 ·simp only[Jq] at h
  rw[VG h.1,VG h.2.1,VG h.2.2]
 ·simp only[Jq] at h
  rw[VG h.1,VG h.2.1,VG h.2.2.1,VG h.2.2.2]
 ·rw[A0E (A9t 6) h]
 ·rw[VG h]
 ·exact A9t 6 _ _ h
def AX (a:Aj) (v:AV):Aj:=match a with
 |some (u,_)=>some (.v (.bool (Ww u v)),[])
 |none=>none
def Pw (a:Aj) (K:Aj):Aj:=match a with
 |some (.v (.bool true),_)=>K
 |_=>none
theorem B45 {a:Aj} {K:Aj} {r:AV×Hp} (h:Pw a K=some r):(∃H0,a=some (.v (.bool true),H0))∧K=some r:=by
 unfold Pw at h
 split at h
 ·exact⟨⟨_,rfl⟩,h⟩
 ·cases h
theorem A1c {a:Aj} {v:AV} {H0:Hp} (h:AX a v=some (.v (.bool true),H0)):∃H1,a=some (v,H1):=by
 unfold AX at h
 split at h
 ·injection h with h
  injection h with h _
  injection h with h
  injection h with h
  exact⟨_,by rw[B8J h]⟩
 ·cases h
def B0J (E:XE) (R:Rt) (all:List Oper) (bs:List (Nat×Nat)) (ts:List Tm) (vs:List AV) (hs:List Hp) (K:Aj):Aj:=
 (λ(_:Unit)=>@List.rec (Nat×Nat) (λ_=>Aj) K (λp _ ih=>@Prod.rec Nat Nat (λ_=>Aj) (λi k=>A34 all i λo=>A34 ts i λt1=>A34 vs i λv=>A34 hs k λH=>
  Pw (gdK all t1 o.guard λg=>@Bool.rec (λ_=>Aj) (some (.v (.bool true),[])) (AX (PA E R t1 H o.op λu=>some (u,[])) v) g) ih) p) bs) GU
def EG (ef:Oper→Bool):Nat→List Oper→List Nat
 |_,[]=>[]
 |i,o::l=>match ef o with
  |true=>i::EG ef (i+1) l
  |false=>EG ef (i+1) l
def A6i (E:XE) (ef:Oper→Bool) (ms efs:List Nat):Nat→List Oper→Bool
 |_,[]=>true
 |i,o::l=>(ef o||(QP E o.op||efs.all λe=>match Nat.blt e i with
  |true=>tb (ms.getD i 0) e
  |false=>tb (ms.getD e 0) i))&&A6i E ef ms efs (i+1) l
def Ia (E:XE) (fz:Bool) (o:Oper):Bool:=Om E fz o.op
def B1g (ms:List Nat) (i k:Nat):Nat→List Nat→Bool
 |_,[]=>true
 |a,e::l=>(!tb (ms.getD i 0) e||Nat.blt a k)&&((!tb (ms.getD e 0) i||Nat.ble k a)&&B1g ms i k (a+1) l)
def B17 (E:XE) (ef:Oper→Bool) (ms efs:List Nat) (bs:List (Nat×Nat)):Nat→Nat→List Oper→Bool
 |_,_,[]=>true
 |i,k0,o::l=>(ef o||(QP E o.op||(List.range (efs.length+1)).all λk=>Nat.beq k k0||(!B1g ms i k 0 efs||bs.any λp=>Nat.beq p.1 i&&Nat.beq p.2 k)))&&
  B17 E ef ms efs bs (i+1) (match ef o with|true=>k0+1|false=>k0) l
def B3h (id:Nat):List (Nat×List (Nat×Nat))→Option (List (Nat×Nat))
 |[]=>none
 |p::l=>match Nat.beq p.1 id with|true=>some p.2|false=>B3h id l
def A1f (E:XE) (cf:Cf) (id:Nat) (ops:List Oper):Bool:=
 A3E ops (EG (Ia E cf.fz) 0 ops)&&(match B3h id cf.rc with
  |none=>A6i E (Ia E cf.fz) (QM ops) (EG (Ia E cf.fz) 0 ops) 0 ops
  |some bs=>B17 E (Ia E cf.fz) (QM ops) (EG (Ia E cf.fz) 0 ops) bs 0 0 ops)
def B9n (E:XE) (ef:Oper→Bool) (ms efs:List Nat):Nat→Nat→List Oper→List (Nat×Nat)
 |_,_,[]=>[]
 |i,k0,o::l=>(match ef o||QP E o.op with
  |true=>[]
  |false=>((List.range (efs.length+1)).filter λk=> !Nat.beq k k0&&B1g ms i k 0 efs).map λk=>(i,k))++B9n E ef ms efs (i+1) (match ef o with|true=>k0+1|false=>k0) l
def C3L (E:XE) (R:Rt) (cf:Cf) (ops:List Oper) (bs:List (Nat×Nat)) (t:Tm) (H:Hp) (K:Tm→Hp→Aj):Aj:=
 ckS (A3E ops (EG (Ia E cf.fz) 0 ops)&&B17 E (Ia E cf.fz) (QM ops) (EG (Ia E cf.fz) 0 ops) bs 0 0 ops) (A0J E R cf.fz cf.n ops ops t H λts vs hs t' H'=>B0J E R ops bs ts vs hs (K t' H'))
def C3M (E:XE) (R:Rt) (cf:Cf) (id:Nat) (ops:List Oper) (t:Tm) (H:Hp) (K:Tm→Hp→Aj):Aj:=
 (λ(_:Unit)=>match B3h id cf.rc with
  |none=>zdr E R cf.fz cf.n ops ops t H K
  |some bs=>A0J E R cf.fz cf.n ops ops t H λts vs hs t' H'=>B0J E R ops bs ts vs hs (K t' H')) GU
def A9x (E:XE) (R:Rt):B0z:= λcf id ops t H K=>
 @Bool.rec (λ_=>Aj) (C3M E R cf id ops t H K) (C3L E R cf ops (B9n E (Ia E cf.fz) (QM ops) (EG (Ia E cf.fz) 0 ops) 0 0 ops) t H K) cf.b
section
variable {E:XE} {P:Program} {R:Rt} {t:Tm} {H:Hp} {r:AV×Hp} {ro:Option Nat} {N m:Nat} {fz:Bool}
theorem A6M {o:Op} (h:QP E o=true) (H H':Hp) (K:AV→Aj):PA E R t H o K=PA E R t H' o K:=by
 cases o with
 |move x=>rfl
 |assign x=>rfl
 |pick c a b=>rfl
 |nilCheck x=>rfl
 |binOp a b c d e=>rfl
 |unOp a b c=>rfl
 |convert a b c=>
  have key:∀v,(E.ty.getK a λi=>E.ty.getK b λj=>cvK E a b i j v H K)=(E.ty.getK a λi=>E.ty.getK b λj=>cvK E a b i j v H' K):=by
   intro v
   have h:(match E.ty.get a with|some i=>(match i.d with| .slice .. =>false| .pointer _=>false| .other=>false|_=>true)|none=>false)=true:=h
   rw[BT.getK_eq,BT.getK_eq]
   cases hs:E.ty.get a with
   |none=>rfl
   |some i=>
    rw[hs] at h
    simp only at h
    simp only
    congr 1
    funext j
    unfold cvK
    cases hd:i.d with
    |slice e z=>rw[hd] at h;cases h
    |pointer e=>rw[hd] at h;cases h
    |other=>rw[hd] at h;cases h
    |_=>rfl
  show(IJ E t c λv=>E.ty.getK a λi=>E.ty.getK b λj=>cvK E a b i j v H K)=(IJ E t c λv=>E.ty.getK a λi=>E.ty.getK b λj=>cvK E a b i j v H' K)
  congr 1
  funext v
  exact key v
 |makeFunc a b c=>rfl
 |fieldAddr a b c=>rfl
 |field a b c=>rfl
 |indexAddr a b c=>rfl
 |index a b c=>rfl
 |slice a b c d e=>
  have h:(match E.ty.get a with|some i=>(match i.d with| .array .. =>false|_=>true)|none=>false)=true:=h
  have key:∀v l h0 m,(E.ty.getK a λi=>A7B i v l h0 m H K)=(E.ty.getK a λi=>A7B i v l h0 m H' K):=by
   intro v l h0 m
   rw[BT.getK_eq,BT.getK_eq]
   cases hs:E.ty.get a with
   |none=>rfl
   |some i=>
    rw[hs] at h
    simp only at h
    simp only
    unfold A7B
    cases hd:i.d with
    |array n e z=>rw[hd] at h;cases h
    |_=>rfl
  show(IJ E t b λv=>A0H E t c λl=>A0H E t d λh=>A0H E t e λm=>E.ty.getK a λi=>A7B i v l h m H K)=(IJ E t b λv=>A0H E t c λl=>A0H E t d λh=>A0H E t e λm=>E.ty.getK a λi=>A7B i v l h m H' K)
  congr 1
  funext v
  congr 1
  funext l
  congr 1
  funext h0
  congr 1
  funext m
  exact key v l h0 m
 |extract a b=>rfl
 |build a b=>rfl
 |buildSlice a b c=>rfl
 |call c=>
  unfold QP at h
  obtain⟨callee,args,ts⟩:=c
  cases callee with
  |value f=>cases h
  |invoke a b=>cases h
  |builtin b=>
   cases b with
   |len=>
    have h:(match ts.toList with|[ty]=>(match E.ty.get ty with|some i=>(match i.d with| .map .. =>false|_=>true)|none=>false)|_=>false)=true:=h
    have e1:∀H0,PA E R t H0 (.call ⟨.builtin .len,args,ts⟩) K=(match args.toList,ts.toList with|[x],[ty]=>IJ E t x λv=>E.ty.getK ty λi=>B5X i v H0 K|_,_=>none):= λ_=>rfl
    rw[e1,e1]
    split
    ·rename_i x ty hx hty
     rw[hty] at h
     congr 1
     funext v
     rw[BT.getK_eq,BT.getK_eq]
     cases hs:E.ty.get ty with
     |none=>rfl
     |some i=>
      simp only[hs] at h
      simp only
      unfold B5X
      cases hd:i.d with
      |map k e=>rw[hd] at h;cases h
      |_=>rfl
    ·rfl
   |min=>rfl
   |max=>rfl
   |_=>cases h
 |_=>cases h
inductive Trc (S:Oper→Tm→Hp→AV→Hp→Prop) (ef:Oper→Bool):List Oper→Tm→Hp→List AV→List Hp→Tm→Hp→Prop
 |nil {t:Tm} {H:Hp}:Trc S ef [] t H [] [H] t H
 |rd {o:Oper} {l:List Oper} {t:Tm} {H:Hp} {v:AV} {vs:List AV} {hs:List Hp} {t':Tm} {H':Hp} (he:ef o=false) (h:S o t H v H) (k:Trc S ef l (PG t o.dst v) H vs hs t' H'):Trc S ef (o::l) t H (v::vs) hs t' H'
 |ef {o:Oper} {l:List Oper} {t:Tm} {H H1:Hp} {v:AV} {vs:List AV} {hs:List Hp} {t':Tm} {H':Hp} (he:ef o=true) (h:S o t H v H1) (k:Trc S ef l (PG t o.dst v) H1 vs hs t' H'):Trc S ef (o::l) t H (v::vs) (H::hs) t' H'
def Stp (E:XE) (R:Rt) (fz:Bool) (N:Nat) (all:List Oper) (o:Oper) (t:Tm) (H:Hp) (v:AV) (H1:Hp):Prop:=
 dok N o.dst∧(((FH all (GW all o t) o= .run∨FH all (GW all o t) o= .dep true)∧
  ((Ia E fz o=false∧(∃H0,PA E R (GW all o t) H o.op (λv=>some (v,[]))=some (v,H0))∧H1=H)∨(Ia E fz o=true∧zop E R fz (GW all o t) H o.op (λv H'=>some (v,H'))=some (v,H1))))∨
  ((FH all (GW all o t) o= .skip∨FH all (GW all o t) o= .dep false)∧v= .v undef∧H1=H))
theorem A5M (lv:List Nat) (t:Tm):∀K:Tm→Aj,VL lv t K=K (Xs lv t):=by
 induction lv with
 |nil=>intro K;rfl
 |cons u lv ih=>
  intro K
  have e:VL (u::lv) t K=gtm t u λv=>VL lv t λl=>K ((u,v)::l):=rfl
  rw[e,Tn,ih];rfl
theorem A9w {x:Operand} {K:AV→Aj} (h:IJ E t x K=some r):∃v H0,IJ E t x (λv=>some (v,[]))=some (v,H0)∧K v=some r:=by
 cases x with
 |tmp i=>
  have h:gtm t i K=some r:=h
  rw[Tn] at h
  exact⟨_,[],(Tn t i _).trans rfl,h⟩
 |const v=>exact⟨_,[],rfl,h⟩
 |global g=>
  have h:(E.gl.getK g λcs=>K (.iptr cs))=some r:=h
  obtain⟨cs,h1,h2⟩:=AZ h
  refine⟨_,[],?_,h2⟩
  have:IJ E t (.global g) (λv=>some (v,[]))=E.gl.getK g λcs=>some (.iptr cs,[]):=rfl
  rw[this,BT.getK_eq,h1]
 |func f=>exact⟨_,[],rfl,h⟩
theorem A3o {o:Op} {K:AV→Aj} (h:A5K E R t H o K=some r):∃v H0,PA E R t H o (λv=>some (v,[]))=some (v,H0)∧K v=some r:=by
 unfold A5K at h
 split at h
 ·exact A9w h
 ·exact A9w h
 ·exact So h
theorem B0F {all:List Oper}:∀(l:List Oper) (t:Tm) (H:Hp) (K:Tm→Hp→Aj),zdr E R fz N all l t H K=some r→
 ∃vs hs t' H',Trc (Stp E R fz N all) (Ia E fz) l t H vs hs t' H'∧K t' H'=some r:=by
 intro l
 induction l with
 |nil=>intro t H K h;exact⟨_,_,_,_,.nil,h⟩
 |cons o l ih=>
  intro t H K h
  have h:A7h N o.dst (VL (M0 all o) t λt1=>B1x o.guard
   (@Bool.rec (λ_=>Aj) (A5K E R t1 H o.op λv=>OD t o.dst v λt'=>zdr E R fz N all l t' H K) (Ed (zop E R fz t1 H o.op λv H'=>some (v,H')) λv H'=>OD t o.dst v λt'=>zdr E R fz N all l t' H' K) (Om E fz o.op))
   (Ed (B0C E R fz all o t1 H) λv H'=>OD t o.dst v λt'=>zdr E R fz N all l t' H' K))=some r:=h
  obtain⟨hd,h⟩:=YZ h
  rw[A5M] at h
  have hrs:Xs (M0 all o) t=GW all o t:=rfl
  rw[hrs] at h
  cases hgd:o.guard with
  |none=>
   have hrun:FH all (GW all o t) o= .run:=by unfold FH;rw[hgd]
   rw[hgd] at h
   have h:@Bool.rec (λ_=>Aj) (A5K E R (GW all o t) H o.op λv=>OD t o.dst v λt'=>zdr E R fz N all l t' H K) (Ed (zop E R fz (GW all o t) H o.op λv H'=>some (v,H')) λv H'=>OD t o.dst v λt'=>zdr E R fz N all l t' H' K) (Om E fz o.op)=some r:=h
   cases he:Om E fz o.op
   ·rw[he] at h
    obtain⟨v,H0,h3,h4⟩:=A3o h
    rw[QK] at h4
    obtain⟨vs,hs,t',H',h5,h6⟩:=ih _ _ _ h4
    exact⟨_,_,_,_,.rd he ⟨hd,.inl ⟨.inl hrun,.inl ⟨he,⟨_,h3⟩,rfl⟩⟩⟩ h5,h6⟩
   ·rw[he] at h
    obtain⟨v,H1,h3,h4⟩:=Sp h
    rw[QK] at h4
    obtain⟨vs,hs,t',H',h5,h6⟩:=ih _ _ _ h4
    exact⟨_,_,_,_,.ef he ⟨hd,.inl ⟨.inl hrun,.inr ⟨he,h3⟩⟩⟩ h5,h6⟩
  |some gg=>
   rw[hgd] at h
   have h:(Ed (B0C E R fz all o (GW all o t) H) λv H'=>OD t o.dst v λt'=>zdr E R fz N all l t' H' K)=some r:=h
   obtain⟨v,H1,h3,h4⟩:=Sp h
   rw[QK] at h4
   obtain⟨vs,hs,t',H',h5,h6⟩:=ih _ _ _ h4
   rcases Xx h3 with⟨h1,h2⟩|⟨h1,h2⟩
   ·cases he:Om E fz o.op
    ·rw[he] at h1
     obtain⟨v',H0,h7,h8⟩:=So h1
     injection h8 with h8;injection h8 with h8 h9
     subst h8 h9
     exact⟨_,_,_,_,.rd he ⟨hd,.inl ⟨h2,.inl ⟨he,⟨_,h7⟩,rfl⟩⟩⟩ h5,h6⟩
    ·rw[he] at h1
     exact⟨_,_,_,_,.ef he ⟨hd,.inl ⟨h2,.inr ⟨he,h1⟩⟩⟩ h5,h6⟩
   ·have h1:some (AV.v undef,H)=some (v,H1):=h1
    injection h1 with h1;injection h1 with h7 h8
    subst h7 h8
    cases he:Ia E fz o
    ·exact⟨_,_,_,_,.rd he ⟨hd,.inr ⟨h2,rfl,rfl⟩⟩ h5,h6⟩
    ·exact⟨_,_,_,_,.ef he ⟨hd,.inr ⟨h2,rfl,rfl⟩⟩ h5,h6⟩
def Sy (ef:Oper→Bool) (l:List Oper) (i:Nat):Nat:=((l.take i).filter ef).length
theorem Yg (o:Oper) (l:List Oper) (val:Nat→AV) (t:Tm):∀i,GR (o::l) val t (λ_=>true) (i+1)=GR l (λj=>val (j+1)) (PG t o.dst (val 0)) (λ_=>true) i:=by
 intro i
 induction i with
 |zero=>rfl
 |succ i ih=>
  have e1:GR (o::l) val t (λ_=>true) (i+1+1)=(match true,(o::l)[i+1]? with|true,some o'=>PG (GR (o::l) val t (λ_=>true) (i+1)) o'.dst (val (i+1))|_,_=>GR (o::l) val t (λ_=>true) (i+1)):=rfl
  have e2:GR l (λj=>val (j+1)) (PG t o.dst (val 0)) (λ_=>true) (i+1)=(match true,l[i]? with|true,some o'=>PG (GR l (λj=>val (j+1)) (PG t o.dst (val 0)) (λ_=>true) i) o'.dst (val (i+1))|_,_=>GR l (λj=>val (j+1)) (PG t o.dst (val 0)) (λ_=>true) i):=rfl
  rw[e1,e2,ih,l0q]
theorem Trc.at {S:Oper→Tm→Hp→AV→Hp→Prop} {ef:Oper→Bool} {l:List Oper} {t:Tm} {H:Hp} {vs:List AV} {hs:List Hp} {t':Tm} {H':Hp} (h:Trc S ef l t H vs hs t' H'):
 hs.getD 0 []=H∧t'=GR l (λj=>vs.getD j .dk) t (λ_=>true) l.length∧H'=hs.getD (Sy ef l l.length) []∧
 ∀(i:Nat) (o:Oper),l[i]?=some o→S o (GR l (λj=>vs.getD j .dk) t (λ_=>true) i) (hs.getD (Sy ef l i) []) (vs.getD i .dk) (hs.getD (Sy ef l (i+1)) []):=by
 induction h with
 |nil=>exact⟨rfl,rfl,rfl,λi o h=>by simp at h⟩
 |@rd o l t H v vs hs t' H' he hs0 k ih=>
  obtain⟨h1,h2,h3,h4⟩:=ih
  have hc:∀i,Sy ef (o::l) (i+1)=Sy ef l i:= λi=>by simp[Sy,he]
  have ht:∀i,GR (o::l) (λj=>(v::vs).getD j .dk) t (λ_=>true) (i+1)=GR l (λj=>vs.getD j .dk) (PG t o.dst v) (λ_=>true) i:= λi=>by rw[Yg];simp
  refine⟨h1,?_,?_,?_⟩
  ·rw[K7,ht];exact h2
  ·rw[K7,hc];exact h3
  ·intro i p hp
   cases i with
   |zero=>
    simp at hp;subst hp
    rw[hc,show Sy ef (o::l) 0=0 from rfl,show Sy ef l 0=0 from rfl,h1]
    exact hs0
   |succ i=>
    rw[hc,hc,ht]
    have:=h4 i p (by simpa using hp)
    simpa using this
 |@ef o l t H H1 v vs hs t' H' he hs0 k ih=>
  obtain⟨h1,h2,h3,h4⟩:=ih
  have hc:∀i,Sy ef (o::l) (i+1)=Sy ef l i+1:= λi=>by simp[Sy,he]
  have ht:∀i,GR (o::l) (λj=>(v::vs).getD j .dk) t (λ_=>true) (i+1)=GR l (λj=>vs.getD j .dk) (PG t o.dst v) (λ_=>true) i:= λi=>by rw[Yg];simp
  refine⟨rfl,?_,?_,?_⟩
  ·rw[K7,ht];exact h2
  ·rw[K7,hc];simpa using h3
  ·intro i p hp
   cases i with
   |zero=>
    simp at hp;subst hp
    rw[hc,show Sy ef (o::l) 0=0 from rfl,show Sy ef l 0=0 from rfl]
    have:(H::hs).getD (0+1) []=H1:=by simpa using h1
    rw[this]
    exact hs0
   |succ i=>
    rw[hc,hc,ht]
    have:=h4 i p (by simpa using hp)
    simpa using this
theorem A5c {ef:Oper→Bool}:∀(l:List Oper) (n a e:Nat),(EG ef n l)[a]?=some e→∃j o,e=n+j∧l[j]?=some o∧ef o=true∧Sy ef l j=a:=by
 intro l
 induction l with
 |nil=>intro n a e h;simp[EG] at h
 |cons o l ih=>
  intro n a e h
  unfold EG at h
  cases he:ef o
  ·rw[he] at h
   obtain⟨j,p,h1,h2,h3,h4⟩:=ih _ _ _ h
   exact⟨j+1,p,by omega,by simpa using h2,h3,by simpa [Sy,he] using h4⟩
  ·rw[he] at h
   cases a with
   |zero=>simp at h;exact⟨0,o,by omega,rfl,he,rfl⟩
   |succ a=>
    obtain⟨j,p,h1,h2,h3,h4⟩:=ih _ _ _ (by simpa using h)
    exact⟨j+1,p,by omega,by simpa using h2,h3,by simpa [Sy,he] using h4⟩
theorem B5y {ef:Oper→Bool}:∀(l:List Oper) (n j:Nat) (o:Oper),l[j]?=some o→ef o=true→(EG ef n l)[Sy ef l j]?=some (n+j):=by
 intro l
 induction l with
 |nil=>intro n j o h;simp at h
 |cons p l ih=>
  intro n j o h he
  unfold EG
  cases j with
  |zero=>simp at h;subst h;rw[he];rfl
  |succ j=>
   have:=ih (n+1) j o (by simpa using h) he
   cases hp:ef p
   ·simpa [Sy,hp,Xo,Nat.add_comm 1 j] using this
   ·simpa [Sy,hp,Xo,Nat.add_comm 1 j] using this
theorem A5b {ef:Oper→Bool}:∀(l:List Oper) (n:Nat),(EG ef n l).length=Sy ef l l.length:=by
 intro l
 induction l with
 |nil=>intro n;rfl
 |cons p l ih=>
  intro n
  unfold EG
  cases hp:ef p
  ·simpa [Sy,hp] using ih (n+1)
  ·simpa [Sy,hp] using ih (n+1)
theorem A2o {ef:Oper→Bool} (l:List Oper) {i j:Nat} (h:i≤j):Sy ef l i≤Sy ef l j:=by
 unfold Sy
 have:l.take i=(l.take j).take i:=by rw[List.take_take,l1x h]
 rw[this]
 exact((List.take_sublist i (l.take j)).filter ef).length_le
theorem Vg {ef:Oper→Bool} {l:List Oper} {i:Nat} {o:Oper} (h:l[i]?=some o):Sy ef l (i+1)=Sy ef l i+(if ef o then 1 else 0):=by
 unfold Sy
 rw[List.take_add_one,h,List.filter_append,XA2]
 cases he:ef o<;>simp[he]
theorem B3g {ef:Oper→Bool} {ms efs:List Nat}:∀(l:List Oper) (n:Nat),A6i E ef ms efs n l=true→∀(j:Nat) (o:Oper),l[j]?=some o→ef o=false→QP E o.op=true∨∀e∈efs,(e<n+j→tb (ms.getD (n+j) 0) e=true)∧(n+j≤e→tb (ms.getD e 0) (n+j)=true):=by
 intro l
 induction l with
 |nil=>intro n _ j o h;simp at h
 |cons p l ih=>
  intro n h j o ho he
  simp only[A6i,Jq] at h
  cases j with
  |zero=>
   simp at ho;subst ho
   have h1:=h.1
   rw[he,Bool.false_or,l1d] at h1
   rcases h1 with h1|h1
   ·exact .inl h1
   ·refine .inr λe hm=> ?_
    have:=HF.1 h1 e hm
    cases hb:Nat.blt e n
    ·rw[hb] at this
     have:¬e<n:= λhlt=>by rw[←UM,hb] at hlt;cases hlt
     exact⟨λhlt=>by omega,λ_=>by simpa using ‹_›⟩
    ·rw[hb] at this
     have hlt:e<n:=by rw[←UM];exact hb
     exact⟨λ_=>this,λhle=>by omega⟩
  |succ j=>
   have:=ih (n+1) h.2 j o (by simpa using ho) he
   rw[show n+(j+1)=n+1+j from by omega];exact this
theorem Stp.aopg {D:XE→Cf→Nat→List Oper→Bool} (hE:XE.Ok D E P) (hR:RSound D E P R) {all:List Oper} {o:Oper} {v:AV} {H1:Hp} (h:Stp E R fz N all o t H v H1):B8O P E.G ro N all o (GW all o t) H v H1:=by
 obtain⟨_,⟨hg,h⟩|⟨hg,h1,h2⟩⟩:=h
 ·refine .inl ⟨hg,?_⟩
  rcases h with⟨_,⟨H0,h⟩,rfl⟩|⟨_,h⟩
  ·refine Su.mono (QJ hE hR h) ?_
   rintro v' H' ⟨hH,h⟩
   injection h with h;injection h with h
   exact⟨h,hH⟩
  ·refine Su.mono (XZ hE hR h) ?_
   intro v' H' h
   injection h with h;injection h with h h'
   exact⟨h,h'⟩
 ·exact .inr ⟨hg,h1,h2⟩
theorem B0G {D:XE→Cf→Nat→List Oper→Bool} (hE:XE.Ok D E P) (hR:RSound D E P R) {cf:Cf} {id:Nat} {ops:List Oper} (hD:A3E ops (EG (Ia E cf.fz) 0 ops)=true) (hD2:A6i E (Ia E cf.fz) (QM ops) (EG (Ia E cf.fz) 0 ops) 0 ops=true) {K:Tm→Hp→Aj} (h:zdr E R cf.fz cf.n ops ops t H K=some r):
 QI P E.G ro m cf.n (.region id ops.toArray true) (λe t' H'=>e= .normal∧K t' H'=some r) t H:=by
 obtain⟨vs,hs,t',H',htr,hK⟩:=B0F ops t H K h
 obtain⟨h0,ht',hH',hst⟩:=htr.at
 have hk:=A1e hD
 have hr:=B3g ops 0 hD2
 have e0:H=(λk=>hs.getD k []) 0:=h0.symm
 rw[e0]
 refine A7n (efs:=EG (Ia E cf.fz) 0 ops) (val:= λj=>vs.getD j .dk) (Hs:= λk=>hs.getD k []) hE.mix hk (λo ho=> ?_) ?_ ?_ ?_
 ·obtain⟨i,hi⟩:=List.getElem?_of_mem ho
  exact(hst i o hi).1
 ·intro i o ho hne k hkl hp
  have he:Ia E cf.fz o=false:=by
   cases he:Ia E cf.fz o
   ·rfl
   ·exact absurd (B5y ops 0 i o ho he) (by rw[KN];exact hne _)
  have hs1:=hst i o ho
  have hc1:Sy (Ia E cf.fz) ops (i+1)=Sy (Ia E cf.fz) ops i:=by rw[Vg ho,he];simp
  rw[hc1] at hs1
  rcases hr i o ho he with hf|hord
  ·refine Stp.aopg (fz:=cf.fz) hE hR ?_
   obtain⟨hd,⟨hg,h⟩|⟨hg,h1,h2⟩⟩:=hs1
   ·rcases h with⟨_,⟨H0,h⟩,_⟩|⟨h,_⟩
    ·exact⟨hd,.inl ⟨hg,.inl ⟨he,⟨H0,by rw[A6M hf _ (hs.getD (Sy (Ia E cf.fz) ops i) [])];exact h⟩,rfl⟩⟩⟩
    ·rw[he] at h;cases h
   ·exact⟨hd,.inr ⟨hg,h1,rfl⟩⟩
  ·have hlen:=A5b (ef:=Ia E cf.fz) ops 0
   have hil:i<ops.length:=(l0j.1 ho).1
   have hkc:k=Sy (Ia E cf.fz) ops i:=by
    rcases Nat.lt_trichotomy k (Sy (Ia E cf.fz) ops i) with hlt|heq|hgt
    ·exfalso
     have hkl':k<(EG (Ia E cf.fz) 0 ops).length:=by rw[hlen];exact l2m hlt (A2o ops (by omega))
     obtain⟨j,p,h1,h2,h3,h4⟩:=A5c ops 0 k _ (Kn hkl')
     have hji:j<i:=by
      rcases Nat.lt_or_ge j i with h|h
      ·exact h
      ·exfalso;have:=A2o (ef:=Ia E cf.fz) ops h;omega
     have:=(hord _ (QN hkl')).1 (by omega)
     rw[KN,A3z] at this
     have:=hp.1 k _ (Kn hkl') (Nv this)
     omega
    ·exact heq
    ·exfalso
     have hcl:Sy (Ia E cf.fz) ops i<(EG (Ia E cf.fz) 0 ops).length:=by omega
     obtain⟨j,p,h1,h2,h3,h4⟩:=A5c ops 0 _ _ (Kn hcl)
     have hij:i≤j:=by
      rcases Nat.lt_or_ge j i with h|h
      ·exfalso
       have h5:=A2o (ef:=Ia E cf.fz) ops (show j+1≤i from h)
       rw[Vg h2,h3] at h5
       simp at h5;omega
      ·exact h
     have:=(hord _ (QN hcl)).2 (by omega)
     rw[KN,A3z] at this
     have:=hp.2 _ _ (Kn hcl) (Nv this)
     omega
   rw[hkc]
   exact Stp.aopg (fz:=cf.fz) hE hR hs1
 ·intro a i o ho hi
  obtain⟨j,p,h1,h2,h3,h4⟩:=A5c ops 0 a i hi
  rw[KN] at h1
  subst h1
  rw[ho] at h2;injection h2 with h2;subst h2
  have:=hst i o ho
  rw[Vg ho,h3,h4] at this
  exact Stp.aopg (fz:=cf.fz) hE hR this
 ·refine⟨rfl,?_⟩
  rw[←ht']
  have:hs.getD (EG (Ia E cf.fz) 0 ops).length []=H':=by rw[A5b];exact hH'.symm
  rw[this];exact hK
theorem A7K {all:List Oper}:∀(l:List Oper) (t:Tm) (H:Hp) (K:List Tm→List AV→List Hp→Tm→Hp→Aj),A0J E R fz N all l t H K=some r→
 ∃ts vs hs t' H',Trc (Stp E R fz N all) (Ia E fz) l t H vs hs t' H'∧K ts vs hs t' H'=some r∧vs.length=l.length∧∀(i:Nat) (o:Oper),l[i]?=some o→ts[i]?=some (GW all o (GR l (λj=>vs.getD j .dk) t (λ_=>true) i)):=by
 intro l
 induction l with
 |nil=>intro t H K h;exact⟨_,_,_,_,_,.nil,h,rfl,λi o h=>by simp at h⟩
 |cons o l ih=>
  intro t H K h
  have h:A7h N o.dst (VL (M0 all o) t λt1=>B1x o.guard
   (@Bool.rec (λ_=>Aj) (A5K E R t1 H o.op λv=>OD t o.dst v λt'=>A0J E R fz N all l t' H λts vs hs=>K (t1::ts) (v::vs) hs) (Ed (zop E R fz t1 H o.op λv H'=>some (v,H')) λv H'=>OD t o.dst v λt'=>A0J E R fz N all l t' H' λts vs hs=>K (t1::ts) (v::vs) (H::hs)) (Om E fz o.op))
   (Ed (B0C E R fz all o t1 H) λv H'=>OD t o.dst v λt'=>A0J E R fz N all l t' H' λts vs hs=>K (t1::ts) (v::vs) (@Bool.rec (λ_=>List Hp) hs (H::hs) (Om E fz o.op))))=some r:=h
  obtain⟨hd,h⟩:=YZ h
  rw[A5M] at h
  have hrs:Xs (M0 all o) t=GW all o t:=rfl
  rw[hrs] at h
  have key:∀(v:AV) (ts:List Tm) (vs:List AV),(∀(i:Nat) (p:Oper),l[i]?=some p→ts[i]?=some (GW all p (GR l (λj=>vs.getD j .dk) (PG t o.dst v) (λ_=>true) i)))→
   ∀(i:Nat) (p:Oper),(o::l)[i]?=some p→(GW all o t::ts)[i]?=some (GW all p (GR (o::l) (λj=>(v::vs).getD j .dk) t (λ_=>true) i)):=by
   intro v ts vs hh i p hp
   cases i with
   |zero=>simp at hp;subst hp;rfl
   |succ i=>
    rw[Yg]
    have:=hh i p (by simpa using hp)
    simpa using this
  cases hgd:o.guard with
  |none=>
   have hrun:FH all (GW all o t) o= .run:=by unfold FH;rw[hgd]
   rw[hgd] at h
   have h:@Bool.rec (λ_=>Aj) (A5K E R (GW all o t) H o.op λv=>OD t o.dst v λt'=>A0J E R fz N all l t' H λts vs hs=>K (GW all o t::ts) (v::vs) hs) (Ed (zop E R fz (GW all o t) H o.op λv H'=>some (v,H')) λv H'=>OD t o.dst v λt'=>A0J E R fz N all l t' H' λts vs hs=>K (GW all o t::ts) (v::vs) (H::hs)) (Om E fz o.op)=some r:=h
   cases he:Om E fz o.op
   ·rw[he] at h
    obtain⟨v,H0,h3,h4⟩:=A3o h
    rw[QK] at h4
    obtain⟨ts,vs,hs,t',H',h5,h6,h7,h8⟩:=ih _ _ _ h4
    exact⟨_,_,_,_,_,.rd he ⟨hd,.inl ⟨.inl hrun,.inl ⟨he,⟨_,h3⟩,rfl⟩⟩⟩ h5,h6,by simp[h7],key v ts vs h8⟩
   ·rw[he] at h
    obtain⟨v,H1,h3,h4⟩:=Sp h
    rw[QK] at h4
    obtain⟨ts,vs,hs,t',H',h5,h6,h7,h8⟩:=ih _ _ _ h4
    exact⟨_,_,_,_,_,.ef he ⟨hd,.inl ⟨.inl hrun,.inr ⟨he,h3⟩⟩⟩ h5,h6,by simp[h7],key v ts vs h8⟩
  |some gg=>
   rw[hgd] at h
   have h:(Ed (B0C E R fz all o (GW all o t) H) λv H'=>OD t o.dst v λt'=>A0J E R fz N all l t' H' λts vs hs=>K (GW all o t::ts) (v::vs) (@Bool.rec (λ_=>List Hp) hs (H::hs) (Om E fz o.op)))=some r:=h
   obtain⟨v,H1,h3,h4⟩:=Sp h
   rw[QK] at h4
   obtain⟨ts,vs,hs,t',H',h5,h6,h7,h8⟩:=ih _ _ _ h4
   rcases Xx h3 with⟨h1,h2⟩|⟨h1,h2⟩
   ·cases he:Om E fz o.op
    ·rw[he] at h1 h6
     obtain⟨v',H0,h9,h10⟩:=So h1
     injection h10 with h10;injection h10 with h10 h11
     subst h10 h11
     exact⟨_,_,_,_,_,.rd he ⟨hd,.inl ⟨h2,.inl ⟨he,⟨_,h9⟩,rfl⟩⟩⟩ h5,h6,by simp[h7],key v' ts vs h8⟩
    ·rw[he] at h1 h6
     exact⟨_,_,_,_,_,.ef he ⟨hd,.inl ⟨h2,.inr ⟨he,h1⟩⟩⟩ h5,h6,by simp[h7],key v ts vs h8⟩
   ·have h1:some (AV.v undef,H)=some (v,H1):=h1
    injection h1 with h1;injection h1 with h9 h10
    subst h9 h10
    cases he:Ia E fz o
    ·have he':Om E fz o.op=false:=he
     rw[he'] at h6
     exact⟨_,_,_,_,_,.rd he ⟨hd,.inr ⟨h2,rfl,rfl⟩⟩ h5,h6,by simp[h7],key _ ts vs h8⟩
    ·have he':Om E fz o.op=true:=he
     rw[he'] at h6
     exact⟨_,_,_,_,_,.ef he ⟨hd,.inr ⟨h2,rfl,rfl⟩⟩ h5,h6,by simp[h7],key _ ts vs h8⟩
theorem Vr {α:Type}:∀{l:List α} {n:Nat} {K:α→Aj},A34 l n K=some r→∃a,l[n]?=some a∧K a=some r:=by
 intro l
 induction l with
 |nil=>intro n K h;cases h
 |cons a l ih=>
  intro n K h
  cases n with
  |zero=>exact⟨a,rfl,h⟩
  |succ n=>
   obtain⟨b,h1,h2⟩:=ih (show A34 l n K=some r from h)
   exact⟨b,by simpa using h1,h2⟩
theorem B0I {all:List Oper} {ts:List Tm} {vs:List AV} {hs:List Hp} {K:Aj}:∀{bs:List (Nat×Nat)},B0J E R all bs ts vs hs K=some r→
 K=some r∧∀p∈bs,∃o t1 v Hk,all[p.1]?=some o∧ts[p.1]?=some t1∧vs[p.1]?=some v∧hs[p.2]?=some Hk∧(((FH all t1 o= .run∨FH all t1 o= .dep true)∧∃H0,PA E R t1 Hk o.op (λu=>some (u,[]))=some (v,H0))∨(FH all t1 o= .skip∨FH all t1 o= .dep false)):=by
 intro bs
 induction bs with
 |nil=>intro h;exact⟨h,λp hp=>by simp at hp⟩
 |cons p bs ih=>
  intro h
  obtain⟨i,k⟩:=p
  have h:(A34 all i λo=>A34 ts i λt1=>A34 vs i λv=>A34 hs k λH=>Pw (gdK all t1 o.guard λg=>@Bool.rec (λ_=>Aj) (some (.v (.bool true),[])) (AX (PA E R t1 H o.op λu=>some (u,[])) v) g) (B0J E R all bs ts vs hs K))=some r:=h
  obtain⟨o,h1,h⟩:=Vr h
  obtain⟨t1,h2,h⟩:=Vr h
  obtain⟨v,h3,h⟩:=Vr h
  obtain⟨Hk,h4,h⟩:=Vr h
  obtain⟨⟨H0,h5⟩,h6⟩:=B45 h
  obtain⟨h7,h8⟩:=ih h6
  refine⟨h7,λp hp=> ?_⟩
  simp only[TA] at hp
  rcases hp with rfl|hp
  ·refine⟨o,t1,v,Hk,h1,h2,h3,h4,?_⟩
   rcases Xx h5 with⟨h9,h10⟩|⟨h9,h10⟩
   ·exact .inl ⟨h10,A1c h9⟩
   ·exact .inr h10
  ·exact h8 p hp
theorem B7C {ops:List Oper} {efs:List Nat} {i k:Nat} (hp:C4K ops efs i k):∀(l:List Nat) (a:Nat),(∀b,l[b]?=efs[a+b]?)→B1g (QM ops) i k a l=true:=by
 intro l
 induction l with
 |nil=>intro a _;rfl
 |cons e l ih=>
  intro a hl
  have h0:efs[a]?=some e:=by have:=hl 0;simpa using this.symm
  simp only[B1g,Jq,l1d,l14]
  refine⟨?_,?_,ih (a+1) λb=> ?_⟩
  ·cases ht:tb ((QM ops).getD i 0) e
   ·exact .inl rfl
   ·refine .inr ?_
    rw[A3z] at ht
    rw[UM]
    exact hp.1 a e h0 (Nv ht)
  ·cases ht:tb ((QM ops).getD e 0) i
   ·exact .inl rfl
   ·refine .inr ?_
    rw[A3z] at ht
    rw[YE]
    exact hp.2 a e h0 (Nv ht)
  ·have:=hl (b+1)
   rw[l0q] at this
   rw[this];congr 1;omega
theorem B16 {ef:Oper→Bool} {ms efs:List Nat} {bs:List (Nat×Nat)}:∀(l:List Oper) (n c:Nat),B17 E ef ms efs bs n c l=true→∀(j:Nat) (o:Oper),l[j]?=some o→ef o=false→QP E o.op=true∨∀k,k≤efs.length→B1g ms (n+j) k 0 efs=true→k=c+Sy ef l j∨(n+j,k)∈bs:=by
 intro l
 induction l with
 |nil=>intro n c _ j o h;simp at h
 |cons p l ih=>
  intro n c h j o ho he
  simp only[B17,Jq] at h
  cases j with
  |zero=>
   simp at ho;subst ho
   have h1:=h.1
   rw[he,Bool.false_or,l1d] at h1
   rcases h1 with h1|h1
   ·exact .inl h1
   ·refine .inr λk hk hp=> ?_
    have h2:=HF.1 h1 k (Jr.2 (by omega))
    rw[Nat.add_zero] at hp
    rw[hp] at h2
    simp only[l1d,Bool.not_true,l0z,false_or,Jq,List.any_eq_true] at h2
    rcases h2 with h2|⟨q,hq,h3,h4⟩
    ·exact .inl (by rw[VG h2];simp[Sy])
    ·refine .inr ?_
     obtain⟨q1,q2⟩:=q
     have h3:=VG h3
     have h4:=VG h4
     simp only at h3 h4
     subst h3 h4
     exact hq
  |succ j=>
   have:=ih (n+1) _ h.2 j o (by simpa using ho) he
   rw[show n+(j+1)=n+1+j from by omega]
   rcases this with h3|h3
   ·exact .inl h3
   ·refine .inr λk hk hp=> ?_
    rcases h3 k hk hp with h4|h4
    ·refine .inl ?_
     rw[h4]
     cases hp':ef p<;>simp[Sy,hp']
     omega
    ·exact .inr h4
theorem A0I {D:XE→Cf→Nat→List Oper→Bool} (hE:XE.Ok D E P) (hR:RSound D E P R) {cf:Cf} {id:Nat} {ops:List Oper} {bs:List (Nat×Nat)} (hD:A3E ops (EG (Ia E cf.fz) 0 ops)=true) (hD2:B17 E (Ia E cf.fz) (QM ops) (EG (Ia E cf.fz) 0 ops) bs 0 0 ops=true) {K:Tm→Hp→Aj}
 (h:(A0J E R cf.fz cf.n ops ops t H λts vs hs t' H'=>B0J E R ops bs ts vs hs (K t' H'))=some r):
 QI P E.G ro m cf.n (.region id ops.toArray true) (λe t' H'=>e= .normal∧K t' H'=some r) t H:=by
 obtain⟨ts,vs,hs,t',H',htr,hK,hvl,hts⟩:=A7K ops t H _ h
 obtain⟨hK,hchk⟩:=B0I hK
 obtain⟨h0,ht',hH',hst⟩:=htr.at
 have hk:=A1e hD
 have hr:=B16 ops 0 0 hD2
 have e0:H=(λk=>hs.getD k []) 0:=h0.symm
 rw[e0]
 refine A7n (efs:=EG (Ia E cf.fz) 0 ops) (val:= λj=>vs.getD j .dk) (Hs:= λk=>hs.getD k []) hE.mix hk (λo ho=> ?_) ?_ ?_ ?_
 ·obtain⟨i,hi⟩:=List.getElem?_of_mem ho
  exact(hst i o hi).1
 ·intro i o ho hne k hkl hp
  have he:Ia E cf.fz o=false:=by
   cases he:Ia E cf.fz o
   ·rfl
   ·exact absurd (B5y ops 0 i o ho he) (by rw[KN];exact hne _)
  have hs1:=hst i o ho
  have hc1:Sy (Ia E cf.fz) ops (i+1)=Sy (Ia E cf.fz) ops i:=by rw[Vg ho,he];simp
  rw[hc1] at hs1
  rcases hr i o ho he with hf|hord
  ·refine Stp.aopg (fz:=cf.fz) hE hR ?_
   obtain⟨hd,⟨hg,h⟩|⟨hg,h1,h2⟩⟩:=hs1
   ·rcases h with⟨_,⟨H0,h⟩,_⟩|⟨h,_⟩
    ·exact⟨hd,.inl ⟨hg,.inl ⟨he,⟨H0,by rw[A6M hf _ (hs.getD (Sy (Ia E cf.fz) ops i) [])];exact h⟩,rfl⟩⟩⟩
    ·rw[he] at h;cases h
   ·exact⟨hd,.inr ⟨hg,h1,rfl⟩⟩
  ·rcases hord k hkl (by rw[KN];exact B7C hp _ 0 (λb=>by rw[KN])) with hkc|hmem
   ·rw[hkc,KN]
    exact Stp.aopg (fz:=cf.fz) hE hR hs1
   ·rw[KN] at hmem
    obtain⟨o',t1,v,Hk,h1,h2,h3,h4,h5⟩:=hchk _ hmem
    simp only at h1 h2 h3 h4
    rw[ho] at h1;injection h1 with h1;subst h1
    rw[hts i o ho] at h2;injection h2 with h2;subst h2
    have hv:vs.getD i .dk=v:=by rw[Ua,h3];rfl
    have hhk:hs.getD k []=Hk:=by rw[Ua,h4];rfl
    refine Stp.aopg (fz:=cf.fz) hE hR ?_
    obtain⟨hd,⟨hg,h⟩|⟨hg,h1,h2⟩⟩:=hs1
    ·rcases h5 with⟨_,H0,h5⟩|h5
     ·refine⟨hd,.inl ⟨hg,.inl ⟨he,⟨H0,?_⟩,rfl⟩⟩⟩
      rw[hv,hhk];exact h5
     ·exfalso
      rcases hg with hg|hg<;>rcases h5 with h5|h5<;>(rw[hg] at h5;cases h5)
    ·exact⟨hd,.inr ⟨hg,h1,rfl⟩⟩
 ·intro a i o ho hi
  obtain⟨j,p,h1,h2,h3,h4⟩:=A5c ops 0 a i hi
  rw[KN] at h1
  subst h1
  rw[ho] at h2;injection h2 with h2;subst h2
  have:=hst i o ho
  rw[Vg ho,h3,h4] at this
  exact Stp.aopg (fz:=cf.fz) hE hR this
 ·refine⟨rfl,?_⟩
  rw[←ht']
  have:hs.getD (EG (Ia E cf.fz) 0 ops).length []=H':=by rw[A5b];exact hH'.symm
  rw[this];exact hK
theorem A7J {D:XE→Cf→Nat→List Oper→Bool} (hE:XE.Ok D E P) (hR:RSound D E P R) {cf:Cf} {id:Nat} {ops:List Oper} (hD:A1f E cf id ops=true) {K:Tm→Hp→Aj} (h:C3M E R cf id ops t H K=some r):
 QI P E.G ro m cf.n (.region id ops.toArray true) (λe t' H'=>e= .normal∧K t' H'=some r) t H:=by
 unfold A1f at hD
 rw[Jq] at hD
 have h:(match B3h id cf.rc with
  |none=>zdr E R cf.fz cf.n ops ops t H K
  |some bs=>A0J E R cf.fz cf.n ops ops t H λts vs hs t' H'=>B0J E R ops bs ts vs hs (K t' H'))=some r:=h
 cases hrc:B3h id cf.rc with
 |none=>rw[hrc] at hD h;exact B0G hE hR hD.1 hD.2 h
 |some bs=>rw[hrc] at hD h;exact A0I hE hR hD.1 hD.2 h
theorem A5O {D:XE→Cf→Nat→List Oper→Bool} (hD:∀E cf id ops,D E cf id ops=true→A1f E cf id ops=true) (hE:XE.Ok D E P) (hR:RSound D E P R):A9u D E P (A9x E R):=by
 intro ro cf id ops t H K r m hb h
 unfold A9x at h
 cases hcb:cf.b
 ·rw[hcb] at h
  exact A7J hE hR (hD _ _ _ _ (hb hcb)) h
 ·rw[hcb] at h
  unfold C3L at h
  obtain⟨h1,h2⟩:=Kc h
  rw[Jq] at h1
  exact A0I hE hR h1.1 h1.2 h2
end
end Go.Abs
end
