import Derived.Test.YtlbhdmbfdcohhaaGreatDoorS07
import Derived.Test.YtlbhdmbfdcohhaaGreatDoorS08
set_option linter.all false
set_option maxHeartbeats 100000000
noncomputable section
namespace Go.Abs
open Go.RowKit
def B4P (b:Bool) (all:List AV) (H:Hp) (K:KV) (x:Aj):Aj:=
 (λ(_:Unit)=>match b with
  |true=>(match all with|[v]=>K v H|_=>none)
  |false=>x) GT
def Dy (E:XE) (R:Rt) (f:AV) (aZ:List AV) (H:Hp) (K:KV):Aj:=
 match f with
 | .fn (.func g) first cap=>US aZ cap λas'=>US first as' λall=>B4P (E.ne g) all H K (@Bool.rec (λ_=>Aj) (Ah R g all H λv=>K v H) (R.call g all H K) (E.imp g))
 | .yl r=>QR R r aZ H K
 |_=>none
def A7S (E:XE) (R:Rt) (t:Tm) (H:Hp) (c:Call) (K:KV):Aj:=
 match c.callee with
 | .value fv=>IE E t fv λf=>A0G E t c.args.toList λaZ=>Dy E R f aZ H K
 | .builtin .append=>TZ E R t H c K
 | .builtin .copy=>TZ E R t H c K
 | .builtin .clear=>TZ E R t H c K
 | .builtin .delete=>TZ E R t H c K
 | .builtin .unsafeString=>TZ E R t H c K
 | .builtin _=>A4f E R t H c λv=>K v H
 |_=>none
def B99:TD→Bool
 | .string=>true
 |_=>false
def zcv (E:XE) (R:Rt) (t:Tm) (H:Hp) (s d:TypeId) (x:Operand) (K:KV):Aj:=
 E.ty.getK s λi=>E.ty.getK d λj=>(λ(_:Unit)=>match j.d with
  | .slice e _=>ckS (B99 i.d) (E.ty.getK e λie=>ckS (A8U ie.d) (IE E t x λa=>B1Q e a H K))
  |_=>PA E R t H (.convert s d x) λv=>K v H) GT
def zop (E:XE) (R:Rt) (fz:Bool) (t:Tm) (H:Hp) (o:Op) (K:KV):Aj:=
 match o with
 | .call c=>A7S E R t H c K
 | .store a b c=>W8 E R t H (.store a b c) K
 | .alloc a=>W8 E R t H (.alloc a) K
 | .box a b=>W8 E R t H (.box a b) K
 | .makeSlice a b c=>W8 E R t H (.makeSlice a b c) K
 | .makeMap a b=>W8 E R t H (.makeMap a b) K
 | .mapUpdate a b c d=>W8 E R t H (.mapUpdate a b c d) K
 | .insert a b c d=>W8 E R t H (.insert a b c d) K
 | .mapEntry a b c=>W8 E R t H (.mapEntry a b c) K
 | .entryStore a b c d=>W8 E R t H (.entryStore a b c d) K
 | .range a b=>W8 E R t H (.range a b) K
 | .next a b=>W8 E R t H (.next a b) K
 | .convert a b c=>zcv E R t H a b c K
 | .buildSlice a b c=>@Bool.rec (λ_=>Aj) (W8 E R t H (.buildSlice a b c) K) (PA E R t H (.buildSlice a b c) λv=>K v H) fz
 |o=>PA E R t H o λv=>K v H
def gdV (want:Bool) (v:AV) (K:Bool→Aj):Aj:=
 match v with
 | .v (.bool b)=>@Bool.rec (λ_=>Aj) (@Bool.rec (λ_=>Aj) (K true) (K false) b) (@Bool.rec (λ_=>Aj) (K false) (K true) b) want
 | .dk=>none
 |_=>K false
def gdK (all:List Oper) (t:Tm) (g:Option (Nat×Bool)) (K:Bool→Aj):Aj:=
 match g with
 |none=>K true
 |some (j,want)=>match all[j]? with
  |some p=>match p.dst with
   |some d=>gtm t d λv=>gdV want v K
   |none=>K false
  |none=>K false
def A7o (N:Nat) (d:Option Tmp) (K:Aj):Aj:=(λ(_:Unit)=>match d with|some d=>ckS (Nat.blt d N) K|none=>K) GT
def OG (t:Tm) (d:Option Tmp) (v:AV) (K:Tm→Aj):Aj:=(λ(_:Unit)=>match d with|some d=>K ((d,v)::t)|none=>K t) GT
def B1A (g:Option (Nat×Bool)) (x y:Aj):Aj:=(λ(_:Unit)=>match g with|none=>x|some _=>y) GT
def Ea (a:Aj) (K:KV):Aj:=match a with|some (v,H)=>K v H|none=>none
def A7M (E:XE) (R:Rt) (fz:Bool) (N:Nat) (all:List Oper) (l:List Oper):Tm→Hp→(Tm→Hp→Aj)→Aj:=
 @List.rec Oper (λ_=>Tm→Hp→(Tm→Hp→Aj)→Aj) (λt H K=>K t H)
  (λo _ ih t H K=>A7o N o.dst (B1A o.guard (zop E R fz t H o.op λv H'=>OG t o.dst v λt'=>ih t' H' K)
   (Ea (gdK all t o.guard λg=>@Bool.rec (λ_=>Aj) (some (.v undef,H)) (zop E R fz t H o.op λv H'=>some (v,H')) g) λv H'=>OG t o.dst v λt'=>ih t' H' K))) l
section
variable {D:XE→Cf→Nat→List Oper→Bool} {E:XE} {P:Program} {R:Rt} {t:Tm} {H:Hp} {r:AV×Hp} {ro:Option Nat} {N m:Nat} {fz:Bool}
theorem A4g (hE:XE.Ok D E P) (hR:RSound D E P R) {o:Oper} {c:Call} (ho:o.op= .call c) {K:KV} (h:A7S E R t H c K=some r):Ss P E.G ro N o t H (λv H'=>K v H'=some r):=by
 unfold A7S at h
 split at h
 ·rename_i fv hcal
  have h:=PB hE _ _ (AU hE h)
  unfold Dy at h
  split at h
  ·rename_i g first cap hf
   rw[KS,KS,←l0k] at h
   cases hne:E.ne g
   rotate_left
   ·rw[hne] at h
    unfold B4P at h
    simp only at h
    split at h
    ·rename_i v hall
     exact B8D (hE.ne g hne) ho hcal hf hall h
    ·cases h
   rw[hne] at h
   have h:@Bool.rec (λ_=>Aj) (Ah R g (first++c.args.toList.map (Kw E.G t)++cap) H λv=>K v H) (R.call g (first++c.args.toList.map (Kw E.G t)++cap) H K) (E.imp g)=some r:=h
   cases hi:E.imp g
   ·rw[hi] at h
    obtain⟨⟨fn,h1,h2,h3⟩,hc⟩:=Zs hR h
    exact Ss.mono (XG ho hcal hf h1 h2 h3 hc) (by rintro _ _ ⟨rfl,h⟩;exact h)
   ·rw[hi] at h
    obtain⟨⟨fn,h1,h2,h3⟩,hc⟩:=hR.call _ _ _ _ _ h
    exact XG ho hcal hf h1 h2 h3 hc
  ·rename_i s hf
   exact Wy hR ho hcal hf h
  ·cases h
 ·exact Kh hE hR ho h
 ·exact Kh hE hR ho h
 ·exact Kh hE hR ho h
 ·exact Kh hE hR ho h
 ·exact Kh hE hR ho h
 ·exact Ss.mono (WA hE hR ho h) (by rintro _ _ ⟨rfl,h⟩;exact h)
 ·cases h
theorem B0L (hE:XE.Ok D E P) (hR:RSound D E P R) {o:Oper} {s d:TypeId} {x:Operand} (ho:o.op= .convert s d x) {K:KV} (h:zcv E R t H s d x K=some r):Ss P E.G ro N o t H (λv H'=>K v H'=some r):=by
 obtain⟨i,hi,h⟩:=AZ h
 obtain⟨j,hj,h⟩:=AZ h
 simp only at h
 split at h
 ·rename_i e z hd
  obtain⟨hst,h⟩:=Kf h
  obtain⟨ie,hie,h⟩:=AZ h
  obtain⟨hu8,h⟩:=Kf h
  have h:=AU hE h
  refine RB (λc hc=>by rw[ho] at hc;cases hc) λw0 s0 C N a w st=> ?_
  obtain⟨str,hy,v,H',y',C',w',hK,hrun,hv,hr,hx⟩:=A97 (P:=P) st.rel (AW st x) h
  refine⟨v,H',y',C',w',hK,.inl ?_,hv,hr,hx⟩
  have hcv:(convert s d (a.eval x)).run P w= .ok y' w':=by
   obtain⟨u1,hu1,e1⟩:=(hE.ty s i hi).under
   obtain⟨hu2,_⟩:=(hE.ty d j hj).elem_slice hd
   obtain⟨u3,hu3,e3⟩:=(hE.ty e ie hie).under
   have hu3':u3= .int .u8:=by
    cases hq:ie.d with
    |int k=>
     rw[hq] at hu8 e3
     cases k<;>simp[A8U] at hu8
     cases u3<;>simp[td] at e3
     rw[e3]
    |_=>rw[hq] at hu8;simp[A8U] at hu8
   have hu1':u1= .string:=by
    cases hq:i.d with
    |string=>
     rw[hq] at e1
     cases u1<;>simp[td] at e1
     rfl
    |_=>rw[hq] at hst;simp[B99] at hst
   subst hu3' hu1'
   rw[hy]
   unfold convert
   rw[CI,run_underlying hu1 w]
   simp only[EO]
   rw[CI,run_underlying hu2 w]
   simp only[EO]
   rw[CI,run_underlying hu3 w]
   simp only[EO]
   exact hrun
  simp only[execOp,ho]
  rw[CI,hcv]
  rfl
 ·exact Ss.mono (QJ (K:= λv=>K v H) hE hR (by rw[ho];exact h)) (by rintro _ _ ⟨rfl,h⟩;exact h)
theorem XW (hE:XE.Ok D E P) (hR:RSound D E P R) {o:Oper} {K:KV} (h:zop E R fz t H o.op K=some r):Ss P E.G ro N o t H (λv H'=>K v H'=some r):=by
 unfold zop at h
 split at h
 ·rename_i c ho;exact A4g hE hR ho h
 ·rename_i ho;exact Gk hE hR (by rw[ho];exact h)
 ·rename_i ho;exact Gk hE hR (by rw[ho];exact h)
 ·rename_i ho;exact Gk hE hR (by rw[ho];exact h)
 ·rename_i ho;exact Gk hE hR (by rw[ho];exact h)
 ·rename_i ho;exact Gk hE hR (by rw[ho];exact h)
 ·rename_i ho;exact Gk hE hR (by rw[ho];exact h)
 ·rename_i ho;exact Gk hE hR (by rw[ho];exact h)
 ·rename_i ho;exact Gk hE hR (by rw[ho];exact h)
 ·rename_i ho;exact Gk hE hR (by rw[ho];exact h)
 ·rename_i ho;exact Gk hE hR (by rw[ho];exact h)
 ·rename_i ho;exact Gk hE hR (by rw[ho];exact h)
 ·rename_i ho;exact B0L hE hR ho h
 ·rename_i ho
  cases fz
  ·exact Gk hE hR (by rw[ho];exact h)
  ·exact Ss.mono (QJ (K:= λv=>K v H) hE hR (by rw[ho];exact h)) (by rintro _ _ ⟨rfl,h⟩;exact h)
 ·exact Ss.mono (QJ hE hR h) (by rintro _ _ ⟨rfl,h⟩;exact h)
theorem Xs {all:List Oper} {o:Oper} {K:Bool→Aj} (h:gdK all t o.guard K=some r):(K true=some r∧(FA all t o= .run∨FA all t o= .dep true))∨(K false=some r∧(FA all t o= .skip∨FA all t o= .dep false)):=by
 unfold gdK at h
 unfold FA
 split at h
 ·rename_i hg;rw[hg];exact .inl ⟨h,.inl rfl⟩
 ·rename_i j want hg
  rw[hg]
  simp only
  split at h
  ·rename_i p hp
   rw[hp]
   simp only
   split at h
   ·rename_i d hd
    rw[hd]
    rw[Ti] at h
    simp only
    unfold gdV at h
    split at h
    ·rename_i b hb
     rw[hb]
     simp only[RA]
     cases want<;>cases b
     ·exact .inl ⟨h,.inr rfl⟩
     ·exact .inr ⟨h,.inr rfl⟩
     ·exact .inr ⟨h,.inr rfl⟩
     ·exact .inl ⟨h,.inr rfl⟩
    ·cases h
    ·rename_i h1 h2
     refine .inr ⟨h,.inl ?_⟩
     have:RA (Gn t d)= .skip:=by
      unfold RA
      split
      ·rename_i b hb;exact absurd hb (h1 b)
      ·rename_i hb;exact absurd hb h2
      ·rfl
     rw[this]
   ·rename_i hd;rw[hd];exact .inr ⟨h,.inl rfl⟩
  ·rename_i hp;rw[hp];exact .inr ⟨h,.inl rfl⟩
theorem YU {d:Option Tmp} {K:Aj} (h:A7o N d K=some r):dok N d∧K=some r:=by
 unfold A7o at h
 split at h
 ·obtain⟨h1,h2⟩:=Bw h
  rw[UK] at h1
  exact⟨h1,h2⟩
 ·exact⟨trivial,h⟩
theorem So {a:Aj} {K:KV} (h:Ea a K=some r):∃v H',a=some (v,H')∧K v H'=some r:=by
 unfold Ea at h
 split at h
 ·exact⟨_,_,rfl,h⟩
 ·cases h
theorem QK {d:Option Tmp} {v:AV} {K:Tm→Aj}:OG t d v K=K (PG t d v):=by cases d<;>rfl
theorem A7L (hE:XE.Ok D E P) (hR:RSound D E P R) {all:List Oper}:∀(l:List Oper) (t:Tm) (H:Hp) (K:Tm→Hp→Aj),A7M E R fz N all l t H K=some r→
 A5E P E.G ro m N all.toArray l (λe t' H'=>e= .normal∧K t' H'=some r) t H:=by
 intro l
 induction l with
 |nil=>intro t H K h;exact B5C ⟨rfl,h⟩
 |cons o l ih=>
  intro t H K h
  have h:A7o N o.dst (B1A o.guard (zop E R fz t H o.op λv H'=>OG t o.dst v λt'=>A7M E R fz N all l t' H' K)
   (Ea (gdK all t o.guard λg=>@Bool.rec (λ_=>Aj) (some (.v undef,H)) (zop E R fz t H o.op λv H'=>some (v,H')) g) λv H'=>OG t o.dst v λt'=>A7M E R fz N all l t' H' K))=some r:=h
  obtain⟨hd,h⟩:=YU h
  intro w0 s0 C a w s
  have hg:=A2t s.tmps all o
  cases hgd:o.guard with
  |none=>
   have hrun:FA all t o= .run:=by unfold FA;rw[hgd]
   rw[hgd] at h
   have h:(zop E R fz t H o.op λv H'=>OG t o.dst v λt'=>A7M E R fz N all l t' H' K)=some r:=h
   refine A7x hd s (hg.1 hrun) (Ss.mono (XW hE hR h) λv H' hk=> ?_)
   rw[QK] at hk
   exact ih _ _ _ hk
  |some gg=>
   rw[hgd] at h
   have h:(Ea (gdK all t (some gg) λg=>@Bool.rec (λ_=>Aj) (some (.v undef,H)) (zop E R fz t H o.op λv H'=>some (v,H')) g) λv H'=>OG t o.dst v λt'=>A7M E R fz N all l t' H' K)=some r:=h
   rw[←hgd] at h
   obtain⟨v,H1,h3,h4⟩:=So h
   rw[QK] at h4
   rcases Xs h3 with⟨h1,h2⟩|⟨h1,h2⟩
   ·have hw:Region.wanted o (yielded all.toArray a.tmps)=true:=by
     rcases h2 with h2|h2
     ·exact hg.1 h2
     ·exact hg.2.2 _ h2
    refine A7x hd s hw (Ss.mono (XW hE hR h1) λv' H' hk=> ?_)
    injection hk with hk;injection hk with hk1 hk2
    subst hk1 hk2
    exact ih _ _ _ h4
   ·have hw:Region.wanted o (yielded all.toArray a.tmps)=false:=by
     rcases h2 with h2|h2
     ·exact hg.2.1 h2
     ·exact hg.2.2 _ h2
    have h1:some (AV.v undef,H)=some (v,H1):=h1
    injection h1 with h1;injection h1 with h7 h8
    subst h7 h8
    exact B2b hd s hw (ih _ _ _ h4)
end
abbrev B0D:=Cf→Nat→List Oper→Tm→Hp→(Tm→Hp→Aj)→Aj
def A3w (e:Exit) (t:Tm) (H:Hp) (k:Tm→Hp→Aj) (K:KQ):Aj:=(λ(_:Unit)=>match e with| .normal=>k t H|e=>K e t H) GT
def A9p (id:Nat) (e:Exit) (t:Tm) (H:Hp) (K:KQ):Aj:=(λ(_:Unit)=>match e with| .exit i=>@Bool.rec (λ_=>Aj) (K (.exit i) t H) (K .normal t H) (Nat.beq i id)|e=>K e t H) GT
def Aw (v:AV) (x y:Aj):Aj:=match v with| .v (.bool true)=>x| .v (.bool false)=>y|_=>none
def VG (lv:List Nat) (t:Tm):(Tm→Aj)→Aj:=@List.rec Nat (λ_=>(Tm→Aj)→Aj) (λK=>K []) (λu _ ih K=>gtm t u λv=>ih λl=>K ((u,v)::l)) lv
def Cur (lv:List Nat):Type:=@List.rec Nat (λ_=>Type) (Hp→Aj) (λ_ _ ih=>AV→ih) lv
def B5p (lv:List Nat):(Tm→Hp→Aj)→Cur lv:=
 @List.rec Nat (λlv=>(Tm→Hp→Aj)→Cur lv) (λF H=>F [] H) (λu _ ih F v=>ih λt H=>F ((u,v)::t) H) lv
def B5n (lv:List Nat):Cur lv→Tm→Hp→Aj:=
 @List.rec Nat (λlv=>Cur lv→Tm→Hp→Aj) (λc _ H=>c H) (λu _ ih c t H=>gtm t u λv=>ih (c v) t H) lv
def Xo (lv:List Nat) (t:Tm):Tm:=lv.map λu=>(u,Gn t u)
theorem A48 (lv:List Nat):∀(F:Tm→Hp→Aj) (t:Tm) (H:Hp),B5n lv (B5p lv F) t H=F (Xo lv t) H:=by
 induction lv with
 |nil=>intro F t H;rfl
 |cons u lv ih=>
  intro F t H
  have e:B5n (u::lv) (B5p (u::lv) F) t H=gtm t u λv=>B5n lv (B5p lv λt H=>F ((u,v)::t) H) t H:=rfl
  rw[e,Ti,ih];rfl
def B9q (lv:List Nat) (body:Tm→Hp→KQ→Aj) (K:KQ) (n:Nat):Cur lv:=
 @Nat.rec (λ_=>Cur lv) (B5p lv λ_ _=>none) (λ_ ih=>B5p lv λt H=>body t H λe t1 H1=>A3w e t1 H1 (λt H=>B5n lv ih t H) K) n
def A3n (lv:List Nat) (body:Tm→Hp→KQ→Aj) (K:KQ) (n:Nat) (t:Tm) (H:Hp):Aj:=B5n lv (B9q lv body K n) t H
theorem A7N (lv:List Nat) (body:Tm→Hp→KQ→Aj) (K:KQ) (t:Tm) (H:Hp):A3n lv body K 0 t H=none:=A48 lv _ t H
theorem A7O (lv:List Nat) (body:Tm→Hp→KQ→Aj) (K:KQ) (n:Nat) (t:Tm) (H:Hp):A3n lv body K (n+1) t H=body (Xo lv t) H λe t1 H1=>A3w e t1 H1 (A3n lv body K n) K:=A48 lv _ t H
theorem A8e (lv:List Nat) (t:Tm) (u:Nat):Gn (Xo lv t) u=Gn t u∨Gn (Xo lv t) u= .dk:=by
 induction lv with
 |nil=>exact .inr rfl
 |cons v lv ih=>
  have e:Gn (Xo (v::lv) t) u=if u=v then Gn t v else Gn (Xo lv t) u:=rfl
  rw[e]
  split
  ·rename_i h;subst h;exact .inl rfl
  ·exact ih
def B8Y (p:Option (Option Code)) (t:Tm) (H:Hp) (K:KQ):Aj:=
 match p with
 |some none=>K .normal t H
 |some (some .ret)=>K .ret t H
 |some (some (.exit id))=>K (.exit id) t H
 |some (some (.goto l))=>K (.goto l) t H
 |_=>none
def A7K (E:XE) (R:Rt) (cf:Cf) (g:Operand) (ps:Array Tmp) (aZ bd:Code) (t:Tm) (H:Hp) (K:KQ):Aj:=
 @Bool.rec (λ_=>Aj) (VG cf.lv t λt=>IE E t g λf=>match f with
  | .fn (.func g) first cap=>XA3 H λs=>UT first (.yl s::cap) λall=>R.call g all ((s,.loop cf.n t ps aZ bd (some none))::H) λ_ H2=>JL H2 s λx=>VJ x λ_ _ _ _ _ pend=>LL H2 s .gone λH3=>B8Y pend t H3 K
  |_=>none) none cf.b
def A6X (e:Exit) (t:Tm) (H:Hp) (k:Nat→Tm→Hp→Aj) (K:KQ):Aj:=(λ(_:Unit)=>match e with| .goto l=>k l t H|e=>K e t H) GT
def A9B (run:A5y) (cf:Cf) (c:Code) (K:KQ) (n:Nat):Nat→Tm→Hp→Aj:=
 @Nat.rec (λ_=>Nat→Tm→Hp→Aj) (λ_ _ _=>none) (λ_ ih l t H=>match findLabel c l with
  |some rest=>run cf rest t H λe t H=>A6X e t H ih K
  |none=>none) n
def W9 (E:XE) (R:Rt) (Z:B0D) (cf:Cf) (c:Code):Tm→Hp→KQ→Aj:=
 @Code.rec (λ_=>Tm→Hp→KQ→Aj)
  (λt H K=>K .normal t H)
  (λid ops draw t H K=>@Bool.rec (λ_=>Aj) (A7M E R cf.fz cf.n ops.toList ops.toList t H λt H=>K .normal t H) (Z cf id ops.toList t H λt H=>K .normal t H) draw)
  (λ_ _ iha ihb t H K=>iha t H λe t H=>A3w e t H (λt H=>ihb t H K) K)
  (λx _ _ iha ihb t H K=>IE E t x λv=>Aw v (iha t H K) (ihb t H K))
  (λid _ ih t H K=>ih t H λe t H=>A9p id e t H K)
  (λ_ ih t H K=>A3n cf.lv ih K E.lf t H)
  (λg ps aZ bd _ _ t H K=>A7K E R cf g ps aZ bd t H K)
  (λid t H K=>K (.exit id) t H)
  (λc ih t H K=>@Bool.rec (λ_=>Aj) (ih t H λe t H=>A6X e t H (A9B R.run cf c K E.lf) K) none cf.b)
  (λ_ t H K=>K .normal t H)
  (λl t H K=>K (.goto l) t H)
  (λt H K=>K .ret t H)
  (λ_ _ _ _=>none) c
section
variable {D:XE→Cf→Nat→List Oper→Bool} {E:XE} {P:Program} {R:Rt} {Z:B0D} {r:AV×Hp} {ro:Option Nat} {m:Nat}
def A9A (D:XE→Cf→Nat→List Oper→Bool) (E:XE) (P:Program) (Z:B0D):Prop:=
 ∀(ro:Option Nat) (cf:Cf) (id:Nat) (ops:List Oper) (t:Tm) (H:Hp) (K:Tm→Hp→Aj) (r:AV×Hp) (m:Nat),(cf.b=false→D E cf id ops=true)→Z cf id ops t H K=some r→
  QI P E.G ro m cf.n (.region id ops.toArray true) (λe t' H'=>e= .normal∧K t' H'=some r) t H
theorem A10 {e:Exit} {t:Tm} {H:Hp} {k:Tm→Hp→Aj} {K:KQ} (h:A3w e t H k K=some r):(e= .normal∧k t H=some r)∨(e≠.normal∧K e t H=some r):=by
 unfold A3w at h
 split at h
 ·exact .inl ⟨rfl,h⟩
 ·rename_i hne;exact .inr ⟨hne,h⟩
theorem QI.congr {G:Gl} {N:Nat} {c:Code} {Q:Exit→Tm→Hp→Prop} {t t':Tm} {H:Hp} (hc:∀u,Gn t' u=Gn t u∨Gn t' u= .dk) (h:QI P G ro m N c Q t' H):QI P G ro m N c Q t H:=
 λw0 s0 C a w s=>h w0 s0 C a w (s.congr hc)
theorem Zt.congr {G:Gl} {N:Nat} {c:Code} {Q:Exit→Tm→Hp→Prop} {t t':Tm} {H:Hp} (hc:∀u,Gn t' u=Gn t u∨Gn t' u= .dk) (h:Zt P G ro m N c Q t' H):Zt P G ro m N c Q t H:=
 λw0 s0 C a w s=>h w0 s0 C a w (s.congr hc)
theorem A7P {t:Tm}:∀(lv:List Nat) (K:Tm→Aj),VG lv t K=some r→∃t',K t'=some r∧∀u,Gn t' u=Gn t u∨Gn t' u= .dk:=by
 intro lv
 induction lv with
 |nil=>intro K h;exact⟨[],h,λu=> .inr rfl⟩
 |cons v lv ih=>
  intro K h
  have h:(gtm t v λx=>VG lv t λl=>K ((v,x)::l))=some r:=h
  rw[Ti] at h
  obtain⟨t',h1,h2⟩:=ih _ h
  refine⟨_,h1,λu=> ?_⟩
  simp only[Gn]
  split
  ·rename_i hu;rw[hu];exact .inl rfl
  ·exact h2 u
theorem A5P {G:Gl} {N:Nat} {lv:List Nat} {c:Code} {body:Tm→Hp→KQ→Aj} (hb:∀t H (K:KQ),body t H K=some r→QI P G ro m N c (λe t' H'=>K e t' H'=some r) t H) {K:KQ}:∀(n:Nat) (t:Tm) (H:Hp),A3n lv body K n t H=some r→
 Zt P G ro m N c (λe t' H'=>K e t' H'=some r) t H:=by
 intro n
 induction n with
 |zero=>intro t H h;rw[A7N] at h;cases h
 |succ n ih=>
  intro t H h
  rw[A7O] at h
  refine Zt.congr (A8e lv t) (A9y (QI.mono (hb _ _ _ h) λe t1 H1 hq=> ?_))
  rcases A10 hq with⟨rfl,h⟩|⟨hne,h⟩
  ·exact ih _ _ h
  ·cases e with
   |normal=>exact absurd rfl hne
   |_=>exact h
theorem A4d (hE:XE.Ok D E P) (hR:RSound D E P R) {cf:Cf} (hro:ro≠none→cf.b=true) {g:Operand} {ps:Array Tmp} {aZ bd:Code} {t:Tm} {H:Hp} {K:KQ} (h:A7K E R cf g ps aZ bd t H K=some r):QI P E.G ro m cf.n (.rangeFunc g ps aZ bd) (λe t' H'=>K e t' H'=some r) t H:=by
 unfold A7K at h
 cases hb:cf.b
 ·rw[hb] at h
  have hn:ro=none:=by
   cases ro with
   |none=>rfl
   |some b=>have:=hro (by simp);rw[hb] at this;cases this
  subst hn
  obtain⟨t',h,hc⟩:=A7P _ _ h
  refine QI.congr hc ?_
  have h:=AU hE h
  split at h
  ·rename_i f first cap hf
   rw[BZ,Lb] at h
   obtain⟨⟨fn,h1,h2,h3⟩,hcall⟩:=hR.call _ _ _ _ _ h
   have e:first++AV.yl (A2 H)::cap=first++[.yl (A2 H)]++cap:=by simp
   rw[e] at hcall
   refine A9u hf h1 h2 h3 ?_
   intro w0 C w ys hr ha
   refine(hcall w0 C w ys hr ha).mono ?_
   rintro e w' ⟨v,y,C',H',he,hr',hv,hx,hk⟩
   refine⟨v,y,C',H',he,hr',hv,hx,?_⟩
   obtain⟨x,hl,hk2⟩:=Hd rfl hk
   obtain⟨N',t2,ps',as',bd',pend,rfl,hk3⟩:=Wh hk2
   rw[Dm] at hk3
   unfold B8Y at hk3
   split at hk3
   ·exact⟨_,_,_,_,_,_,hl,hk3⟩
   ·exact⟨_,_,_,_,_,_,hl,hk3⟩
   ·exact⟨_,_,_,_,_,_,hl,hk3⟩
   ·exact⟨_,_,_,_,_,_,hl,hk3⟩
   ·cases hk3
  ·cases h
 ·rw[hb] at h;cases h
theorem B22 {D:Nat→List Oper→Bool}:∀(c:Code) (l:Nat) (rest:Code),Qy D c=true→findLabel c l=some rest→Qy D rest=true:=by
 intro c
 induction c with
 |seq a b iha ihb=>
  intro l rest hd h
  simp only[Qy,Jm] at hd
  unfold findLabel at h
  split at h
  ·rename_i r0 hr0
   injection h with h
   subst h
   simp only[Qy,Jm]
   exact⟨iha _ _ hd.1 hr0,hd.2⟩
  ·exact ihb _ _ hd.2 h
 |label l'=>
  intro l rest hd h
  unfold findLabel at h
  split at h
  ·injection h with h;subst h;rfl
  ·cases h
 |_=>intro l rest hd h;simp[findLabel] at h
theorem A6W {e:Exit} {t:Tm} {H:Hp} {k:Nat→Tm→Hp→Aj} {K:KQ} (hne:∀l,e≠.goto l) (h:A6X e t H k K=some r):K e t H=some r:=by
 cases e with
 |goto l=>exact absurd rfl (hne l)
 |_=>exact h
theorem A5R (hR:RSound D E P R) {cf:Cf} {c:Code} (hd:Qy (D E cf) c=true) {K:KQ}:∀(n l:Nat) (t:Tm) (H:Hp),A9B R.run cf c K n l t H=some r→
 ∃rest,findLabel c l=some rest∧A5D P E.G m cf.n c rest (λe t' H'=>K e t' H'=some r) t H:=by
 intro n
 induction n with
 |zero=>intro l t H h;cases h
 |succ n ih=>
  intro l t H h
  have h:(match findLabel c l with
   |some rest=>R.run cf rest t H λe t H=>A6X e t H (A9B R.run cf c K n) K
   |none=>none)=some r:=h
  split at h
  ·rename_i rest hf
   refine⟨rest,hf,A4a (λl t H hq=>ih l t H hq) (λe t H hne hq=>A6W hne hq) (hR.run none cf rest t H _ r m (λh=>absurd rfl h) (λ_=>B22 _ _ _ hd hf) h)⟩
  ·cases h
theorem A5T (hE:XE.Ok D E P) (hR:RSound D E P R) (hZ:A9A D E P Z) {cf:Cf} (hro:ro≠none→cf.b=true):∀(c:Code) (t:Tm) (H:Hp) (K:KQ),(cf.b=false→Qy (D E cf) c=true)→W9 E R Z cf c t H K=some r→
 QI P E.G ro m cf.n c (λe t' H'=>K e t' H'=some r) t H:=by
 intro c
 induction c with
 |skip=>intro t H K _ h;exact B5u h
 |region id ops draw=>
  intro t H K hd h
  have h:@Bool.rec (λ_=>Aj) (A7M E R cf.fz cf.n ops.toList ops.toList t H λt H=>K .normal t H) (Z cf id ops.toList t H λt H=>K .normal t H) draw=some r:=h
  have e:ops=ops.toList.toArray:=by simp
  cases draw
  ·rw[e]
   exact QI.mono (A9t (A7L hE hR _ _ _ _ h)) (by rintro _ _ _ ⟨rfl,h⟩;exact h)
  ·rw[e]
   exact QI.mono (hZ ro cf id ops.toList t H _ r m hd h) (by rintro _ _ _ ⟨rfl,h⟩;exact h)
 |seq x y ihx ihy=>
  intro t H K hd h
  have h:(W9 E R Z cf x t H λe t H=>A3w e t H (λt H=>W9 E R Z cf y t H K) K)=some r:=h
  have hd':cf.b=false→Qy (D E cf) x=true∧Qy (D E cf) y=true:= λhb=>by simpa [Qy] using hd hb
  refine B8B (QI.mono (ihx t H _ (λhb=>(hd' hb).1) h) λe t1 H1 hq=> ?_)
  rcases A10 hq with⟨rfl,h⟩|⟨hne,h⟩
  ·exact ihy _ _ _ (λhb=>(hd' hb).2) h
  ·cases e with
   |normal=>exact absurd rfl hne
   |_=>exact h
 |cond x a b iha ihb=>
  intro t H K hd h
  have h:(IE E t x λv=>Aw v (W9 E R Z cf a t H K) (W9 E R Z cf b t H K))=some r:=h
  have hd':cf.b=false→Qy (D E cf) a=true∧Qy (D E cf) b=true:= λhb=>by simpa [Qy] using hd hb
  have h:=AU hE h
  unfold Aw at h
  split at h
  ·rename_i hv
   exact A7v hv (λ_=>iha _ _ _ (λhb=>(hd' hb).1) h) (λhb=>by cases hb)
  ·rename_i hv
   exact A7v hv (λhb=>by cases hb) (λ_=>ihb _ _ _ (λhb=>(hd' hb).2) h)
  ·cases h
 |block id x ih=>
  intro t H K hd h
  have h:(W9 E R Z cf x t H λe t H=>A9p id e t H K)=some r:=h
  refine B2a (QI.mono (ih t H _ hd h) λe t1 H1 hq=> ?_)
  unfold A9p at hq
  cases e with
  |exit i=>
   simp only at hq
   simp only[A8w]
   cases hi:Nat.beq i id
   ·rw[hi] at hq
    rw[if_neg (λe=>by rw[e,Zj] at hi;cases hi)]
    exact hq
   ·rw[hi] at hq
    rw[if_pos (VC hi)]
    exact hq
  |_=>exact hq
 |loop x ih=>
  intro t H K hd h
  have h:A3n cf.lv (λt H K=>W9 E R Z cf x t H K) K E.lf t H=some r:=h
  exact A7t (A5P (λt H K h=>ih t H K hd h) _ _ _ h)
 |rangeFunc g ps aZ bd _ _=>
  intro t H K _ h
  exact A4d hE hR hro h
 |exit id=>intro t H K _ h;exact B5w h
 |scope x ih=>
  intro t H K hd h
  have h:@Bool.rec (λ_=>Aj) (W9 E R Z cf x t H λe t H=>A6X e t H (A9B R.run cf x K E.lf) K) none cf.b=some r:=h
  cases hb:cf.b
  ·rw[hb] at h
   have hn:ro=none:=by
    cases ro with
    |none=>rfl
    |some b=>have:=hro (by simp);rw[hb] at this;cases this
   subst hn
   have hdx:Qy (D E cf) x=true:=hd hb
   exact B28 (A4a (λl t H hq=>A5R hR hdx _ _ _ _ hq) (λe t H hne hq=>A6W hne hq) (ih t H _ hd h))
  ·rw[hb] at h;cases h
 |label l=>intro t H K _ h;exact B29 h
 |goto l=>intro t H K _ h;exact B5v h
 |ret=>intro t H K _ h;exact B8C h
 |refuse s=>intro t H K _ h;cases h
end
def QO (E:XE):Op→Bool
 | .move _=>true
 | .assign _=>true
 | .pick .. =>true
 | .nilCheck _=>true
 | .binOp .. =>true
 | .unOp .. =>true
 | .convert s _ _=>match E.ty.get s with
  |some i=>match i.d with
   | .slice .. =>false
   | .pointer _=>false
   | .other=>false
   |_=>true
  |none=>false
 | .makeFunc .. =>true
 | .fieldAddr .. =>true
 | .field .. =>true
 | .indexAddr .. =>true
 | .index .. =>true
 | .slice ty _ _ _ _=>match E.ty.get ty with
  |some i=>match i.d with
   | .array .. =>false
   |_=>true
  |none=>false
 | .extract .. =>true
 | .build .. =>true
 | .buildSlice .. =>true
 | .call c=>match c.callee with
  | .builtin .len=>match c.argTypes.toList with
   |[ty]=>(match E.ty.get ty with
    |some i=>match i.d with
     | .map .. =>false
     |_=>true
    |none=>false)
   |_=>false
  | .builtin .min=>true
  | .builtin .max=>true
  |_=>false
 |_=>false
def Om (E:XE) (fz:Bool):Op→Bool
 | .move _=>false
 | .assign _=>false
 | .pick .. =>false
 | .nilCheck _=>false
 | .binOp .. =>false
 | .unOp .. =>false
 | .convert s d _=>match E.ty.get s,E.ty.get d with
  |some i,some j=>match i.d,j.d with
   | .string,.slice .. =>true
   |_,_=>false
  |_,_=>true
 | .makeFunc .. =>false
 | .fieldAddr .. =>false
 | .field .. =>false
 | .indexAddr .. =>false
 | .index .. =>false
 | .slice .. =>false
 | .extract .. =>false
 | .build .. =>false
 | .buildSlice .. => !fz
 | .load .. =>false
 | .lookup .. =>false
 | .makeInterface .. =>false
 | .call c=>match c.callee with
  | .value (.func f)=>E.imp f
  | .value (.tmp _)=> !fz
  | .builtin .len=>false
  | .builtin .min=>false
  | .builtin .max=>false
  | .builtin .cap=>false
  | .builtin .unsafeSliceData=>false
  |_=>true
 |_=>true
def A5O (E:XE) (R:Rt) (t:Tm) (H:Hp) (o:Op) (K:AV→Aj):Aj:=
 (λ(_:Unit)=>match o with
  | .move x=>IE E t x K
  | .assign x=>IE E t x K
  |o=>Ai (PA E R t H o λv=>some (v,[])) K) GT
def B0G (E:XE) (R:Rt) (fz:Bool) (all:List Oper) (o:Oper) (t1:Tm) (H:Hp):Aj:=
 gdK all t1 o.guard λg=>@Bool.rec (λ_=>Aj) (some (.v undef,H)) (@Bool.rec (λ_=>Aj) (Ai (PA E R t1 H o.op λv=>some (v,[])) λv=>some (v,H)) (zop E R fz t1 H o.op λv H'=>some (v,H')) (Om E fz o.op)) g
def zdr (E:XE) (R:Rt) (fz:Bool) (N:Nat) (all:List Oper) (l:List Oper):Tm→Hp→(Tm→Hp→Aj)→Aj:=
 @List.rec Oper (λ_=>Tm→Hp→(Tm→Hp→Aj)→Aj) (λt H K=>K t H)
  (λo _ ih t H K=>A7o N o.dst (VG (M0 all o) t λt1=>B1A o.guard
   (@Bool.rec (λ_=>Aj) (A5O E R t1 H o.op λv=>OG t o.dst v λt'=>ih t' H K) (Ea (zop E R fz t1 H o.op λv H'=>some (v,H')) λv H'=>OG t o.dst v λt'=>ih t' H' K) (Om E fz o.op))
   (Ea (B0G E R fz all o t1 H) λv H'=>OG t o.dst v λt'=>ih t' H' K))) l
def A0F (E:XE) (R:Rt) (fz:Bool) (N:Nat) (all:List Oper) (l:List Oper):Tm→Hp→(List Tm→List AV→List Hp→Tm→Hp→Aj)→Aj:=
 @List.rec Oper (λ_=>Tm→Hp→(List Tm→List AV→List Hp→Tm→Hp→Aj)→Aj) (λt H K=>K [] [] [H] t H)
  (λo _ ih t H K=>A7o N o.dst (VG (M0 all o) t λt1=>B1A o.guard
   (@Bool.rec (λ_=>Aj) (A5O E R t1 H o.op λv=>OG t o.dst v λt'=>ih t' H λts vs hs=>K (t1::ts) (v::vs) hs) (Ea (zop E R fz t1 H o.op λv H'=>some (v,H')) λv H'=>OG t o.dst v λt'=>ih t' H' λts vs hs=>K (t1::ts) (v::vs) (H::hs)) (Om E fz o.op))
   (Ea (B0G E R fz all o t1 H) λv H'=>OG t o.dst v λt'=>ih t' H' λts vs hs=>K (t1::ts) (v::vs) (@Bool.rec (λ_=>List Hp) hs (H::hs) (Om E fz o.op))))) l
def A2Z {α:Type} (l:List α) (n:Nat) (K:α→Aj):Aj:=
 (λ(_:Unit)=>@List.rec α (λ_=>Nat→Aj) (λ_=>none) (λa _ ih n=>@Nat.rec (λ_=>Aj) (K a) (λm _=>ih m) n) l n) GT
def Ws:AV→AV→Bool
 | .v x,.v y=>WG x y
 | .ptr r p k,.ptr r' p' k'=>Nat.beq r r'&&(Nat.beq p p'&&Nat.beq k k')
 | .sl z r o n,.sl z' r' o' n'=>Nat.beq z z'&&(Nat.beq r r'&&(Nat.beq o o'&&Nat.beq n n'))
 | .iptr cs,.iptr es=>A2v (Zr 6) cs es
 | .mp r,.mp r'=>Nat.beq r r'
 |a,b=>Zr 6 a b
theorem B8I {a b:AV} (h:Ws a b=true):a=b:=by
 unfold Ws at h
 split at h
 ·rw[A0h h]
 ·simp only[Jm] at h
  rw[VC h.1,VC h.2.1,VC h.2.2]
 ·simp only[Jm] at h
  rw[VC h.1,VC h.2.1,VC h.2.2.1,VC h.2.2.2]
 ·rw[A0A (A9z 6) h]
 ·rw[VC h]
 ·exact A9z 6 _ _ h
def AX (a:Aj) (v:AV):Aj:=match a with
 |some (u,_)=>some (.v (.bool (Ws u v)),[])
 |none=>none
def Pw (a:Aj) (K:Aj):Aj:=match a with
 |some (.v (.bool true),_)=>K
 |_=>none
theorem B47 {a:Aj} {K:Aj} {r:AV×Hp} (h:Pw a K=some r):(∃H0,a=some (.v (.bool true),H0))∧K=some r:=by
 unfold Pw at h
 split at h
 ·exact⟨⟨_,rfl⟩,h⟩
 ·cases h
theorem A19 {a:Aj} {v:AV} {H0:Hp} (h:AX a v=some (.v (.bool true),H0)):∃H1,a=some (v,H1):=by
 unfold AX at h
 split at h
 ·injection h with h
  injection h with h _
  injection h with h
  injection h with h
  exact⟨_,by rw[B8I h]⟩
 ·cases h
def B0N (E:XE) (R:Rt) (all:List Oper) (bs:List (Nat×Nat)) (ts:List Tm) (vs:List AV) (hs:List Hp) (K:Aj):Aj:=
 (λ(_:Unit)=>@List.rec (Nat×Nat) (λ_=>Aj) K (λp _ ih=>@Prod.rec Nat Nat (λ_=>Aj) (λi k=>A2Z all i λo=>A2Z ts i λt1=>A2Z vs i λv=>A2Z hs k λH=>
  Pw (gdK all t1 o.guard λg=>@Bool.rec (λ_=>Aj) (some (.v (.bool true),[])) (AX (PA E R t1 H o.op λu=>some (u,[])) v) g) ih) p) bs) GT
def EA (ef:Oper→Bool):Nat→List Oper→List Nat
 |_,[]=>[]
 |i,o::l=>match ef o with
  |true=>i::EA ef (i+1) l
  |false=>EA ef (i+1) l
def A6n (E:XE) (ef:Oper→Bool) (ms efs:List Nat):Nat→List Oper→Bool
 |_,[]=>true
 |i,o::l=>(ef o||(QO E o.op||efs.all λe=>match Nat.blt e i with
  |true=>tb (ms.getD i 0) e
  |false=>tb (ms.getD e 0) i))&&A6n E ef ms efs (i+1) l
def HX (E:XE) (fz:Bool) (o:Oper):Bool:=Om E fz o.op
def B1k (ms:List Nat) (i k:Nat):Nat→List Nat→Bool
 |_,[]=>true
 |a,e::l=>(!tb (ms.getD i 0) e||Nat.blt a k)&&((!tb (ms.getD e 0) i||Nat.ble k a)&&B1k ms i k (a+1) l)
def B1a (E:XE) (ef:Oper→Bool) (ms efs:List Nat) (bs:List (Nat×Nat)):Nat→Nat→List Oper→Bool
 |_,_,[]=>true
 |i,k0,o::l=>(ef o||(QO E o.op||(List.range (efs.length+1)).all λk=>Nat.beq k k0||(!B1k ms i k 0 efs||bs.any λp=>Nat.beq p.1 i&&Nat.beq p.2 k)))&&
  B1a E ef ms efs bs (i+1) (match ef o with|true=>k0+1|false=>k0) l
def B3k (id:Nat):List (Nat×List (Nat×Nat))→Option (List (Nat×Nat))
 |[]=>none
 |p::l=>match Nat.beq p.1 id with|true=>some p.2|false=>B3k id l
def A1c (E:XE) (cf:Cf) (id:Nat) (ops:List Oper):Bool:=
 A3C ops (EA (HX E cf.fz) 0 ops)&&(match B3k id cf.rc with
  |none=>A6n E (HX E cf.fz) (QM ops) (EA (HX E cf.fz) 0 ops) 0 ops
  |some bs=>B1a E (HX E cf.fz) (QM ops) (EA (HX E cf.fz) 0 ops) bs 0 0 ops)
def B9n (E:XE) (ef:Oper→Bool) (ms efs:List Nat):Nat→Nat→List Oper→List (Nat×Nat)
 |_,_,[]=>[]
 |i,k0,o::l=>(match ef o||QO E o.op with
  |true=>[]
  |false=>((List.range (efs.length+1)).filter λk=> !Nat.beq k k0&&B1k ms i k 0 efs).map λk=>(i,k))++B9n E ef ms efs (i+1) (match ef o with|true=>k0+1|false=>k0) l
def C3L (E:XE) (R:Rt) (cf:Cf) (ops:List Oper) (bs:List (Nat×Nat)) (t:Tm) (H:Hp) (K:Tm→Hp→Aj):Aj:=
 ckS (A3C ops (EA (HX E cf.fz) 0 ops)&&B1a E (HX E cf.fz) (QM ops) (EA (HX E cf.fz) 0 ops) bs 0 0 ops) (A0F E R cf.fz cf.n ops ops t H λts vs hs t' H'=>B0N E R ops bs ts vs hs (K t' H'))
def C3M (E:XE) (R:Rt) (cf:Cf) (id:Nat) (ops:List Oper) (t:Tm) (H:Hp) (K:Tm→Hp→Aj):Aj:=
 (λ(_:Unit)=>match B3k id cf.rc with
  |none=>zdr E R cf.fz cf.n ops ops t H K
  |some bs=>A0F E R cf.fz cf.n ops ops t H λts vs hs t' H'=>B0N E R ops bs ts vs hs (K t' H')) GT
def A9D (E:XE) (R:Rt):B0D:= λcf id ops t H K=>
 @Bool.rec (λ_=>Aj) (C3M E R cf id ops t H K) (C3L E R cf ops (B9n E (HX E cf.fz) (QM ops) (EA (HX E cf.fz) 0 ops) 0 0 ops) t H K) cf.b
section
variable {E:XE} {P:Program} {R:Rt} {t:Tm} {H:Hp} {r:AV×Hp} {ro:Option Nat} {N m:Nat} {fz:Bool}
theorem A6U {o:Op} (h:QO E o=true) (H H':Hp) (K:AV→Aj):PA E R t H o K=PA E R t H' o K:=by
 cases o with
 |move x=>rfl
 |assign x=>rfl
 |pick c a b=>rfl
 |nilCheck x=>rfl
 |binOp a b c d e=>rfl
 |unOp a b c=>rfl
 |convert a b c=>
  have key:∀v,(E.ty.getK a λi=>E.ty.getK b λj=>cvK E a b i j v H K)=(E.ty.getK a λi=>E.ty.getK b λj=>cvK E a b i j v H' K):=by
   intro v
   have h:(match E.ty.get a with|some i=>(match i.d with| .slice .. =>false| .pointer _=>false| .other=>false|_=>true)|none=>false)=true:=h
   rw[BT.getK_eq,BT.getK_eq]
   cases hs:E.ty.get a with
   |none=>rfl
   |some i=>
    rw[hs] at h
    simp only at h
    simp only
    congr 1
    funext j
    unfold cvK
    cases hd:i.d with
    |slice e z=>rw[hd] at h;cases h
    |pointer e=>rw[hd] at h;cases h
    |other=>rw[hd] at h;cases h
    |_=>rfl
  show(IE E t c λv=>E.ty.getK a λi=>E.ty.getK b λj=>cvK E a b i j v H K)=(IE E t c λv=>E.ty.getK a λi=>E.ty.getK b λj=>cvK E a b i j v H' K)
  congr 1
  funext v
  exact key v
 |makeFunc a b c=>rfl
 |fieldAddr a b c=>rfl
 |field a b c=>rfl
 |indexAddr a b c=>rfl
 |index a b c=>rfl
 |slice a b c d e=>
  have h:(match E.ty.get a with|some i=>(match i.d with| .array .. =>false|_=>true)|none=>false)=true:=h
  have key:∀v l h0 m,(E.ty.getK a λi=>A7I i v l h0 m H K)=(E.ty.getK a λi=>A7I i v l h0 m H' K):=by
   intro v l h0 m
   rw[BT.getK_eq,BT.getK_eq]
   cases hs:E.ty.get a with
   |none=>rfl
   |some i=>
    rw[hs] at h
    simp only at h
    simp only
    unfold A7I
    cases hd:i.d with
    |array n e z=>rw[hd] at h;cases h
    |_=>rfl
  show(IE E t b λv=>A0D E t c λl=>A0D E t d λh=>A0D E t e λm=>E.ty.getK a λi=>A7I i v l h m H K)=(IE E t b λv=>A0D E t c λl=>A0D E t d λh=>A0D E t e λm=>E.ty.getK a λi=>A7I i v l h m H' K)
  congr 1
  funext v
  congr 1
  funext l
  congr 1
  funext h0
  congr 1
  funext m
  exact key v l h0 m
 |extract a b=>rfl
 |build a b=>rfl
 |buildSlice a b c=>rfl
 |call c=>
  unfold QO at h
  obtain⟨callee,args,ts⟩:=c
  cases callee with
  |value f=>cases h
  |invoke a b=>cases h
  |builtin b=>
   cases b with
   |len=>
    have h:(match ts.toList with|[ty]=>(match E.ty.get ty with|some i=>(match i.d with| .map .. =>false|_=>true)|none=>false)|_=>false)=true:=h
    have e1:∀H0,PA E R t H0 (.call ⟨.builtin .len,args,ts⟩) K=(match args.toList,ts.toList with|[x],[ty]=>IE E t x λv=>E.ty.getK ty λi=>B5W i v H0 K|_,_=>none):= λ_=>rfl
    rw[e1,e1]
    split
    ·rename_i x ty hx hty
     rw[hty] at h
     congr 1
     funext v
     rw[BT.getK_eq,BT.getK_eq]
     cases hs:E.ty.get ty with
     |none=>rfl
     |some i=>
      simp only[hs] at h
      simp only
      unfold B5W
      cases hd:i.d with
      |map k e=>rw[hd] at h;cases h
      |_=>rfl
    ·rfl
   |min=>rfl
   |max=>rfl
   |_=>cases h
 |_=>cases h
inductive Trc (S:Oper→Tm→Hp→AV→Hp→Prop) (ef:Oper→Bool):List Oper→Tm→Hp→List AV→List Hp→Tm→Hp→Prop
 |nil {t:Tm} {H:Hp}:Trc S ef [] t H [] [H] t H
 |rd {o:Oper} {l:List Oper} {t:Tm} {H:Hp} {v:AV} {vs:List AV} {hs:List Hp} {t':Tm} {H':Hp} (he:ef o=false) (h:S o t H v H) (k:Trc S ef l (PG t o.dst v) H vs hs t' H'):Trc S ef (o::l) t H (v::vs) hs t' H'
 |ef {o:Oper} {l:List Oper} {t:Tm} {H H1:Hp} {v:AV} {vs:List AV} {hs:List Hp} {t':Tm} {H':Hp} (he:ef o=true) (h:S o t H v H1) (k:Trc S ef l (PG t o.dst v) H1 vs hs t' H'):Trc S ef (o::l) t H (v::vs) (H::hs) t' H'
def Stp (E:XE) (R:Rt) (fz:Bool) (N:Nat) (all:List Oper) (o:Oper) (t:Tm) (H:Hp) (v:AV) (H1:Hp):Prop:=
 dok N o.dst∧(((FA all (GU all o t) o= .run∨FA all (GU all o t) o= .dep true)∧
  ((HX E fz o=false∧(∃H0,PA E R (GU all o t) H o.op (λv=>some (v,[]))=some (v,H0))∧H1=H)∨(HX E fz o=true∧zop E R fz (GU all o t) H o.op (λv H'=>some (v,H'))=some (v,H1))))∨
  ((FA all (GU all o t) o= .skip∨FA all (GU all o t) o= .dep false)∧v= .v undef∧H1=H))
theorem A5Q (lv:List Nat) (t:Tm):∀K:Tm→Aj,VG lv t K=K (Xo lv t):=by
 induction lv with
 |nil=>intro K;rfl
 |cons u lv ih=>
  intro K
  have e:VG (u::lv) t K=gtm t u λv=>VG lv t λl=>K ((u,v)::l):=rfl
  rw[e,Ti,ih];rfl
theorem A9C {x:Operand} {K:AV→Aj} (h:IE E t x K=some r):∃v H0,IE E t x (λv=>some (v,[]))=some (v,H0)∧K v=some r:=by
 cases x with
 |tmp i=>
  have h:gtm t i K=some r:=h
  rw[Ti] at h
  exact⟨_,[],(Ti t i _).trans rfl,h⟩
 |const v=>exact⟨_,[],rfl,h⟩
 |global g=>
  have h:(E.gl.getK g λcs=>K (.iptr cs))=some r:=h
  obtain⟨cs,h1,h2⟩:=AZ h
  refine⟨_,[],?_,h2⟩
  have:IE E t (.global g) (λv=>some (v,[]))=E.gl.getK g λcs=>some (.iptr cs,[]):=rfl
  rw[this,BT.getK_eq,h1]
 |func f=>exact⟨_,[],rfl,h⟩
theorem A3m {o:Op} {K:AV→Aj} (h:A5O E R t H o K=some r):∃v H0,PA E R t H o (λv=>some (v,[]))=some (v,H0)∧K v=some r:=by
 unfold A5O at h
 split at h
 ·exact A9C h
 ·exact A9C h
 ·exact Sn h
theorem B0J {all:List Oper}:∀(l:List Oper) (t:Tm) (H:Hp) (K:Tm→Hp→Aj),zdr E R fz N all l t H K=some r→
 ∃vs hs t' H',Trc (Stp E R fz N all) (HX E fz) l t H vs hs t' H'∧K t' H'=some r:=by
 intro l
 induction l with
 |nil=>intro t H K h;exact⟨_,_,_,_,.nil,h⟩
 |cons o l ih=>
  intro t H K h
  have h:A7o N o.dst (VG (M0 all o) t λt1=>B1A o.guard
   (@Bool.rec (λ_=>Aj) (A5O E R t1 H o.op λv=>OG t o.dst v λt'=>zdr E R fz N all l t' H K) (Ea (zop E R fz t1 H o.op λv H'=>some (v,H')) λv H'=>OG t o.dst v λt'=>zdr E R fz N all l t' H' K) (Om E fz o.op))
   (Ea (B0G E R fz all o t1 H) λv H'=>OG t o.dst v λt'=>zdr E R fz N all l t' H' K))=some r:=h
  obtain⟨hd,h⟩:=YU h
  rw[A5Q] at h
  have hrs:Xo (M0 all o) t=GU all o t:=rfl
  rw[hrs] at h
  cases hgd:o.guard with
  |none=>
   have hrun:FA all (GU all o t) o= .run:=by unfold FA;rw[hgd]
   rw[hgd] at h
   have h:@Bool.rec (λ_=>Aj) (A5O E R (GU all o t) H o.op λv=>OG t o.dst v λt'=>zdr E R fz N all l t' H K) (Ea (zop E R fz (GU all o t) H o.op λv H'=>some (v,H')) λv H'=>OG t o.dst v λt'=>zdr E R fz N all l t' H' K) (Om E fz o.op)=some r:=h
   cases he:Om E fz o.op
   ·rw[he] at h
    obtain⟨v,H0,h3,h4⟩:=A3m h
    rw[QK] at h4
    obtain⟨vs,hs,t',H',h5,h6⟩:=ih _ _ _ h4
    exact⟨_,_,_,_,.rd he ⟨hd,.inl ⟨.inl hrun,.inl ⟨he,⟨_,h3⟩,rfl⟩⟩⟩ h5,h6⟩
   ·rw[he] at h
    obtain⟨v,H1,h3,h4⟩:=So h
    rw[QK] at h4
    obtain⟨vs,hs,t',H',h5,h6⟩:=ih _ _ _ h4
    exact⟨_,_,_,_,.ef he ⟨hd,.inl ⟨.inl hrun,.inr ⟨he,h3⟩⟩⟩ h5,h6⟩
  |some gg=>
   rw[hgd] at h
   have h:(Ea (B0G E R fz all o (GU all o t) H) λv H'=>OG t o.dst v λt'=>zdr E R fz N all l t' H' K)=some r:=h
   obtain⟨v,H1,h3,h4⟩:=So h
   rw[QK] at h4
   obtain⟨vs,hs,t',H',h5,h6⟩:=ih _ _ _ h4
   rcases Xs h3 with⟨h1,h2⟩|⟨h1,h2⟩
   ·cases he:Om E fz o.op
    ·rw[he] at h1
     obtain⟨v',H0,h7,h8⟩:=Sn h1
     injection h8 with h8;injection h8 with h8 h9
     subst h8 h9
     exact⟨_,_,_,_,.rd he ⟨hd,.inl ⟨h2,.inl ⟨he,⟨_,h7⟩,rfl⟩⟩⟩ h5,h6⟩
    ·rw[he] at h1
     exact⟨_,_,_,_,.ef he ⟨hd,.inl ⟨h2,.inr ⟨he,h1⟩⟩⟩ h5,h6⟩
   ·have h1:some (AV.v undef,H)=some (v,H1):=h1
    injection h1 with h1;injection h1 with h7 h8
    subst h7 h8
    cases he:HX E fz o
    ·exact⟨_,_,_,_,.rd he ⟨hd,.inr ⟨h2,rfl,rfl⟩⟩ h5,h6⟩
    ·exact⟨_,_,_,_,.ef he ⟨hd,.inr ⟨h2,rfl,rfl⟩⟩ h5,h6⟩
def Sx (ef:Oper→Bool) (l:List Oper) (i:Nat):Nat:=((l.take i).filter ef).length
theorem Yd (o:Oper) (l:List Oper) (val:Nat→AV) (t:Tm):∀i,GN (o::l) val t (λ_=>true) (i+1)=GN l (λj=>val (j+1)) (PG t o.dst (val 0)) (λ_=>true) i:=by
 intro i
 induction i with
 |zero=>rfl
 |succ i ih=>
  have e1:GN (o::l) val t (λ_=>true) (i+1+1)=(match true,(o::l)[i+1]? with|true,some o'=>PG (GN (o::l) val t (λ_=>true) (i+1)) o'.dst (val (i+1))|_,_=>GN (o::l) val t (λ_=>true) (i+1)):=rfl
  have e2:GN l (λj=>val (j+1)) (PG t o.dst (val 0)) (λ_=>true) (i+1)=(match true,l[i]? with|true,some o'=>PG (GN l (λj=>val (j+1)) (PG t o.dst (val 0)) (λ_=>true) i) o'.dst (val (i+1))|_,_=>GN l (λj=>val (j+1)) (PG t o.dst (val 0)) (λ_=>true) i):=rfl
  rw[e1,e2,ih,l0q]
theorem Trc.at {S:Oper→Tm→Hp→AV→Hp→Prop} {ef:Oper→Bool} {l:List Oper} {t:Tm} {H:Hp} {vs:List AV} {hs:List Hp} {t':Tm} {H':Hp} (h:Trc S ef l t H vs hs t' H'):
 hs.getD 0 []=H∧t'=GN l (λj=>vs.getD j .dk) t (λ_=>true) l.length∧H'=hs.getD (Sx ef l l.length) []∧
 ∀(i:Nat) (o:Oper),l[i]?=some o→S o (GN l (λj=>vs.getD j .dk) t (λ_=>true) i) (hs.getD (Sx ef l i) []) (vs.getD i .dk) (hs.getD (Sx ef l (i+1)) []):=by
 induction h with
 |nil=>exact⟨rfl,rfl,rfl,λi o h=>by simp at h⟩
 |@rd o l t H v vs hs t' H' he hs0 k ih=>
  obtain⟨h1,h2,h3,h4⟩:=ih
  have hc:∀i,Sx ef (o::l) (i+1)=Sx ef l i:= λi=>by simp[Sx,he]
  have ht:∀i,GN (o::l) (λj=>(v::vs).getD j .dk) t (λ_=>true) (i+1)=GN l (λj=>vs.getD j .dk) (PG t o.dst v) (λ_=>true) i:= λi=>by rw[Yd];simp
  refine⟨h1,?_,?_,?_⟩
  ·rw[K9,ht];exact h2
  ·rw[K9,hc];exact h3
  ·intro i p hp
   cases i with
   |zero=>
    simp at hp;subst hp
    rw[hc,show Sx ef (o::l) 0=0 from rfl,show Sx ef l 0=0 from rfl,h1]
    exact hs0
   |succ i=>
    rw[hc,hc,ht]
    have:=h4 i p (by simpa using hp)
    simpa using this
 |@ef o l t H H1 v vs hs t' H' he hs0 k ih=>
  obtain⟨h1,h2,h3,h4⟩:=ih
  have hc:∀i,Sx ef (o::l) (i+1)=Sx ef l i+1:= λi=>by simp[Sx,he]
  have ht:∀i,GN (o::l) (λj=>(v::vs).getD j .dk) t (λ_=>true) (i+1)=GN l (λj=>vs.getD j .dk) (PG t o.dst v) (λ_=>true) i:= λi=>by rw[Yd];simp
  refine⟨rfl,?_,?_,?_⟩
  ·rw[K9,ht];exact h2
  ·rw[K9,hc];simpa using h3
  ·intro i p hp
   cases i with
   |zero=>
    simp at hp;subst hp
    rw[hc,show Sx ef (o::l) 0=0 from rfl,show Sx ef l 0=0 from rfl]
    have:(H::hs).getD (0+1) []=H1:=by simpa using h1
    rw[this]
    exact hs0
   |succ i=>
    rw[hc,hc,ht]
    have:=h4 i p (by simpa using hp)
    simpa using this
theorem A5h {ef:Oper→Bool}:∀(l:List Oper) (n a e:Nat),(EA ef n l)[a]?=some e→∃j o,e=n+j∧l[j]?=some o∧ef o=true∧Sx ef l j=a:=by
 intro l
 induction l with
 |nil=>intro n a e h;simp[EA] at h
 |cons o l ih=>
  intro n a e h
  unfold EA at h
  cases he:ef o
  ·rw[he] at h
   obtain⟨j,p,h1,h2,h3,h4⟩:=ih _ _ _ h
   exact⟨j+1,p,by omega,by simpa using h2,h3,by simpa [Sx,he] using h4⟩
  ·rw[he] at h
   cases a with
   |zero=>simp at h;exact⟨0,o,by omega,rfl,he,rfl⟩
   |succ a=>
    obtain⟨j,p,h1,h2,h3,h4⟩:=ih _ _ _ (by simpa using h)
    exact⟨j+1,p,by omega,by simpa using h2,h3,by simpa [Sx,he] using h4⟩
theorem B5x {ef:Oper→Bool}:∀(l:List Oper) (n j:Nat) (o:Oper),l[j]?=some o→ef o=true→(EA ef n l)[Sx ef l j]?=some (n+j):=by
 intro l
 induction l with
 |nil=>intro n j o h;simp at h
 |cons p l ih=>
  intro n j o h he
  unfold EA
  cases j with
  |zero=>simp at h;subst h;rw[he];rfl
  |succ j=>
   have:=ih (n+1) j o (by simpa using h) he
   cases hp:ef p
   ·simpa [Sx,hp,Xk,Nat.add_comm 1 j] using this
   ·simpa [Sx,hp,Xk,Nat.add_comm 1 j] using this
theorem A5g {ef:Oper→Bool}:∀(l:List Oper) (n:Nat),(EA ef n l).length=Sx ef l l.length:=by
 intro l
 induction l with
 |nil=>intro n;rfl
 |cons p l ih=>
  intro n
  unfold EA
  cases hp:ef p
  ·simpa [Sx,hp] using ih (n+1)
  ·simpa [Sx,hp] using ih (n+1)
theorem A2k {ef:Oper→Bool} (l:List Oper) {i j:Nat} (h:i≤j):Sx ef l i≤Sx ef l j:=by
 unfold Sx
 have:l.take i=(l.take j).take i:=by rw[List.take_take,l1x h]
 rw[this]
 exact((List.take_sublist i (l.take j)).filter ef).length_le
theorem Vc {ef:Oper→Bool} {l:List Oper} {i:Nat} {o:Oper} (h:l[i]?=some o):Sx ef l (i+1)=Sx ef l i+(if ef o then 1 else 0):=by
 unfold Sx
 rw[List.take_add_one,h,List.filter_append,Fl]
 cases he:ef o<;>simp[he]
theorem B3j {ef:Oper→Bool} {ms efs:List Nat}:∀(l:List Oper) (n:Nat),A6n E ef ms efs n l=true→∀(j:Nat) (o:Oper),l[j]?=some o→ef o=false→QO E o.op=true∨∀e∈efs,(e<n+j→tb (ms.getD (n+j) 0) e=true)∧(n+j≤e→tb (ms.getD e 0) (n+j)=true):=by
 intro l
 induction l with
 |nil=>intro n _ j o h;simp at h
 |cons p l ih=>
  intro n h j o ho he
  simp only[A6n,Jm] at h
  cases j with
  |zero=>
   simp at ho;subst ho
   have h1:=h.1
   rw[he,Bool.false_or,l1d] at h1
   rcases h1 with h1|h1
   ·exact .inl h1
   ·refine .inr λe hm=> ?_
    have:=HB.1 h1 e hm
    cases hb:Nat.blt e n
    ·rw[hb] at this
     have:¬e<n:= λhlt=>by rw[←UK,hb] at hlt;cases hlt
     exact⟨λhlt=>by omega,λ_=>by simpa using ‹_›⟩
    ·rw[hb] at this
     have hlt:e<n:=by rw[←UK];exact hb
     exact⟨λ_=>this,λhle=>by omega⟩
  |succ j=>
   have:=ih (n+1) h.2 j o (by simpa using ho) he
   rw[show n+(j+1)=n+1+j from by omega];exact this
theorem Stp.aopg {D:XE→Cf→Nat→List Oper→Bool} (hE:XE.Ok D E P) (hR:RSound D E P R) {all:List Oper} {o:Oper} {v:AV} {H1:Hp} (h:Stp E R fz N all o t H v H1):B8O P E.G ro N all o (GU all o t) H v H1:=by
 obtain⟨_,⟨hg,h⟩|⟨hg,h1,h2⟩⟩:=h
 ·refine .inl ⟨hg,?_⟩
  rcases h with⟨_,⟨H0,h⟩,rfl⟩|⟨_,h⟩
  ·refine Ss.mono (QJ hE hR h) ?_
   rintro v' H' ⟨hH,h⟩
   injection h with h;injection h with h
   exact⟨h,hH⟩
  ·refine Ss.mono (XW hE hR h) ?_
   intro v' H' h
   injection h with h;injection h with h h'
   exact⟨h,h'⟩
 ·exact .inr ⟨hg,h1,h2⟩
theorem B0K {D:XE→Cf→Nat→List Oper→Bool} (hE:XE.Ok D E P) (hR:RSound D E P R) {cf:Cf} {id:Nat} {ops:List Oper} (hD:A3C ops (EA (HX E cf.fz) 0 ops)=true) (hD2:A6n E (HX E cf.fz) (QM ops) (EA (HX E cf.fz) 0 ops) 0 ops=true) {K:Tm→Hp→Aj} (h:zdr E R cf.fz cf.n ops ops t H K=some r):
 QI P E.G ro m cf.n (.region id ops.toArray true) (λe t' H'=>e= .normal∧K t' H'=some r) t H:=by
 obtain⟨vs,hs,t',H',htr,hK⟩:=B0J ops t H K h
 obtain⟨h0,ht',hH',hst⟩:=htr.at
 have hk:=A1b hD
 have hr:=B3j ops 0 hD2
 have e0:H=(λk=>hs.getD k []) 0:=h0.symm
 rw[e0]
 refine A7u (efs:=EA (HX E cf.fz) 0 ops) (val:= λj=>vs.getD j .dk) (Hs:= λk=>hs.getD k []) hE.mix hk (λo ho=> ?_) ?_ ?_ ?_
 ·obtain⟨i,hi⟩:=List.getElem?_of_mem ho
  exact(hst i o hi).1
 ·intro i o ho hne k hkl hp
  have he:HX E cf.fz o=false:=by
   cases he:HX E cf.fz o
   ·rfl
   ·exact absurd (B5x ops 0 i o ho he) (by rw[KF];exact hne _)
  have hs1:=hst i o ho
  have hc1:Sx (HX E cf.fz) ops (i+1)=Sx (HX E cf.fz) ops i:=by rw[Vc ho,he];simp
  rw[hc1] at hs1
  rcases hr i o ho he with hf|hord
  ·refine Stp.aopg (fz:=cf.fz) hE hR ?_
   obtain⟨hd,⟨hg,h⟩|⟨hg,h1,h2⟩⟩:=hs1
   ·rcases h with⟨_,⟨H0,h⟩,_⟩|⟨h,_⟩
    ·exact⟨hd,.inl ⟨hg,.inl ⟨he,⟨H0,by rw[A6U hf _ (hs.getD (Sx (HX E cf.fz) ops i) [])];exact h⟩,rfl⟩⟩⟩
    ·rw[he] at h;cases h
   ·exact⟨hd,.inr ⟨hg,h1,rfl⟩⟩
  ·have hlen:=A5g (ef:=HX E cf.fz) ops 0
   have hil:i<ops.length:=(l0j.1 ho).1
   have hkc:k=Sx (HX E cf.fz) ops i:=by
    rcases Nat.lt_trichotomy k (Sx (HX E cf.fz) ops i) with hlt|heq|hgt
    ·exfalso
     have hkl':k<(EA (HX E cf.fz) 0 ops).length:=by rw[hlen];exact l2m hlt (A2k ops (by omega))
     obtain⟨j,p,h1,h2,h3,h4⟩:=A5h ops 0 k _ (Kq hkl')
     have hji:j<i:=by
      rcases Nat.lt_or_ge j i with h|h
      ·exact h
      ·exfalso;have:=A2k (ef:=HX E cf.fz) ops h;omega
     have:=(hord _ (QE hkl')).1 (by omega)
     rw[KF,A3x] at this
     have:=hp.1 k _ (Kq hkl') (Nv this)
     omega
    ·exact heq
    ·exfalso
     have hcl:Sx (HX E cf.fz) ops i<(EA (HX E cf.fz) 0 ops).length:=by omega
     obtain⟨j,p,h1,h2,h3,h4⟩:=A5h ops 0 _ _ (Kq hcl)
     have hij:i≤j:=by
      rcases Nat.lt_or_ge j i with h|h
      ·exfalso
       have h5:=A2k (ef:=HX E cf.fz) ops (show j+1≤i from h)
       rw[Vc h2,h3] at h5
       simp at h5;omega
      ·exact h
     have:=(hord _ (QE hcl)).2 (by omega)
     rw[KF,A3x] at this
     have:=hp.2 _ _ (Kq hcl) (Nv this)
     omega
   rw[hkc]
   exact Stp.aopg (fz:=cf.fz) hE hR hs1
 ·intro a i o ho hi
  obtain⟨j,p,h1,h2,h3,h4⟩:=A5h ops 0 a i hi
  rw[KF] at h1
  subst h1
  rw[ho] at h2;injection h2 with h2;subst h2
  have:=hst i o ho
  rw[Vc ho,h3,h4] at this
  exact Stp.aopg (fz:=cf.fz) hE hR this
 ·refine⟨rfl,?_⟩
  rw[←ht']
  have:hs.getD (EA (HX E cf.fz) 0 ops).length []=H':=by rw[A5g];exact hH'.symm
  rw[this];exact hK
theorem A7R {all:List Oper}:∀(l:List Oper) (t:Tm) (H:Hp) (K:List Tm→List AV→List Hp→Tm→Hp→Aj),A0F E R fz N all l t H K=some r→
 ∃ts vs hs t' H',Trc (Stp E R fz N all) (HX E fz) l t H vs hs t' H'∧K ts vs hs t' H'=some r∧vs.length=l.length∧∀(i:Nat) (o:Oper),l[i]?=some o→ts[i]?=some (GU all o (GN l (λj=>vs.getD j .dk) t (λ_=>true) i)):=by
 intro l
 induction l with
 |nil=>intro t H K h;exact⟨_,_,_,_,_,.nil,h,rfl,λi o h=>by simp at h⟩
 |cons o l ih=>
  intro t H K h
  have h:A7o N o.dst (VG (M0 all o) t λt1=>B1A o.guard
   (@Bool.rec (λ_=>Aj) (A5O E R t1 H o.op λv=>OG t o.dst v λt'=>A0F E R fz N all l t' H λts vs hs=>K (t1::ts) (v::vs) hs) (Ea (zop E R fz t1 H o.op λv H'=>some (v,H')) λv H'=>OG t o.dst v λt'=>A0F E R fz N all l t' H' λts vs hs=>K (t1::ts) (v::vs) (H::hs)) (Om E fz o.op))
   (Ea (B0G E R fz all o t1 H) λv H'=>OG t o.dst v λt'=>A0F E R fz N all l t' H' λts vs hs=>K (t1::ts) (v::vs) (@Bool.rec (λ_=>List Hp) hs (H::hs) (Om E fz o.op))))=some r:=h
  obtain⟨hd,h⟩:=YU h
  rw[A5Q] at h
  have hrs:Xo (M0 all o) t=GU all o t:=rfl
  rw[hrs] at h
  have key:∀(v:AV) (ts:List Tm) (vs:List AV),(∀(i:Nat) (p:Oper),l[i]?=some p→ts[i]?=some (GU all p (GN l (λj=>vs.getD j .dk) (PG t o.dst v) (λ_=>true) i)))→
   ∀(i:Nat) (p:Oper),(o::l)[i]?=some p→(GU all o t::ts)[i]?=some (GU all p (GN (o::l) (λj=>(v::vs).getD j .dk) t (λ_=>true) i)):=by
   intro v ts vs hh i p hp
   cases i with
   |zero=>simp at hp;subst hp;rfl
   |succ i=>
    rw[Yd]
    have:=hh i p (by simpa using hp)
    simpa using this
  cases hgd:o.guard with
  |none=>
   have hrun:FA all (GU all o t) o= .run:=by unfold FA;rw[hgd]
   rw[hgd] at h
   have h:@Bool.rec (λ_=>Aj) (A5O E R (GU all o t) H o.op λv=>OG t o.dst v λt'=>A0F E R fz N all l t' H λts vs hs=>K (GU all o t::ts) (v::vs) hs) (Ea (zop E R fz (GU all o t) H o.op λv H'=>some (v,H')) λv H'=>OG t o.dst v λt'=>A0F E R fz N all l t' H' λts vs hs=>K (GU all o t::ts) (v::vs) (H::hs)) (Om E fz o.op)=some r:=h
   cases he:Om E fz o.op
   ·rw[he] at h
    obtain⟨v,H0,h3,h4⟩:=A3m h
    rw[QK] at h4
    obtain⟨ts,vs,hs,t',H',h5,h6,h7,h8⟩:=ih _ _ _ h4
    exact⟨_,_,_,_,_,.rd he ⟨hd,.inl ⟨.inl hrun,.inl ⟨he,⟨_,h3⟩,rfl⟩⟩⟩ h5,h6,by simp[h7],key v ts vs h8⟩
   ·rw[he] at h
    obtain⟨v,H1,h3,h4⟩:=So h
    rw[QK] at h4
    obtain⟨ts,vs,hs,t',H',h5,h6,h7,h8⟩:=ih _ _ _ h4
    exact⟨_,_,_,_,_,.ef he ⟨hd,.inl ⟨.inl hrun,.inr ⟨he,h3⟩⟩⟩ h5,h6,by simp[h7],key v ts vs h8⟩
  |some gg=>
   rw[hgd] at h
   have h:(Ea (B0G E R fz all o (GU all o t) H) λv H'=>OG t o.dst v λt'=>A0F E R fz N all l t' H' λts vs hs=>K (GU all o t::ts) (v::vs) (@Bool.rec (λ_=>List Hp) hs (H::hs) (Om E fz o.op)))=some r:=h
   obtain⟨v,H1,h3,h4⟩:=So h
   rw[QK] at h4
   obtain⟨ts,vs,hs,t',H',h5,h6,h7,h8⟩:=ih _ _ _ h4
   rcases Xs h3 with⟨h1,h2⟩|⟨h1,h2⟩
   ·cases he:Om E fz o.op
    ·rw[he] at h1 h6
     obtain⟨v',H0,h9,h10⟩:=Sn h1
     injection h10 with h10;injection h10 with h10 h11
     subst h10 h11
     exact⟨_,_,_,_,_,.rd he ⟨hd,.inl ⟨h2,.inl ⟨he,⟨_,h9⟩,rfl⟩⟩⟩ h5,h6,by simp[h7],key v' ts vs h8⟩
    ·rw[he] at h1 h6
     exact⟨_,_,_,_,_,.ef he ⟨hd,.inl ⟨h2,.inr ⟨he,h1⟩⟩⟩ h5,h6,by simp[h7],key v ts vs h8⟩
   ·have h1:some (AV.v undef,H)=some (v,H1):=h1
    injection h1 with h1;injection h1 with h9 h10
    subst h9 h10
    cases he:HX E fz o
    ·have he':Om E fz o.op=false:=he
     rw[he'] at h6
     exact⟨_,_,_,_,_,.rd he ⟨hd,.inr ⟨h2,rfl,rfl⟩⟩ h5,h6,by simp[h7],key _ ts vs h8⟩
    ·have he':Om E fz o.op=true:=he
     rw[he'] at h6
     exact⟨_,_,_,_,_,.ef he ⟨hd,.inr ⟨h2,rfl,rfl⟩⟩ h5,h6,by simp[h7],key _ ts vs h8⟩
theorem Vq {α:Type}:∀{l:List α} {n:Nat} {K:α→Aj},A2Z l n K=some r→∃a,l[n]?=some a∧K a=some r:=by
 intro l
 induction l with
 |nil=>intro n K h;cases h
 |cons a l ih=>
  intro n K h
  cases n with
  |zero=>exact⟨a,rfl,h⟩
  |succ n=>
   obtain⟨b,h1,h2⟩:=ih (show A2Z l n K=some r from h)
   exact⟨b,by simpa using h1,h2⟩
theorem B0M {all:List Oper} {ts:List Tm} {vs:List AV} {hs:List Hp} {K:Aj}:∀{bs:List (Nat×Nat)},B0N E R all bs ts vs hs K=some r→
 K=some r∧∀p∈bs,∃o t1 v Hk,all[p.1]?=some o∧ts[p.1]?=some t1∧vs[p.1]?=some v∧hs[p.2]?=some Hk∧(((FA all t1 o= .run∨FA all t1 o= .dep true)∧∃H0,PA E R t1 Hk o.op (λu=>some (u,[]))=some (v,H0))∨(FA all t1 o= .skip∨FA all t1 o= .dep false)):=by
 intro bs
 induction bs with
 |nil=>intro h;exact⟨h,λp hp=>by simp at hp⟩
 |cons p bs ih=>
  intro h
  obtain⟨i,k⟩:=p
  have h:(A2Z all i λo=>A2Z ts i λt1=>A2Z vs i λv=>A2Z hs k λH=>Pw (gdK all t1 o.guard λg=>@Bool.rec (λ_=>Aj) (some (.v (.bool true),[])) (AX (PA E R t1 H o.op λu=>some (u,[])) v) g) (B0N E R all bs ts vs hs K))=some r:=h
  obtain⟨o,h1,h⟩:=Vq h
  obtain⟨t1,h2,h⟩:=Vq h
  obtain⟨v,h3,h⟩:=Vq h
  obtain⟨Hk,h4,h⟩:=Vq h
  obtain⟨⟨H0,h5⟩,h6⟩:=B47 h
  obtain⟨h7,h8⟩:=ih h6
  refine⟨h7,λp hp=> ?_⟩
  simp only[UJ] at hp
  rcases hp with rfl|hp
  ·refine⟨o,t1,v,Hk,h1,h2,h3,h4,?_⟩
   rcases Xs h5 with⟨h9,h10⟩|⟨h9,h10⟩
   ·exact .inl ⟨h10,A19 h9⟩
   ·exact .inr h10
  ·exact h8 p hp
theorem B7y {ops:List Oper} {efs:List Nat} {i k:Nat} (hp:C4J ops efs i k):∀(l:List Nat) (a:Nat),(∀b,l[b]?=efs[a+b]?)→B1k (QM ops) i k a l=true:=by
 intro l
 induction l with
 |nil=>intro a _;rfl
 |cons e l ih=>
  intro a hl
  have h0:efs[a]?=some e:=by have:=hl 0;simpa using this.symm
  simp only[B1k,Jm,l1d,l14]
  refine⟨?_,?_,ih (a+1) λb=> ?_⟩
  ·cases ht:tb ((QM ops).getD i 0) e
   ·exact .inl rfl
   ·refine .inr ?_
    rw[A3x] at ht
    rw[UK]
    exact hp.1 a e h0 (Nv ht)
  ·cases ht:tb ((QM ops).getD e 0) i
   ·exact .inl rfl
   ·refine .inr ?_
    rw[A3x] at ht
    rw[XQ]
    exact hp.2 a e h0 (Nv ht)
  ·have:=hl (b+1)
   rw[l0q] at this
   rw[this];congr 1;omega
theorem B19 {ef:Oper→Bool} {ms efs:List Nat} {bs:List (Nat×Nat)}:∀(l:List Oper) (n c:Nat),B1a E ef ms efs bs n c l=true→∀(j:Nat) (o:Oper),l[j]?=some o→ef o=false→QO E o.op=true∨∀k,k≤efs.length→B1k ms (n+j) k 0 efs=true→k=c+Sx ef l j∨(n+j,k)∈bs:=by
 intro l
 induction l with
 |nil=>intro n c _ j o h;simp at h
 |cons p l ih=>
  intro n c h j o ho he
  simp only[B1a,Jm] at h
  cases j with
  |zero=>
   simp at ho;subst ho
   have h1:=h.1
   rw[he,Bool.false_or,l1d] at h1
   rcases h1 with h1|h1
   ·exact .inl h1
   ·refine .inr λk hk hp=> ?_
    have h2:=HB.1 h1 k (Ju.2 (by omega))
    rw[Nat.add_zero] at hp
    rw[hp] at h2
    simp only[l1d,Bool.not_true,l0z,false_or,Jm,List.any_eq_true] at h2
    rcases h2 with h2|⟨q,hq,h3,h4⟩
    ·exact .inl (by rw[VC h2];simp[Sx])
    ·refine .inr ?_
     obtain⟨q1,q2⟩:=q
     have h3:=VC h3
     have h4:=VC h4
     simp only at h3 h4
     subst h3 h4
     exact hq
  |succ j=>
   have:=ih (n+1) _ h.2 j o (by simpa using ho) he
   rw[show n+(j+1)=n+1+j from by omega]
   rcases this with h3|h3
   ·exact .inl h3
   ·refine .inr λk hk hp=> ?_
    rcases h3 k hk hp with h4|h4
    ·refine .inl ?_
     rw[h4]
     cases hp':ef p<;>simp[Sx,hp']
     omega
    ·exact .inr h4
theorem A0E {D:XE→Cf→Nat→List Oper→Bool} (hE:XE.Ok D E P) (hR:RSound D E P R) {cf:Cf} {id:Nat} {ops:List Oper} {bs:List (Nat×Nat)} (hD:A3C ops (EA (HX E cf.fz) 0 ops)=true) (hD2:B1a E (HX E cf.fz) (QM ops) (EA (HX E cf.fz) 0 ops) bs 0 0 ops=true) {K:Tm→Hp→Aj}
 (h:(A0F E R cf.fz cf.n ops ops t H λts vs hs t' H'=>B0N E R ops bs ts vs hs (K t' H'))=some r):
 QI P E.G ro m cf.n (.region id ops.toArray true) (λe t' H'=>e= .normal∧K t' H'=some r) t H:=by
 obtain⟨ts,vs,hs,t',H',htr,hK,hvl,hts⟩:=A7R ops t H _ h
 obtain⟨hK,hchk⟩:=B0M hK
 obtain⟨h0,ht',hH',hst⟩:=htr.at
 have hk:=A1b hD
 have hr:=B19 ops 0 0 hD2
 have e0:H=(λk=>hs.getD k []) 0:=h0.symm
 rw[e0]
 refine A7u (efs:=EA (HX E cf.fz) 0 ops) (val:= λj=>vs.getD j .dk) (Hs:= λk=>hs.getD k []) hE.mix hk (λo ho=> ?_) ?_ ?_ ?_
 ·obtain⟨i,hi⟩:=List.getElem?_of_mem ho
  exact(hst i o hi).1
 ·intro i o ho hne k hkl hp
  have he:HX E cf.fz o=false:=by
   cases he:HX E cf.fz o
   ·rfl
   ·exact absurd (B5x ops 0 i o ho he) (by rw[KF];exact hne _)
  have hs1:=hst i o ho
  have hc1:Sx (HX E cf.fz) ops (i+1)=Sx (HX E cf.fz) ops i:=by rw[Vc ho,he];simp
  rw[hc1] at hs1
  rcases hr i o ho he with hf|hord
  ·refine Stp.aopg (fz:=cf.fz) hE hR ?_
   obtain⟨hd,⟨hg,h⟩|⟨hg,h1,h2⟩⟩:=hs1
   ·rcases h with⟨_,⟨H0,h⟩,_⟩|⟨h,_⟩
    ·exact⟨hd,.inl ⟨hg,.inl ⟨he,⟨H0,by rw[A6U hf _ (hs.getD (Sx (HX E cf.fz) ops i) [])];exact h⟩,rfl⟩⟩⟩
    ·rw[he] at h;cases h
   ·exact⟨hd,.inr ⟨hg,h1,rfl⟩⟩
  ·rcases hord k hkl (by rw[KF];exact B7y hp _ 0 (λb=>by rw[KF])) with hkc|hmem
   ·rw[hkc,KF]
    exact Stp.aopg (fz:=cf.fz) hE hR hs1
   ·rw[KF] at hmem
    obtain⟨o',t1,v,Hk,h1,h2,h3,h4,h5⟩:=hchk _ hmem
    simp only at h1 h2 h3 h4
    rw[ho] at h1;injection h1 with h1;subst h1
    rw[hts i o ho] at h2;injection h2 with h2;subst h2
    have hv:vs.getD i .dk=v:=by rw[TW,h3];rfl
    have hhk:hs.getD k []=Hk:=by rw[TW,h4];rfl
    refine Stp.aopg (fz:=cf.fz) hE hR ?_
    obtain⟨hd,⟨hg,h⟩|⟨hg,h1,h2⟩⟩:=hs1
    ·rcases h5 with⟨_,H0,h5⟩|h5
     ·refine⟨hd,.inl ⟨hg,.inl ⟨he,⟨H0,?_⟩,rfl⟩⟩⟩
      rw[hv,hhk];exact h5
     ·exfalso
      rcases hg with hg|hg<;>rcases h5 with h5|h5<;>(rw[hg] at h5;cases h5)
    ·exact⟨hd,.inr ⟨hg,h1,rfl⟩⟩
 ·intro a i o ho hi
  obtain⟨j,p,h1,h2,h3,h4⟩:=A5h ops 0 a i hi
  rw[KF] at h1
  subst h1
  rw[ho] at h2;injection h2 with h2;subst h2
  have:=hst i o ho
  rw[Vc ho,h3,h4] at this
  exact Stp.aopg (fz:=cf.fz) hE hR this
 ·refine⟨rfl,?_⟩
  rw[←ht']
  have:hs.getD (EA (HX E cf.fz) 0 ops).length []=H':=by rw[A5g];exact hH'.symm
  rw[this];exact hK
theorem A7Q {D:XE→Cf→Nat→List Oper→Bool} (hE:XE.Ok D E P) (hR:RSound D E P R) {cf:Cf} {id:Nat} {ops:List Oper} (hD:A1c E cf id ops=true) {K:Tm→Hp→Aj} (h:C3M E R cf id ops t H K=some r):
 QI P E.G ro m cf.n (.region id ops.toArray true) (λe t' H'=>e= .normal∧K t' H'=some r) t H:=by
 unfold A1c at hD
 rw[Jm] at hD
 have h:(match B3k id cf.rc with
  |none=>zdr E R cf.fz cf.n ops ops t H K
  |some bs=>A0F E R cf.fz cf.n ops ops t H λts vs hs t' H'=>B0N E R ops bs ts vs hs (K t' H'))=some r:=h
 cases hrc:B3k id cf.rc with
 |none=>rw[hrc] at hD h;exact B0K hE hR hD.1 hD.2 h
 |some bs=>rw[hrc] at hD h;exact A0E hE hR hD.1 hD.2 h
theorem A5S {D:XE→Cf→Nat→List Oper→Bool} (hD:∀E cf id ops,D E cf id ops=true→A1c E cf id ops=true) (hE:XE.Ok D E P) (hR:RSound D E P R):A9A D E P (A9D E R):=by
 intro ro cf id ops t H K r m hb h
 unfold A9D at h
 cases hcb:cf.b
 ·rw[hcb] at h
  exact A7Q hE hR (hD _ _ _ _ (hb hcb)) h
 ·rw[hcb] at h
  unfold C3L at h
  obtain⟨h1,h2⟩:=Kf h
  rw[Jm] at h1
  exact A0E hE hR h1.1 h1.2 h2
end
end Go.Abs
end
