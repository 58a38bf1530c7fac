import Derived.Test.YtlbhdmbfdcohhaaGreatDoorR07
import Derived.Test.YtlbhdmbfdcohhaaGreatDoorR09
set_option linter.all false
set_option maxHeartbeats 100000000
noncomputable section
namespace Go.Abs
open Go.RowKit
def Qt (E:XE):Op→Bool
 | .move _=>true
 | .assign _=>true
 | .pick .. =>true
 | .nilCheck _=>true
 | .binOp .. =>true
 | .unOp .. =>true
 | .convert s _ _=>match E.ty.get s with
  |some i=>match i.d with
   | .slice .. =>false
   | .pointer _=>false
   | .other=>false
   |_=>true
  |none=>false
 | .makeFunc .. =>true
 | .fieldAddr .. =>true
 | .field .. =>true
 | .indexAddr .. =>true
 | .index .. =>true
 | .slice ty _ _ _ _=>match E.ty.get ty with
  |some i=>match i.d with
   | .array .. =>false
   |_=>true
  |none=>false
 | .extract .. =>true
 | .build .. =>true
 | .buildSlice .. =>true
 | .call c=>match c.callee with
  | .builtin .len=>match c.argTypes.toList with
   |[ty]=>(match E.ty.get ty with
    |some i=>match i.d with
     | .map .. =>false
     |_=>true
    |none=>false)
   |_=>false
  | .builtin .min=>true
  | .builtin .max=>true
  |_=>false
 |_=>false
def NC (E:XE) (fz:Bool):Op→Bool
 | .move _=>false
 | .assign _=>false
 | .pick .. =>false
 | .nilCheck _=>false
 | .binOp .. =>false
 | .unOp .. =>false
 | .convert s d _=>match E.ty.get s,E.ty.get d with
  |some i,some j=>match i.d,j.d with
   | .string,.slice .. =>true
   |_,_=>false
  |_,_=>true
 | .makeFunc .. =>false
 | .fieldAddr .. =>false
 | .field .. =>false
 | .indexAddr .. =>false
 | .index .. =>false
 | .slice .. =>false
 | .extract .. =>false
 | .build .. =>false
 | .buildSlice .. => !fz
 | .load .. =>false
 | .lookup .. =>false
 | .makeInterface .. =>false
 | .call c=>match c.callee with
  | .value (.func f)=>E.imp f
  | .value (.tmp _)=> !fz
  | .builtin .len=>false
  | .builtin .min=>false
  | .builtin .max=>false
  | .builtin .cap=>false
  | .builtin .unsafeSliceData=>false
  |_=>true
 |_=>true
def A5p (E:XE) (R:Rt) (t:Tm) (H:Hp) (o:Op) (K:AV→Al):Al:=
 (λ(_:Unit)=>match o with
  | .move x=>Iq E t x K
  | .assign x=>Iq E t x K
  |o=>Ai (OO E R t H o λv=>some (v,[])) K) Gx
def B0m (E:XE) (R:Rt) (fz:Bool) (all:List Oper) (o:Oper) (t1:Tm) (H:Hp):Al:=
 gdK all t1 o.guard λg=>@Bool.rec (λ_=>Al) (some (.v undef,H)) (@Bool.rec (λ_=>Al) (Ai (OO E R t1 H o.op λv=>some (v,[])) λv=>some (v,H)) (zop E R fz t1 H o.op λv H'=>some (v,H')) (NC E fz o.op)) g
def zdr (E:XE) (R:Rt) (fz:Bool) (N:Nat) (all:List Oper) (l:List Oper):Tm→Hp→(Tm→Hp→Al)→Al:=
 @List.rec Oper (λ_=>Tm→Hp→(Tm→Hp→Al)→Al) (λt H K=>K t H)
  (λo _ ih t H K=>A6Y N o.dst (Vh (LM all o) t λt1=>B1i o.guard
   (@Bool.rec (λ_=>Al) (A5p E R t1 H o.op λv=>NY t o.dst v λt'=>ih t' H K) (DW (zop E R fz t1 H o.op λv H'=>some (v,H')) λv H'=>NY t o.dst v λt'=>ih t' H' K) (NC E fz o.op))
   (DW (B0m E R fz all o t1 H) λv H'=>NY t o.dst v λt'=>ih t' H' K))) l
def A0e (E:XE) (R:Rt) (fz:Bool) (N:Nat) (all:List Oper) (l:List Oper):Tm→Hp→(List Tm→List AV→List Hp→Tm→Hp→Al)→Al:=
 @List.rec Oper (λ_=>Tm→Hp→(List Tm→List AV→List Hp→Tm→Hp→Al)→Al) (λt H K=>K [] [] [H] t H)
  (λo _ ih t H K=>A6Y N o.dst (Vh (LM all o) t λt1=>B1i o.guard
   (@Bool.rec (λ_=>Al) (A5p E R t1 H o.op λv=>NY t o.dst v λt'=>ih t' H λts vs hs=>K (t1::ts) (v::vs) hs) (DW (zop E R fz t1 H o.op λv H'=>some (v,H')) λv H'=>NY t o.dst v λt'=>ih t' H' λts vs hs=>K (t1::ts) (v::vs) (H::hs)) (NC E fz o.op))
   (DW (B0m E R fz all o t1 H) λv H'=>NY t o.dst v λt'=>ih t' H' λts vs hs=>K (t1::ts) (v::vs) (@Bool.rec (λ_=>List Hp) hs (H::hs) (NC E fz o.op))))) l
def A2F {α:Type} (l:List α) (n:Nat) (K:α→Al):Al:=
 (λ(_:Unit)=>@List.rec α (λ_=>Nat→Al) (λ_=>none) (λa _ ih n=>@Nat.rec (λ_=>Al) (K a) (λm _=>ih m) n) l n) Gx
def ZP:AV→AV→Bool
 | .v x,.v y=>Wg x y
 | .ptr r p k,.ptr r' p' k'=>Nat.beq r r'&&(Nat.beq p p'&&Nat.beq k k')
 | .sl z r o n,.sl z' r' o' n'=>Nat.beq z z'&&(Nat.beq r r'&&(Nat.beq o o'&&Nat.beq n n'))
 | .iptr cs,.iptr es=>A2d (aeq 6) cs es
 | .mp r,.mp r'=>Nat.beq r r'
 |a,b=>aeq 6 a b
theorem B8d {a b:AV} (h:ZP a b=true):a=b:=by
 unfold ZP at h
 split at h
 ·rw[ZT h]
 ·simp only[Jp] at h
  rw[Vm h.1,Vm h.2.1,Vm h.2.2]
 ·simp only[Jp] at h
  rw[Vm h.1,Vm h.2.1,Vm h.2.2.1,Vm h.2.2.2]
 ·rw[A09 (A9j 6) h]
 ·rw[Vm h]
 ·exact A9j 6 _ _ h
def AZ (a:Al) (v:AV):Al:=match a with
 |some (u,_)=>some (.v (.bool (ZP u v)),[])
 |none=>none
def R6 (a:Al) (K:Al):Al:=match a with
 |some (.v (.bool true),_)=>K
 |_=>none
theorem B3J {a:Al} {K:Al} {r:AV×Hp} (h:R6 a K=some r):(∃H0,a=some (.v (.bool true),H0))∧K=some r:=by
 unfold R6 at h
 split at h
 ·exact⟨⟨_,rfl⟩,h⟩
 ·cases h
theorem A0G {a:Al} {v:AV} {H0:Hp} (h:AZ a v=some (.v (.bool true),H0)):∃H1,a=some (v,H1):=by
 unfold AZ at h
 split at h
 ·injection h with h
  injection h with h _
  injection h with h
  injection h with h
  exact⟨_,by rw[B8d h]⟩
 ·cases h
def B0t (E:XE) (R:Rt) (all:List Oper) (bs:List (Nat×Nat)) (ts:List Tm) (vs:List AV) (hs:List Hp) (K:Al):Al:=
 (λ(_:Unit)=>@List.rec (Nat×Nat) (λ_=>Al) K (λp _ ih=>@Prod.rec Nat Nat (λ_=>Al) (λi k=>A2F all i λo=>A2F ts i λt1=>A2F vs i λv=>A2F hs k λH=>
  R6 (gdK all t1 o.guard λg=>@Bool.rec (λ_=>Al) (some (.v (.bool true),[])) (AZ (OO E R t1 H o.op λu=>some (u,[])) v) g) ih) p) bs) Gx
def Em (ef:Oper→Bool):Nat→List Oper→List Nat
 |_,[]=>[]
 |i,o::l=>match ef o with
  |true=>i::Em ef (i+1) l
  |false=>Em ef (i+1) l
def A5X (E:XE) (ef:Oper→Bool) (ms efs:List Nat):Nat→List Oper→Bool
 |_,[]=>true
 |i,o::l=>(ef o||(Qt E o.op||efs.all λe=>match Nat.blt e i with
  |true=>tb (ms.getD i 0) e
  |false=>tb (ms.getD e 0) i))&&A5X E ef ms efs (i+1) l
def Hy (E:XE) (fz:Bool) (o:Oper):Bool:=NC E fz o.op
def B12 (ms:List Nat) (i k:Nat):Nat→List Nat→Bool
 |_,[]=>true
 |a,e::l=>(!tb (ms.getD i 0) e||Nat.blt a k)&&((!tb (ms.getD e 0) i||Nat.ble k a)&&B12 ms i k (a+1) l)
def B0S (E:XE) (ef:Oper→Bool) (ms efs:List Nat) (bs:List (Nat×Nat)):Nat→Nat→List Oper→Bool
 |_,_,[]=>true
 |i,k0,o::l=>(ef o||(Qt E o.op||(List.range (efs.length+1)).all λk=>Nat.beq k k0||(!B12 ms i k 0 efs||bs.any λp=>Nat.beq p.1 i&&Nat.beq p.2 k)))&&
  B0S E ef ms efs bs (i+1) (match ef o with|true=>k0+1|false=>k0) l
def B30 (id:Nat):List (Nat×List (Nat×Nat))→Option (List (Nat×Nat))
 |[]=>none
 |p::l=>match Nat.beq p.1 id with|true=>some p.2|false=>B30 id l
def A0I (E:XE) (cf:Cf) (id:Nat) (ops:List Oper):Bool:=
 A3l ops (Em (Hy E cf.fz) 0 ops)&&(match B30 id cf.rc with
  |none=>A5X E (Hy E cf.fz) (Qr ops) (Em (Hy E cf.fz) 0 ops) 0 ops
  |some bs=>B0S E (Hy E cf.fz) (Qr ops) (Em (Hy E cf.fz) 0 ops) bs 0 0 ops)
def B8S (E:XE) (ef:Oper→Bool) (ms efs:List Nat):Nat→Nat→List Oper→List (Nat×Nat)
 |_,_,[]=>[]
 |i,k0,o::l=>(match ef o||Qt E o.op with
  |true=>[]
  |false=>((List.range (efs.length+1)).filter λk=> !Nat.beq k k0&&B12 ms i k 0 efs).map λk=>(i,k))++B8S E ef ms efs (i+1) (match ef o with|true=>k0+1|false=>k0) l
def C38 (E:XE) (R:Rt) (cf:Cf) (ops:List Oper) (bs:List (Nat×Nat)) (t:Tm) (H:Hp) (K:Tm→Hp→Al):Al:=
 ckS (A3l ops (Em (Hy E cf.fz) 0 ops)&&B0S E (Hy E cf.fz) (Qr ops) (Em (Hy E cf.fz) 0 ops) bs 0 0 ops) (A0e E R cf.fz cf.n ops ops t H λts vs hs t' H'=>B0t E R ops bs ts vs hs (K t' H'))
def C39 (E:XE) (R:Rt) (cf:Cf) (id:Nat) (ops:List Oper) (t:Tm) (H:Hp) (K:Tm→Hp→Al):Al:=
 (λ(_:Unit)=>match B30 id cf.rc with
  |none=>zdr E R cf.fz cf.n ops ops t H K
  |some bs=>A0e E R cf.fz cf.n ops ops t H λts vs hs t' H'=>B0t E R ops bs ts vs hs (K t' H')) Gx
def A9n (E:XE) (R:Rt):B0j:= λcf id ops t H K=>
 @Bool.rec (λ_=>Al) (C39 E R cf id ops t H K) (C38 E R cf ops (B8S E (Hy E cf.fz) (Qr ops) (Em (Hy E cf.fz) 0 ops) 0 0 ops) t H K) cf.b
section
variable {E:XE} {P:Program} {R:Rt} {t:Tm} {H:Hp} {r:AV×Hp} {ro:Option Nat} {N m:Nat} {fz:Bool}
theorem A6w {o:Op} (h:Qt E o=true) (H H':Hp) (K:AV→Al):OO E R t H o K=OO E R t H' o K:=by
 cases o with
 |move x=>rfl
 |assign x=>rfl
 |pick c a b=>rfl
 |nilCheck x=>rfl
 |binOp a b c d e=>rfl
 |unOp a b c=>rfl
 |convert a b c=>
  have key:∀v,(E.ty.getK a λi=>E.ty.getK b λj=>cvK E a b i j v H K)=(E.ty.getK a λi=>E.ty.getK b λj=>cvK E a b i j v H' K):=by
   intro v
   have h:(match E.ty.get a with|some i=>(match i.d with| .slice .. =>false| .pointer _=>false| .other=>false|_=>true)|none=>false)=true:=h
   rw[BT.getK_eq,BT.getK_eq]
   cases hs:E.ty.get a with
   |none=>rfl
   |some i=>
    rw[hs] at h
    simp only at h
    simp only
    congr 1
    funext j
    unfold cvK
    cases hd:i.d with
    |slice e z=>rw[hd] at h;cases h
    |pointer e=>rw[hd] at h;cases h
    |other=>rw[hd] at h;cases h
    |_=>rfl
  show(Iq E t c λv=>E.ty.getK a λi=>E.ty.getK b λj=>cvK E a b i j v H K)=(Iq E t c λv=>E.ty.getK a λi=>E.ty.getK b λj=>cvK E a b i j v H' K)
  congr 1
  funext v
  exact key v
 |makeFunc a b c=>rfl
 |fieldAddr a b c=>rfl
 |field a b c=>rfl
 |indexAddr a b c=>rfl
 |index a b c=>rfl
 |slice a b c d e=>
  have h:(match E.ty.get a with|some i=>(match i.d with| .array .. =>false|_=>true)|none=>false)=true:=h
  have key:∀v l h0 m,(E.ty.getK a λi=>A7k i v l h0 m H K)=(E.ty.getK a λi=>A7k i v l h0 m H' K):=by
   intro v l h0 m
   rw[BT.getK_eq,BT.getK_eq]
   cases hs:E.ty.get a with
   |none=>rfl
   |some i=>
    rw[hs] at h
    simp only at h
    simp only
    unfold A7k
    cases hd:i.d with
    |array n e z=>rw[hd] at h;cases h
    |_=>rfl
  show(Iq E t b λv=>A0c E t c λl=>A0c E t d λh=>A0c E t e λm=>E.ty.getK a λi=>A7k i v l h m H K)=(Iq E t b λv=>A0c E t c λl=>A0c E t d λh=>A0c E t e λm=>E.ty.getK a λi=>A7k i v l h m H' K)
  congr 1
  funext v
  congr 1
  funext l
  congr 1
  funext h0
  congr 1
  funext m
  exact key v l h0 m
 |extract a b=>rfl
 |build a b=>rfl
 |buildSlice a b c=>rfl
 |call c=>
  unfold Qt at h
  obtain⟨callee,args,ts⟩:=c
  cases callee with
  |value f=>cases h
  |invoke a b=>cases h
  |builtin b=>
   cases b with
   |len=>
    have h:(match ts.toList with|[ty]=>(match E.ty.get ty with|some i=>(match i.d with| .map .. =>false|_=>true)|none=>false)|_=>false)=true:=h
    have e1:∀H0,OO E R t H0 (.call ⟨.builtin .len,args,ts⟩) K=(match args.toList,ts.toList with|[x],[ty]=>Iq E t x λv=>E.ty.getK ty λi=>B5p i v H0 K|_,_=>none):= λ_=>rfl
    rw[e1,e1]
    split
    ·rename_i x ty hx hty
     rw[hty] at h
     congr 1
     funext v
     rw[BT.getK_eq,BT.getK_eq]
     cases hs:E.ty.get ty with
     |none=>rfl
     |some i=>
      simp only[hs] at h
      simp only
      unfold B5p
      cases hd:i.d with
      |map k e=>rw[hd] at h;cases h
      |_=>rfl
    ·rfl
   |min=>rfl
   |max=>rfl
   |_=>cases h
 |_=>cases h
inductive Trc (S:Oper→Tm→Hp→AV→Hp→Prop) (ef:Oper→Bool):List Oper→Tm→Hp→List AV→List Hp→Tm→Hp→Prop
 |nil {t:Tm} {H:Hp}:Trc S ef [] t H [] [H] t H
 |rd {o:Oper} {l:List Oper} {t:Tm} {H:Hp} {v:AV} {vs:List AV} {hs:List Hp} {t':Tm} {H':Hp} (he:ef o=false) (h:S o t H v H) (k:Trc S ef l (OU t o.dst v) H vs hs t' H'):Trc S ef (o::l) t H (v::vs) hs t' H'
 |ef {o:Oper} {l:List Oper} {t:Tm} {H H1:Hp} {v:AV} {vs:List AV} {hs:List Hp} {t':Tm} {H':Hp} (he:ef o=true) (h:S o t H v H1) (k:Trc S ef l (OU t o.dst v) H1 vs hs t' H'):Trc S ef (o::l) t H (v::vs) (H::hs) t' H'
def Stp (E:XE) (R:Rt) (fz:Bool) (N:Nat) (all:List Oper) (o:Oper) (t:Tm) (H:Hp) (v:AV) (H1:Hp):Prop:=
 dok N o.dst∧(((Fo all (Gy all o t) o= .run∨Fo all (Gy all o t) o= .dep true)∧
  ((Hy E fz o=false∧(∃H0,OO E R (Gy all o t) H o.op (λv=>some (v,[]))=some (v,H0))∧H1=H)∨(Hy E fz o=true∧zop E R fz (Gy all o t) H o.op (λv H'=>some (v,H'))=some (v,H1))))∨
  ((Fo all (Gy all o t) o= .skip∨Fo all (Gy all o t) o= .dep false)∧v= .v undef∧H1=H))
theorem A5r (lv:List Nat) (t:Tm):∀K:Tm→Al,Vh lv t K=K (WJ lv t):=by
 induction lv with
 |nil=>intro K;rfl
 |cons u lv ih=>
  intro K
  have e:Vh (u::lv) t K=gtm t u λv=>Vh lv t λl=>K ((u,v)::l):=rfl
  rw[e,SP,ih];rfl
theorem A9m {x:Operand} {K:AV→Al} (h:Iq E t x K=some r):∃v H0,Iq E t x (λv=>some (v,[]))=some (v,H0)∧K v=some r:=by
 cases x with
 |tmp i=>
  have h:gtm t i K=some r:=h
  rw[SP] at h
  exact⟨_,[],(SP t i _).trans rfl,h⟩
 |const v=>exact⟨_,[],rfl,h⟩
 |global g=>
  have h:(E.gl.getK g λcs=>K (.iptr cs))=some r:=h
  obtain⟨cs,h1,h2⟩:=AW h
  refine⟨_,[],?_,h2⟩
  have:Iq E t (.global g) (λv=>some (v,[]))=E.gl.getK g λcs=>some (.iptr cs,[]):=rfl
  rw[this,BT.getK_eq,h1]
 |func f=>exact⟨_,[],rfl,h⟩
theorem A33 {o:Op} {K:AV→Al} (h:A5p E R t H o K=some r):∃v H0,OO E R t H o (λv=>some (v,[]))=some (v,H0)∧K v=some r:=by
 unfold A5p at h
 split at h
 ·exact A9m h
 ·exact A9m h
 ·exact RO h
theorem B0p {all:List Oper}:∀(l:List Oper) (t:Tm) (H:Hp) (K:Tm→Hp→Al),zdr E R fz N all l t H K=some r→
 ∃vs hs t' H',Trc (Stp E R fz N all) (Hy E fz) l t H vs hs t' H'∧K t' H'=some r:=by
 intro l
 induction l with
 |nil=>intro t H K h;exact⟨_,_,_,_,.nil,h⟩
 |cons o l ih=>
  intro t H K h
  have h:A6Y N o.dst (Vh (LM all o) t λt1=>B1i o.guard
   (@Bool.rec (λ_=>Al) (A5p E R t1 H o.op λv=>NY t o.dst v λt'=>zdr E R fz N all l t' H K) (DW (zop E R fz t1 H o.op λv H'=>some (v,H')) λv H'=>NY t o.dst v λt'=>zdr E R fz N all l t' H' K) (NC E fz o.op))
   (DW (B0m E R fz all o t1 H) λv H'=>NY t o.dst v λt'=>zdr E R fz N all l t' H' K))=some r:=h
  obtain⟨hd,h⟩:=Y1 h
  rw[A5r] at h
  have hrs:WJ (LM all o) t=Gy all o t:=rfl
  rw[hrs] at h
  cases hgd:o.guard with
  |none=>
   have hrun:Fo all (Gy all o t) o= .run:=by unfold Fo;rw[hgd]
   rw[hgd] at h
   have h:@Bool.rec (λ_=>Al) (A5p E R (Gy all o t) H o.op λv=>NY t o.dst v λt'=>zdr E R fz N all l t' H K) (DW (zop E R fz (Gy all o t) H o.op λv H'=>some (v,H')) λv H'=>NY t o.dst v λt'=>zdr E R fz N all l t' H' K) (NC E fz o.op)=some r:=h
   cases he:NC E fz o.op
   ·rw[he] at h
    obtain⟨v,H0,h3,h4⟩:=A33 h
    rw[Qp] at h4
    obtain⟨vs,hs,t',H',h5,h6⟩:=ih _ _ _ h4
    exact⟨_,_,_,_,.rd he ⟨hd,.inl ⟨.inl hrun,.inl ⟨he,⟨_,h3⟩,rfl⟩⟩⟩ h5,h6⟩
   ·rw[he] at h
    obtain⟨v,H1,h3,h4⟩:=RP h
    rw[Qp] at h4
    obtain⟨vs,hs,t',H',h5,h6⟩:=ih _ _ _ h4
    exact⟨_,_,_,_,.ef he ⟨hd,.inl ⟨.inl hrun,.inr ⟨he,h3⟩⟩⟩ h5,h6⟩
  |some gg=>
   rw[hgd] at h
   have h:(DW (B0m E R fz all o (Gy all o t) H) λv H'=>NY t o.dst v λt'=>zdr E R fz N all l t' H' K)=some r:=h
   obtain⟨v,H1,h3,h4⟩:=RP h
   rw[Qp] at h4
   obtain⟨vs,hs,t',H',h5,h6⟩:=ih _ _ _ h4
   rcases WN h3 with⟨h1,h2⟩|⟨h1,h2⟩
   ·cases he:NC E fz o.op
    ·rw[he] at h1
     obtain⟨v',H0,h7,h8⟩:=RO h1
     injection h8 with h8;injection h8 with h8 h9
     subst h8 h9
     exact⟨_,_,_,_,.rd he ⟨hd,.inl ⟨h2,.inl ⟨he,⟨_,h7⟩,rfl⟩⟩⟩ h5,h6⟩
    ·rw[he] at h1
     exact⟨_,_,_,_,.ef he ⟨hd,.inl ⟨h2,.inr ⟨he,h1⟩⟩⟩ h5,h6⟩
   ·have h1:some (AV.v undef,H)=some (v,H1):=h1
    injection h1 with h1;injection h1 with h7 h8
    subst h7 h8
    cases he:Hy E fz o
    ·exact⟨_,_,_,_,.rd he ⟨hd,.inr ⟨h2,rfl,rfl⟩⟩ h5,h6⟩
    ·exact⟨_,_,_,_,.ef he ⟨hd,.inr ⟨h2,rfl,rfl⟩⟩ h5,h6⟩
def Sa (ef:Oper→Bool) (l:List Oper) (i:Nat):Nat:=((l.take i).filter ef).length
theorem X4 (o:Oper) (l:List Oper) (val:Nat→AV) (t:Tm):∀i,Gv (o::l) val t (λ_=>true) (i+1)=Gv l (λj=>val (j+1)) (OU t o.dst (val 0)) (λ_=>true) i:=by
 intro i
 induction i with
 |zero=>rfl
 |succ i ih=>
  have e1:Gv (o::l) val t (λ_=>true) (i+1+1)=(match true,(o::l)[i+1]? with|true,some o'=>OU (Gv (o::l) val t (λ_=>true) (i+1)) o'.dst (val (i+1))|_,_=>Gv (o::l) val t (λ_=>true) (i+1)):=rfl
  have e2:Gv l (λj=>val (j+1)) (OU t o.dst (val 0)) (λ_=>true) (i+1)=(match true,l[i]? with|true,some o'=>OU (Gv l (λj=>val (j+1)) (OU t o.dst (val 0)) (λ_=>true) i) o'.dst (val (i+1))|_,_=>Gv l (λj=>val (j+1)) (OU t o.dst (val 0)) (λ_=>true) i):=rfl
  rw[e1,e2,ih,l0q]
theorem Trc.at {S:Oper→Tm→Hp→AV→Hp→Prop} {ef:Oper→Bool} {l:List Oper} {t:Tm} {H:Hp} {vs:List AV} {hs:List Hp} {t':Tm} {H':Hp} (h:Trc S ef l t H vs hs t' H'):
 hs.getD 0 []=H∧t'=Gv l (λj=>vs.getD j .dk) t (λ_=>true) l.length∧H'=hs.getD (Sa ef l l.length) []∧
 ∀(i:Nat) (o:Oper),l[i]?=some o→S o (Gv l (λj=>vs.getD j .dk) t (λ_=>true) i) (hs.getD (Sa ef l i) []) (vs.getD i .dk) (hs.getD (Sa ef l (i+1)) []):=by
 induction h with
 |nil=>exact⟨rfl,rfl,rfl,λi o h=>by simp at h⟩
 |@rd o l t H v vs hs t' H' he hs0 k ih=>
  obtain⟨h1,h2,h3,h4⟩:=ih
  have hc:∀i,Sa ef (o::l) (i+1)=Sa ef l i:= λi=>by simp[Sa,he]
  have ht:∀i,Gv (o::l) (λj=>(v::vs).getD j .dk) t (λ_=>true) (i+1)=Gv l (λj=>vs.getD j .dk) (OU t o.dst v) (λ_=>true) i:= λi=>by rw[X4];simp
  refine⟨h1,?_,?_,?_⟩
  ·rw[Lj,ht];exact h2
  ·rw[Lj,hc];exact h3
  ·intro i p hp
   cases i with
   |zero=>
    simp at hp;subst hp
    rw[hc,show Sa ef (o::l) 0=0 from rfl,show Sa ef l 0=0 from rfl,h1]
    exact hs0
   |succ i=>
    rw[hc,hc,ht]
    have:=h4 i p (by simpa using hp)
    simpa using this
 |@ef o l t H H1 v vs hs t' H' he hs0 k ih=>
  obtain⟨h1,h2,h3,h4⟩:=ih
  have hc:∀i,Sa ef (o::l) (i+1)=Sa ef l i+1:= λi=>by simp[Sa,he]
  have ht:∀i,Gv (o::l) (λj=>(v::vs).getD j .dk) t (λ_=>true) (i+1)=Gv l (λj=>vs.getD j .dk) (OU t o.dst v) (λ_=>true) i:= λi=>by rw[X4];simp
  refine⟨rfl,?_,?_,?_⟩
  ·rw[Lj,ht];exact h2
  ·rw[Lj,hc];simpa using h3
  ·intro i p hp
   cases i with
   |zero=>
    simp at hp;subst hp
    rw[hc,show Sa ef (o::l) 0=0 from rfl,show Sa ef l 0=0 from rfl]
    have:(H::hs).getD (0+1) []=H1:=by simpa using h1
    rw[this]
    exact hs0
   |succ i=>
    rw[hc,hc,ht]
    have:=h4 i p (by simpa using hp)
    simpa using this
theorem A4Y {ef:Oper→Bool}:∀(l:List Oper) (n a e:Nat),(Em ef n l)[a]?=some e→∃j o,e=n+j∧l[j]?=some o∧ef o=true∧Sa ef l j=a:=by
 intro l
 induction l with
 |nil=>intro n a e h;simp[Em] at h
 |cons o l ih=>
  intro n a e h
  unfold Em at h
  cases he:ef o
  ·rw[he] at h
   obtain⟨j,p,h1,h2,h3,h4⟩:=ih _ _ _ h
   exact⟨j+1,p,by omega,by simpa using h2,h3,by simpa [Sa,he] using h4⟩
  ·rw[he] at h
   cases a with
   |zero=>simp at h;exact⟨0,o,by omega,rfl,he,rfl⟩
   |succ a=>
    obtain⟨j,p,h1,h2,h3,h4⟩:=ih _ _ _ (by simpa using h)
    exact⟨j+1,p,by omega,by simpa using h2,h3,by simpa [Sa,he] using h4⟩
theorem B51 {ef:Oper→Bool}:∀(l:List Oper) (n j:Nat) (o:Oper),l[j]?=some o→ef o=true→(Em ef n l)[Sa ef l j]?=some (n+j):=by
 intro l
 induction l with
 |nil=>intro n j o h;simp at h
 |cons p l ih=>
  intro n j o h he
  unfold Em
  cases j with
  |zero=>simp at h;subst h;rw[he];rfl
  |succ j=>
   have:=ih (n+1) j o (by simpa using h) he
   cases hp:ef p
   ·simpa [Sa,hp,Xt,Nat.add_comm 1 j] using this
   ·simpa [Sa,hp,Xt,Nat.add_comm 1 j] using this
theorem A4X {ef:Oper→Bool}:∀(l:List Oper) (n:Nat),(Em ef n l).length=Sa ef l l.length:=by
 intro l
 induction l with
 |nil=>intro n;rfl
 |cons p l ih=>
  intro n
  unfold Em
  cases hp:ef p
  ·simpa [Sa,hp] using ih (n+1)
  ·simpa [Sa,hp] using ih (n+1)
theorem A23 {ef:Oper→Bool} (l:List Oper) {i j:Nat} (h:i≤j):Sa ef l i≤Sa ef l j:=by
 unfold Sa
 have:l.take i=(l.take j).take i:=by rw[List.take_take,l1x h]
 rw[this]
 exact((List.take_sublist i (l.take j)).filter ef).length_le
theorem UA {ef:Oper→Bool} {l:List Oper} {i:Nat} {o:Oper} (h:l[i]?=some o):Sa ef l (i+1)=Sa ef l i+(if ef o then 1 else 0):=by
 unfold Sa
 rw[List.take_add_one,h,List.filter_append,FA]
 cases he:ef o<;>simp[he]
theorem B2Z {ef:Oper→Bool} {ms efs:List Nat}:∀(l:List Oper) (n:Nat),A5X E ef ms efs n l=true→∀(j:Nat) (o:Oper),l[j]?=some o→ef o=false→Qt E o.op=true∨∀e∈efs,(e<n+j→tb (ms.getD (n+j) 0) e=true)∧(n+j≤e→tb (ms.getD e 0) (n+j)=true):=by
 intro l
 induction l with
 |nil=>intro n _ j o h;simp at h
 |cons p l ih=>
  intro n h j o ho he
  simp only[A5X,Jp] at h
  cases j with
  |zero=>
   simp at ho;subst ho
   have h1:=h.1
   rw[he,Bool.false_or,l1d] at h1
   rcases h1 with h1|h1
   ·exact .inl h1
   ·refine .inr λe hm=> ?_
    have:=Hl.1 h1 e hm
    cases hb:Nat.blt e n
    ·rw[hb] at this
     have:¬e<n:= λhlt=>by rw[←Uk,hb] at hlt;cases hlt
     exact⟨λhlt=>by omega,λ_=>by simpa using ‹_›⟩
    ·rw[hb] at this
     have hlt:e<n:=by rw[←Uk];exact hb
     exact⟨λ_=>this,λhle=>by omega⟩
  |succ j=>
   have:=ih (n+1) h.2 j o (by simpa using ho) he
   rw[show n+(j+1)=n+1+j from by omega];exact this
theorem Stp.aopg {D:XE→Cf→Nat→List Oper→Bool} (hE:XE.Ok D E P) (hR:RSound D E P R) {all:List Oper} {o:Oper} {v:AV} {H1:Hp} (h:Stp E R fz N all o t H v H1):B8g P E.G ro N all o (Gy all o t) H v H1:=by
 obtain⟨_,⟨hg,h⟩|⟨hg,h1,h2⟩⟩:=h
 ·refine .inl ⟨hg,?_⟩
  rcases h with⟨_,⟨H0,h⟩,rfl⟩|⟨_,h⟩
  ·refine RW.mono (Qo hE hR h) ?_
   rintro v' H' ⟨hH,h⟩
   injection h with h;injection h with h
   exact⟨h,hH⟩
  ·refine RW.mono (Xz hE hR h) ?_
   intro v' H' h
   injection h with h;injection h with h h'
   exact⟨h,h'⟩
 ·exact .inr ⟨hg,h1,h2⟩
theorem B0q {D:XE→Cf→Nat→List Oper→Bool} (hE:XE.Ok D E P) (hR:RSound D E P R) {cf:Cf} {id:Nat} {ops:List Oper} (hD:A3l ops (Em (Hy E cf.fz) 0 ops)=true) (hD2:A5X E (Hy E cf.fz) (Qr ops) (Em (Hy E cf.fz) 0 ops) 0 ops=true) {K:Tm→Hp→Al} (h:zdr E R cf.fz cf.n ops ops t H K=some r):
 Qn P E.G ro m cf.n (.region id ops.toArray true) (λe t' H'=>e= .normal∧K t' H'=some r) t H:=by
 obtain⟨vs,hs,t',H',htr,hK⟩:=B0p ops t H K h
 obtain⟨h0,ht',hH',hst⟩:=htr.at
 have hk:=A0H hD
 have hr:=B2Z ops 0 hD2
 have e0:H=(λk=>hs.getD k []) 0:=h0.symm
 rw[e0]
 refine A74 (efs:=Em (Hy E cf.fz) 0 ops) (val:= λj=>vs.getD j .dk) (Hs:= λk=>hs.getD k []) hE.mix hk (λo ho=> ?_) ?_ ?_ ?_
 ·obtain⟨i,hi⟩:=List.getElem?_of_mem ho
  exact(hst i o hi).1
 ·intro i o ho hne k hkl hp
  have he:Hy E cf.fz o=false:=by
   cases he:Hy E cf.fz o
   ·rfl
   ·exact absurd (B51 ops 0 i o ho he) (by rw[Ln];exact hne _)
  have hs1:=hst i o ho
  have hc1:Sa (Hy E cf.fz) ops (i+1)=Sa (Hy E cf.fz) ops i:=by rw[UA ho,he];simp
  rw[hc1] at hs1
  rcases hr i o ho he with hf|hord
  ·refine Stp.aopg (fz:=cf.fz) hE hR ?_
   obtain⟨hd,⟨hg,h⟩|⟨hg,h1,h2⟩⟩:=hs1
   ·rcases h with⟨_,⟨H0,h⟩,_⟩|⟨h,_⟩
    ·exact⟨hd,.inl ⟨hg,.inl ⟨he,⟨H0,by rw[A6w hf _ (hs.getD (Sa (Hy E cf.fz) ops i) [])];exact h⟩,rfl⟩⟩⟩
    ·rw[he] at h;cases h
   ·exact⟨hd,.inr ⟨hg,h1,rfl⟩⟩
  ·have hlen:=A4X (ef:=Hy E cf.fz) ops 0
   have hil:i<ops.length:=(l0j.1 ho).1
   have hkc:k=Sa (Hy E cf.fz) ops i:=by
    rcases Nat.lt_trichotomy k (Sa (Hy E cf.fz) ops i) with hlt|heq|hgt
    ·exfalso
     have hkl':k<(Em (Hy E cf.fz) 0 ops).length:=by rw[hlen];exact l2m hlt (A23 ops (by omega))
     obtain⟨j,p,h1,h2,h3,h4⟩:=A4Y ops 0 k _ (JV hkl')
     have hji:j<i:=by
      rcases Nat.lt_or_ge j i with h|h
      ·exact h
      ·exfalso;have:=A23 (ef:=Hy E cf.fz) ops h;omega
     have:=(hord _ (QS hkl')).1 (by omega)
     rw[Ln,A3d] at this
     have:=hp.1 k _ (JV hkl') (ML this)
     omega
    ·exact heq
    ·exfalso
     have hcl:Sa (Hy E cf.fz) ops i<(Em (Hy E cf.fz) 0 ops).length:=by omega
     obtain⟨j,p,h1,h2,h3,h4⟩:=A4Y ops 0 _ _ (JV hcl)
     have hij:i≤j:=by
      rcases Nat.lt_or_ge j i with h|h
      ·exfalso
       have h5:=A23 (ef:=Hy E cf.fz) ops (show j+1≤i from h)
       rw[UA h2,h3] at h5
       simp at h5;omega
      ·exact h
     have:=(hord _ (QS hcl)).2 (by omega)
     rw[Ln,A3d] at this
     have:=hp.2 _ _ (JV hcl) (ML this)
     omega
   rw[hkc]
   exact Stp.aopg (fz:=cf.fz) hE hR hs1
 ·intro a i o ho hi
  obtain⟨j,p,h1,h2,h3,h4⟩:=A4Y ops 0 a i hi
  rw[Ln] at h1
  subst h1
  rw[ho] at h2;injection h2 with h2;subst h2
  have:=hst i o ho
  rw[UA ho,h3,h4] at this
  exact Stp.aopg (fz:=cf.fz) hE hR this
 ·refine⟨rfl,?_⟩
  rw[←ht']
  have:hs.getD (Em (Hy E cf.fz) 0 ops).length []=H':=by rw[A4X];exact hH'.symm
  rw[this];exact hK
theorem A7t {all:List Oper}:∀(l:List Oper) (t:Tm) (H:Hp) (K:List Tm→List AV→List Hp→Tm→Hp→Al),A0e E R fz N all l t H K=some r→
 ∃ts vs hs t' H',Trc (Stp E R fz N all) (Hy E fz) l t H vs hs t' H'∧K ts vs hs t' H'=some r∧vs.length=l.length∧∀(i:Nat) (o:Oper),l[i]?=some o→ts[i]?=some (Gy all o (Gv l (λj=>vs.getD j .dk) t (λ_=>true) i)):=by
 intro l
 induction l with
 |nil=>intro t H K h;exact⟨_,_,_,_,_,.nil,h,rfl,λi o h=>by simp at h⟩
 |cons o l ih=>
  intro t H K h
  have h:A6Y N o.dst (Vh (LM all o) t λt1=>B1i o.guard
   (@Bool.rec (λ_=>Al) (A5p E R t1 H o.op λv=>NY t o.dst v λt'=>A0e E R fz N all l t' H λts vs hs=>K (t1::ts) (v::vs) hs) (DW (zop E R fz t1 H o.op λv H'=>some (v,H')) λv H'=>NY t o.dst v λt'=>A0e E R fz N all l t' H' λts vs hs=>K (t1::ts) (v::vs) (H::hs)) (NC E fz o.op))
   (DW (B0m E R fz all o t1 H) λv H'=>NY t o.dst v λt'=>A0e E R fz N all l t' H' λts vs hs=>K (t1::ts) (v::vs) (@Bool.rec (λ_=>List Hp) hs (H::hs) (NC E fz o.op))))=some r:=h
  obtain⟨hd,h⟩:=Y1 h
  rw[A5r] at h
  have hrs:WJ (LM all o) t=Gy all o t:=rfl
  rw[hrs] at h
  have key:∀(v:AV) (ts:List Tm) (vs:List AV),(∀(i:Nat) (p:Oper),l[i]?=some p→ts[i]?=some (Gy all p (Gv l (λj=>vs.getD j .dk) (OU t o.dst v) (λ_=>true) i)))→
   ∀(i:Nat) (p:Oper),(o::l)[i]?=some p→(Gy all o t::ts)[i]?=some (Gy all p (Gv (o::l) (λj=>(v::vs).getD j .dk) t (λ_=>true) i)):=by
   intro v ts vs hh i p hp
   cases i with
   |zero=>simp at hp;subst hp;rfl
   |succ i=>
    rw[X4]
    have:=hh i p (by simpa using hp)
    simpa using this
  cases hgd:o.guard with
  |none=>
   have hrun:Fo all (Gy all o t) o= .run:=by unfold Fo;rw[hgd]
   rw[hgd] at h
   have h:@Bool.rec (λ_=>Al) (A5p E R (Gy all o t) H o.op λv=>NY t o.dst v λt'=>A0e E R fz N all l t' H λts vs hs=>K (Gy all o t::ts) (v::vs) hs) (DW (zop E R fz (Gy all o t) H o.op λv H'=>some (v,H')) λv H'=>NY t o.dst v λt'=>A0e E R fz N all l t' H' λts vs hs=>K (Gy all o t::ts) (v::vs) (H::hs)) (NC E fz o.op)=some r:=h
   cases he:NC E fz o.op
   ·rw[he] at h
    obtain⟨v,H0,h3,h4⟩:=A33 h
    rw[Qp] at h4
    obtain⟨ts,vs,hs,t',H',h5,h6,h7,h8⟩:=ih _ _ _ h4
    exact⟨_,_,_,_,_,.rd he ⟨hd,.inl ⟨.inl hrun,.inl ⟨he,⟨_,h3⟩,rfl⟩⟩⟩ h5,h6,by simp[h7],key v ts vs h8⟩
   ·rw[he] at h
    obtain⟨v,H1,h3,h4⟩:=RP h
    rw[Qp] at h4
    obtain⟨ts,vs,hs,t',H',h5,h6,h7,h8⟩:=ih _ _ _ h4
    exact⟨_,_,_,_,_,.ef he ⟨hd,.inl ⟨.inl hrun,.inr ⟨he,h3⟩⟩⟩ h5,h6,by simp[h7],key v ts vs h8⟩
  |some gg=>
   rw[hgd] at h
   have h:(DW (B0m E R fz all o (Gy all o t) H) λv H'=>NY t o.dst v λt'=>A0e E R fz N all l t' H' λts vs hs=>K (Gy all o t::ts) (v::vs) (@Bool.rec (λ_=>List Hp) hs (H::hs) (NC E fz o.op)))=some r:=h
   obtain⟨v,H1,h3,h4⟩:=RP h
   rw[Qp] at h4
   obtain⟨ts,vs,hs,t',H',h5,h6,h7,h8⟩:=ih _ _ _ h4
   rcases WN h3 with⟨h1,h2⟩|⟨h1,h2⟩
   ·cases he:NC E fz o.op
    ·rw[he] at h1 h6
     obtain⟨v',H0,h9,h10⟩:=RO h1
     injection h10 with h10;injection h10 with h10 h11
     subst h10 h11
     exact⟨_,_,_,_,_,.rd he ⟨hd,.inl ⟨h2,.inl ⟨he,⟨_,h9⟩,rfl⟩⟩⟩ h5,h6,by simp[h7],key v' ts vs h8⟩
    ·rw[he] at h1 h6
     exact⟨_,_,_,_,_,.ef he ⟨hd,.inl ⟨h2,.inr ⟨he,h1⟩⟩⟩ h5,h6,by simp[h7],key v ts vs h8⟩
   ·have h1:some (AV.v undef,H)=some (v,H1):=h1
    injection h1 with h1;injection h1 with h9 h10
    subst h9 h10
    cases he:Hy E fz o
    ·have he':NC E fz o.op=false:=he
     rw[he'] at h6
     exact⟨_,_,_,_,_,.rd he ⟨hd,.inr ⟨h2,rfl,rfl⟩⟩ h5,h6,by simp[h7],key _ ts vs h8⟩
    ·have he':NC E fz o.op=true:=he
     rw[he'] at h6
     exact⟨_,_,_,_,_,.ef he ⟨hd,.inr ⟨h2,rfl,rfl⟩⟩ h5,h6,by simp[h7],key _ ts vs h8⟩
theorem UM {α:Type}:∀{l:List α} {n:Nat} {K:α→Al},A2F l n K=some r→∃a,l[n]?=some a∧K a=some r:=by
 intro l
 induction l with
 |nil=>intro n K h;cases h
 |cons a l ih=>
  intro n K h
  cases n with
  |zero=>exact⟨a,rfl,h⟩
  |succ n=>
   obtain⟨b,h1,h2⟩:=ih (show A2F l n K=some r from h)
   exact⟨b,by simpa using h1,h2⟩
theorem B0s {all:List Oper} {ts:List Tm} {vs:List AV} {hs:List Hp} {K:Al}:∀{bs:List (Nat×Nat)},B0t E R all bs ts vs hs K=some r→
 K=some r∧∀p∈bs,∃o t1 v Hk,all[p.1]?=some o∧ts[p.1]?=some t1∧vs[p.1]?=some v∧hs[p.2]?=some Hk∧(((Fo all t1 o= .run∨Fo all t1 o= .dep true)∧∃H0,OO E R t1 Hk o.op (λu=>some (u,[]))=some (v,H0))∨(Fo all t1 o= .skip∨Fo all t1 o= .dep false)):=by
 intro bs
 induction bs with
 |nil=>intro h;exact⟨h,λp hp=>by simp at hp⟩
 |cons p bs ih=>
  intro h
  obtain⟨i,k⟩:=p
  have h:(A2F all i λo=>A2F ts i λt1=>A2F vs i λv=>A2F hs k λH=>R6 (gdK all t1 o.guard λg=>@Bool.rec (λ_=>Al) (some (.v (.bool true),[])) (AZ (OO E R t1 H o.op λu=>some (u,[])) v) g) (B0t E R all bs ts vs hs K))=some r:=h
  obtain⟨o,h1,h⟩:=UM h
  obtain⟨t1,h2,h⟩:=UM h
  obtain⟨v,h3,h⟩:=UM h
  obtain⟨Hk,h4,h⟩:=UM h
  obtain⟨⟨H0,h5⟩,h6⟩:=B3J h
  obtain⟨h7,h8⟩:=ih h6
  refine⟨h7,λp hp=> ?_⟩
  simp only[WG] at hp
  rcases hp with rfl|hp
  ·refine⟨o,t1,v,Hk,h1,h2,h3,h4,?_⟩
   rcases WN h5 with⟨h9,h10⟩|⟨h9,h10⟩
   ·exact .inl ⟨h10,A0G h9⟩
   ·exact .inr h10
  ·exact h8 p hp
theorem B71 {ops:List Oper} {efs:List Nat} {i k:Nat} (hp:C42 ops efs i k):∀(l:List Nat) (a:Nat),(∀b,l[b]?=efs[a+b]?)→B12 (Qr ops) i k a l=true:=by
 intro l
 induction l with
 |nil=>intro a _;rfl
 |cons e l ih=>
  intro a hl
  have h0:efs[a]?=some e:=by have:=hl 0;simpa using this.symm
  simp only[B12,Jp,l1d,l14]
  refine⟨?_,?_,ih (a+1) λb=> ?_⟩
  ·cases ht:tb ((Qr ops).getD i 0) e
   ·exact .inl rfl
   ·refine .inr ?_
    rw[A3d] at ht
    rw[Uk]
    exact hp.1 a e h0 (ML ht)
  ·cases ht:tb ((Qr ops).getD e 0) i
   ·exact .inl rfl
   ·refine .inr ?_
    rw[A3d] at ht
    rw[Yf]
    exact hp.2 a e h0 (ML ht)
  ·have:=hl (b+1)
   rw[l0q] at this
   rw[this];congr 1;omega
theorem B0R {ef:Oper→Bool} {ms efs:List Nat} {bs:List (Nat×Nat)}:∀(l:List Oper) (n c:Nat),B0S E ef ms efs bs n c l=true→∀(j:Nat) (o:Oper),l[j]?=some o→ef o=false→Qt E o.op=true∨∀k,k≤efs.length→B12 ms (n+j) k 0 efs=true→k=c+Sa ef l j∨(n+j,k)∈bs:=by
 intro l
 induction l with
 |nil=>intro n c _ j o h;simp at h
 |cons p l ih=>
  intro n c h j o ho he
  simp only[B0S,Jp] at h
  cases j with
  |zero=>
   simp at ho;subst ho
   have h1:=h.1
   rw[he,Bool.false_or,l1d] at h1
   rcases h1 with h1|h1
   ·exact .inl h1
   ·refine .inr λk hk hp=> ?_
    have h2:=Hl.1 h1 k (IV.2 (by omega))
    rw[Nat.add_zero] at hp
    rw[hp] at h2
    simp only[l1d,Bool.not_true,l0z,false_or,Jp,List.any_eq_true] at h2
    rcases h2 with h2|⟨q,hq,h3,h4⟩
    ·exact .inl (by rw[Vm h2];simp[Sa])
    ·refine .inr ?_
     obtain⟨q1,q2⟩:=q
     have h3:=Vm h3
     have h4:=Vm h4
     simp only at h3 h4
     subst h3 h4
     exact hq
  |succ j=>
   have:=ih (n+1) _ h.2 j o (by simpa using ho) he
   rw[show n+(j+1)=n+1+j from by omega]
   rcases this with h3|h3
   ·exact .inl h3
   ·refine .inr λk hk hp=> ?_
    rcases h3 k hk hp with h4|h4
    ·refine .inl ?_
     rw[h4]
     cases hp':ef p<;>simp[Sa,hp']
     omega
    ·exact .inr h4
theorem A0d {D:XE→Cf→Nat→List Oper→Bool} (hE:XE.Ok D E P) (hR:RSound D E P R) {cf:Cf} {id:Nat} {ops:List Oper} {bs:List (Nat×Nat)} (hD:A3l ops (Em (Hy E cf.fz) 0 ops)=true) (hD2:B0S E (Hy E cf.fz) (Qr ops) (Em (Hy E cf.fz) 0 ops) bs 0 0 ops=true) {K:Tm→Hp→Al}
 (h:(A0e E R cf.fz cf.n ops ops t H λts vs hs t' H'=>B0t E R ops bs ts vs hs (K t' H'))=some r):
 Qn P E.G ro m cf.n (.region id ops.toArray true) (λe t' H'=>e= .normal∧K t' H'=some r) t H:=by
 obtain⟨ts,vs,hs,t',H',htr,hK,hvl,hts⟩:=A7t ops t H _ h
 obtain⟨hK,hchk⟩:=B0s hK
 obtain⟨h0,ht',hH',hst⟩:=htr.at
 have hk:=A0H hD
 have hr:=B0R ops 0 0 hD2
 have e0:H=(λk=>hs.getD k []) 0:=h0.symm
 rw[e0]
 refine A74 (efs:=Em (Hy E cf.fz) 0 ops) (val:= λj=>vs.getD j .dk) (Hs:= λk=>hs.getD k []) hE.mix hk (λo ho=> ?_) ?_ ?_ ?_
 ·obtain⟨i,hi⟩:=List.getElem?_of_mem ho
  exact(hst i o hi).1
 ·intro i o ho hne k hkl hp
  have he:Hy E cf.fz o=false:=by
   cases he:Hy E cf.fz o
   ·rfl
   ·exact absurd (B51 ops 0 i o ho he) (by rw[Ln];exact hne _)
  have hs1:=hst i o ho
  have hc1:Sa (Hy E cf.fz) ops (i+1)=Sa (Hy E cf.fz) ops i:=by rw[UA ho,he];simp
  rw[hc1] at hs1
  rcases hr i o ho he with hf|hord
  ·refine Stp.aopg (fz:=cf.fz) hE hR ?_
   obtain⟨hd,⟨hg,h⟩|⟨hg,h1,h2⟩⟩:=hs1
   ·rcases h with⟨_,⟨H0,h⟩,_⟩|⟨h,_⟩
    ·exact⟨hd,.inl ⟨hg,.inl ⟨he,⟨H0,by rw[A6w hf _ (hs.getD (Sa (Hy E cf.fz) ops i) [])];exact h⟩,rfl⟩⟩⟩
    ·rw[he] at h;cases h
   ·exact⟨hd,.inr ⟨hg,h1,rfl⟩⟩
  ·rcases hord k hkl (by rw[Ln];exact B71 hp _ 0 (λb=>by rw[Ln])) with hkc|hmem
   ·rw[hkc,Ln]
    exact Stp.aopg (fz:=cf.fz) hE hR hs1
   ·rw[Ln] at hmem
    obtain⟨o',t1,v,Hk,h1,h2,h3,h4,h5⟩:=hchk _ hmem
    simp only at h1 h2 h3 h4
    rw[ho] at h1;injection h1 with h1;subst h1
    rw[hts i o ho] at h2;injection h2 with h2;subst h2
    have hv:vs.getD i .dk=v:=by rw[Ul,h3];rfl
    have hhk:hs.getD k []=Hk:=by rw[Ul,h4];rfl
    refine Stp.aopg (fz:=cf.fz) hE hR ?_
    obtain⟨hd,⟨hg,h⟩|⟨hg,h1,h2⟩⟩:=hs1
    ·rcases h5 with⟨_,H0,h5⟩|h5
     ·refine⟨hd,.inl ⟨hg,.inl ⟨he,⟨H0,?_⟩,rfl⟩⟩⟩
      rw[hv,hhk];exact h5
     ·exfalso
      rcases hg with hg|hg<;>rcases h5 with h5|h5<;>(rw[hg] at h5;cases h5)
    ·exact⟨hd,.inr ⟨hg,h1,rfl⟩⟩
 ·intro a i o ho hi
  obtain⟨j,p,h1,h2,h3,h4⟩:=A4Y ops 0 a i hi
  rw[Ln] at h1
  subst h1
  rw[ho] at h2;injection h2 with h2;subst h2
  have:=hst i o ho
  rw[UA ho,h3,h4] at this
  exact Stp.aopg (fz:=cf.fz) hE hR this
 ·refine⟨rfl,?_⟩
  rw[←ht']
  have:hs.getD (Em (Hy E cf.fz) 0 ops).length []=H':=by rw[A4X];exact hH'.symm
  rw[this];exact hK
theorem A7s {D:XE→Cf→Nat→List Oper→Bool} (hE:XE.Ok D E P) (hR:RSound D E P R) {cf:Cf} {id:Nat} {ops:List Oper} (hD:A0I E cf id ops=true) {K:Tm→Hp→Al} (h:C39 E R cf id ops t H K=some r):
 Qn P E.G ro m cf.n (.region id ops.toArray true) (λe t' H'=>e= .normal∧K t' H'=some r) t H:=by
 unfold A0I at hD
 rw[Jp] at hD
 have h:(match B30 id cf.rc with
  |none=>zdr E R cf.fz cf.n ops ops t H K
  |some bs=>A0e E R cf.fz cf.n ops ops t H λts vs hs t' H'=>B0t E R ops bs ts vs hs (K t' H'))=some r:=h
 cases hrc:B30 id cf.rc with
 |none=>rw[hrc] at hD h;exact B0q hE hR hD.1 hD.2 h
 |some bs=>rw[hrc] at hD h;exact A0d hE hR hD.1 hD.2 h
theorem A5t {D:XE→Cf→Nat→List Oper→Bool} (hD:∀E cf id ops,D E cf id ops=true→A0I E cf id ops=true) (hE:XE.Ok D E P) (hR:RSound D E P R):A9k D E P (A9n E R):=by
 intro ro cf id ops t H K r m hb h
 unfold A9n at h
 cases hcb:cf.b
 ·rw[hcb] at h
  exact A7s hE hR (hD _ _ _ _ (hb hcb)) h
 ·rw[hcb] at h
  unfold C38 at h
  obtain⟨h1,h2⟩:=JD h
  rw[Jp] at h1
  exact A0d hE hR h1.1 h1.2 h2
end
def jn {α:Type} (k:α) (F:α→Al):Al:=(λ(_:Unit)=>F k) Gx
def Za (R:Rt) (n:Nat) (f:AV) (t:Tm) (ps:Array Tmp) (aZ bd:Code) (H:Hp) (K:Option (Option Code)→Hp→Al):Al:=
 match f with
 | .fn (.func g) first cap=>HE H λs=>Ur first (.yl s::cap) λall=>R.call g all ((s,.loop n t ps aZ bd (some none))::H) λ_ H2=>Kj H2 s λx=>Vl x λ_ _ _ _ _ pend=>Og H2 s .gone λH3=>K pend H3
 |_=>none
def YH (p:Option (Option Code)) (x y:Al) (e g:Nat→Al):Al:=
 match p with
 |some none=>x
 |some (some .ret)=>y
 |some (some (.exit id))=>e id
 |some (some (.goto l))=>g l
 |_=>none
def rdK (run:A5d) (N:Nat) (t:Tm) (ps:Array Tmp) (args:List AV) (aZ bd:Code) (H:Hp) (P:Hp→(Hp→Al)→Al) (Q:Exit→Hp→Al):Al:=
 A7P t ps.toList args λt1=>run ⟨true,t1.map (·.1),false,N,[]⟩ aZ t1 H λe t2 H2=>match e with
  | .normal=>P H2 λH3=>run ⟨true,t1.map (·.1),false,N,[]⟩ bd t2 H3 λe _ H4=>Q e H4
  |_=>none
def A5V:Code→List (Operand×Array Tmp×Code×Code)
 | .seq x y=>A5V x++A5V y
 | .cond _ x y=>A5V x++A5V y
 | .block _ x=>A5V x
 | .loop x=>A5V x
 | .scope x=>A5V x
 | .rangeFunc g ps aZ bd=>[(g,ps,aZ,bd)]
 |_=>[]
def YE (c:Code) (k:Nat):Operand×Array Tmp×Code×Code:=(A5V c).getD k (.func 0,#[],.skip,.skip)
abbrev zI:AV:= .v (.int .i64 0)
abbrev zS:AV:= .v (.string ⟨⟨[]⟩⟩)
abbrev zL:AV:= .v (.slice none 0 0)
abbrev zB:AV:= .v (.bool false)
abbrev I (n:Int):AV:= .v (.int .i64 n)
abbrev Bo (b:Bool):AV:= .v (.bool b)
abbrev S (l:List UInt8):AV:= .v (.string ⟨⟨l⟩⟩)
section
variable {K:AV→Al} {i j:TI} {k:IntKind} {a b:Int}
theorem Cz:Ak i .add (.v (.int k a)) (.v (.int k b)) K=K (.v (.int k (k.wrap (a+b)))):=by
 have:Ak i .add (.v (.int k a)) (.v (.int k b)) K=ck (decide (k=k)) (LN k (a+b) λz=>K (.v (.int k z))):=rfl
 rw[this,decide_eq_true rfl];exact GA _ _ _
theorem GE:Ak i .sub (.v (.int k a)) (.v (.int k b)) K=K (.v (.int k (k.wrap (a-b)))):=by
 have:Ak i .sub (.v (.int k a)) (.v (.int k b)) K=ck (decide (k=k)) (LN k (a-b) λz=>K (.v (.int k z))):=rfl
 rw[this,decide_eq_true rfl];exact GA _ _ _
theorem NU:Ak i .mul (.v (.int k a)) (.v (.int k b)) K=K (.v (.int k (k.wrap (a*b)))):=by
 have:Ak i .mul (.v (.int k a)) (.v (.int k b)) K=ck (decide (k=k)) (LN k (a*b) λz=>K (.v (.int k z))):=rfl
 rw[this,decide_eq_true rfl];exact GA _ _ _
theorem B4J (h:b≠0):Ak i .quo (.v (.int k a)) (.v (.int k b)) K=K (.v (.int k (k.wrap (a.tdiv b)))):=by
 have:Ak i .quo (.v (.int k a)) (.v (.int k b)) K=ck (decide (k=k)) (ck (!ieq b 0) (LN k (a.tdiv b) λz=>K (.v (.int k z)))):=rfl
 rw[this,decide_eq_true rfl,Of,decide_eq_false h];exact GA _ _ _
theorem Ux (h:b≠0):Ak i .rem (.v (.int k a)) (.v (.int k b)) K=K (.v (.int k (a.tmod b))):=by
 have:Ak i .rem (.v (.int k a)) (.v (.int k b)) K=ck (decide (k=k)) (ck (!ieq b 0) (fI (a.tmod b) λz=>K (.v (.int k z)))):=rfl
 rw[this,decide_eq_true rfl,Of,decide_eq_false h];exact RJ (a.tmod b) (λz=>K (.v (.int k z)))
theorem Dy:Ak i .lss (.v (.int k a)) (.v (.int k b)) K=K (Bo (decide (a<b))):=by
 have:Ak i .lss (.v (.int k a)) (.v (.int k b)) K=ck (decide (k=k)) (bB (!ZH b a) K):=rfl
 rw[this,decide_eq_true rfl,J7]
 have e:(!decide (b≤a))=decide (a<b):=by rw[Yg];simp
 rw[e];exact Ld _ _
theorem Xf:Ak i .leq (.v (.int k a)) (.v (.int k b)) K=K (Bo (decide (a≤b))):=by
 have:Ak i .leq (.v (.int k a)) (.v (.int k b)) K=ck (decide (k=k)) (bB (ZH a b) K):=rfl
 rw[this,decide_eq_true rfl,J7];exact Ld _ _
theorem Ej:Ak i .gtr (.v (.int k a)) (.v (.int k b)) K=K (Bo (decide (b<a))):=by
 have:Ak i .gtr (.v (.int k a)) (.v (.int k b)) K=ck (decide (k=k)) (bB (!ZH a b) K):=rfl
 rw[this,decide_eq_true rfl,J7]
 have e:(!decide (a≤b))=decide (b<a):=by rw[Yg];simp
 rw[e];exact Ld _ _
theorem Me:Ak i .geq (.v (.int k a)) (.v (.int k b)) K=K (Bo (decide (b≤a))):=by
 have:Ak i .geq (.v (.int k a)) (.v (.int k b)) K=ck (decide (k=k)) (bB (ZH b a) K):=rfl
 rw[this,decide_eq_true rfl,J7];exact Ld _ _
theorem Dz:Ak i .eql (.v (.int k a)) (.v (.int k b)) K=K (Bo (decide (a=b))):=by
 have:Ak i .eql (.v (.int k a)) (.v (.int k b)) K=ck (decide (k=k)) (bB (ieq a b) K):=rfl
 rw[this,decide_eq_true rfl,Of];exact Ld _ _
theorem GF:Ak i .neq (.v (.int k a)) (.v (.int k b)) K=K (Bo (!decide (a=b))):=by
 have:Ak i .neq (.v (.int k a)) (.v (.int k b)) K=ck (decide (k=k)) (bB (!ieq a b) K):=rfl
 rw[this,decide_eq_true rfl,Of];exact Ld _ _
theorem Nb {s u:List UInt8}:Ak i .eql (S s) (S u) K=K (Bo (decide (s=u))):=by
 have:Ak i .eql (S s) (S u) K=bB (eqB s u) K:=rfl
 rw[this,PQ,Ld,show(s==u)=decide (s=u) from by by_cases h:s=u<;>simp[h]]
theorem UR {s u:List UInt8}:Ak i .neq (S s) (S u) K=K (Bo (!decide (s=u))):=by
 have:Ak i .neq (S s) (S u) K=bB (!eqB s u) K:=rfl
 rw[this,PQ,Ld,show(s==u)=decide (s=u) from by by_cases h:s=u<;>simp[h]]
theorem En {q:Bool} {x y:Al}:Av (Bo q) x y=if q=true then x else y:=by cases q<;>rfl
end
theorem Cp {α:Type} (k:α) (F:α→Al):jn k F=F k:=rfl
theorem Cb {x:Int} (h1: -9223372036854775808≤x) (h2:x<9223372036854775808):IntKind.i64.wrap x=x:=by
 simp only[IntKind.wrap,IntKind.bits,IntKind.signed]
 have e1:(2^64:Int)=18446744073709551616:=by decide
 have e2:(2^(64-1):Int)=9223372036854775808:=by decide
 simp only[e1,e2,l16,decide_eq_true_eq]
 split<;>omega
end Go.Abs
end
