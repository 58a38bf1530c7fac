import Derived.Test.YtlbhdmbfdcohhaaGreatDoorP07
import Derived.Test.YtlbhdmbfdcohhaaGreatDoorP09
set_option linter.all false
set_option maxHeartbeats 100000000
noncomputable section
namespace Go.Abs
open Go.RowKit
def Pt (E:XE):Op→Bool
 | .move _=>true
 | .assign _=>true
 | .pick .. =>true
 | .nilCheck _=>true
 | .binOp .. =>true
 | .unOp .. =>true
 | .convert s _ _=>match E.ty.get s with
  |some i=>match i.d with
   | .slice .. =>false
   | .pointer _=>false
   | .other=>false
   |_=>true
  |none=>false
 | .makeFunc .. =>true
 | .fieldAddr .. =>true
 | .field .. =>true
 | .indexAddr .. =>true
 | .index .. =>true
 | .slice ty _ _ _ _=>match E.ty.get ty with
  |some i=>match i.d with
   | .array .. =>false
   |_=>true
  |none=>false
 | .extract .. =>true
 | .build .. =>true
 | .buildSlice .. =>true
 | .call c=>match c.callee with
  | .builtin .len=>match c.argTypes.toList with
   |[ty]=>(match E.ty.get ty with
    |some i=>match i.d with
     | .map .. =>false
     |_=>true
    |none=>false)
   |_=>false
  | .builtin .min=>true
  | .builtin .max=>true
  |_=>false
 |_=>false
def MS (E:XE) (fz:Bool):Op→Bool
 | .move _=>false
 | .assign _=>false
 | .pick .. =>false
 | .nilCheck _=>false
 | .binOp .. =>false
 | .unOp .. =>false
 | .convert s d _=>match E.ty.get s,E.ty.get d with
  |some i,some j=>match i.d,j.d with
   | .string,.slice .. =>true
   |_,_=>false
  |_,_=>true
 | .makeFunc .. =>false
 | .fieldAddr .. =>false
 | .field .. =>false
 | .indexAddr .. =>false
 | .index .. =>false
 | .slice .. =>false
 | .extract .. =>false
 | .build .. =>false
 | .buildSlice .. => !fz
 | .load .. =>false
 | .lookup .. =>false
 | .makeInterface .. =>false
 | .call c=>match c.callee with
  | .value (.func f)=>E.imp f
  | .value (.tmp _)=> !fz
  | .builtin .len=>false
  | .builtin .min=>false
  | .builtin .max=>false
  | .builtin .cap=>false
  | .builtin .unsafeSliceData=>false
  |_=>true
 |_=>true
def A4r (E:XE) (R:Rt) (t:Tm) (H:Hp) (o:Op) (K:AV→Am):Am:=
 (λ(_:Unit)=>match o with
  | .move x=>HH E t x K
  | .assign x=>HH E t x K
  |o=>Ai (NY E R t H o λv=>some (v,[])) K) FV
def A9z (E:XE) (R:Rt) (fz:Bool) (all:List Oper) (o:Oper) (t1:Tm) (H:Hp):Am:=
 gdK all t1 o.guard λg=>@Bool.rec (λ_=>Am) (some (.v undef,H)) (@Bool.rec (λ_=>Am) (Ai (NY E R t1 H o.op λv=>some (v,[])) λv=>some (v,H)) (zop E R fz t1 H o.op λv H'=>some (v,H')) (MS E fz o.op)) g
def zdr (E:XE) (R:Rt) (fz:Bool) (N:Nat) (all:List Oper) (l:List Oper):Tm→Hp→(Tm→Hp→Am)→Am:=
 @List.rec Oper (λ_=>Tm→Hp→(Tm→Hp→Am)→Am) (λt H K=>K t H)
  (λo _ ih t H K=>A60 N o.dst (Uk (Ld all o) t λt1=>B0t o.guard
   (@Bool.rec (λ_=>Am) (A4r E R t1 H o.op λv=>Nm t o.dst v λt'=>ih t' H K) (DC (zop E R fz t1 H o.op λv H'=>some (v,H')) λv H'=>Nm t o.dst v λt'=>ih t' H' K) (MS E fz o.op))
   (DC (A9z E R fz all o t1 H) λv H'=>Nm t o.dst v λt'=>ih t' H' K))) l
def Zp (E:XE) (R:Rt) (fz:Bool) (N:Nat) (all:List Oper) (l:List Oper):Tm→Hp→(List Tm→List AV→List Hp→Tm→Hp→Am)→Am:=
 @List.rec Oper (λ_=>Tm→Hp→(List Tm→List AV→List Hp→Tm→Hp→Am)→Am) (λt H K=>K [] [] [H] t H)
  (λo _ ih t H K=>A60 N o.dst (Uk (Ld all o) t λt1=>B0t o.guard
   (@Bool.rec (λ_=>Am) (A4r E R t1 H o.op λv=>Nm t o.dst v λt'=>ih t' H λts vs hs=>K (t1::ts) (v::vs) hs) (DC (zop E R fz t1 H o.op λv H'=>some (v,H')) λv H'=>Nm t o.dst v λt'=>ih t' H' λts vs hs=>K (t1::ts) (v::vs) (H::hs)) (MS E fz o.op))
   (DC (A9z E R fz all o t1 H) λv H'=>Nm t o.dst v λt'=>ih t' H' λts vs hs=>K (t1::ts) (v::vs) (@Bool.rec (λ_=>List Hp) hs (H::hs) (MS E fz o.op))))) l
def A1M {α:Type} (l:List α) (n:Nat) (K:α→Am):Am:=
 (λ(_:Unit)=>@List.rec α (λ_=>Nat→Am) (λ_=>none) (λa _ ih n=>@Nat.rec (λ_=>Am) (K a) (λm _=>ih m) n) l n) FV
def YS:AV→AV→Bool
 | .v x,.v y=>Vv x y
 | .ptr r p k,.ptr r' p' k'=>Nat.beq r r'&&(Nat.beq p p'&&Nat.beq k k')
 | .sl z r o n,.sl z' r' o' n'=>Nat.beq z z'&&(Nat.beq r r'&&(Nat.beq o o'&&Nat.beq n n'))
 | .iptr cs,.iptr es=>A1j (aeq 6) cs es
 | .mp r,.mp r'=>Nat.beq r r'
 |a,b=>aeq 6 a b
theorem B76 {a b:AV} (h:YS a b=true):a=b:=by
 unfold YS at h
 split at h
 ·rw[YW h]
 ·simp only[Iv] at h
  rw[Uq h.1,Uq h.2.1,Uq h.2.2]
 ·simp only[Iv] at h
  rw[Uq h.1,Uq h.2.1,Uq h.2.2.1,Uq h.2.2.2]
 ·rw[Zk (A8n 6) h]
 ·rw[Uq h]
 ·exact A8n 6 _ _ h
def AU (a:Am) (v:AV):Am:=match a with
 |some (u,_)=>some (.v (.bool (YS u v)),[])
 |none=>none
def QG (a:Am) (K:Am):Am:=match a with
 |some (.v (.bool true),_)=>K
 |_=>none
theorem B2U {a:Am} {K:Am} {r:AV×Hp} (h:QG a K=some r):(∃H0,a=some (.v (.bool true),H0))∧K=some r:=by
 unfold QG at h
 split at h
 ·exact⟨⟨_,rfl⟩,h⟩
 ·cases h
theorem ZO {a:Am} {v:AV} {H0:Hp} (h:AU a v=some (.v (.bool true),H0)):∃H1,a=some (v,H1):=by
 unfold AU at h
 split at h
 ·injection h with h
  injection h with h _
  injection h with h
  injection h with h
  exact⟨_,by rw[B76 h]⟩
 ·cases h
def A9G (E:XE) (R:Rt) (all:List Oper) (bs:List (Nat×Nat)) (ts:List Tm) (vs:List AV) (hs:List Hp) (K:Am):Am:=
 (λ(_:Unit)=>@List.rec (Nat×Nat) (λ_=>Am) K (λp _ ih=>@Prod.rec Nat Nat (λ_=>Am) (λi k=>A1M all i λo=>A1M ts i λt1=>A1M vs i λv=>A1M hs k λH=>
  QG (gdK all t1 o.guard λg=>@Bool.rec (λ_=>Am) (some (.v (.bool true),[])) (AU (NY E R t1 H o.op λu=>some (u,[])) v) g) ih) p) bs) FV
def DU (ef:Oper→Bool):Nat→List Oper→List Nat
 |_,[]=>[]
 |i,o::l=>match ef o with
  |true=>i::DU ef (i+1) l
  |false=>DU ef (i+1) l
def A4Y (E:XE) (ef:Oper→Bool) (ms efs:List Nat):Nat→List Oper→Bool
 |_,[]=>true
 |i,o::l=>(ef o||(Pt E o.op||efs.all λe=>match Nat.blt e i with
  |true=>tb (ms.getD i 0) e
  |false=>tb (ms.getD e 0) i))&&A4Y E ef ms efs (i+1) l
def GM (E:XE) (fz:Bool) (o:Oper):Bool:=MS E fz o.op
def B0d (ms:List Nat) (i k:Nat):Nat→List Nat→Bool
 |_,[]=>true
 |a,e::l=>(!tb (ms.getD i 0) e||Nat.blt a k)&&((!tb (ms.getD e 0) i||Nat.ble k a)&&B0d ms i k (a+1) l)
def B04 (E:XE) (ef:Oper→Bool) (ms efs:List Nat) (bs:List (Nat×Nat)):Nat→Nat→List Oper→Bool
 |_,_,[]=>true
 |i,k0,o::l=>(ef o||(Pt E o.op||(List.range (efs.length+1)).all λk=>Nat.beq k k0||(!B0d ms i k 0 efs||bs.any λp=>Nat.beq p.1 i&&Nat.beq p.2 k)))&&
  B04 E ef ms efs bs (i+1) (match ef o with|true=>k0+1|false=>k0) l
def B2b (id:Nat):List (Nat×List (Nat×Nat))→Option (List (Nat×Nat))
 |[]=>none
 |p::l=>match Nat.beq p.1 id with|true=>some p.2|false=>B2b id l
def ZQ (E:XE) (cf:Cf) (id:Nat) (ops:List Oper):Bool:=
 A2y ops (DU (GM E cf.fz) 0 ops)&&(match B2b id cf.rc with
  |none=>A4Y E (GM E cf.fz) (Po ops) (DU (GM E cf.fz) 0 ops) 0 ops
  |some bs=>B04 E (GM E cf.fz) (Po ops) (DU (GM E cf.fz) 0 ops) bs 0 0 ops)
def B7Q (E:XE) (ef:Oper→Bool) (ms efs:List Nat):Nat→Nat→List Oper→List (Nat×Nat)
 |_,_,[]=>[]
 |i,k0,o::l=>(match ef o||Pt E o.op with
  |true=>[]
  |false=>((List.range (efs.length+1)).filter λk=> !Nat.beq k k0&&B0d ms i k 0 efs).map λk=>(i,k))++B7Q E ef ms efs (i+1) (match ef o with|true=>k0+1|false=>k0) l
def C22 (E:XE) (R:Rt) (cf:Cf) (ops:List Oper) (bs:List (Nat×Nat)) (t:Tm) (H:Hp) (K:Tm→Hp→Am):Am:=
 ckS (A2y ops (DU (GM E cf.fz) 0 ops)&&B04 E (GM E cf.fz) (Po ops) (DU (GM E cf.fz) 0 ops) bs 0 0 ops) (Zp E R cf.fz cf.n ops ops t H λts vs hs t' H'=>A9G E R ops bs ts vs hs (K t' H'))
def C23 (E:XE) (R:Rt) (cf:Cf) (id:Nat) (ops:List Oper) (t:Tm) (H:Hp) (K:Tm→Hp→Am):Am:=
 (λ(_:Unit)=>match B2b id cf.rc with
  |none=>zdr E R cf.fz cf.n ops ops t H K
  |some bs=>Zp E R cf.fz cf.n ops ops t H λts vs hs t' H'=>A9G E R ops bs ts vs hs (K t' H')) FV
def A8s (E:XE) (R:Rt):A9w:= λcf id ops t H K=>
 @Bool.rec (λ_=>Am) (C23 E R cf id ops t H K) (C22 E R cf ops (B7Q E (GM E cf.fz) (Po ops) (DU (GM E cf.fz) 0 ops) 0 0 ops) t H K) cf.b
section
variable {E:XE} {P:Program} {R:Rt} {t:Tm} {H:Hp} {r:AV×Hp} {ro:Option Nat} {N m:Nat} {fz:Bool}
theorem A5B {o:Op} (h:Pt E o=true) (H H':Hp) (K:AV→Am):NY E R t H o K=NY E R t H' o K:=by
 cases o with
 |move x=>rfl
 |assign x=>rfl
 |pick c a b=>rfl
 |nilCheck x=>rfl
 |binOp a b c d e=>rfl
 |unOp a b c=>rfl
 |convert a b c=>
  have key:∀v,(E.ty.getK a λi=>E.ty.getK b λj=>cvK E a b i j v H K)=(E.ty.getK a λi=>E.ty.getK b λj=>cvK E a b i j v H' K):=by
   intro v
   have h:(match E.ty.get a with|some i=>(match i.d with| .slice .. =>false| .pointer _=>false| .other=>false|_=>true)|none=>false)=true:=h
   rw[BT.getK_eq,BT.getK_eq]
   cases hs:E.ty.get a with
   |none=>rfl
   |some i=>
    rw[hs] at h
    simp only at h
    simp only
    congr 1
    funext j
    unfold cvK
    cases hd:i.d with
    |slice e z=>rw[hd] at h;cases h
    |pointer e=>rw[hd] at h;cases h
    |other=>rw[hd] at h;cases h
    |_=>rfl
  show(HH E t c λv=>E.ty.getK a λi=>E.ty.getK b λj=>cvK E a b i j v H K)=(HH E t c λv=>E.ty.getK a λi=>E.ty.getK b λj=>cvK E a b i j v H' K)
  congr 1
  funext v
  exact key v
 |makeFunc a b c=>rfl
 |fieldAddr a b c=>rfl
 |field a b c=>rfl
 |indexAddr a b c=>rfl
 |index a b c=>rfl
 |slice a b c d e=>
  have h:(match E.ty.get a with|some i=>(match i.d with| .array .. =>false|_=>true)|none=>false)=true:=h
  have key:∀v l h0 m,(E.ty.getK a λi=>A6q i v l h0 m H K)=(E.ty.getK a λi=>A6q i v l h0 m H' K):=by
   intro v l h0 m
   rw[BT.getK_eq,BT.getK_eq]
   cases hs:E.ty.get a with
   |none=>rfl
   |some i=>
    rw[hs] at h
    simp only at h
    simp only
    unfold A6q
    cases hd:i.d with
    |array n e z=>rw[hd] at h;cases h
    |_=>rfl
  show(HH E t b λv=>Zn E t c λl=>Zn E t d λh=>Zn E t e λm=>E.ty.getK a λi=>A6q i v l h m H K)=(HH E t b λv=>Zn E t c λl=>Zn E t d λh=>Zn E t e λm=>E.ty.getK a λi=>A6q i v l h m H' K)
  congr 1
  funext v
  congr 1
  funext l
  congr 1
  funext h0
  congr 1
  funext m
  exact key v l h0 m
 |extract a b=>rfl
 |build a b=>rfl
 |buildSlice a b c=>rfl
 |call c=>
  unfold Pt at h
  obtain⟨callee,args,ts⟩:=c
  cases callee with
  |value f=>cases h
  |invoke a b=>cases h
  |builtin b=>
   cases b with
   |len=>
    have h:(match ts.toList with|[ty]=>(match E.ty.get ty with|some i=>(match i.d with| .map .. =>false|_=>true)|none=>false)|_=>false)=true:=h
    have e1:∀H0,NY E R t H0 (.call ⟨.builtin .len,args,ts⟩) K=(match args.toList,ts.toList with|[x],[ty]=>HH E t x λv=>E.ty.getK ty λi=>B4x i v H0 K|_,_=>none):= λ_=>rfl
    rw[e1,e1]
    split
    ·rename_i x ty hx hty
     rw[hty] at h
     congr 1
     funext v
     rw[BT.getK_eq,BT.getK_eq]
     cases hs:E.ty.get ty with
     |none=>rfl
     |some i=>
      simp only[hs] at h
      simp only
      unfold B4x
      cases hd:i.d with
      |map k e=>rw[hd] at h;cases h
      |_=>rfl
    ·rfl
   |min=>rfl
   |max=>rfl
   |_=>cases h
 |_=>cases h
inductive Trc (S:Oper→Tm→Hp→AV→Hp→Prop) (ef:Oper→Bool):List Oper→Tm→Hp→List AV→List Hp→Tm→Hp→Prop
 |nil {t:Tm} {H:Hp}:Trc S ef [] t H [] [H] t H
 |rd {o:Oper} {l:List Oper} {t:Tm} {H:Hp} {v:AV} {vs:List AV} {hs:List Hp} {t':Tm} {H':Hp} (he:ef o=false) (h:S o t H v H) (k:Trc S ef l (Oe t o.dst v) H vs hs t' H'):Trc S ef (o::l) t H (v::vs) hs t' H'
 |ef {o:Oper} {l:List Oper} {t:Tm} {H H1:Hp} {v:AV} {vs:List AV} {hs:List Hp} {t':Tm} {H':Hp} (he:ef o=true) (h:S o t H v H1) (k:Trc S ef l (Oe t o.dst v) H1 vs hs t' H'):Trc S ef (o::l) t H (v::vs) (H::hs) t' H'
def Stp (E:XE) (R:Rt) (fz:Bool) (N:Nat) (all:List Oper) (o:Oper) (t:Tm) (H:Hp) (v:AV) (H1:Hp):Prop:=
 dok N o.dst∧(((EV all (FW all o t) o= .run∨EV all (FW all o t) o= .dep true)∧
  ((GM E fz o=false∧(∃H0,NY E R (FW all o t) H o.op (λv=>some (v,[]))=some (v,H0))∧H1=H)∨(GM E fz o=true∧zop E R fz (FW all o t) H o.op (λv H'=>some (v,H'))=some (v,H1))))∨
  ((EV all (FW all o t) o= .skip∨EV all (FW all o t) o= .dep false)∧v= .v undef∧H1=H))
theorem A4t (lv:List Nat) (t:Tm):∀K:Tm→Am,Uk lv t K=K (VT lv t):=by
 induction lv with
 |nil=>intro K;rfl
 |cons u lv ih=>
  intro K
  have e:Uk (u::lv) t K=gtm t u λv=>Uk lv t λl=>K ((u,v)::l):=rfl
  rw[e,RX,ih];rfl
theorem A8r {x:Operand} {K:AV→Am} (h:HH E t x K=some r):∃v H0,HH E t x (λv=>some (v,[]))=some (v,H0)∧K v=some r:=by
 cases x with
 |tmp i=>
  have h:gtm t i K=some r:=h
  rw[RX] at h
  exact⟨_,[],(RX t i _).trans rfl,h⟩
 |const v=>exact⟨_,[],rfl,h⟩
 |global g=>
  have h:(E.gl.getK g λcs=>K (.iptr cs))=some r:=h
  obtain⟨cs,h1,h2⟩:=AT h
  refine⟨_,[],?_,h2⟩
  have:HH E t (.global g) (λv=>some (v,[]))=E.gl.getK g λcs=>some (.iptr cs,[]):=rfl
  rw[this,BT.getK_eq,h1]
 |func f=>exact⟨_,[],rfl,h⟩
theorem A2d {o:Op} {K:AV→Am} (h:A4r E R t H o K=some r):∃v H0,NY E R t H o (λv=>some (v,[]))=some (v,H0)∧K v=some r:=by
 unfold A4r at h
 split at h
 ·exact A8r h
 ·exact A8r h
 ·exact Ra h
theorem A9C {all:List Oper}:∀(l:List Oper) (t:Tm) (H:Hp) (K:Tm→Hp→Am),zdr E R fz N all l t H K=some r→
 ∃vs hs t' H',Trc (Stp E R fz N all) (GM E fz) l t H vs hs t' H'∧K t' H'=some r:=by
 intro l
 induction l with
 |nil=>intro t H K h;exact⟨_,_,_,_,.nil,h⟩
 |cons o l ih=>
  intro t H K h
  have h:A60 N o.dst (Uk (Ld all o) t λt1=>B0t o.guard
   (@Bool.rec (λ_=>Am) (A4r E R t1 H o.op λv=>Nm t o.dst v λt'=>zdr E R fz N all l t' H K) (DC (zop E R fz t1 H o.op λv H'=>some (v,H')) λv H'=>Nm t o.dst v λt'=>zdr E R fz N all l t' H' K) (MS E fz o.op))
   (DC (A9z E R fz all o t1 H) λv H'=>Nm t o.dst v λt'=>zdr E R fz N all l t' H' K))=some r:=h
  obtain⟨hd,h⟩:=XB h
  rw[A4t] at h
  have hrs:VT (Ld all o) t=FW all o t:=rfl
  rw[hrs] at h
  cases hgd:o.guard with
  |none=>
   have hrun:EV all (FW all o t) o= .run:=by unfold EV;rw[hgd]
   rw[hgd] at h
   have h:@Bool.rec (λ_=>Am) (A4r E R (FW all o t) H o.op λv=>Nm t o.dst v λt'=>zdr E R fz N all l t' H K) (DC (zop E R fz (FW all o t) H o.op λv H'=>some (v,H')) λv H'=>Nm t o.dst v λt'=>zdr E R fz N all l t' H' K) (MS E fz o.op)=some r:=h
   cases he:MS E fz o.op
   ·rw[he] at h
    obtain⟨v,H0,h3,h4⟩:=A2d h
    rw[Pm] at h4
    obtain⟨vs,hs,t',H',h5,h6⟩:=ih _ _ _ h4
    exact⟨_,_,_,_,.rd he ⟨hd,.inl ⟨.inl hrun,.inl ⟨he,⟨_,h3⟩,rfl⟩⟩⟩ h5,h6⟩
   ·rw[he] at h
    obtain⟨v,H1,h3,h4⟩:=Rb h
    rw[Pm] at h4
    obtain⟨vs,hs,t',H',h5,h6⟩:=ih _ _ _ h4
    exact⟨_,_,_,_,.ef he ⟨hd,.inl ⟨.inl hrun,.inr ⟨he,h3⟩⟩⟩ h5,h6⟩
  |some gg=>
   rw[hgd] at h
   have h:(DC (A9z E R fz all o (FW all o t) H) λv H'=>Nm t o.dst v λt'=>zdr E R fz N all l t' H' K)=some r:=h
   obtain⟨v,H1,h3,h4⟩:=Rb h
   rw[Pm] at h4
   obtain⟨vs,hs,t',H',h5,h6⟩:=ih _ _ _ h4
   rcases VY h3 with⟨h1,h2⟩|⟨h1,h2⟩
   ·cases he:MS E fz o.op
    ·rw[he] at h1
     obtain⟨v',H0,h7,h8⟩:=Ra h1
     injection h8 with h8;injection h8 with h8 h9
     subst h8 h9
     exact⟨_,_,_,_,.rd he ⟨hd,.inl ⟨h2,.inl ⟨he,⟨_,h7⟩,rfl⟩⟩⟩ h5,h6⟩
    ·rw[he] at h1
     exact⟨_,_,_,_,.ef he ⟨hd,.inl ⟨h2,.inr ⟨he,h1⟩⟩⟩ h5,h6⟩
   ·have h1:some (AV.v undef,H)=some (v,H1):=h1
    injection h1 with h1;injection h1 with h7 h8
    subst h7 h8
    cases he:GM E fz o
    ·exact⟨_,_,_,_,.rd he ⟨hd,.inr ⟨h2,rfl,rfl⟩⟩ h5,h6⟩
    ·exact⟨_,_,_,_,.ef he ⟨hd,.inr ⟨h2,rfl,rfl⟩⟩ h5,h6⟩
def Rk (ef:Oper→Bool) (l:List Oper) (i:Nat):Nat:=((l.take i).filter ef).length
theorem WL (o:Oper) (l:List Oper) (val:Nat→AV) (t:Tm):∀i,FP (o::l) val t (λ_=>true) (i+1)=FP l (λj=>val (j+1)) (Oe t o.dst (val 0)) (λ_=>true) i:=by
 intro i
 induction i with
 |zero=>rfl
 |succ i ih=>
  have e1:FP (o::l) val t (λ_=>true) (i+1+1)=(match true,(o::l)[i+1]? with|true,some o'=>Oe (FP (o::l) val t (λ_=>true) (i+1)) o'.dst (val (i+1))|_,_=>FP (o::l) val t (λ_=>true) (i+1)):=rfl
  have e2:FP l (λj=>val (j+1)) (Oe t o.dst (val 0)) (λ_=>true) (i+1)=(match true,l[i]? with|true,some o'=>Oe (FP l (λj=>val (j+1)) (Oe t o.dst (val 0)) (λ_=>true) i) o'.dst (val (i+1))|_,_=>FP l (λj=>val (j+1)) (Oe t o.dst (val 0)) (λ_=>true) i):=rfl
  rw[e1,e2,ih,l0q]
theorem Trc.at {S:Oper→Tm→Hp→AV→Hp→Prop} {ef:Oper→Bool} {l:List Oper} {t:Tm} {H:Hp} {vs:List AV} {hs:List Hp} {t':Tm} {H':Hp} (h:Trc S ef l t H vs hs t' H'):
 hs.getD 0 []=H∧t'=FP l (λj=>vs.getD j .dk) t (λ_=>true) l.length∧H'=hs.getD (Rk ef l l.length) []∧
 ∀(i:Nat) (o:Oper),l[i]?=some o→S o (FP l (λj=>vs.getD j .dk) t (λ_=>true) i) (hs.getD (Rk ef l i) []) (vs.getD i .dk) (hs.getD (Rk ef l (i+1)) []):=by
 induction h with
 |nil=>exact⟨rfl,rfl,rfl,λi o h=>by simp at h⟩
 |@rd o l t H v vs hs t' H' he hs0 k ih=>
  obtain⟨h1,h2,h3,h4⟩:=ih
  have hc:∀i,Rk ef (o::l) (i+1)=Rk ef l i:= λi=>by simp[Rk,he]
  have ht:∀i,FP (o::l) (λj=>(v::vs).getD j .dk) t (λ_=>true) (i+1)=FP l (λj=>vs.getD j .dk) (Oe t o.dst v) (λ_=>true) i:= λi=>by rw[WL];simp
  refine⟨h1,?_,?_,?_⟩
  ·rw[L0,ht];exact h2
  ·rw[L0,hc];exact h3
  ·intro i p hp
   cases i with
   |zero=>
    simp at hp;subst hp
    rw[hc,show Rk ef (o::l) 0=0 from rfl,show Rk ef l 0=0 from rfl,h1]
    exact hs0
   |succ i=>
    rw[hc,hc,ht]
    have:=h4 i p (by simpa using hp)
    simpa using this
 |@ef o l t H H1 v vs hs t' H' he hs0 k ih=>
  obtain⟨h1,h2,h3,h4⟩:=ih
  have hc:∀i,Rk ef (o::l) (i+1)=Rk ef l i+1:= λi=>by simp[Rk,he]
  have ht:∀i,FP (o::l) (λj=>(v::vs).getD j .dk) t (λ_=>true) (i+1)=FP l (λj=>vs.getD j .dk) (Oe t o.dst v) (λ_=>true) i:= λi=>by rw[WL];simp
  refine⟨rfl,?_,?_,?_⟩
  ·rw[L0,ht];exact h2
  ·rw[L0,hc];simpa using h3
  ·intro i p hp
   cases i with
   |zero=>
    simp at hp;subst hp
    rw[hc,show Rk ef (o::l) 0=0 from rfl,show Rk ef l 0=0 from rfl]
    have:(H::hs).getD (0+1) []=H1:=by simpa using h1
    rw[this]
    exact hs0
   |succ i=>
    rw[hc,hc,ht]
    have:=h4 i p (by simpa using hp)
    simpa using this
theorem A43 {ef:Oper→Bool}:∀(l:List Oper) (n a e:Nat),(DU ef n l)[a]?=some e→∃j o,e=n+j∧l[j]?=some o∧ef o=true∧Rk ef l j=a:=by
 intro l
 induction l with
 |nil=>intro n a e h;simp[DU] at h
 |cons o l ih=>
  intro n a e h
  unfold DU at h
  cases he:ef o
  ·rw[he] at h
   obtain⟨j,p,h1,h2,h3,h4⟩:=ih _ _ _ h
   exact⟨j+1,p,by omega,by simpa using h2,h3,by simpa [Rk,he] using h4⟩
  ·rw[he] at h
   cases a with
   |zero=>simp at h;exact⟨0,o,by omega,rfl,he,rfl⟩
   |succ a=>
    obtain⟨j,p,h1,h2,h3,h4⟩:=ih _ _ _ (by simpa using h)
    exact⟨j+1,p,by omega,by simpa using h2,h3,by simpa [Rk,he] using h4⟩
theorem B4c {ef:Oper→Bool}:∀(l:List Oper) (n j:Nat) (o:Oper),l[j]?=some o→ef o=true→(DU ef n l)[Rk ef l j]?=some (n+j):=by
 intro l
 induction l with
 |nil=>intro n j o h;simp at h
 |cons p l ih=>
  intro n j o h he
  unfold DU
  cases j with
  |zero=>simp at h;subst h;rw[he];rfl
  |succ j=>
   have:=ih (n+1) j o (by simpa using h) he
   cases hp:ef p
   ·simpa [Rk,hp,WC,Nat.add_comm 1 j] using this
   ·simpa [Rk,hp,WC,Nat.add_comm 1 j] using this
theorem A42 {ef:Oper→Bool}:∀(l:List Oper) (n:Nat),(DU ef n l).length=Rk ef l l.length:=by
 intro l
 induction l with
 |nil=>intro n;rfl
 |cons p l ih=>
  intro n
  unfold DU
  cases hp:ef p
  ·simpa [Rk,hp] using ih (n+1)
  ·simpa [Rk,hp] using ih (n+1)
theorem A1c {ef:Oper→Bool} (l:List Oper) {i j:Nat} (h:i≤j):Rk ef l i≤Rk ef l j:=by
 unfold Rk
 have:l.take i=(l.take j).take i:=by rw[List.take_take,l1x h]
 rw[this]
 exact((List.take_sublist i (l.take j)).filter ef).length_le
theorem TE {ef:Oper→Bool} {l:List Oper} {i:Nat} {o:Oper} (h:l[i]?=some o):Rk ef l (i+1)=Rk ef l i+(if ef o then 1 else 0):=by
 unfold Rk
 rw[List.take_add_one,h,List.filter_append,F5]
 cases he:ef o<;>simp[he]
theorem B2a {ef:Oper→Bool} {ms efs:List Nat}:∀(l:List Oper) (n:Nat),A4Y E ef ms efs n l=true→∀(j:Nat) (o:Oper),l[j]?=some o→ef o=false→Pt E o.op=true∨∀e∈efs,(e<n+j→tb (ms.getD (n+j) 0) e=true)∧(n+j≤e→tb (ms.getD e 0) (n+j)=true):=by
 intro l
 induction l with
 |nil=>intro n _ j o h;simp at h
 |cons p l ih=>
  intro n h j o ho he
  simp only[A4Y,Iv] at h
  cases j with
  |zero=>
   simp at ho;subst ho
   have h1:=h.1
   rw[he,Bool.false_or,l1d] at h1
   rcases h1 with h1|h1
   ·exact .inl h1
   ·refine .inr λe hm=> ?_
    have:=GW.1 h1 e hm
    cases hb:Nat.blt e n
    ·rw[hb] at this
     have:¬e<n:= λhlt=>by rw[←TS,hb] at hlt;cases hlt
     exact⟨λhlt=>by omega,λ_=>by simpa using ‹_›⟩
    ·rw[hb] at this
     have hlt:e<n:=by rw[←TS];exact hb
     exact⟨λ_=>this,λhle=>by omega⟩
  |succ j=>
   have:=ih (n+1) h.2 j o (by simpa using ho) he
   rw[show n+(j+1)=n+1+j from by omega];exact this
theorem Stp.aopg {D:XE→Cf→Nat→List Oper→Bool} (hE:XE.Ok D E P) (hR:RSound D E P R) {all:List Oper} {o:Oper} {v:AV} {H1:Hp} (h:Stp E R fz N all o t H v H1):B7a P E.G ro N all o (FW all o t) H v H1:=by
 obtain⟨_,⟨hg,h⟩|⟨hg,h1,h2⟩⟩:=h
 ·refine .inl ⟨hg,?_⟩
  rcases h with⟨_,⟨H0,h⟩,rfl⟩|⟨_,h⟩
  ·refine Rg.mono (Pk hE hR h) ?_
   rintro v' H' ⟨hH,h⟩
   injection h with h;injection h with h
   exact⟨h,hH⟩
  ·refine Rg.mono (WG hE hR h) ?_
   intro v' H' h
   injection h with h;injection h with h h'
   exact⟨h,h'⟩
 ·exact .inr ⟨hg,h1,h2⟩
theorem A9D {D:XE→Cf→Nat→List Oper→Bool} (hE:XE.Ok D E P) (hR:RSound D E P R) {cf:Cf} {id:Nat} {ops:List Oper} (hD:A2y ops (DU (GM E cf.fz) 0 ops)=true) (hD2:A4Y E (GM E cf.fz) (Po ops) (DU (GM E cf.fz) 0 ops) 0 ops=true) {K:Tm→Hp→Am} (h:zdr E R cf.fz cf.n ops ops t H K=some r):
 Pj P E.G ro m cf.n (.region id ops.toArray true) (λe t' H'=>e= .normal∧K t' H'=some r) t H:=by
 obtain⟨vs,hs,t',H',htr,hK⟩:=A9C ops t H K h
 obtain⟨h0,ht',hH',hst⟩:=htr.at
 have hk:=ZP hD
 have hr:=B2a ops 0 hD2
 have e0:H=(λk=>hs.getD k []) 0:=h0.symm
 rw[e0]
 refine A66 (efs:=DU (GM E cf.fz) 0 ops) (val:= λj=>vs.getD j .dk) (Hs:= λk=>hs.getD k []) hE.mix hk (λo ho=> ?_) ?_ ?_ ?_
 ·obtain⟨i,hi⟩:=List.getElem?_of_mem ho
  exact(hst i o hi).1
 ·intro i o ho hne k hkl hp
  have he:GM E cf.fz o=false:=by
   cases he:GM E cf.fz o
   ·rfl
   ·exact absurd (B4c ops 0 i o ho he) (by rw[Le];exact hne _)
  have hs1:=hst i o ho
  have hc1:Rk (GM E cf.fz) ops (i+1)=Rk (GM E cf.fz) ops i:=by rw[TE ho,he];simp
  rw[hc1] at hs1
  rcases hr i o ho he with hf|hord
  ·refine Stp.aopg (fz:=cf.fz) hE hR ?_
   obtain⟨hd,⟨hg,h⟩|⟨hg,h1,h2⟩⟩:=hs1
   ·rcases h with⟨_,⟨H0,h⟩,_⟩|⟨h,_⟩
    ·exact⟨hd,.inl ⟨hg,.inl ⟨he,⟨H0,by rw[A5B hf _ (hs.getD (Rk (GM E cf.fz) ops i) [])];exact h⟩,rfl⟩⟩⟩
    ·rw[he] at h;cases h
   ·exact⟨hd,.inr ⟨hg,h1,rfl⟩⟩
  ·have hlen:=A42 (ef:=GM E cf.fz) ops 0
   have hil:i<ops.length:=(l0j.1 ho).1
   have hkc:k=Rk (GM E cf.fz) ops i:=by
    rcases Nat.lt_trichotomy k (Rk (GM E cf.fz) ops i) with hlt|heq|hgt
    ·exfalso
     have hkl':k<(DU (GM E cf.fz) 0 ops).length:=by rw[hlen];exact l2m hlt (A1c ops (by omega))
     obtain⟨j,p,h1,h2,h3,h4⟩:=A43 ops 0 k _ (Jw hkl')
     have hji:j<i:=by
      rcases Nat.lt_or_ge j i with h|h
      ·exact h
      ·exfalso;have:=A1c (ef:=GM E cf.fz) ops h;omega
     have:=(hord _ (Qu hkl')).1 (by omega)
     rw[Le,A2o] at this
     have:=hp.1 k _ (Jw hkl') (Ma this)
     omega
    ·exact heq
    ·exfalso
     have hcl:Rk (GM E cf.fz) ops i<(DU (GM E cf.fz) 0 ops).length:=by omega
     obtain⟨j,p,h1,h2,h3,h4⟩:=A43 ops 0 _ _ (Jw hcl)
     have hij:i≤j:=by
      rcases Nat.lt_or_ge j i with h|h
      ·exfalso
       have h5:=A1c (ef:=GM E cf.fz) ops (show j+1≤i from h)
       rw[TE h2,h3] at h5
       simp at h5;omega
      ·exact h
     have:=(hord _ (Qu hcl)).2 (by omega)
     rw[Le,A2o] at this
     have:=hp.2 _ _ (Jw hcl) (Ma this)
     omega
   rw[hkc]
   exact Stp.aopg (fz:=cf.fz) hE hR hs1
 ·intro a i o ho hi
  obtain⟨j,p,h1,h2,h3,h4⟩:=A43 ops 0 a i hi
  rw[Le] at h1
  subst h1
  rw[ho] at h2;injection h2 with h2;subst h2
  have:=hst i o ho
  rw[TE ho,h3,h4] at this
  exact Stp.aopg (fz:=cf.fz) hE hR this
 ·refine⟨rfl,?_⟩
  rw[←ht']
  have:hs.getD (DU (GM E cf.fz) 0 ops).length []=H':=by rw[A42];exact hH'.symm
  rw[this];exact hK
theorem A6z {all:List Oper}:∀(l:List Oper) (t:Tm) (H:Hp) (K:List Tm→List AV→List Hp→Tm→Hp→Am),Zp E R fz N all l t H K=some r→
 ∃ts vs hs t' H',Trc (Stp E R fz N all) (GM E fz) l t H vs hs t' H'∧K ts vs hs t' H'=some r∧vs.length=l.length∧∀(i:Nat) (o:Oper),l[i]?=some o→ts[i]?=some (FW all o (FP l (λj=>vs.getD j .dk) t (λ_=>true) i)):=by
 intro l
 induction l with
 |nil=>intro t H K h;exact⟨_,_,_,_,_,.nil,h,rfl,λi o h=>by simp at h⟩
 |cons o l ih=>
  intro t H K h
  have h:A60 N o.dst (Uk (Ld all o) t λt1=>B0t o.guard
   (@Bool.rec (λ_=>Am) (A4r E R t1 H o.op λv=>Nm t o.dst v λt'=>Zp E R fz N all l t' H λts vs hs=>K (t1::ts) (v::vs) hs) (DC (zop E R fz t1 H o.op λv H'=>some (v,H')) λv H'=>Nm t o.dst v λt'=>Zp E R fz N all l t' H' λts vs hs=>K (t1::ts) (v::vs) (H::hs)) (MS E fz o.op))
   (DC (A9z E R fz all o t1 H) λv H'=>Nm t o.dst v λt'=>Zp E R fz N all l t' H' λts vs hs=>K (t1::ts) (v::vs) (@Bool.rec (λ_=>List Hp) hs (H::hs) (MS E fz o.op))))=some r:=h
  obtain⟨hd,h⟩:=XB h
  rw[A4t] at h
  have hrs:VT (Ld all o) t=FW all o t:=rfl
  rw[hrs] at h
  have key:∀(v:AV) (ts:List Tm) (vs:List AV),(∀(i:Nat) (p:Oper),l[i]?=some p→ts[i]?=some (FW all p (FP l (λj=>vs.getD j .dk) (Oe t o.dst v) (λ_=>true) i)))→
   ∀(i:Nat) (p:Oper),(o::l)[i]?=some p→(FW all o t::ts)[i]?=some (FW all p (FP (o::l) (λj=>(v::vs).getD j .dk) t (λ_=>true) i)):=by
   intro v ts vs hh i p hp
   cases i with
   |zero=>simp at hp;subst hp;rfl
   |succ i=>
    rw[WL]
    have:=hh i p (by simpa using hp)
    simpa using this
  cases hgd:o.guard with
  |none=>
   have hrun:EV all (FW all o t) o= .run:=by unfold EV;rw[hgd]
   rw[hgd] at h
   have h:@Bool.rec (λ_=>Am) (A4r E R (FW all o t) H o.op λv=>Nm t o.dst v λt'=>Zp E R fz N all l t' H λts vs hs=>K (FW all o t::ts) (v::vs) hs) (DC (zop E R fz (FW all o t) H o.op λv H'=>some (v,H')) λv H'=>Nm t o.dst v λt'=>Zp E R fz N all l t' H' λts vs hs=>K (FW all o t::ts) (v::vs) (H::hs)) (MS E fz o.op)=some r:=h
   cases he:MS E fz o.op
   ·rw[he] at h
    obtain⟨v,H0,h3,h4⟩:=A2d h
    rw[Pm] at h4
    obtain⟨ts,vs,hs,t',H',h5,h6,h7,h8⟩:=ih _ _ _ h4
    exact⟨_,_,_,_,_,.rd he ⟨hd,.inl ⟨.inl hrun,.inl ⟨he,⟨_,h3⟩,rfl⟩⟩⟩ h5,h6,by simp[h7],key v ts vs h8⟩
   ·rw[he] at h
    obtain⟨v,H1,h3,h4⟩:=Rb h
    rw[Pm] at h4
    obtain⟨ts,vs,hs,t',H',h5,h6,h7,h8⟩:=ih _ _ _ h4
    exact⟨_,_,_,_,_,.ef he ⟨hd,.inl ⟨.inl hrun,.inr ⟨he,h3⟩⟩⟩ h5,h6,by simp[h7],key v ts vs h8⟩
  |some gg=>
   rw[hgd] at h
   have h:(DC (A9z E R fz all o (FW all o t) H) λv H'=>Nm t o.dst v λt'=>Zp E R fz N all l t' H' λts vs hs=>K (FW all o t::ts) (v::vs) (@Bool.rec (λ_=>List Hp) hs (H::hs) (MS E fz o.op)))=some r:=h
   obtain⟨v,H1,h3,h4⟩:=Rb h
   rw[Pm] at h4
   obtain⟨ts,vs,hs,t',H',h5,h6,h7,h8⟩:=ih _ _ _ h4
   rcases VY h3 with⟨h1,h2⟩|⟨h1,h2⟩
   ·cases he:MS E fz o.op
    ·rw[he] at h1 h6
     obtain⟨v',H0,h9,h10⟩:=Ra h1
     injection h10 with h10;injection h10 with h10 h11
     subst h10 h11
     exact⟨_,_,_,_,_,.rd he ⟨hd,.inl ⟨h2,.inl ⟨he,⟨_,h9⟩,rfl⟩⟩⟩ h5,h6,by simp[h7],key v' ts vs h8⟩
    ·rw[he] at h1 h6
     exact⟨_,_,_,_,_,.ef he ⟨hd,.inl ⟨h2,.inr ⟨he,h1⟩⟩⟩ h5,h6,by simp[h7],key v ts vs h8⟩
   ·have h1:some (AV.v undef,H)=some (v,H1):=h1
    injection h1 with h1;injection h1 with h9 h10
    subst h9 h10
    cases he:GM E fz o
    ·have he':MS E fz o.op=false:=he
     rw[he'] at h6
     exact⟨_,_,_,_,_,.rd he ⟨hd,.inr ⟨h2,rfl,rfl⟩⟩ h5,h6,by simp[h7],key _ ts vs h8⟩
    ·have he':MS E fz o.op=true:=he
     rw[he'] at h6
     exact⟨_,_,_,_,_,.ef he ⟨hd,.inr ⟨h2,rfl,rfl⟩⟩ h5,h6,by simp[h7],key _ ts vs h8⟩
theorem TP {α:Type}:∀{l:List α} {n:Nat} {K:α→Am},A1M l n K=some r→∃a,l[n]?=some a∧K a=some r:=by
 intro l
 induction l with
 |nil=>intro n K h;cases h
 |cons a l ih=>
  intro n K h
  cases n with
  |zero=>exact⟨a,rfl,h⟩
  |succ n=>
   obtain⟨b,h1,h2⟩:=ih (show A1M l n K=some r from h)
   exact⟨b,by simpa using h1,h2⟩
theorem A9F {all:List Oper} {ts:List Tm} {vs:List AV} {hs:List Hp} {K:Am}:∀{bs:List (Nat×Nat)},A9G E R all bs ts vs hs K=some r→
 K=some r∧∀p∈bs,∃o t1 v Hk,all[p.1]?=some o∧ts[p.1]?=some t1∧vs[p.1]?=some v∧hs[p.2]?=some Hk∧(((EV all t1 o= .run∨EV all t1 o= .dep true)∧∃H0,NY E R t1 Hk o.op (λu=>some (u,[]))=some (v,H0))∨(EV all t1 o= .skip∨EV all t1 o= .dep false)):=by
 intro bs
 induction bs with
 |nil=>intro h;exact⟨h,λp hp=>by simp at hp⟩
 |cons p bs ih=>
  intro h
  obtain⟨i,k⟩:=p
  have h:(A1M all i λo=>A1M ts i λt1=>A1M vs i λv=>A1M hs k λH=>QG (gdK all t1 o.guard λg=>@Bool.rec (λ_=>Am) (some (.v (.bool true),[])) (AU (NY E R t1 H o.op λu=>some (u,[])) v) g) (A9G E R all bs ts vs hs K))=some r:=h
  obtain⟨o,h1,h⟩:=TP h
  obtain⟨t1,h2,h⟩:=TP h
  obtain⟨v,h3,h⟩:=TP h
  obtain⟨Hk,h4,h⟩:=TP h
  obtain⟨⟨H0,h5⟩,h6⟩:=B2U h
  obtain⟨h7,h8⟩:=ih h6
  refine⟨h7,λp hp=> ?_⟩
  simp only[XQ] at hp
  rcases hp with rfl|hp
  ·refine⟨o,t1,v,Hk,h1,h2,h3,h4,?_⟩
   rcases VY h5 with⟨h9,h10⟩|⟨h9,h10⟩
   ·exact .inl ⟨h10,ZO h9⟩
   ·exact .inr h10
  ·exact h8 p hp
theorem B66 {ops:List Oper} {efs:List Nat} {i k:Nat} (hp:C2X ops efs i k):∀(l:List Nat) (a:Nat),(∀b,l[b]?=efs[a+b]?)→B0d (Po ops) i k a l=true:=by
 intro l
 induction l with
 |nil=>intro a _;rfl
 |cons e l ih=>
  intro a hl
  have h0:efs[a]?=some e:=by have:=hl 0;simpa using this.symm
  simp only[B0d,Iv,l1d,l14]
  refine⟨?_,?_,ih (a+1) λb=> ?_⟩
  ·cases ht:tb ((Po ops).getD i 0) e
   ·exact .inl rfl
   ·refine .inr ?_
    rw[A2o] at ht
    rw[TS]
    exact hp.1 a e h0 (Ma ht)
  ·cases ht:tb ((Po ops).getD e 0) i
   ·exact .inl rfl
   ·refine .inr ?_
    rw[A2o] at ht
    rw[Xu]
    exact hp.2 a e h0 (Ma ht)
  ·have:=hl (b+1)
   rw[l0q] at this
   rw[this];congr 1;omega
theorem B03 {ef:Oper→Bool} {ms efs:List Nat} {bs:List (Nat×Nat)}:∀(l:List Oper) (n c:Nat),B04 E ef ms efs bs n c l=true→∀(j:Nat) (o:Oper),l[j]?=some o→ef o=false→Pt E o.op=true∨∀k,k≤efs.length→B0d ms (n+j) k 0 efs=true→k=c+Rk ef l j∨(n+j,k)∈bs:=by
 intro l
 induction l with
 |nil=>intro n c _ j o h;simp at h
 |cons p l ih=>
  intro n c h j o ho he
  simp only[B04,Iv] at h
  cases j with
  |zero=>
   simp at ho;subst ho
   have h1:=h.1
   rw[he,Bool.false_or,l1d] at h1
   rcases h1 with h1|h1
   ·exact .inl h1
   ·refine .inr λk hk hp=> ?_
    have h2:=GW.1 h1 k (Iw.2 (by omega))
    rw[Nat.add_zero] at hp
    rw[hp] at h2
    simp only[l1d,Bool.not_true,l0z,false_or,Iv,List.any_eq_true] at h2
    rcases h2 with h2|⟨q,hq,h3,h4⟩
    ·exact .inl (by rw[Uq h2];simp[Rk])
    ·refine .inr ?_
     obtain⟨q1,q2⟩:=q
     have h3:=Uq h3
     have h4:=Uq h4
     simp only at h3 h4
     subst h3 h4
     exact hq
  |succ j=>
   have:=ih (n+1) _ h.2 j o (by simpa using ho) he
   rw[show n+(j+1)=n+1+j from by omega]
   rcases this with h3|h3
   ·exact .inl h3
   ·refine .inr λk hk hp=> ?_
    rcases h3 k hk hp with h4|h4
    ·refine .inl ?_
     rw[h4]
     cases hp':ef p<;>simp[Rk,hp']
     omega
    ·exact .inr h4
theorem Zo {D:XE→Cf→Nat→List Oper→Bool} (hE:XE.Ok D E P) (hR:RSound D E P R) {cf:Cf} {id:Nat} {ops:List Oper} {bs:List (Nat×Nat)} (hD:A2y ops (DU (GM E cf.fz) 0 ops)=true) (hD2:B04 E (GM E cf.fz) (Po ops) (DU (GM E cf.fz) 0 ops) bs 0 0 ops=true) {K:Tm→Hp→Am}
 (h:(Zp E R cf.fz cf.n ops ops t H λts vs hs t' H'=>A9G E R ops bs ts vs hs (K t' H'))=some r):
 Pj P E.G ro m cf.n (.region id ops.toArray true) (λe t' H'=>e= .normal∧K t' H'=some r) t H:=by
 obtain⟨ts,vs,hs,t',H',htr,hK,hvl,hts⟩:=A6z ops t H _ h
 obtain⟨hK,hchk⟩:=A9F hK
 obtain⟨h0,ht',hH',hst⟩:=htr.at
 have hk:=ZP hD
 have hr:=B03 ops 0 0 hD2
 have e0:H=(λk=>hs.getD k []) 0:=h0.symm
 rw[e0]
 refine A66 (efs:=DU (GM E cf.fz) 0 ops) (val:= λj=>vs.getD j .dk) (Hs:= λk=>hs.getD k []) hE.mix hk (λo ho=> ?_) ?_ ?_ ?_
 ·obtain⟨i,hi⟩:=List.getElem?_of_mem ho
  exact(hst i o hi).1
 ·intro i o ho hne k hkl hp
  have he:GM E cf.fz o=false:=by
   cases he:GM E cf.fz o
   ·rfl
   ·exact absurd (B4c ops 0 i o ho he) (by rw[Le];exact hne _)
  have hs1:=hst i o ho
  have hc1:Rk (GM E cf.fz) ops (i+1)=Rk (GM E cf.fz) ops i:=by rw[TE ho,he];simp
  rw[hc1] at hs1
  rcases hr i o ho he with hf|hord
  ·refine Stp.aopg (fz:=cf.fz) hE hR ?_
   obtain⟨hd,⟨hg,h⟩|⟨hg,h1,h2⟩⟩:=hs1
   ·rcases h with⟨_,⟨H0,h⟩,_⟩|⟨h,_⟩
    ·exact⟨hd,.inl ⟨hg,.inl ⟨he,⟨H0,by rw[A5B hf _ (hs.getD (Rk (GM E cf.fz) ops i) [])];exact h⟩,rfl⟩⟩⟩
    ·rw[he] at h;cases h
   ·exact⟨hd,.inr ⟨hg,h1,rfl⟩⟩
  ·rcases hord k hkl (by rw[Le];exact B66 hp _ 0 (λb=>by rw[Le])) with hkc|hmem
   ·rw[hkc,Le]
    exact Stp.aopg (fz:=cf.fz) hE hR hs1
   ·rw[Le] at hmem
    obtain⟨o',t1,v,Hk,h1,h2,h3,h4,h5⟩:=hchk _ hmem
    simp only at h1 h2 h3 h4
    rw[ho] at h1;injection h1 with h1;subst h1
    rw[hts i o ho] at h2;injection h2 with h2;subst h2
    have hv:vs.getD i .dk=v:=by rw[Tw,h3];rfl
    have hhk:hs.getD k []=Hk:=by rw[Tw,h4];rfl
    refine Stp.aopg (fz:=cf.fz) hE hR ?_
    obtain⟨hd,⟨hg,h⟩|⟨hg,h1,h2⟩⟩:=hs1
    ·rcases h5 with⟨_,H0,h5⟩|h5
     ·refine⟨hd,.inl ⟨hg,.inl ⟨he,⟨H0,?_⟩,rfl⟩⟩⟩
      rw[hv,hhk];exact h5
     ·exfalso
      rcases hg with hg|hg<;>rcases h5 with h5|h5<;>(rw[hg] at h5;cases h5)
    ·exact⟨hd,.inr ⟨hg,h1,rfl⟩⟩
 ·intro a i o ho hi
  obtain⟨j,p,h1,h2,h3,h4⟩:=A43 ops 0 a i hi
  rw[Le] at h1
  subst h1
  rw[ho] at h2;injection h2 with h2;subst h2
  have:=hst i o ho
  rw[TE ho,h3,h4] at this
  exact Stp.aopg (fz:=cf.fz) hE hR this
 ·refine⟨rfl,?_⟩
  rw[←ht']
  have:hs.getD (DU (GM E cf.fz) 0 ops).length []=H':=by rw[A42];exact hH'.symm
  rw[this];exact hK
theorem A6y {D:XE→Cf→Nat→List Oper→Bool} (hE:XE.Ok D E P) (hR:RSound D E P R) {cf:Cf} {id:Nat} {ops:List Oper} (hD:ZQ E cf id ops=true) {K:Tm→Hp→Am} (h:C23 E R cf id ops t H K=some r):
 Pj P E.G ro m cf.n (.region id ops.toArray true) (λe t' H'=>e= .normal∧K t' H'=some r) t H:=by
 unfold ZQ at hD
 rw[Iv] at hD
 have h:(match B2b id cf.rc with
  |none=>zdr E R cf.fz cf.n ops ops t H K
  |some bs=>Zp E R cf.fz cf.n ops ops t H λts vs hs t' H'=>A9G E R ops bs ts vs hs (K t' H'))=some r:=h
 cases hrc:B2b id cf.rc with
 |none=>rw[hrc] at hD h;exact A9D hE hR hD.1 hD.2 h
 |some bs=>rw[hrc] at hD h;exact Zo hE hR hD.1 hD.2 h
theorem A4v {D:XE→Cf→Nat→List Oper→Bool} (hD:∀E cf id ops,D E cf id ops=true→ZQ E cf id ops=true) (hE:XE.Ok D E P) (hR:RSound D E P R):A8o D E P (A8s E R):=by
 intro ro cf id ops t H K r m hb h
 unfold A8s at h
 cases hcb:cf.b
 ·rw[hcb] at h
  exact A6y hE hR (hD _ _ _ _ (hb hcb)) h
 ·rw[hcb] at h
  unfold C22 at h
  obtain⟨h1,h2⟩:=Ji h
  rw[Iv] at h1
  exact Zo hE hR h1.1 h1.2 h2
end
def jn {α:Type} (k:α) (F:α→Am):Am:=(λ(_:Unit)=>F k) FV
def WN (R:Rt) (n:Nat) (f:AV) (t:Tm) (ps:Array Tmp) (aZ bd:Code) (H:Hp) (K:Option (Option Code)→Hp→Am):Am:=
 match f with
 | .fn (.func g) first cap=>Ij H λs=>UZ first (.yl s::cap) λall=>R.call g all ((s,.loop n t ps aZ bd (some none))::H) λ_ H2=>Lf H2 s λx=>Up x λ_ _ _ _ _ pend=>Qf H2 s .gone λH3=>K pend H3
 |_=>none
def VB (p:Option (Option Code)) (x y:Am) (e g:Nat→Am):Am:=
 match p with
 |some none=>x
 |some (some .ret)=>y
 |some (some (.exit id))=>e id
 |some (some (.goto l))=>g l
 |_=>none
def rdK (run:A4h) (N:Nat) (t:Tm) (ps:Array Tmp) (args:List AV) (aZ bd:Code) (H:Hp) (P:Hp→(Hp→Am)→Am) (Q:Exit→Hp→Am):Am:=
 A6U t ps.toList args λt1=>run ⟨true,t1.map (·.1),false,N,[]⟩ aZ t1 H λe t2 H2=>match e with
  | .normal=>P H2 λH3=>run ⟨true,t1.map (·.1),false,N,[]⟩ bd t2 H3 λe _ H4=>Q e H4
  |_=>none
def A4W:Code→List (Operand×Array Tmp×Code×Code)
 | .seq x y=>A4W x++A4W y
 | .cond _ x y=>A4W x++A4W y
 | .block _ x=>A4W x
 | .loop x=>A4W x
 | .scope x=>A4W x
 | .rangeFunc g ps aZ bd=>[(g,ps,aZ,bd)]
 |_=>[]
def V5 (c:Code) (k:Nat):Operand×Array Tmp×Code×Code:=(A4W c).getD k (.func 0,#[],.skip,.skip)
abbrev zI:AV:= .v (.int .i64 0)
abbrev zS:AV:= .v (.string ⟨⟨[]⟩⟩)
abbrev zL:AV:= .v (.slice none 0 0)
abbrev zB:AV:= .v (.bool false)
abbrev I (n:Int):AV:= .v (.int .i64 n)
abbrev Bo (b:Bool):AV:= .v (.bool b)
abbrev S (l:List UInt8):AV:= .v (.string ⟨⟨l⟩⟩)
section
variable {K:AV→Am} {i j:TI} {k:IntKind} {a b:Int}
theorem Co:Aj i .add (.v (.int k a)) (.v (.int k b)) K=K (.v (.int k (k.wrap (a+b)))):=by
 have:Aj i .add (.v (.int k a)) (.v (.int k b)) K=ck (decide (k=k)) (Lg k (a+b) λz=>K (.v (.int k z))):=rfl
 rw[this,decide_eq_true rfl];exact Ga _ _ _
theorem GN:Aj i .sub (.v (.int k a)) (.v (.int k b)) K=K (.v (.int k (k.wrap (a-b)))):=by
 have:Aj i .sub (.v (.int k a)) (.v (.int k b)) K=ck (decide (k=k)) (Lg k (a-b) λz=>K (.v (.int k z))):=rfl
 rw[this,decide_eq_true rfl];exact Ga _ _ _
theorem Ni:Aj i .mul (.v (.int k a)) (.v (.int k b)) K=K (.v (.int k (k.wrap (a*b)))):=by
 have:Aj i .mul (.v (.int k a)) (.v (.int k b)) K=ck (decide (k=k)) (Lg k (a*b) λz=>K (.v (.int k z))):=rfl
 rw[this,decide_eq_true rfl];exact Ga _ _ _
theorem B3V (h:b≠0):Aj i .quo (.v (.int k a)) (.v (.int k b)) K=K (.v (.int k (k.wrap (a.tdiv b)))):=by
 have:Aj i .quo (.v (.int k a)) (.v (.int k b)) K=ck (decide (k=k)) (ck (!ieq b 0) (Lg k (a.tdiv b) λz=>K (.v (.int k z)))):=rfl
 rw[this,decide_eq_true rfl,Ns,decide_eq_false h];exact Ga _ _ _
theorem T9 (h:b≠0):Aj i .rem (.v (.int k a)) (.v (.int k b)) K=K (.v (.int k (a.tmod b))):=by
 have:Aj i .rem (.v (.int k a)) (.v (.int k b)) K=ck (decide (k=k)) (ck (!ieq b 0) (fI (a.tmod b) λz=>K (.v (.int k z)))):=rfl
 rw[this,decide_eq_true rfl,Ns,decide_eq_false h];exact QT (a.tmod b) (λz=>K (.v (.int k z)))
theorem Dj:Aj i .lss (.v (.int k a)) (.v (.int k b)) K=K (Bo (decide (a<b))):=by
 have:Aj i .lss (.v (.int k a)) (.v (.int k b)) K=ck (decide (k=k)) (bB (!YL b a) K):=rfl
 rw[this,decide_eq_true rfl,Jc]
 have e:(!decide (b≤a))=decide (a<b):=by rw[YK];simp
 rw[e];exact Lz _ _
theorem QY:Aj i .leq (.v (.int k a)) (.v (.int k b)) K=K (Bo (decide (a≤b))):=by
 have:Aj i .leq (.v (.int k a)) (.v (.int k b)) K=ck (decide (k=k)) (bB (YL a b) K):=rfl
 rw[this,decide_eq_true rfl,Jc];exact Lz _ _
theorem DQ:Aj i .gtr (.v (.int k a)) (.v (.int k b)) K=K (Bo (decide (b<a))):=by
 have:Aj i .gtr (.v (.int k a)) (.v (.int k b)) K=ck (decide (k=k)) (bB (!YL a b) K):=rfl
 rw[this,decide_eq_true rfl,Jc]
 have e:(!decide (a≤b))=decide (b<a):=by rw[YK];simp
 rw[e];exact Lz _ _
theorem Lx:Aj i .geq (.v (.int k a)) (.v (.int k b)) K=K (Bo (decide (b≤a))):=by
 have:Aj i .geq (.v (.int k a)) (.v (.int k b)) K=ck (decide (k=k)) (bB (YL b a) K):=rfl
 rw[this,decide_eq_true rfl,Jc];exact Lz _ _
theorem CG:Aj i .eql (.v (.int k a)) (.v (.int k b)) K=K (Bo (decide (a=b))):=by
 have:Aj i .eql (.v (.int k a)) (.v (.int k b)) K=ck (decide (k=k)) (bB (ieq a b) K):=rfl
 rw[this,decide_eq_true rfl,Ns];exact Lz _ _
theorem F8:Aj i .neq (.v (.int k a)) (.v (.int k b)) K=K (Bo (!decide (a=b))):=by
 have:Aj i .neq (.v (.int k a)) (.v (.int k b)) K=ck (decide (k=k)) (bB (!ieq a b) K):=rfl
 rw[this,decide_eq_true rfl,Ns];exact Lz _ _
theorem Kz {s u:List UInt8}:Aj i .eql (S s) (S u) K=K (Bo (decide (s=u))):=by
 have:Aj i .eql (S s) (S u) K=bB (eqB s u) K:=rfl
 rw[this,OR,Lz,show(s==u)=decide (s=u) from by by_cases h:s=u<;>simp[h]]
theorem X9 {s u:List UInt8}:Aj i .neq (S s) (S u) K=K (Bo (!decide (s=u))):=by
 have:Aj i .neq (S s) (S u) K=bB (!eqB s u) K:=rfl
 rw[this,OR,Lz,show(s==u)=decide (s=u) from by by_cases h:s=u<;>simp[h]]
theorem DV {q:Bool} {x y:Am}:Ar (Bo q) x y=if q=true then x else y:=by cases q<;>rfl
end
theorem Cm {α:Type} (k:α) (F:α→Am):jn k F=F k:=rfl
theorem Ca {x:Int} (h1: -9223372036854775808≤x) (h2:x<9223372036854775808):IntKind.i64.wrap x=x:=by
 simp only[IntKind.wrap,IntKind.bits,IntKind.signed]
 have e1:(2^64:Int)=18446744073709551616:=by decide
 have e2:(2^(64-1):Int)=9223372036854775808:=by decide
 simp only[e1,e2,l16,decide_eq_true_eq]
 split<;>omega
end Go.Abs
end
