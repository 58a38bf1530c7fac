import Derived.Test.YtlbhdmbfdcohhaaGreatDoorS09
set_option linter.all false
set_option maxHeartbeats 100000000
noncomputable section
namespace Go.Abs
open Go.RowKit
def jn {α:Type} (k:α) (F:α→Aj):Aj:=(λ(_:Unit)=>F k) GT
def Zy (R:Rt) (n:Nat) (f:AV) (t:Tm) (ps:Array Tmp) (aZ bd:Code) (H:Hp) (K:Option (Option Code)→Hp→Aj):Aj:=
 match f with
 | .fn (.func g) first cap=>XA3 H λs=>UT first (.yl s::cap) λall=>R.call g all ((s,.loop n t ps aZ bd (some none))::H) λ_ H2=>JL H2 s λx=>VJ x λ_ _ _ _ _ pend=>LL H2 s .gone λH3=>K pend H3
 |_=>none
def Zg (p:Option (Option Code)) (x y:Aj) (e g:Nat→Aj):Aj:=
 match p with
 |some none=>x
 |some (some .ret)=>y
 |some (some (.exit id))=>e id
 |some (some (.goto l))=>g l
 |_=>none
def rdK (run:A5y) (N:Nat) (t:Tm) (ps:Array Tmp) (args:List AV) (aZ bd:Code) (H:Hp) (P:Hp→(Hp→Aj)→Aj) (Q:Exit→Hp→Aj):Aj:=
 A8c t ps.toList args λt1=>run ⟨true,t1.map (·.1),false,N,[]⟩ aZ t1 H λe t2 H2=>match e with
  | .normal=>P H2 λH3=>run ⟨true,t1.map (·.1),false,N,[]⟩ bd t2 H3 λe _ H4=>Q e H4
  |_=>none
def A6k:Code→List (Operand×Array Tmp×Code×Code)
 | .seq x y=>A6k x++A6k y
 | .cond _ x y=>A6k x++A6k y
 | .block _ x=>A6k x
 | .loop x=>A6k x
 | .scope x=>A6k x
 | .rangeFunc g ps aZ bd=>[(g,ps,aZ,bd)]
 |_=>[]
def Zd (c:Code) (k:Nat):Operand×Array Tmp×Code×Code:=(A6k c).getD k (.func 0,#[],.skip,.skip)
abbrev zI:AV:= .v (.int .i64 0)
abbrev zS:AV:= .v (.string ⟨⟨[]⟩⟩)
abbrev zL:AV:= .v (.slice none 0 0)
abbrev zB:AV:= .v (.bool false)
abbrev I (n:Int):AV:= .v (.int .i64 n)
abbrev Bo (b:Bool):AV:= .v (.bool b)
abbrev S (l:List UInt8):AV:= .v (.string ⟨⟨l⟩⟩)
section
variable {K:AV→Aj} {i j:TI} {k:IntKind} {a b:Int}
theorem CH:Ak i .add (.v (.int k a)) (.v (.int k b)) K=K (.v (.int k (k.wrap (a+b)))):=by
 have:Ak i .add (.v (.int k a)) (.v (.int k b)) K=ck (decide (k=k)) (MD k (a+b) λz=>K (.v (.int k z))):=rfl
 rw[this,decide_eq_true rfl];exact He _ _ _
theorem HY:Ak i .sub (.v (.int k a)) (.v (.int k b)) K=K (.v (.int k (k.wrap (a-b)))):=by
 have:Ak i .sub (.v (.int k a)) (.v (.int k b)) K=ck (decide (k=k)) (MD k (a-b) λz=>K (.v (.int k z))):=rfl
 rw[this,decide_eq_true rfl];exact He _ _ _
theorem OB:Ak i .mul (.v (.int k a)) (.v (.int k b)) K=K (.v (.int k (k.wrap (a*b)))):=by
 have:Ak i .mul (.v (.int k a)) (.v (.int k b)) K=ck (decide (k=k)) (MD k (a*b) λz=>K (.v (.int k z))):=rfl
 rw[this,decide_eq_true rfl];exact He _ _ _
theorem B5e (h:b≠0):Ak i .quo (.v (.int k a)) (.v (.int k b)) K=K (.v (.int k (k.wrap (a.tdiv b)))):=by
 have:Ak i .quo (.v (.int k a)) (.v (.int k b)) K=ck (decide (k=k)) (ck (!ieq b 0) (MD k (a.tdiv b) λz=>K (.v (.int k z)))):=rfl
 rw[this,decide_eq_true rfl,OM,decide_eq_false h];exact He _ _ _
theorem UZ (h:b≠0):Ak i .rem (.v (.int k a)) (.v (.int k b)) K=K (.v (.int k (a.tmod b))):=by
 have:Ak i .rem (.v (.int k a)) (.v (.int k b)) K=ck (decide (k=k)) (ck (!ieq b 0) (fI (a.tmod b) λz=>K (.v (.int k z)))):=rfl
 rw[this,decide_eq_true rfl,OM,decide_eq_false h];exact Sh (a.tmod b) (λz=>K (.v (.int k z)))
theorem DL:Ak i .lss (.v (.int k a)) (.v (.int k b)) K=K (Bo (decide (a<b))):=by
 have:Ak i .lss (.v (.int k a)) (.v (.int k b)) K=ck (decide (k=k)) (bB (!ile b a) K):=rfl
 rw[this,decide_eq_true rfl,JZ]
 have e:(!decide (b≤a))=decide (a<b):=by rw[l0w];simp
 rw[e];exact MT _ _
theorem X8:Ak i .leq (.v (.int k a)) (.v (.int k b)) K=K (Bo (decide (a≤b))):=by
 have:Ak i .leq (.v (.int k a)) (.v (.int k b)) K=ck (decide (k=k)) (bB (ile a b) K):=rfl
 rw[this,decide_eq_true rfl,JZ];exact MT _ _
theorem DM:Ak i .gtr (.v (.int k a)) (.v (.int k b)) K=K (Bo (decide (b<a))):=by
 have:Ak i .gtr (.v (.int k a)) (.v (.int k b)) K=ck (decide (k=k)) (bB (!ile a b) K):=rfl
 rw[this,decide_eq_true rfl,JZ]
 have e:(!decide (a≤b))=decide (b<a):=by rw[l0w];simp
 rw[e];exact MT _ _
theorem MR:Ak i .geq (.v (.int k a)) (.v (.int k b)) K=K (Bo (decide (b≤a))):=by
 have:Ak i .geq (.v (.int k a)) (.v (.int k b)) K=ck (decide (k=k)) (bB (ile b a) K):=rfl
 rw[this,decide_eq_true rfl,JZ];exact MT _ _
theorem Dd:Ak i .eql (.v (.int k a)) (.v (.int k b)) K=K (Bo (decide (a=b))):=by
 have:Ak i .eql (.v (.int k a)) (.v (.int k b)) K=ck (decide (k=k)) (bB (ieq a b) K):=rfl
 rw[this,decide_eq_true rfl,OM];exact MT _ _
theorem G6:Ak i .neq (.v (.int k a)) (.v (.int k b)) K=K (Bo (!decide (a=b))):=by
 have:Ak i .neq (.v (.int k a)) (.v (.int k b)) K=ck (decide (k=k)) (bB (!ieq a b) K):=rfl
 rw[this,decide_eq_true rfl,OM];exact MT _ _
theorem L9 {s u:List UInt8}:Ak i .eql (S s) (S u) K=K (Bo (decide (s=u))):=by
 have:Ak i .eql (S s) (S u) K=bB (eqB s u) K:=rfl
 rw[this,OQ,MT,show(s==u)=decide (s=u) from by by_cases h:s=u<;>simp[h]]
theorem YT {s u:List UInt8}:Ak i .neq (S s) (S u) K=K (Bo (!decide (s=u))):=by
 have:Ak i .neq (S s) (S u) K=bB (!eqB s u) K:=rfl
 rw[this,OQ,MT,show(s==u)=decide (s=u) from by by_cases h:s=u<;>simp[h]]
theorem EB {q:Bool} {x y:Aj}:Aw (Bo q) x y=if q=true then x else y:=by cases q<;>rfl
end
theorem BX {α:Type} (k:α) (F:α→Aj):jn k F=F k:=rfl
theorem Cp {x:Int} (h1: -9223372036854775808≤x) (h2:x<9223372036854775808):IntKind.i64.wrap x=x:=by
 simp only[IntKind.wrap,IntKind.bits,IntKind.signed]
 have e1:(2^64:Int)=18446744073709551616:=by decide
 have e2:(2^(64-1):Int)=9223372036854775808:=by decide
 simp only[e1,e2,l16,decide_eq_true_eq]
 split<;>omega
def BT.All {α:Type} (p:Nat→α→Prop):BT α→Prop
 | .leaf=>True
 | .node k v l r=>p k v∧l.All p∧r.All p
theorem A5x {α:Type} {p:Nat→α→Prop}:(BT.leaf:BT α).All p:=trivial
theorem A5w {α:Type} {p:Nat→α→Prop} {k:Nat} {v:α} {l r:BT α} (h:p k v) (hl:l.All p) (hr:r.All p):(BT.node k v l r).All p:=⟨h,hl,hr⟩
theorem BT.All.get {α:Type} {p:Nat→α→Prop}:∀{b:BT α},b.All p→∀{i:Nat} {v:α},b.get i=some v→p i v:=by
 intro b
 induction b with
 |leaf=>intro _ i v h;cases h
 |node k w l r ihl ihr=>
  intro ha i v h
  obtain⟨h1,h2,h3⟩:=ha
  simp only[BT.get] at h
  split at h
  ·rename_i hk
   injection h with h
   subst h
   rw[VC hk];exact h1
  ·split at h
   ·exact ihl h2 h
   ·exact ihr h3 h
abbrev NF:=Rt→List AV→Hp→KV→Aj
def ar0 (F:Hp→KV→Aj) (l:List AV):Hp→KV→Aj:=match l with|[]=>F|_=> λ_ _=>none
def ar1 (F:AV→Hp→KV→Aj) (l:List AV):Hp→KV→Aj:=match l with|[a]=>F a|_=> λ_ _=>none
def ar2 (F:AV→AV→Hp→KV→Aj) (l:List AV):Hp→KV→Aj:=match l with|[a,b]=>F a b|_=> λ_ _=>none
def ar3 (F:AV→AV→AV→Hp→KV→Aj) (l:List AV):Hp→KV→Aj:=match l with|[a,b,c]=>F a b c|_=> λ_ _=>none
def ar4 (F:AV→AV→AV→AV→Hp→KV→Aj) (l:List AV):Hp→KV→Aj:=match l with|[a,b,c,d]=>F a b c d|_=> λ_ _=>none
def ar5 (F:AV→AV→AV→AV→AV→Hp→KV→Aj) (l:List AV):Hp→KV→Aj:=match l with|[a,b,c,d,e]=>F a b c d e|_=> λ_ _=>none
def TX (E:XE) (R:Rt):A5y:= λcf c t H K=>W9 E R (A9D E R) cf c t H K
def Lk (E:XE) (f:Nat) (F:NF):Prop:=∀(R:Rt) (args:List AV) (H:Hp) (K:KV) (r:AV×Hp),F R args H K=some r→zfn E (TX E R) f args H K=some r
theorem lk0 {E:XE} {f:Nat} {F:Rt→Hp→KV→Aj} (h:∀R H K,zfn E (TX E R) f [] H K=F R H K):Lk E f λR=>ar0 (F R):= λR args H K r hr=>by
 match args,hr with
 |[],hr=>exact(h R H K).trans hr
theorem lk1 {E:XE} {f:Nat} {F:Rt→AV→Hp→KV→Aj} (h:∀R a H K,zfn E (TX E R) f [a] H K=F R a H K):Lk E f λR=>ar1 (F R):= λR args H K r hr=>by
 match args,hr with
 |[a],hr=>exact(h R a H K).trans hr
theorem lk2 {E:XE} {f:Nat} {F:Rt→AV→AV→Hp→KV→Aj} (h:∀R a b H K,zfn E (TX E R) f [a,b] H K=F R a b H K):Lk E f λR=>ar2 (F R):= λR args H K r hr=>by
 match args,hr with
 |[a,b],hr=>exact(h R a b H K).trans hr
theorem lk3 {E:XE} {f:Nat} {F:Rt→AV→AV→AV→Hp→KV→Aj} (h:∀R a b c H K,zfn E (TX E R) f [a,b,c] H K=F R a b c H K):Lk E f λR=>ar3 (F R):= λR args H K r hr=>by
 match args,hr with
 |[a,b,c],hr=>exact(h R a b c H K).trans hr
theorem lk4 {E:XE} {f:Nat} {F:Rt→AV→AV→AV→AV→Hp→KV→Aj} (h:∀R a b c d H K,zfn E (TX E R) f [a,b,c,d] H K=F R a b c d H K):Lk E f λR=>ar4 (F R):= λR args H K r hr=>by
 match args,hr with
 |[a,b,c,d],hr=>exact(h R a b c d H K).trans hr
theorem lk5 {E:XE} {f:Nat} {F:Rt→AV→AV→AV→AV→AV→Hp→KV→Aj} (h:∀R a b c d e H K,zfn E (TX E R) f [a,b,c,d,e] H K=F R a b c d e H K):Lk E f λR=>ar5 (F R):= λR args H K r hr=>by
 match args,hr with
 |[a,b,c,d,e],hr=>exact(h R a b c d e H K).trans hr
def A2p (E:XE) (nT:BT NF) (R:Rt):B5L:= λf args H K=>match nT.get f with|some F=>F R args H K|none=>zfn E (TX E R) f args H K
abbrev OF:=List AV→Hp→KV→Aj→Aj
def A7A (E:XE) (P:Program) (f:Nat) (F:OF):Prop:=∀(args:List AV) (H:Hp) (K:KV) (alt:Aj) (r:AV×Hp),F args H K alt=some r→
 alt=some r∨(A0e P f∧RC P E.G f args H (λv' H'=>K v' H'=some r))
def A7q (E:XE) (nT:BT NF) (oT:BT OF) (R:Rt):B5L:= λf args H K=>match oT.get f with
 |some F=>F args H K (A2p E nT R f args H K)
 |none=>A2p E nT R f args H K
def Tc (E:XE) (nT:BT NF) (oT:BT OF) (n:Nat):Rt:=@Nat.rec (λ_=>Rt) ⟨λ_ _ _ _=>none,λ_ _ _ _ _=>none⟩ (λ_ R=>⟨A7q E nT oT R,TX E R⟩) n
section
variable {E:XE} {nT:BT NF} {oT:BT OF} {f:Nat}
theorem Sa {F:NF} (h:nT.get f=some F) (ho:oT.get f=none) (n:Nat) (args:List AV) (H:Hp) (K:KV):(Tc E nT oT (n+1)).call f args H K=F (Tc E nT oT n) args H K:=by
 show A7q E nT oT (Tc E nT oT n) f args H K=_
 unfold A7q
 rw[ho]
 unfold A2p
 simp only[h]
theorem A8M {F:Rt→Hp→KV→Aj} (h:nT.get f=some λR=>ar0 (F R)) (ho:oT.get f=none) (n:Nat) (H:Hp) (K:KV):(Tc E nT oT (n+1)).call f [] H K=F (Tc E nT oT n) H K:=Sa h ho n _ H K
theorem A8L {F:Rt→AV→Hp→KV→Aj} (h:nT.get f=some λR=>ar1 (F R)) (ho:oT.get f=none) (n:Nat) (a:AV) (H:Hp) (K:KV):(Tc E nT oT (n+1)).call f [a] H K=F (Tc E nT oT n) a H K:=Sa h ho n _ H K
theorem A8K {F:Rt→AV→AV→Hp→KV→Aj} (h:nT.get f=some λR=>ar2 (F R)) (ho:oT.get f=none) (n:Nat) (a b:AV) (H:Hp) (K:KV):(Tc E nT oT (n+1)).call f [a,b] H K=F (Tc E nT oT n) a b H K:=Sa h ho n _ H K
theorem A8J {F:Rt→AV→AV→AV→Hp→KV→Aj} (h:nT.get f=some λR=>ar3 (F R)) (ho:oT.get f=none) (n:Nat) (a b c:AV) (H:Hp) (K:KV):(Tc E nT oT (n+1)).call f [a,b,c] H K=F (Tc E nT oT n) a b c H K:=Sa h ho n _ H K
theorem A8I {F:Rt→AV→AV→AV→AV→Hp→KV→Aj} (h:nT.get f=some λR=>ar4 (F R)) (ho:oT.get f=none) (n:Nat) (a b c d:AV) (H:Hp) (K:KV):(Tc E nT oT (n+1)).call f [a,b,c,d] H K=F (Tc E nT oT n) a b c d H K:=Sa h ho n _ H K
end
theorem A8H {E:XE} {nT:BT NF} {oT:BT OF} {P:Program} (hE:XE.Ok A1c E P) (hT:nT.All (Lk E)) (hO:oT.All (A7A E P)):∀n,RSound A1c E P (Tc E nT oT n):=by
 intro n
 induction n with
 |zero=>
  refine⟨?_,?_⟩
  ·intro ro cf c t H K r m h1 h2 h
   cases h
  ·intro f args H K r h
   cases h
 |succ n ih=>
  have hZ:A9A A1c E P (A9D E (Tc E nT oT n)):=A5S (λ_ _ _ _ h=>h) hE ih
  have hrun:XM A1c E P (TX E (Tc E nT oT n)):= λro cf c t H K r m hro hd h=>A5T hE ih hZ hro c t H K hd h
  have hcN:∀(f:Nat) (args:List AV) (H:Hp) (K:KV) (r:AV×Hp),A2p E nT (Tc E nT oT n) f args H K=some r→A0e P f∧RC P E.G f args H (λv H'=>K v H'=some r):= λf args H K r h=>by
   unfold A2p at h
   split at h
   ·rename_i F hF
    exact A3o hE hrun (hT.get hF _ _ _ _ _ h)
   ·exact A3o hE hrun h
  refine⟨hrun,λf args H K r h=> ?_⟩
  have h:A7q E nT oT (Tc E nT oT n) f args H K=some r:=h
  unfold A7q at h
  split at h
  ·rename_i F hF
   rcases hO.get hF _ _ _ _ _ h with h|h
   ·exact hcN f args H K r h
   ·exact h
  ·exact hcN f args H K r h
theorem A2w {P:Program} {G:Gl} {f:Nat} {args:List AV} {H:Hp} {x:Value} {K:KV} {r:AV×Hp} (hK:K (.v x) H=some r) (hc:∀w0 C w ys,Rel G w0 C H w→Cj C w args ys→Calls P f ys.toArray w λe w'=>e= .returned x∧Below w.heap.size w w'):RC P G f args H (λv' H'=>K v' H'=some r):= λw0 C w ys hr ha=>
 (hc w0 C w ys hr ha).mono λe w' ⟨he,hb⟩=>⟨.v x,x,C,H,he,hr.of_below hb,.v _,(hr.ext_below hb).frm,hK⟩
def PS (R:Rt) (f:Nat) (args:List AV) (v:AV):Prop:=∀H K,Ah R f args H K=K v
def Fx (b:Bool) (D:Nat) (a a':AV) (H:Hp) (q:Bool):Prop:=∀K:Bool→AV→Aj,HO b H D a K=K q a'
theorem D2 {b:Bool} {D:Nat} {x:Value} {H:Hp}:Fx b D (.v x) (.v x) H false:= λK=>by cases D<;>rfl
theorem Pj {D n:Nat} {cs:List AV} {H:Hp}:Fx true D (.list n cs) (.list n cs) H false:= λK=>by cases D<;>rfl
theorem B0l {D:Nat} {cs:List AV} {H:Hp}:Fx true D (.iptr cs) (.iptr cs) H false:= λK=>by cases D<;>rfl
theorem A0t {D:Nat} {es:List (Value×AV)} {H:Hp}:Fx true D (.imap es) (.imap es) H false:= λK=>by cases D<;>rfl
def Pu (b:Bool) (D:Nat) (l l':List AV) (H:Hp) (q:Bool):Prop:=∀K:Bool→List AV→Aj,Ht (HO b H D) l K=K q l'
theorem Be {b:Bool} {D:Nat} {H:Hp}:Pu b D [] [] H false:= λ_=>rfl
theorem Ay {b:Bool} {D:Nat} {a a':AV} {l l':List AV} {H:Hp} {q q':Bool} (h:Fx b D a a' H q) (k:Pu b D l l' H q'):Pu b D (a::l) (a'::l') H (q||q'):= λK=>by
 have e:Ht (HO b H D) (a::l) K=HO b H D a λq a'=>Ht (HO b H D) l λq' l'=>K (@Bool.rec (λ_=>Bool) q' true q) (a'::l'):=rfl
 rw[e,h,k]
 cases q<;>rfl
theorem KA {b:Bool} {D:Nat} {H:Hp} {α:Type} (f:α→Value):∀(l:List α),Pu b D (l.map λx=> .v (f x)) (l.map λx=> .v (f x)) H false
 |[]=>Be
 |a::l=>Ay (q:=false) (q':=false) D2 (KA f l)
theorem Qm {b:Bool} {D:Nat} {cs cs':List AV} {H:Hp} {q:Bool} (h:Pu b D cs cs' H q):Fx b (D+1) (.agg cs) (.agg cs') H q:= λK=>h _
theorem UO {b:Bool} {D:Nat} {cs cs':List AV} {H:Hp} {q:Bool} (h:Pu b D cs cs' H q):Fx b (D+1) (.tup cs) (.tup cs') H q:= λK=>h _
theorem BI {H:Hp} {r:Nat} {x:Row} {K:Row→Aj} (h:Aq H r=some x):JL H r K=K x:=by
 induction H with
 |nil=>simp[Aq] at h
 |cons p H ih=>
  obtain⟨k,y⟩:=p
  simp only[Aq] at h
  have e:JL ((k,y)::H) r K=@Bool.rec (λ_=>Aj) (JL H r K) (K y) (Nat.beq r k):=rfl
  rw[e]
  by_cases hk:r=k
  ·rw[if_pos hk] at h
   rw[hk,Zj,←(Xi h).1]
  ·rw[if_neg hk] at h
   have:Nat.beq r k=false:=by
    cases hb:Nat.beq r k
    ·rfl
    ·exact absurd (VC hb) hk
   rw[this]
   exact ih h
theorem Xt {b:Bool} {D:Nat} {H:Hp} {sz s n:Nat} {q:Bool} {e:TypeId} {cs cs':List AV} {q':Bool} (hl:Aq H s=some (.cells q e cs)) (hn:cs.length=n*sz) (h:Pu b D cs cs' H q'):Fx b (D+1) (.sl sz s 0 n) (.list n cs') H true:= λK=>by
 have e1:HO b H (D+1) (.sl sz s 0 n) K=JL H s λx=>Ky x λ_ cs=>Gs (Nat.mul n sz) (Dv 0 cs) λc=>Ht (HO b H D) c λ_ c'=>K true (.list n c'):=rfl
 rw[e1,BI hl]
 have e2:(Ky (.cells q e cs) λ_ cs=>Gs (Nat.mul n sz) (Dv 0 cs) λc=>Ht (HO b H D) c λ_ c'=>K true (.list n c'))=Gs (n*sz) cs λc=>Ht (HO b H D) c λ_ c'=>K true (.list n c'):=rfl
 rw[e2,NB _ _ _ (by omega),l1z (by omega),h]
def CS (R:Rt) (f:Nat) (args:List AV) (v:AV):Prop:=∀K:KV,(∀v0 H0,(∀b,∃q,Fx b depth v0 v H0 q)→K v0 H0=some (v,[]))→R.call f args [] K=some (v,[])
theorem Ba {R:Rt} {f:Nat} {args args':List AV} {v:AV} {H:Hp} {q:Bool} {K:AV→Aj} (hc:CS R f args' v) (ha:Pu true depth args args' H q):Ah R f args H K=K v:=by
 unfold Ah
 rw[ha]
 have:=hc (λv0 H'=>HO (!q) H' depth v0 λ_ v'=>some (v',[])) (λv0 H0 h=>by
  obtain⟨q',h'⟩:=h (!q)
  exact h' _)
 rw[this]
 rfl
theorem CS.ps {R:Rt} {f:Nat} {args:List AV} {v:AV} (hc:CS R f args v) (ha:∀H,Pu true depth args args H false):PS R f args v:= λH K=>Ba hc (ha H)
abbrev W (x:BitVec 32):AV:= .v (.int .u32 (x.toNat:Int))
abbrev By (b:UInt8):AV:= .v (.int .u8 (b.toNat:Int))
def KD (l:List UInt8):List AV:=l.map λb=>By b
def Dx (l:List (BitVec 32)):List AV:=l.map λx=>W x
theorem VP {k:IntKind} (h:k.signed=false) (z:Int):k.wrap z=z%(2^k.bits:Nat):=by
 simp only[IntKind.wrap,h,Bool.false_and]
 simp
theorem JV (x:BitVec 32):BitVec.ofInt 32 (x.toNat:Int)=x:=by
 apply BitVec.eq_of_toNat_eq
 simp
theorem WD {n:Nat} (h:n<4294967296):IntKind.u32.wrap (n:Int)=(n:Int):=by
 rw[VP rfl]
 show(n:Int)%(4294967296:Nat)=n
 omega
section
variable {K:AV→Aj} {i j:TI} {x y:BitVec 32}
theorem A5o (op:BinOp) (f:IT) (hs:Hn op=false) (hf:A9b op=f):Ak i op (W x) (W y) K=f .u32 x.toNat y.toNat K:=by
 have:Ak i op (W x) (W y) K=@Bool.rec (λ_=>Aj) (ck (decide (IntKind.u32= .u32)) (A9b op .u32 x.toNat y.toNat K)) (A9b op .u32 x.toNat y.toNat K) (Hn op):=rfl
 rw[this,hs,hf];rfl
theorem NM:Ak i .add (W x) (W y) K=K (W (x+y)):=by
 rw[A5o .add B80 rfl rfl]
 unfold B80
 rw[He,VP rfl]
 have:((x.toNat:Int)+(y.toNat:Int))%(2^IntKind.u32.bits:Nat)=((x+y).toNat:Int):=by
  rw[BitVec.toNat_add]
  show((x.toNat:Int)+(y.toNat:Int))%(4294967296:Nat)=_
  simp only[Int.natCast_emod,Int.natCast_add]
 show K (.v (.int .u32 (((x.toNat:Int)+(y.toNat:Int))%(2^IntKind.u32.bits:Nat))))=_
 rw[this]
theorem Sk:Ak i .xor (W x) (W y) K=K (W (x^^^y)):=by
 rw[A5o .xor B7Y rfl rfl]
 unfold B7Y
 rw[Sh]
 have e:(BitVec.ofInt IntKind.u32.bits (x.toNat:Int)^^^BitVec.ofInt IntKind.u32.bits (y.toNat:Int)).toNat=(x^^^y).toNat:=by
  show(BitVec.ofInt 32 (x.toNat:Int)^^^BitVec.ofInt 32 (y.toNat:Int)).toNat=_
  rw[JV,JV]
 rw[e,WD (x^^^y).isLt]
theorem A44:Ak i .and (W x) (W y) K=K (W (x&&&y)):=by
 rw[A5o .and B7Z rfl rfl]
 unfold B7Z
 rw[Sh]
 have e:(BitVec.ofInt IntKind.u32.bits (x.toNat:Int)&&&BitVec.ofInt IntKind.u32.bits (y.toNat:Int)).toNat=(x&&&y).toNat:=by
  show(BitVec.ofInt 32 (x.toNat:Int)&&&BitVec.ofInt 32 (y.toNat:Int)).toNat=_
  rw[JV,JV]
 rw[e,WD (x&&&y).isLt]
theorem X7:Ak i .or (W x) (W y) K=K (W (x|||y)):=by
 rw[A5o .or iOr rfl rfl]
 unfold iOr
 rw[Sh]
 have e:(BitVec.ofInt IntKind.u32.bits (x.toNat:Int)|||BitVec.ofInt IntKind.u32.bits (y.toNat:Int)).toNat=(x|||y).toNat:=by
  show(BitVec.ofInt 32 (x.toNat:Int)|||BitVec.ofInt 32 (y.toNat:Int)).toNat=_
  rw[JV,JV]
 rw[e,WD (x|||y).isLt]
theorem B4V:GR .xor (W x) K=K (W (~~~x)):=by
 have e0:GR .xor (W x) K=fI (IntKind.u32.wrap ((BitVec.ofInt IntKind.u32.bits (if IntKind.u32.signed=true then-1 else IntKind.u32.max)^^^BitVec.ofInt IntKind.u32.bits (x.toNat:Int)).toNat)) λz=>K (.v (.int .u32 z)):=rfl
 rw[e0,Sh]
 have e:(BitVec.ofInt IntKind.u32.bits (if IntKind.u32.signed=true then-1 else IntKind.u32.max)^^^BitVec.ofInt IntKind.u32.bits (x.toNat:Int)).toNat=(~~~x).toNat:=by
  show(BitVec.ofInt 32 4294967295^^^BitVec.ofInt 32 (x.toNat:Int)).toNat=_
  rw[JV]
  have:BitVec.ofInt 32 4294967295=BitVec.allOnes 32:=by decide
  rw[this,BitVec.allOnes_xor]
 rw[e,WD (~~~x).isLt]
theorem Ir {q:IntKind} {z:Int} {k:Nat} (hz:z=k) (hk:k≤32):Ak i .shr (W x) (.v (.int q z)) K=K (W (x>>>k)):=by
 subst hz
 have:Ak i .shr (W x) (.v (.int q (k:Int))) K=ck (ile 0 (k:Int)) (fI ((x.toNat:Int).fdiv (2^(min (k:Int).toNat 32))) λz=>K (.v (.int .u32 z))):=rfl
 rw[this,Sh]
 have h1:ile 0 (k:Int)=true:=by rw[JZ];simp
 have h2:(x.toNat:Int).fdiv (2^(min (k:Int).toNat 32))=((x>>>k).toNat:Int):=by
  rw[XP,l1x hk,BitVec.toNat_ushiftRight,Nat.shiftRight_eq_div_pow]
  have:((2:Int)^k)=((2^k:Nat):Int):=by simp
  rw[this,Int.fdiv_eq_ediv_of_nonneg _ (Int.natCast_nonneg _)]
  exact(Int.natCast_ediv _ _).symm
 rw[h1,h2]
 rfl
theorem Ke {q:IntKind} {z:Int} {k:Nat} (hz:z=k) (hk:k≤32):Ak i .shl (W x) (.v (.int q z)) K=K (W (x<<<k)):=by
 subst hz
 have:Ak i .shl (W x) (.v (.int q (k:Int))) K=ck (ile 0 (k:Int)) (MD .u32 ((x.toNat:Int)*2^(min (k:Int).toNat 32)) λz=>K (.v (.int .u32 z))):=rfl
 rw[this,He,VP rfl]
 have h1:ile 0 (k:Int)=true:=by rw[JZ];simp
 have h2:((x.toNat:Int)*2^(min (k:Int).toNat 32))%(2^IntKind.u32.bits:Nat)=((x<<<k).toNat:Int):=by
  rw[XP,l1x hk,BitVec.toNat_shiftLeft,Nat.shiftLeft_eq]
  have:((2:Int)^k)=((2^k:Nat):Int):=by simp
  rw[this,←Int.natCast_mul]
  exact(Int.natCast_emod _ _).symm
 rw[h1,h2]
 rfl
theorem B5a {a b a' b':Nat} {zi zj:AV} {k:IntKind}:F2 ⟨a,b,.int k,zi⟩ ⟨a',b',.int .u8,zj⟩ (W x) K=K (By (UInt8.ofNat x.toNat)):=by
 have:F2 ⟨a,b,.int k,zi⟩ ⟨a',b',.int .u8,zj⟩ (W x) K=MD .u8 (x.toNat:Int) λz=>K (.v (.int .u8 z)):=rfl
 rw[this,He,VP rfl]
 have:(x.toNat:Int)%(2^IntKind.u8.bits:Nat)=((UInt8.ofNat x.toNat).toNat:Int):=by
  rw[UInt8.toNat_ofNat']
  exact(Int.natCast_emod _ _).symm
 rw[this]
theorem B5b {a b a' b':Nat} {zi zj:AV} {k:IntKind} {c:UInt8}:F2 ⟨a,b,.int k,zi⟩ ⟨a',b',.int .u32,zj⟩ (By c) K=K (W (BitVec.ofNat 32 c.toNat)):=by
 have:F2 ⟨a,b,.int k,zi⟩ ⟨a',b',.int .u32,zj⟩ (By c) K=MD .u32 (c.toNat:Int) λz=>K (.v (.int .u32 z)):=rfl
 rw[this,He,VP rfl]
 have:(c.toNat:Int)%(2^IntKind.u32.bits:Nat)=((BitVec.ofNat 32 c.toNat).toNat:Int):=by
  rw[BitVec.toNat_ofNat]
  exact(Int.natCast_emod _ _).symm
 rw[this]
theorem B5i {v:AV} {H:Hp}:Ai (some (v,H)) K=K v:=id rfl
theorem A9k {v:AV} {H:Hp} {K':KV}:Ea (some (v,H)) K'=K' v H:=id rfl
end
def Wf (H:Hp):Prop:=∀k∈H.map (·.1),k<A2 H
theorem B4q (H:Hp) (r:Nat) (y:Row):(upd H r y).map (·.1)=H.map (·.1):=by
 induction H with
 |nil=>rfl
 |cons p H ih=>
  obtain⟨k,x⟩:=p
  by_cases hk:r=k
  ·subst hk;simp[upd]
  ·simp[upd,hk,ih]
theorem FH:Wf []:= λk h=>by simp at h
theorem Br {H:Hp} {x:Row} (h:Wf H):Wf ((A2 H,x)::H):= λk hk=>by
 show k<A2 H+1
 simp only[XS,UJ] at hk
 rcases hk with rfl|hk
 ·omega
 ·have:=h k hk;omega
theorem BR {H:Hp} {r:Nat} {y:Row} (h:Wf H):Wf (upd H r y):= λk hk=>by rw[BY];rw[B4q] at hk;exact h k hk
theorem B4e {H:Hp} {s:Nat} {x:Row} (h:Aq H s=some x):s∈H.map (·.1):=by
 induction H with
 |nil=>simp[Aq] at h
 |cons p H ih=>
  obtain⟨k,y⟩:=p
  simp only[Aq] at h
  split at h
  ·rename_i hk;simp[hk]
  ·simp[ih h]
theorem Wf.lt {H:Hp} (h:Wf H) {s:Nat} {x:Row} (hl:Aq H s=some x):s<A2 H:=h s (B4e hl)
theorem A1 {H:Hp} {x:Row} (hx:x≠.gone):Aq ((A2 H,x)::H) (A2 H)=some x:=by
 simp only[Aq,if_pos]
 cases x<;>first|rfl|exact absurd rfl hx
theorem AS {H:Hp} {x y:Row} {s:Nat} (hs:s<A2 H) (hl:Aq H s=some y):Aq ((A2 H,x)::H) s=some y:=by
 simp only[Aq]
 rw[if_neg (by omega)]
 exact hl
structure Lat (H H':Hp) (P:Nat→Prop):Prop where
 wf:Wf H→Wf H'
 nx:A2 H≤A2 H'
 keep:Wf H→∀s x,Aq H s=some x→¬P s→Aq H' s=some x
theorem Lat.refl (H:Hp) (P:Nat→Prop):Lat H H P:=⟨id,OV _,λ_ _ _ h _=>h⟩
theorem Lat.trans {H H' H'':Hp} {P Q R:Nat→Prop} (h:Lat H H' P) (k:Lat H' H'' Q) (hp:∀s,s<A2 H→P s→R s) (hq:∀s,s<A2 H→Q s→R s):Lat H H'' R:=
 ⟨λw=>k.wf (h.wf w),l1m h.nx k.nx,λw s x hs hn=>k.keep (h.wf w) s x (h.keep w s x hs λhP=>hn (hp s (w.lt hs) hP)) λhQ=>hn (hq s (w.lt hs) hQ)⟩
theorem Lat.cons (H:Hp) (x:Row) (P:Nat→Prop):Lat H ((A2 H,x)::H) P:=⟨Br,l1p _,λw s y hs _=>AS (w.lt hs) hs⟩
theorem Lat.upd (H:Hp) (r:Nat) (y:Row) {P:Nat→Prop} (hP:P r):Lat H (upd H r y) P:=⟨BR,by rw[BY];exact OV _,λ_ s x hs hn=>by rw[Ap (λe=>hn (by rw[e];exact hP))];exact hs⟩
def Bv (H:Hp) (e sz:Nat) (v:AV) (n:Nat) (cs:List AV):Prop:=
 (v= .v (.slice none 0 0)∧n=0∧cs=[])∨∃r q,v= .sl sz r 0 n∧Aq H r=some (.cells q e cs)∧cs.length=n*sz
def AG (v:AV) (s:Nat):Prop:=∃sz o n,v= .sl sz s o n
theorem Bv.lat {H H':Hp} {e sz n:Nat} {v:AV} {cs:List AV} {P:Nat→Prop} (h:Bv H e sz v n cs) (w:Wf H) (k:Lat H H' P) (hP:∀s,AG v s→¬P s):Bv H' e sz v n cs:=by
 rcases h with h|⟨r,q,h1,h2,h3⟩
 ·exact .inl h
 ·exact .inr ⟨r,q,h1,k.keep w r _ h2 (hP r ⟨sz,0,n,h1⟩),h3⟩
theorem Bv.lt {H:Hp} {e sz n:Nat} {v:AV} {cs:List AV} (h:Bv H e sz v n cs) (w:Wf H) {s:Nat} (hs:AG v s):s<A2 H:=by
 obtain⟨a,b,c,rfl⟩:=hs
 rcases h with⟨h,_⟩|⟨r,q,h1,h2,h3⟩
 ·cases h
 ·injection h1 with _ h1;subst h1;exact w.lt h2
theorem A3Z {H:Hp} {n:Nat} {cs:List AV} {K:Nat→List AV→Aj}:UV H (.list n cs) K=K n cs:=rfl
theorem C2U {H:Hp} {l:List UInt8} {K:Nat→List AV→Aj}:UV H (S l) K=K l.length (KD l):=by
 have:UV H (S l) K=GP l 0 λm=>Wn l λc=>K m c:=rfl
 rw[this,Co,Vu,KF];rfl
theorem B50 {H:Hp} {K:Nat→List AV→Aj}:UV H (.v (.slice none 0 0)) K=K 0 []:=rfl
theorem Pt {H:Hp} {e sz n:Nat} {v:AV} {cs:List AV} {K:Nat→List AV→Aj} (h:Bv H e sz v n cs):UV H v K=K n cs:=by
 rcases h with⟨rfl,rfl,rfl⟩|⟨r,q,rfl,h2,h3⟩
 ·rfl
 ·have:UV H (.sl sz r 0 n) K=JL H r λx=>Ky x λ_ cs=>Gs (Nat.mul n sz) (Dv 0 cs) λc=>K n c:=rfl
  rw[this,BI h2]
  show Gs (n*sz) cs (λc=>K n c)=_
  rw[NB _ _ _ (by omega),l1z (by omega)]
theorem apt {H:Hp} {e sz n m:Nat} {ie i2:TI} {v src:AV} {cs ys:List AV} (h:Bv H e sz v n cs) (hs:∀K:Nat→List AV→Aj,UV H src K=K m ys) (hl:ys.length=m*sz) (h1:ys.all AV.one=true) (hsz:sz≠0) (hz:(B8 ie.zero).length=sz)
 (ht:(A14 i2.d&&Uh sz src)=true) (hb:(n+m)*ie.bytes≤70368744177664) (hb2:n+m≤70368744177664):
 ∃v' H',(∀K:KV,DN e sz ie i2 v src H K=K v' H')∧Bv H' e sz v' (n+m) (cs++ys)∧(∀s,AG v' s→s=A2 H)∧Lat H H' (AG v):=by
 have hkey:∀K:KV,TR e sz ie i2 v src H K=(match(generalizing:=false) v with
  | .v (.slice none 0 0)=>ck (Nat.ble (Nat.mul m ie.bytes) 70368744177664&&Nat.ble m 70368744177664) (XA3 H λr=>K (.sl sz r 0 m) ((r,.cells false e ys)::H))
  | .sl sz' r1 o n=>JL H r1 λx=>Ky x λE cs=>GP cs 0 λcl=>
   ck (Nat.beq E e&&(Nat.beq sz' sz&&(Nat.beq (Nat.add o (Nat.mul n sz)) cl&&(Nat.ble (Nat.mul (Nat.add n m) ie.bytes) 70368744177664&&Nat.ble (Nat.add n m) 70368744177664))))
    (UT (Dv o cs) ys λcs'=>LL H r1 .gone λH'=>XA3 H λr=>fN (Nat.add n m) λnm=>K (.sl sz r 0 nm) ((r,.cells false e cs')::H'))
  |_=>none):= λK=>by
  unfold TR
  rw[hs,Co,CQ,Co]
  have c:(Nat.beq (0+ys.length) (Nat.mul m sz)&&(PZ ys&&(!Nat.beq sz 0&&(Nat.beq (0+(B8 ie.zero).length) sz&&(A14 i2.d&&Uh sz src)))))=true:=by
   have hs0:Nat.beq sz 0=false:=by
    cases hb:Nat.beq sz 0
    ·rfl
    ·exact absurd (VC hb) hsz
   rw[Gg,h1,ht,hz,hl,hs0]
   simp
  rw[c];rfl
 rcases h with⟨rfl,rfl,rfl⟩|⟨r,q,rfl,h2,h3⟩
 ·refine⟨.sl sz (A2 H) 0 m,(A2 H,.cells false e ys)::H,λK=> ?_,.inr ⟨A2 H,false,by rw[KF],by rw[List.nil_append];exact A1 (by simp),by rw[List.nil_append,KF];exact hl⟩,λs ⟨a,b,c,hh⟩=>by injection hh with _ hh;exact hh.symm,Lat.cons _ _ _⟩
  show TR e sz ie i2 (.v (.slice none 0 0)) src H K=_
  rw[hkey K]
  have c:(Nat.ble (Nat.mul m ie.bytes) 70368744177664&&Nat.ble m 70368744177664)=true:=by
   simp only[KF] at hb hb2
   rw[Jm,XQ,XQ];exact⟨hb,hb2⟩
  simp only[c,BZ]
  rfl
 ·refine⟨.sl sz (A2 H) 0 (n+m),(A2 H,.cells false e (cs++ys))::upd H r .gone,λK=> ?_,.inr ⟨A2 H,false,rfl,?_,by rw[Fl,h3,hl,l19]⟩,λs ⟨a,b,c,hh⟩=>by injection hh with _ hh;exact hh.symm,?_⟩
  ·have e1:DN e sz ie i2 (.sl sz r 0 n) src H K=JL H r λx=>Ky x λE cs=>GP cs 0 λcl=>@Bool.rec (λ_=>Aj) (Ot (Nat.add 0 (Nat.mul n sz)) cs λcs'=>LL H r (.cells false E cs') λH1=>TR e sz ie i2 (.sl sz r 0 n) src H1 K) (TR e sz ie i2 (.sl sz r 0 n) src H K) (Nat.beq (Nat.add 0 (Nat.mul n sz)) cl):=rfl
   rw[e1,BI h2]
   have e2:∀F:TypeId→List AV→Aj,Ky (.cells q e cs) F=F e cs:= λ_=>rfl
   rw[e2,Co]
   have c0:Nat.beq (Nat.add 0 (Nat.mul n sz)) (0+cs.length)=true:=by
    show Nat.beq (0+n*sz) (0+cs.length)=true
    rw[h3];exact Zj _
   rw[c0]
   show TR e sz ie i2 (.sl sz r 0 n) src H K=_
   rw[hkey K]
   simp only
   rw[BI h2,e2,Co]
   have c:(Nat.beq e e&&(Nat.beq sz sz&&(Nat.beq (Nat.add 0 (Nat.mul n sz)) (0+cs.length)&&(Nat.ble (Nat.mul (Nat.add n m) ie.bytes) 70368744177664&&Nat.ble (Nat.add n m) 70368744177664))))=true:=by
    rw[c0,Zj,Zj]
    simp only[l16,Jm,XQ]
    exact⟨hb,hb2⟩
   rw[c]
   show UT (Dv 0 cs) ys _=_
   rw[Lb,Dm,BZ,Di,CE]
   rfl
  ·have:=A1 (H:=upd H r .gone) (x:= .cells false e (cs++ys)) (by simp)
   rw[BY] at this
   exact this
  ·have h4:Lat H (upd H r .gone) (AG (.sl sz r 0 n)):=Lat.upd H r .gone ⟨sz,0,n,rfl⟩
   have h5:=Lat.cons (upd H r .gone) (.cells false e (cs++ys)) (AG (.sl sz r 0 n))
   rw[BY] at h5
   exact h4.trans h5 (λ_ _ h=>h) (λ_ _ h=>h)
theorem A3P (a:AV):∀n (K:List AV→Aj),UQ n [a] K=K (List.replicate n a):=by
 intro n K
 rw[UP]
 congr 1
 induction n with
 |zero=>rfl
 |succ n ih=>simp[Uk,ih,l17]
theorem A2q {H:Hp} {e:Nat} {ie:TI} {a z:AV} (hz:∀K:List AV→Aj,Hi ie.zero K=K [z]) (ha:∀K:List AV→Aj,Hi a K=K [a]) (h1:AV.one a=true) (K:KV):F3 e 1 ie 1 [(0,1,a)] H K=K (.sl 1 (A2 H) 0 1) ((A2 H,.cells false e [a])::H):=by
 unfold F3
 rw[hz]
 show UQ 1 [z] (λcs=>Wm [(0,1,a)] cs λcs'=>XA3 H λs=>K (.sl 1 s 0 1) ((s,.cells false e cs')::H))=_
 rw[A3P]
 show Hi a (λvs=>GP vs 0 λn=>ck (Nat.beq n 1) (ck (PZ vs) (E8 0 vs [z] λcs'=>XA3 H λs=>K (.sl 1 s 0 1) ((s,.cells false e cs')::H))))=_
 rw[ha]
 have:PZ [a]=true:=by rw[Gg];simp[h1]
 show ck (PZ [a]) (XA3 H λs=>K (.sl 1 s 0 1) ((s,.cells false e [a])::H))=_
 rw[this,BZ];rfl
theorem LP {H:Hp} {e n:Nat} {cs:List AV} (h:cs.length=n):Bv ((A2 H,.cells false e cs)::H) e 1 (.sl 1 (A2 H) 0 n) n cs:= .inr ⟨A2 H,false,rfl,A1 (by simp),by omega⟩
theorem B0y (l:List UInt8):(KD l).all AV.one=true:=by simp[KD,AV.one,Value.oneCell']
theorem Og (l:List UInt8):(KD l).length=l.length:=by simp[KD]
theorem A5s (a b:List UInt8):KD a++KD b=KD (a++b):=by simp[KD]
end Go.Abs
end
