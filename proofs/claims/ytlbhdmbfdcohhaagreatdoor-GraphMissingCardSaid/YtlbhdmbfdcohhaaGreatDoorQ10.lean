import Derived.Test.YtlbhdmbfdcohhaaGreatDoorQ09
set_option linter.all false
set_option maxHeartbeats 100000000
noncomputable section
namespace Go.Abs
open Go.RowKit
def jn {α:Type} (k:α) (F:α→Al):Al:=(λ(_:Unit)=>F k) Gv
def Xv (R:Rt) (n:Nat) (f:AV) (t:Tm) (ps:Array Tmp) (aZ bd:Code) (H:Hp) (K:Option (Option Code)→Hp→Al):Al:=
 match f with
 | .fn (.func g) first cap=>HM H λs=>V8 first (.yl s::cap) λall=>R.call g all ((s,.loop n t ps aZ bd (some none))::H) λ_ H2=>Ks H2 s λx=>UX x λ_ _ _ _ _ pend=>Oe H2 s .gone λH3=>K pend H3
 |_=>none
def Wn (p:Option (Option Code)) (x y:Al) (e g:Nat→Al):Al:=
 match p with
 |some none=>x
 |some (some .ret)=>y
 |some (some (.exit id))=>e id
 |some (some (.goto l))=>g l
 |_=>none
def rdK (run:A52) (N:Nat) (t:Tm) (ps:Array Tmp) (args:List AV) (aZ bd:Code) (H:Hp) (P:Hp→(Hp→Al)→Al) (Q:Exit→Hp→Al):Al:=
 A7J t ps.toList args λt1=>run ⟨true,t1.map (·.1),false,N,[]⟩ aZ t1 H λe t2 H2=>match e with
  | .normal=>P H2 λH3=>run ⟨true,t1.map (·.1),false,N,[]⟩ bd t2 H3 λe _ H4=>Q e H4
  |_=>none
def A5N:Code→List (Operand×Array Tmp×Code×Code)
 | .seq x y=>A5N x++A5N y
 | .cond _ x y=>A5N x++A5N y
 | .block _ x=>A5N x
 | .loop x=>A5N x
 | .scope x=>A5N x
 | .rangeFunc g ps aZ bd=>[(g,ps,aZ,bd)]
 |_=>[]
def Wh (c:Code) (k:Nat):Operand×Array Tmp×Code×Code:=(A5N c).getD k (.func 0,#[],.skip,.skip)
abbrev zI:AV:= .v (.int .i64 0)
abbrev zS:AV:= .v (.string ⟨⟨[]⟩⟩)
abbrev zL:AV:= .v (.slice none 0 0)
abbrev zB:AV:= .v (.bool false)
abbrev I (n:Int):AV:= .v (.int .i64 n)
abbrev Bo (b:Bool):AV:= .v (.bool b)
abbrev S (l:List UInt8):AV:= .v (.string ⟨⟨l⟩⟩)
section
variable {K:AV→Al} {i j:TI} {k:IntKind} {a b:Int}
theorem Cv:Ak i .add (.v (.int k a)) (.v (.int k b)) K=K (.v (.int k (k.wrap (a+b)))):=by
 have:Ak i .add (.v (.int k a)) (.v (.int k b)) K=ck (decide (k=k)) (LF k (a+b) λz=>K (.v (.int k z))):=rfl
 rw[this,decide_eq_true rfl];exact G9 _ _ _
theorem GE:Ak i .sub (.v (.int k a)) (.v (.int k b)) K=K (.v (.int k (k.wrap (a-b)))):=by
 have:Ak i .sub (.v (.int k a)) (.v (.int k b)) K=ck (decide (k=k)) (LF k (a-b) λz=>K (.v (.int k z))):=rfl
 rw[this,decide_eq_true rfl];exact G9 _ _ _
theorem NK:Ak i .mul (.v (.int k a)) (.v (.int k b)) K=K (.v (.int k (k.wrap (a*b)))):=by
 have:Ak i .mul (.v (.int k a)) (.v (.int k b)) K=ck (decide (k=k)) (LF k (a*b) λz=>K (.v (.int k z))):=rfl
 rw[this,decide_eq_true rfl];exact G9 _ _ _
theorem B4x (h:b≠0):Ak i .quo (.v (.int k a)) (.v (.int k b)) K=K (.v (.int k (k.wrap (a.tdiv b)))):=by
 have:Ak i .quo (.v (.int k a)) (.v (.int k b)) K=ck (decide (k=k)) (ck (!ieq b 0) (LF k (a.tdiv b) λz=>K (.v (.int k z)))):=rfl
 rw[this,decide_eq_true rfl,NV,decide_eq_false h];exact G9 _ _ _
theorem Ud (h:b≠0):Ak i .rem (.v (.int k a)) (.v (.int k b)) K=K (.v (.int k (a.tmod b))):=by
 have:Ak i .rem (.v (.int k a)) (.v (.int k b)) K=ck (decide (k=k)) (ck (!ieq b 0) (fI (a.tmod b) λz=>K (.v (.int k z)))):=rfl
 rw[this,decide_eq_true rfl,NV,decide_eq_false h];exact R4 (a.tmod b) (λz=>K (.v (.int k z)))
theorem Dx:Ak i .lss (.v (.int k a)) (.v (.int k b)) K=K (Bo (decide (a<b))):=by
 have:Ak i .lss (.v (.int k a)) (.v (.int k b)) K=ck (decide (k=k)) (bB (!Zu b a) K):=rfl
 rw[this,decide_eq_true rfl,J5]
 have e:(!decide (b≤a))=decide (a<b):=by rw[Zs];simp
 rw[e];exact La _ _
theorem WW:Ak i .leq (.v (.int k a)) (.v (.int k b)) K=K (Bo (decide (a≤b))):=by
 have:Ak i .leq (.v (.int k a)) (.v (.int k b)) K=ck (decide (k=k)) (bB (Zu a b) K):=rfl
 rw[this,decide_eq_true rfl,J5];exact La _ _
theorem Ey:Ak i .gtr (.v (.int k a)) (.v (.int k b)) K=K (Bo (decide (b<a))):=by
 have:Ak i .gtr (.v (.int k a)) (.v (.int k b)) K=ck (decide (k=k)) (bB (!Zu a b) K):=rfl
 rw[this,decide_eq_true rfl,J5]
 have e:(!decide (a≤b))=decide (b<a):=by rw[Zs];simp
 rw[e];exact La _ _
theorem LV:Ak i .geq (.v (.int k a)) (.v (.int k b)) K=K (Bo (decide (b≤a))):=by
 have:Ak i .geq (.v (.int k a)) (.v (.int k b)) K=ck (decide (k=k)) (bB (Zu b a) K):=rfl
 rw[this,decide_eq_true rfl,J5];exact La _ _
theorem Dy:Ak i .eql (.v (.int k a)) (.v (.int k b)) K=K (Bo (decide (a=b))):=by
 have:Ak i .eql (.v (.int k a)) (.v (.int k b)) K=ck (decide (k=k)) (bB (ieq a b) K):=rfl
 rw[this,decide_eq_true rfl,NV];exact La _ _
theorem Hu:Ak i .neq (.v (.int k a)) (.v (.int k b)) K=K (Bo (!decide (a=b))):=by
 have:Ak i .neq (.v (.int k a)) (.v (.int k b)) K=ck (decide (k=k)) (bB (!ieq a b) K):=rfl
 rw[this,decide_eq_true rfl,NV];exact La _ _
theorem JR {s u:List UInt8}:Ak i .eql (S s) (S u) K=K (Bo (decide (s=u))):=by
 have:Ak i .eql (S s) (S u) K=bB (eqB s u) K:=rfl
 rw[this,Pz,La,show(s==u)=decide (s=u) from by by_cases h:s=u<;>simp[h]]
theorem MV {s u:List UInt8}:Ak i .neq (S s) (S u) K=K (Bo (!decide (s=u))):=by
 have:Ak i .neq (S s) (S u) K=bB (!eqB s u) K:=rfl
 rw[this,Pz,La,show(s==u)=decide (s=u) from by by_cases h:s=u<;>simp[h]]
theorem Er {q:Bool} {x y:Al}:As (Bo q) x y=if q=true then x else y:=by cases q<;>rfl
end
theorem Cl {α:Type} (k:α) (F:α→Al):jn k F=F k:=rfl
theorem Ca {x:Int} (h1: -9223372036854775808≤x) (h2:x<9223372036854775808):IntKind.i64.wrap x=x:=by
 simp only[IntKind.wrap,IntKind.bits,IntKind.signed]
 have e1:(2^64:Int)=18446744073709551616:=by decide
 have e2:(2^(64-1):Int)=9223372036854775808:=by decide
 simp only[e1,e2,l16,decide_eq_true_eq]
 split<;>omega
def BT.All {α:Type} (p:Nat→α→Prop):BT α→Prop
 | .leaf=>True
 | .node k v l r=>p k v∧l.All p∧r.All p
theorem A50 {α:Type} {p:Nat→α→Prop}:(BT.leaf:BT α).All p:=trivial
theorem A4Z {α:Type} {p:Nat→α→Prop} {k:Nat} {v:α} {l r:BT α} (h:p k v) (hl:l.All p) (hr:r.All p):(BT.node k v l r).All p:=⟨h,hl,hr⟩
theorem BT.All.get {α:Type} {p:Nat→α→Prop}:∀{b:BT α},b.All p→∀{i:Nat} {v:α},b.get i=some v→p i v:=by
 intro b
 induction b with
 |leaf=>intro _ i v h;cases h
 |node k w l r ihl ihr=>
  intro ha i v h
  obtain⟨h1,h2,h3⟩:=ha
  simp only[BT.get] at h
  split at h
  ·rename_i hk
   injection h with h
   subst h
   rw[UY hk];exact h1
  ·split at h
   ·exact ihl h2 h
   ·exact ihr h3 h
abbrev NF:=Rt→List AV→Hp→KV→Al
def ar0 (F:Hp→KV→Al) (l:List AV):Hp→KV→Al:=match l with|[]=>F|_=> λ_ _=>none
def ar1 (F:AV→Hp→KV→Al) (l:List AV):Hp→KV→Al:=match l with|[a]=>F a|_=> λ_ _=>none
def ar2 (F:AV→AV→Hp→KV→Al) (l:List AV):Hp→KV→Al:=match l with|[a,b]=>F a b|_=> λ_ _=>none
def ar3 (F:AV→AV→AV→Hp→KV→Al) (l:List AV):Hp→KV→Al:=match l with|[a,b,c]=>F a b c|_=> λ_ _=>none
def ar4 (F:AV→AV→AV→AV→Hp→KV→Al) (l:List AV):Hp→KV→Al:=match l with|[a,b,c,d]=>F a b c d|_=> λ_ _=>none
def ar5 (F:AV→AV→AV→AV→AV→Hp→KV→Al) (l:List AV):Hp→KV→Al:=match l with|[a,b,c,d,e]=>F a b c d e|_=> λ_ _=>none
def Tn (E:XE) (R:Rt):A52:= λcf c t H K=>VP E R (A9b E R) cf c t H K
def Lk (E:XE) (f:Nat) (F:NF):Prop:=∀(R:Rt) (args:List AV) (H:Hp) (K:KV) (r:AV×Hp),F R args H K=some r→zfn E (Tn E R) f args H K=some r
theorem lk0 {E:XE} {f:Nat} {F:Rt→Hp→KV→Al} (h:∀R H K,zfn E (Tn E R) f [] H K=F R H K):Lk E f λR=>ar0 (F R):= λR args H K r hr=>by
 match args,hr with
 |[],hr=>exact(h R H K).trans hr
theorem lk1 {E:XE} {f:Nat} {F:Rt→AV→Hp→KV→Al} (h:∀R a H K,zfn E (Tn E R) f [a] H K=F R a H K):Lk E f λR=>ar1 (F R):= λR args H K r hr=>by
 match args,hr with
 |[a],hr=>exact(h R a H K).trans hr
theorem lk2 {E:XE} {f:Nat} {F:Rt→AV→AV→Hp→KV→Al} (h:∀R a b H K,zfn E (Tn E R) f [a,b] H K=F R a b H K):Lk E f λR=>ar2 (F R):= λR args H K r hr=>by
 match args,hr with
 |[a,b],hr=>exact(h R a b H K).trans hr
theorem lk3 {E:XE} {f:Nat} {F:Rt→AV→AV→AV→Hp→KV→Al} (h:∀R a b c H K,zfn E (Tn E R) f [a,b,c] H K=F R a b c H K):Lk E f λR=>ar3 (F R):= λR args H K r hr=>by
 match args,hr with
 |[a,b,c],hr=>exact(h R a b c H K).trans hr
theorem lk4 {E:XE} {f:Nat} {F:Rt→AV→AV→AV→AV→Hp→KV→Al} (h:∀R a b c d H K,zfn E (Tn E R) f [a,b,c,d] H K=F R a b c d H K):Lk E f λR=>ar4 (F R):= λR args H K r hr=>by
 match args,hr with
 |[a,b,c,d],hr=>exact(h R a b c d H K).trans hr
theorem lk5 {E:XE} {f:Nat} {F:Rt→AV→AV→AV→AV→AV→Hp→KV→Al} (h:∀R a b c d e H K,zfn E (Tn E R) f [a,b,c,d,e] H K=F R a b c d e H K):Lk E f λR=>ar5 (F R):= λR args H K r hr=>by
 match args,hr with
 |[a,b,c,d,e],hr=>exact(h R a b c d e H K).trans hr
def A1Y (E:XE) (nT:BT NF) (R:Rt):B55:= λf args H K=>match nT.get f with|some F=>F R args H K|none=>zfn E (Tn E R) f args H K
abbrev OF:=List AV→Hp→KV→Al→Al
def A73 (E:XE) (P:Program) (f:Nat) (F:OF):Prop:=∀(args:List AV) (H:Hp) (K:KV) (alt:Al) (r:AV×Hp),F args H K alt=some r→
 alt=some r∨(ZC P f∧QN P E.G f args H (λv' H'=>K v' H'=some r))
def A6T (E:XE) (nT:BT NF) (oT:BT OF) (R:Rt):B55:= λf args H K=>match oT.get f with
 |some F=>F args H K (A1Y E nT R f args H K)
 |none=>A1Y E nT R f args H K
def Sv (E:XE) (nT:BT NF) (oT:BT OF) (n:Nat):Rt:=@Nat.rec (λ_=>Rt) ⟨λ_ _ _ _=>none,λ_ _ _ _ _=>none⟩ (λ_ R=>⟨A6T E nT oT R,Tn E R⟩) n
section
variable {E:XE} {nT:BT NF} {oT:BT OF} {f:Nat}
theorem Ro {F:NF} (h:nT.get f=some F) (ho:oT.get f=none) (n:Nat) (args:List AV) (H:Hp) (K:KV):(Sv E nT oT (n+1)).call f args H K=F (Sv E nT oT n) args H K:=by
 show A6T E nT oT (Sv E nT oT n) f args H K=_
 unfold A6T
 rw[ho]
 unfold A1Y
 simp only[h]
theorem A8j {F:Rt→Hp→KV→Al} (h:nT.get f=some λR=>ar0 (F R)) (ho:oT.get f=none) (n:Nat) (H:Hp) (K:KV):(Sv E nT oT (n+1)).call f [] H K=F (Sv E nT oT n) H K:=Ro h ho n _ H K
theorem A8i {F:Rt→AV→Hp→KV→Al} (h:nT.get f=some λR=>ar1 (F R)) (ho:oT.get f=none) (n:Nat) (a:AV) (H:Hp) (K:KV):(Sv E nT oT (n+1)).call f [a] H K=F (Sv E nT oT n) a H K:=Ro h ho n _ H K
theorem A8h {F:Rt→AV→AV→Hp→KV→Al} (h:nT.get f=some λR=>ar2 (F R)) (ho:oT.get f=none) (n:Nat) (a b:AV) (H:Hp) (K:KV):(Sv E nT oT (n+1)).call f [a,b] H K=F (Sv E nT oT n) a b H K:=Ro h ho n _ H K
theorem A8g {F:Rt→AV→AV→AV→Hp→KV→Al} (h:nT.get f=some λR=>ar3 (F R)) (ho:oT.get f=none) (n:Nat) (a b c:AV) (H:Hp) (K:KV):(Sv E nT oT (n+1)).call f [a,b,c] H K=F (Sv E nT oT n) a b c H K:=Ro h ho n _ H K
theorem A8f {F:Rt→AV→AV→AV→AV→Hp→KV→Al} (h:nT.get f=some λR=>ar4 (F R)) (ho:oT.get f=none) (n:Nat) (a b c d:AV) (H:Hp) (K:KV):(Sv E nT oT (n+1)).call f [a,b,c,d] H K=F (Sv E nT oT n) a b c d H K:=Ro h ho n _ H K
end
theorem A8e {E:XE} {nT:BT NF} {oT:BT OF} {P:Program} (hE:XE.Ok A0t E P) (hT:nT.All (Lk E)) (hO:oT.All (A73 E P)):∀n,RSound A0t E P (Sv E nT oT n):=by
 intro n
 induction n with
 |zero=>
  refine⟨?_,?_⟩
  ·intro ro cf c t H K r m h1 h2 h
   cases h
  ·intro f args H K r h
   cases h
 |succ n ih=>
  have hZ:A98 A0t E P (A9b E (Sv E nT oT n)):=A5k (λ_ _ _ _ h=>h) hE ih
  have hrun:Xg A0t E P (Tn E (Sv E nT oT n)):= λro cf c t H K r m hro hd h=>A5l hE ih hZ hro c t H K hd h
  have hcN:∀(f:Nat) (args:List AV) (H:Hp) (K:KV) (r:AV×Hp),A1Y E nT (Sv E nT oT n) f args H K=some r→ZC P f∧QN P E.G f args H (λv H'=>K v H'=some r):= λf args H K r h=>by
   unfold A1Y at h
   split at h
   ·rename_i F hF
    exact A2S hE hrun (hT.get hF _ _ _ _ _ h)
   ·exact A2S hE hrun h
  refine⟨hrun,λf args H K r h=> ?_⟩
  have h:A6T E nT oT (Sv E nT oT n) f args H K=some r:=h
  unfold A6T at h
  split at h
  ·rename_i F hF
   rcases hO.get hF _ _ _ _ _ h with h|h
   ·exact hcN f args H K r h
   ·exact h
  ·exact hcN f args H K r h
theorem A23 {P:Program} {G:Gl} {f:Nat} {args:List AV} {H:Hp} {x:Value} {K:KV} {r:AV×Hp} (hK:K (.v x) H=some r) (hc:∀w0 C w ys,Rel G w0 C H w→BZ C w args ys→Calls P f ys.toArray w λe w'=>e= .returned x∧Below w.heap.size w w'):QN P G f args H (λv' H'=>K v' H'=some r):= λw0 C w ys hr ha=>
 (hc w0 C w ys hr ha).mono λe w' ⟨he,hb⟩=>⟨.v x,x,C,H,he,hr.of_below hb,.v _,(hr.ext_below hb).frm,hK⟩
def PS (R:Rt) (f:Nat) (args:List AV) (v:AV):Prop:=∀H K,Ah R f args H K=K v
def Fx (b:Bool) (D:Nat) (a a':AV) (H:Hp) (q:Bool):Prop:=∀K:Bool→AV→Al,IZ b H D a K=K q a'
theorem E5 {b:Bool} {D:Nat} {x:Value} {H:Hp}:Fx b D (.v x) (.v x) H false:= λK=>by cases D<;>rfl
theorem Qb {D n:Nat} {cs:List AV} {H:Hp}:Fx true D (.list n cs) (.list n cs) H false:= λK=>by cases D<;>rfl
theorem A4G {D:Nat} {es:List (Value×AV)} {H:Hp}:Fx true D (.imap es) (.imap es) H false:= λK=>by cases D<;>rfl
def PH (b:Bool) (D:Nat) (l l':List AV) (H:Hp) (q:Bool):Prop:=∀K:Bool→List AV→Al,HK (IZ b H D) l K=K q l'
theorem Bp {b:Bool} {D:Nat} {H:Hp}:PH b D [] [] H false:= λ_=>rfl
theorem A0 {b:Bool} {D:Nat} {a a':AV} {l l':List AV} {H:Hp} {q q':Bool} (h:Fx b D a a' H q) (k:PH b D l l' H q'):PH b D (a::l) (a'::l') H (q||q'):= λK=>by
 have e:HK (IZ b H D) (a::l) K=IZ b H D a λq a'=>HK (IZ b H D) l λq' l'=>K (@Bool.rec (λ_=>Bool) q' true q) (a'::l'):=rfl
 rw[e,h,k]
 cases q<;>rfl
theorem Kb {b:Bool} {D:Nat} {H:Hp} {α:Type} (f:α→Value):∀(l:List α),PH b D (l.map λx=> .v (f x)) (l.map λx=> .v (f x)) H false
 |[]=>Bp
 |a::l=>A0 (q:=false) (q':=false) E5 (Kb f l)
theorem Pn {b:Bool} {D:Nat} {cs cs':List AV} {H:Hp} {q:Bool} (h:PH b D cs cs' H q):Fx b (D+1) (.agg cs) (.agg cs') H q:= λK=>h _
theorem Yb {b:Bool} {D:Nat} {cs cs':List AV} {H:Hp} {q:Bool} (h:PH b D cs cs' H q):Fx b (D+1) (.tup cs) (.tup cs') H q:= λK=>h _
theorem Cm {H:Hp} {r:Nat} {x:Row} {K:Row→Al} (h:Au H r=some x):Ks H r K=K x:=by
 induction H with
 |nil=>simp[Au] at h
 |cons p H ih=>
  obtain⟨k,y⟩:=p
  simp only[Au] at h
  have e:Ks ((k,y)::H) r K=@Bool.rec (λ_=>Al) (Ks H r K) (K y) (Nat.beq r k):=rfl
  rw[e]
  by_cases hk:r=k
  ·rw[if_pos hk] at h
   rw[hk,l29,←(W0 h).1]
  ·rw[if_neg hk] at h
   have:Nat.beq r k=false:=by
    cases hb:Nat.beq r k
    ·rfl
    ·exact absurd (UY hb) hk
   rw[this]
   exact ih h
theorem UZ {b:Bool} {D:Nat} {H:Hp} {sz s n:Nat} {q:Bool} {e:TypeId} {cs cs':List AV} {q':Bool} (hl:Au H s=some (.cells q e cs)) (hn:cs.length=n*sz) (h:PH b D cs cs' H q'):Fx b (D+1) (.sl sz s 0 n) (.list n cs') H true:= λK=>by
 have e1:IZ b H (D+1) (.sl sz s 0 n) K=Ks H s λx=>Ma x λ_ cs=>FU (Nat.mul n sz) (Dg 0 cs) λc=>HK (IZ b H D) c λ_ c'=>K true (.list n c'):=rfl
 rw[e1,Cm hl]
 have e2:(Ma (.cells q e cs) λ_ cs=>FU (Nat.mul n sz) (Dg 0 cs) λc=>HK (IZ b H D) c λ_ c'=>K true (.list n c'))=FU (n*sz) cs λc=>HK (IZ b H D) c λ_ c'=>K true (.list n c'):=rfl
 rw[e2,MM _ _ _ (by omega),l1z (by omega),h]
def CS (R:Rt) (f:Nat) (args:List AV) (v:AV):Prop:=∀K:KV,(∀v0 H0,(∀b,∃q,Fx b depth v0 v H0 q)→K v0 H0=some (v,[]))→R.call f args [] K=some (v,[])
theorem Be {R:Rt} {f:Nat} {args args':List AV} {v:AV} {H:Hp} {q:Bool} {K:AV→Al} (hc:CS R f args' v) (ha:PH true depth args args' H q):Ah R f args H K=K v:=by
 unfold Ah
 rw[ha]
 have:=hc (λv0 H'=>IZ (!q) H' depth v0 λ_ v'=>some (v',[])) (λv0 H0 h=>by
  obtain⟨q',h'⟩:=h (!q)
  exact h' _)
 rw[this]
 rfl
theorem CS.ps {R:Rt} {f:Nat} {args:List AV} {v:AV} (hc:CS R f args v) (ha:∀H,PH true depth args args H false):PS R f args v:= λH K=>Be hc (ha H)
abbrev W (x:BitVec 32):AV:= .v (.int .u32 (x.toNat:Int))
abbrev By (b:UInt8):AV:= .v (.int .u8 (b.toNat:Int))
def Ke (l:List UInt8):List AV:=l.map λb=>By b
def CZ (l:List (BitVec 32)):List AV:=l.map λx=>W x
theorem Vh {k:IntKind} (h:k.signed=false) (z:Int):k.wrap z=z%(2^k.bits:Nat):=by
 simp only[IntKind.wrap,h,Bool.false_and]
 simp
theorem J1 (x:BitVec 32):BitVec.ofInt 32 (x.toNat:Int)=x:=by
 apply BitVec.eq_of_toNat_eq
 simp
theorem VT {n:Nat} (h:n<4294967296):IntKind.u32.wrap (n:Int)=(n:Int):=by
 rw[Vh rfl]
 show(n:Int)%(4294967296:Nat)=n
 omega
section
variable {K:AV→Al} {i j:TI} {x y:BitVec 32}
theorem A4Q (op:BinOp) (f:IT) (hs:GK op=false) (hf:A8H op=f):Ak i op (W x) (W y) K=f .u32 x.toNat y.toNat K:=by
 have:Ak i op (W x) (W y) K=@Bool.rec (λ_=>Al) (ck (decide (IntKind.u32= .u32)) (A8H op .u32 x.toNat y.toNat K)) (A8H op .u32 x.toNat y.toNat K) (GK op):=rfl
 rw[this,hs,hf];rfl
theorem MU:Ak i .add (W x) (W y) K=K (W (x+y)):=by
 rw[A4Q .add B7j rfl rfl]
 unfold B7j
 rw[G9,Vh rfl]
 have:((x.toNat:Int)+(y.toNat:Int))%(2^IntKind.u32.bits:Nat)=((x+y).toNat:Int):=by
  rw[BitVec.toNat_add]
  show((x.toNat:Int)+(y.toNat:Int))%(4294967296:Nat)=_
  simp only[Int.natCast_emod,Int.natCast_add]
 show K (.v (.int .u32 (((x.toNat:Int)+(y.toNat:Int))%(2^IntKind.u32.bits:Nat))))=_
 rw[this]
theorem R8:Ak i .xor (W x) (W y) K=K (W (x^^^y)):=by
 rw[A4Q .xor B7h rfl rfl]
 unfold B7h
 rw[R4]
 have e:(BitVec.ofInt IntKind.u32.bits (x.toNat:Int)^^^BitVec.ofInt IntKind.u32.bits (y.toNat:Int)).toNat=(x^^^y).toNat:=by
  show(BitVec.ofInt 32 (x.toNat:Int)^^^BitVec.ofInt 32 (y.toNat:Int)).toNat=_
  rw[J1,J1]
 rw[e,VT (x^^^y).isLt]
theorem A3C:Ak i .and (W x) (W y) K=K (W (x&&&y)):=by
 rw[A4Q .and B7i rfl rfl]
 unfold B7i
 rw[R4]
 have e:(BitVec.ofInt IntKind.u32.bits (x.toNat:Int)&&&BitVec.ofInt IntKind.u32.bits (y.toNat:Int)).toNat=(x&&&y).toNat:=by
  show(BitVec.ofInt 32 (x.toNat:Int)&&&BitVec.ofInt 32 (y.toNat:Int)).toNat=_
  rw[J1,J1]
 rw[e,VT (x&&&y).isLt]
theorem WV:Ak i .or (W x) (W y) K=K (W (x|||y)):=by
 rw[A4Q .or iOr rfl rfl]
 unfold iOr
 rw[R4]
 have e:(BitVec.ofInt IntKind.u32.bits (x.toNat:Int)|||BitVec.ofInt IntKind.u32.bits (y.toNat:Int)).toNat=(x|||y).toNat:=by
  show(BitVec.ofInt 32 (x.toNat:Int)|||BitVec.ofInt 32 (y.toNat:Int)).toNat=_
  rw[J1,J1]
 rw[e,VT (x|||y).isLt]
theorem B4h:F2 .xor (W x) K=K (W (~~~x)):=by
 have e0:F2 .xor (W x) K=fI (IntKind.u32.wrap ((BitVec.ofInt IntKind.u32.bits (if IntKind.u32.signed=true then-1 else IntKind.u32.max)^^^BitVec.ofInt IntKind.u32.bits (x.toNat:Int)).toNat)) λz=>K (.v (.int .u32 z)):=rfl
 rw[e0,R4]
 have e:(BitVec.ofInt IntKind.u32.bits (if IntKind.u32.signed=true then-1 else IntKind.u32.max)^^^BitVec.ofInt IntKind.u32.bits (x.toNat:Int)).toNat=(~~~x).toNat:=by
  show(BitVec.ofInt 32 4294967295^^^BitVec.ofInt 32 (x.toNat:Int)).toNat=_
  rw[J1]
  have:BitVec.ofInt 32 4294967295=BitVec.allOnes 32:=by decide
  rw[this,BitVec.allOnes_xor]
 rw[e,VT (~~~x).isLt]
theorem HJ {q:IntKind} {z:Int} {k:Nat} (hz:z=k) (hk:k≤32):Ak i .shr (W x) (.v (.int q z)) K=K (W (x>>>k)):=by
 subst hz
 have:Ak i .shr (W x) (.v (.int q (k:Int))) K=ck (Zu 0 (k:Int)) (fI ((x.toNat:Int).fdiv (2^(min (k:Int).toNat 32))) λz=>K (.v (.int .u32 z))):=rfl
 rw[this,R4]
 have h1:Zu 0 (k:Int)=true:=by rw[J5];simp
 have h2:(x.toNat:Int).fdiv (2^(min (k:Int).toNat 32))=((x>>>k).toNat:Int):=by
  rw[Xj,l1x hk,BitVec.toNat_ushiftRight,Nat.shiftRight_eq_div_pow]
  have:((2:Int)^k)=((2^k:Nat):Int):=by simp
  rw[this,Int.fdiv_eq_ediv_of_nonneg _ (Int.natCast_nonneg _)]
  exact(Int.natCast_ediv _ _).symm
 rw[h1,h2]
 rfl
theorem JB {q:IntKind} {z:Int} {k:Nat} (hz:z=k) (hk:k≤32):Ak i .shl (W x) (.v (.int q z)) K=K (W (x<<<k)):=by
 subst hz
 have:Ak i .shl (W x) (.v (.int q (k:Int))) K=ck (Zu 0 (k:Int)) (LF .u32 ((x.toNat:Int)*2^(min (k:Int).toNat 32)) λz=>K (.v (.int .u32 z))):=rfl
 rw[this,G9,Vh rfl]
 have h1:Zu 0 (k:Int)=true:=by rw[J5];simp
 have h2:((x.toNat:Int)*2^(min (k:Int).toNat 32))%(2^IntKind.u32.bits:Nat)=((x<<<k).toNat:Int):=by
  rw[Xj,l1x hk,BitVec.toNat_shiftLeft,Nat.shiftLeft_eq]
  have:((2:Int)^k)=((2^k:Nat):Int):=by simp
  rw[this,←Int.natCast_mul]
  exact(Int.natCast_emod _ _).symm
 rw[h1,h2]
 rfl
theorem B4u {a b a' b':Nat} {zi zj:AV} {k:IntKind}:Fl ⟨a,b,.int k,zi⟩ ⟨a',b',.int .u8,zj⟩ (W x) K=K (By (UInt8.ofNat x.toNat)):=by
 have:Fl ⟨a,b,.int k,zi⟩ ⟨a',b',.int .u8,zj⟩ (W x) K=LF .u8 (x.toNat:Int) λz=>K (.v (.int .u8 z)):=rfl
 rw[this,G9,Vh rfl]
 have:(x.toNat:Int)%(2^IntKind.u8.bits:Nat)=((UInt8.ofNat x.toNat).toNat:Int):=by
  rw[UInt8.toNat_ofNat']
  exact(Int.natCast_emod _ _).symm
 rw[this]
theorem B4v {a b a' b':Nat} {zi zj:AV} {k:IntKind} {c:UInt8}:Fl ⟨a,b,.int k,zi⟩ ⟨a',b',.int .u32,zj⟩ (By c) K=K (W (BitVec.ofNat 32 c.toNat)):=by
 have:Fl ⟨a,b,.int k,zi⟩ ⟨a',b',.int .u32,zj⟩ (By c) K=LF .u32 (c.toNat:Int) λz=>K (.v (.int .u32 z)):=rfl
 rw[this,G9,Vh rfl]
 have:(c.toNat:Int)%(2^IntKind.u32.bits:Nat)=((BitVec.ofNat 32 c.toNat).toNat:Int):=by
  rw[BitVec.toNat_ofNat]
  exact(Int.natCast_emod _ _).symm
 rw[this]
theorem B4A {v:AV} {H:Hp}:Aj (some (v,H)) K=K v:=id rfl
theorem A8S {v:AV} {H:Hp} {K':KV}:DK (some (v,H)) K'=K' v H:=id rfl
end
def Wf (H:Hp):Prop:=∀k∈H.map (·.1),k<A3 H
theorem B3S (H:Hp) (r:Nat) (y:Row):(upd H r y).map (·.1)=H.map (·.1):=by
 induction H with
 |nil=>rfl
 |cons p H ih=>
  obtain⟨k,x⟩:=p
  by_cases hk:r=k
  ·subst hk;simp[upd]
  ·simp[upd,hk,ih]
theorem F3:Wf []:= λk h=>by simp at h
theorem B3 {H:Hp} {x:Row} (h:Wf H):Wf ((A3 H,x)::H):= λk hk=>by
 show k<A3 H+1
 simp only[ZK,Xi] at hk
 rcases hk with rfl|hk
 ·omega
 ·have:=h k hk;omega
theorem BL {H:Hp} {r:Nat} {y:Row} (h:Wf H):Wf (upd H r y):= λk hk=>by rw[Cr];rw[B3S] at hk;exact h k hk
theorem B3F {H:Hp} {s:Nat} {x:Row} (h:Au H s=some x):s∈H.map (·.1):=by
 induction H with
 |nil=>simp[Au] at h
 |cons p H ih=>
  obtain⟨k,y⟩:=p
  simp only[Au] at h
  split at h
  ·rename_i hk;simp[hk]
  ·simp[ih h]
theorem Wf.lt {H:Hp} (h:Wf H) {s:Nat} {x:Row} (hl:Au H s=some x):s<A3 H:=h s (B3F hl)
theorem Ay {H:Hp} {x:Row} (hx:x≠.gone):Au ((A3 H,x)::H) (A3 H)=some x:=by
 simp only[Au,if_pos]
 cases x<;>first|rfl|exact absurd rfl hx
theorem Bh {H:Hp} {x y:Row} {s:Nat} (hs:s<A3 H) (hl:Au H s=some y):Au ((A3 H,x)::H) s=some y:=by
 simp only[Au]
 rw[if_neg (by omega)]
 exact hl
structure Lat (H H':Hp) (P:Nat→Prop):Prop where
 wf:Wf H→Wf H'
 nx:A3 H≤A3 H'
 keep:Wf H→∀s x,Au H s=some x→¬P s→Au H' s=some x
theorem Lat.refl (H:Hp) (P:Nat→Prop):Lat H H P:=⟨id,NU _,λ_ _ _ h _=>h⟩
theorem Lat.trans {H H' H'':Hp} {P Q R:Nat→Prop} (h:Lat H H' P) (k:Lat H' H'' Q) (hp:∀s,s<A3 H→P s→R s) (hq:∀s,s<A3 H→Q s→R s):Lat H H'' R:=
 ⟨λw=>k.wf (h.wf w),l1m h.nx k.nx,λw s x hs hn=>k.keep (h.wf w) s x (h.keep w s x hs λhP=>hn (hp s (w.lt hs) hP)) λhQ=>hn (hq s (w.lt hs) hQ)⟩
theorem Lat.cons (H:Hp) (x:Row) (P:Nat→Prop):Lat H ((A3 H,x)::H) P:=⟨B3,l1p _,λw s y hs _=>Bh (w.lt hs) hs⟩
theorem Lat.upd (H:Hp) (r:Nat) (y:Row) {P:Nat→Prop} (hP:P r):Lat H (upd H r y) P:=⟨BL,by rw[Cr];exact NU _,λ_ s x hs hn=>by rw[Ap (λe=>hn (by rw[e];exact hP))];exact hs⟩
def B1 (H:Hp) (e sz:Nat) (v:AV) (n:Nat) (cs:List AV):Prop:=
 (v= .v (.slice none 0 0)∧n=0∧cs=[])∨∃r q,v= .sl sz r 0 n∧Au H r=some (.cells q e cs)∧cs.length=n*sz
def Bb (v:AV) (s:Nat):Prop:=∃sz o n,v= .sl sz s o n
theorem B1.lat {H H':Hp} {e sz n:Nat} {v:AV} {cs:List AV} {P:Nat→Prop} (h:B1 H e sz v n cs) (w:Wf H) (k:Lat H H' P) (hP:∀s,Bb v s→¬P s):B1 H' e sz v n cs:=by
 rcases h with h|⟨r,q,h1,h2,h3⟩
 ·exact .inl h
 ·exact .inr ⟨r,q,h1,k.keep w r _ h2 (hP r ⟨sz,0,n,h1⟩),h3⟩
theorem B1.lt {H:Hp} {e sz n:Nat} {v:AV} {cs:List AV} (h:B1 H e sz v n cs) (w:Wf H) {s:Nat} (hs:Bb v s):s<A3 H:=by
 obtain⟨a,b,c,rfl⟩:=hs
 rcases h with⟨h,_⟩|⟨r,q,h1,h2,h3⟩
 ·cases h
 ·injection h1 with _ h1;subst h1;exact w.lt h2
theorem B1h {H:Hp} {n:Nat} {cs:List AV} {K:Nat→List AV→Al}:VA H (.list n cs) K=K n cs:=rfl
theorem C1Z {H:Hp} {l:List UInt8} {K:Nat→List AV→Al}:VA H (S l) K=K l.length (Ke l):=by
 have:VA H (S l) K=Ia l 0 λm=>V9 l λc=>K m c:=rfl
 rw[this,CA,Uy,K1];rfl
theorem SK {H:Hp} {e sz n:Nat} {v:AV} {cs:List AV} {K:Nat→List AV→Al} (h:B1 H e sz v n cs):VA H v K=K n cs:=by
 rcases h with⟨rfl,rfl,rfl⟩|⟨r,q,rfl,h2,h3⟩
 ·rfl
 ·have:VA H (.sl sz r 0 n) K=Ks H r λx=>Ma x λ_ cs=>FU (Nat.mul n sz) (Dg 0 cs) λc=>K n c:=rfl
  rw[this,Cm h2]
  show FU (n*sz) cs (λc=>K n c)=_
  rw[MM _ _ _ (by omega),l1z (by omega)]
theorem apt {H:Hp} {e sz n m:Nat} {ie i2:TI} {v src:AV} {cs ys:List AV} (h:B1 H e sz v n cs) (hs:∀K:Nat→List AV→Al,VA H src K=K m ys) (hl:ys.length=m*sz) (h1:ys.all AV.one=true) (hsz:sz≠0) (hz:(B6 ie.zero).length=sz)
 (ht:(A5G i2.d&&Wc sz src)=true) (hb:(n+m)*ie.bytes≤70368744177664) (hb2:n+m≤70368744177664):
 ∃v' H',(∀K:KV,Ea e sz ie i2 v src H K=K v' H')∧B1 H' e sz v' (n+m) (cs++ys)∧(∀s,Bb v' s→s=A3 H)∧Lat H H' (Bb v):=by
 have hkey:∀K:KV,A4R e sz ie i2 v src H K=(match(generalizing:=false) v with
  | .v (.slice none 0 0)=>ck (Nat.ble (Nat.mul m ie.bytes) 70368744177664&&Nat.ble m 70368744177664) (HM H λr=>K (.sl sz r 0 m) ((r,.cells false e ys)::H))
  | .sl sz' r1 o n=>Ks H r1 λx=>Ma x λE cs=>Ia cs 0 λcl=>
   ck (Nat.beq E e&&(Nat.beq sz' sz&&(Nat.beq (Nat.add o (Nat.mul n sz)) cl&&(Nat.ble (Nat.mul (Nat.add n m) ie.bytes) 70368744177664&&Nat.ble (Nat.add n m) 70368744177664))))
    (V8 (Dg o cs) ys λcs'=>Oe H r1 .gone λH'=>HM H λr=>fN (Nat.add n m) λnm=>K (.sl sz r 0 nm) ((r,.cells false e cs')::H'))
  |_=>none):= λK=>by
  unfold A4R
  rw[hs,CA,Da,CA]
  have c:(Nat.beq (0+ys.length) (Nat.mul m sz)&&(Qs ys&&(!Nat.beq sz 0&&(Nat.beq (0+(B6 ie.zero).length) sz&&(A5G i2.d&&Wc sz src)))))=true:=by
   have hs0:Nat.beq sz 0=false:=by
    cases hb:Nat.beq sz 0
    ·rfl
    ·exact absurd (UY hb) hsz
   rw[FZ,h1,ht,hz,hl,hs0]
   simp
  rw[c];rfl
 rcases h with⟨rfl,rfl,rfl⟩|⟨r,q,rfl,h2,h3⟩
 ·refine⟨.sl sz (A3 H) 0 m,(A3 H,.cells false e ys)::H,λK=> ?_,.inr ⟨A3 H,false,by rw[K1],by rw[List.nil_append];exact Ay (by simp),by rw[List.nil_append,K1];exact hl⟩,λs ⟨a,b,c,hh⟩=>by injection hh with _ hh;exact hh.symm,Lat.cons _ _ _⟩
  show A4R e sz ie i2 (.v (.slice none 0 0)) src H K=_
  rw[hkey K]
  have c:(Nat.ble (Nat.mul m ie.bytes) 70368744177664&&Nat.ble m 70368744177664)=true:=by
   simp only[K1] at hb hb2
   rw[Jp,XS,XS];exact⟨hb,hb2⟩
  simp only[c,BW]
  rfl
 ·refine⟨.sl sz (A3 H) 0 (n+m),(A3 H,.cells false e (cs++ys))::upd H r .gone,λK=> ?_,.inr ⟨A3 H,false,rfl,?_,by rw[FK,h3,hl,l19]⟩,λs ⟨a,b,c,hh⟩=>by injection hh with _ hh;exact hh.symm,?_⟩
  ·have e1:Ea e sz ie i2 (.sl sz r 0 n) src H K=Ks H r λx=>Ma x λE cs=>Ia cs 0 λcl=>@Bool.rec (λ_=>Al) (Po (Nat.add 0 (Nat.mul n sz)) cs λcs'=>Oe H r (.cells false E cs') λH1=>A4R e sz ie i2 (.sl sz r 0 n) src H1 K) (A4R e sz ie i2 (.sl sz r 0 n) src H K) (Nat.beq (Nat.add 0 (Nat.mul n sz)) cl):=rfl
   rw[e1,Cm h2]
   have e2:∀F:TypeId→List AV→Al,Ma (.cells q e cs) F=F e cs:= λ_=>rfl
   rw[e2,CA]
   have c0:Nat.beq (Nat.add 0 (Nat.mul n sz)) (0+cs.length)=true:=by
    show Nat.beq (0+n*sz) (0+cs.length)=true
    rw[h3];exact l29 _
   rw[c0]
   show A4R e sz ie i2 (.sl sz r 0 n) src H K=_
   rw[hkey K]
   simp only
   rw[Cm h2,e2,CA]
   have c:(Nat.beq e e&&(Nat.beq sz sz&&(Nat.beq (Nat.add 0 (Nat.mul n sz)) (0+cs.length)&&(Nat.ble (Nat.mul (Nat.add n m) ie.bytes) 70368744177664&&Nat.ble (Nat.add n m) 70368744177664))))=true:=by
    rw[c0,l29,l29]
    simp only[l16,Jp,XS]
    exact⟨hb,hb2⟩
   rw[c]
   show V8 (Dg 0 cs) ys _=_
   rw[LI,D8,BW,DL,Ct]
   rfl
  ·have:=Ay (H:=upd H r .gone) (x:= .cells false e (cs++ys)) (by simp)
   rw[Cr] at this
   exact this
  ·have h4:Lat H (upd H r .gone) (Bb (.sl sz r 0 n)):=Lat.upd H r .gone ⟨sz,0,n,rfl⟩
   have h5:=Lat.cons (upd H r .gone) (.cells false e (cs++ys)) (Bb (.sl sz r 0 n))
   rw[Cr] at h5
   exact h4.trans h5 (λ_ _ h=>h) (λ_ _ h=>h)
theorem B16 (a:AV):∀n (K:List AV→Al),WG n [a] K=K (List.replicate n a):=by
 intro n K
 rw[TW]
 congr 1
 induction n with
 |zero=>rfl
 |succ n ih=>simp[Tz,ih,l17]
theorem A8W {H:Hp} {e:Nat} {ie:TI} {a z:AV} (hz:∀K:List AV→Al,GT ie.zero K=K [z]) (ha:∀K:List AV→Al,GT a K=K [a]) (h1:AV.one a=true) (K:KV):Ft e 1 ie 1 [(0,1,a)] H K=K (.sl 1 (A3 H) 0 1) ((A3 H,.cells false e [a])::H):=by
 unfold Ft
 rw[hz]
 show WG 1 [z] (λcs=>V7 [(0,1,a)] cs λcs'=>HM H λs=>K (.sl 1 s 0 1) ((s,.cells false e cs')::H))=_
 rw[B16]
 show GT a (λvs=>Ia vs 0 λn=>ck (Nat.beq n 1) (ck (Qs vs) (EL 0 vs [z] λcs'=>HM H λs=>K (.sl 1 s 0 1) ((s,.cells false e cs')::H))))=_
 rw[ha]
 have:Qs [a]=true:=by rw[FZ];simp[h1]
 show ck (Qs [a]) (HM H λs=>K (.sl 1 s 0 1) ((s,.cells false e [a])::H))=_
 rw[this,BW];rfl
theorem OJ {H:Hp} {e n:Nat} {cs:List AV} (h:cs.length=n):B1 ((A3 H,.cells false e cs)::H) e 1 (.sl 1 (A3 H) 0 n) n cs:= .inr ⟨A3 H,false,rfl,Ay (by simp),by omega⟩
theorem B01 (l:List UInt8):(Ke l).all AV.one=true:=by simp[Ke,AV.one,Value.oneCell']
theorem Ns (l:List UInt8):(Ke l).length=l.length:=by simp[Ke]
theorem A4V (a b:List UInt8):Ke a++Ke b=Ke (a++b):=by simp[Ke]
end Go.Abs
end
