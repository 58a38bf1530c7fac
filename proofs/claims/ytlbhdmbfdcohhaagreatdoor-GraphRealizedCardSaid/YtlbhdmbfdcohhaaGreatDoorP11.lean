import Derived.Test.YtlbhdmbfdcohhaaGreatDoorP10
set_option linter.all false
set_option maxHeartbeats 100000000
noncomputable section
namespace Go.Abs
open Go.RowKit
def BT.All {α:Type} (p:Nat→α→Prop):BT α→Prop
 | .leaf=>True
 | .node k v l r=>p k v∧l.All p∧r.All p
theorem A4g {α:Type} {p:Nat→α→Prop}:(BT.leaf:BT α).All p:=trivial
theorem A4f {α:Type} {p:Nat→α→Prop} {k:Nat} {v:α} {l r:BT α} (h:p k v) (hl:l.All p) (hr:r.All p):(BT.node k v l r).All p:=⟨h,hl,hr⟩
theorem BT.All.get {α:Type} {p:Nat→α→Prop}:∀{b:BT α},b.All p→∀{i:Nat} {v:α},b.get i=some v→p i v:=by
 intro b
 induction b with
 |leaf=>intro _ i v h;cases h
 |node k w l r ihl ihr=>
  intro ha i v h
  obtain⟨h1,h2,h3⟩:=ha
  simp only[BT.get] at h
  split at h
  ·rename_i hk
   injection h with h
   subst h
   rw[Uq hk];exact h1
  ·split at h
   ·exact ihl h2 h
   ·exact ihr h3 h
abbrev NF:=Rt→List AV→Hp→KV→Am
def ar0 (F:Hp→KV→Am) (l:List AV):Hp→KV→Am:=match l with|[]=>F|_=> λ_ _=>none
def ar1 (F:AV→Hp→KV→Am) (l:List AV):Hp→KV→Am:=match l with|[a]=>F a|_=> λ_ _=>none
def ar2 (F:AV→AV→Hp→KV→Am) (l:List AV):Hp→KV→Am:=match l with|[a,b]=>F a b|_=> λ_ _=>none
def ar3 (F:AV→AV→AV→Hp→KV→Am) (l:List AV):Hp→KV→Am:=match l with|[a,b,c]=>F a b c|_=> λ_ _=>none
def ar4 (F:AV→AV→AV→AV→Hp→KV→Am) (l:List AV):Hp→KV→Am:=match l with|[a,b,c,d]=>F a b c d|_=> λ_ _=>none
def ar5 (F:AV→AV→AV→AV→AV→Hp→KV→Am) (l:List AV):Hp→KV→Am:=match l with|[a,b,c,d,e]=>F a b c d e|_=> λ_ _=>none
def Vk (E:XE) (R:Rt):A4h:= λcf c t H K=>Vo E R (A8s E R) cf c t H K
def Lk (E:XE) (f:Nat) (F:NF):Prop:=∀(R:Rt) (args:List AV) (H:Hp) (K:KV) (r:AV×Hp),F R args H K=some r→zfn E (Vk E R) f args H K=some r
theorem lk0 {E:XE} {f:Nat} {F:Rt→Hp→KV→Am} (h:∀R H K,zfn E (Vk E R) f [] H K=F R H K):Lk E f λR=>ar0 (F R):= λR args H K r hr=>by
 match args,hr with
 |[],hr=>exact(h R H K).trans hr
theorem lk1 {E:XE} {f:Nat} {F:Rt→AV→Hp→KV→Am} (h:∀R a H K,zfn E (Vk E R) f [a] H K=F R a H K):Lk E f λR=>ar1 (F R):= λR args H K r hr=>by
 match args,hr with
 |[a],hr=>exact(h R a H K).trans hr
theorem lk2 {E:XE} {f:Nat} {F:Rt→AV→AV→Hp→KV→Am} (h:∀R a b H K,zfn E (Vk E R) f [a,b] H K=F R a b H K):Lk E f λR=>ar2 (F R):= λR args H K r hr=>by
 match args,hr with
 |[a,b],hr=>exact(h R a b H K).trans hr
theorem lk3 {E:XE} {f:Nat} {F:Rt→AV→AV→AV→Hp→KV→Am} (h:∀R a b c H K,zfn E (Vk E R) f [a,b,c] H K=F R a b c H K):Lk E f λR=>ar3 (F R):= λR args H K r hr=>by
 match args,hr with
 |[a,b,c],hr=>exact(h R a b c H K).trans hr
theorem lk4 {E:XE} {f:Nat} {F:Rt→AV→AV→AV→AV→Hp→KV→Am} (h:∀R a b c d H K,zfn E (Vk E R) f [a,b,c,d] H K=F R a b c d H K):Lk E f λR=>ar4 (F R):= λR args H K r hr=>by
 match args,hr with
 |[a,b,c,d],hr=>exact(h R a b c d H K).trans hr
theorem lk5 {E:XE} {f:Nat} {F:Rt→AV→AV→AV→AV→AV→Hp→KV→Am} (h:∀R a b c d e H K,zfn E (Vk E R) f [a,b,c,d,e] H K=F R a b c d e H K):Lk E f λR=>ar5 (F R):= λR args H K r hr=>by
 match args,hr with
 |[a,b,c,d,e],hr=>exact(h R a b c d e H K).trans hr
def A32 (E:XE) (nT:BT NF) (R:Rt):B4p:= λf args H K=>match nT.get f with|some F=>F R args H K|none=>zfn E (Vk E R) f args H K
abbrev OF:=List AV→Hp→KV→Am→Am
def A6c (E:XE) (P:Program) (f:Nat) (F:OF):Prop:=∀(args:List AV) (H:Hp) (K:KV) (alt:Am) (r:AV×Hp),F args H K alt=some r→
 alt=some r∨(YU P f∧Qt P E.G f args H (λv' H'=>K v' H'=some r))
def A62 (E:XE) (nT:BT NF) (oT:BT OF) (R:Rt):B4p:= λf args H K=>match oT.get f with
 |some F=>F args H K (A32 E nT R f args H K)
 |none=>A32 E nT R f args H K
def RN (E:XE) (nT:BT NF) (oT:BT OF) (n:Nat):Rt:=@Nat.rec (λ_=>Rt) ⟨λ_ _ _ _=>none,λ_ _ _ _ _=>none⟩ (λ_ R=>⟨A62 E nT oT R,Vk E R⟩) n
section
variable {E:XE} {nT:BT NF} {oT:BT OF} {f:Nat}
theorem QM {F:NF} (h:nT.get f=some F) (ho:oT.get f=none) (n:Nat) (args:List AV) (H:Hp) (K:KV):(RN E nT oT (n+1)).call f args H K=F (RN E nT oT n) args H K:=by
 show A62 E nT oT (RN E nT oT n) f args H K=_
 unfold A62
 rw[ho]
 unfold A32
 simp only[h]
theorem A7v {F:Rt→Hp→KV→Am} (h:nT.get f=some λR=>ar0 (F R)) (ho:oT.get f=none) (n:Nat) (H:Hp) (K:KV):(RN E nT oT (n+1)).call f [] H K=F (RN E nT oT n) H K:=QM h ho n _ H K
theorem A7u {F:Rt→AV→Hp→KV→Am} (h:nT.get f=some λR=>ar1 (F R)) (ho:oT.get f=none) (n:Nat) (a:AV) (H:Hp) (K:KV):(RN E nT oT (n+1)).call f [a] H K=F (RN E nT oT n) a H K:=QM h ho n _ H K
theorem A7t {F:Rt→AV→AV→Hp→KV→Am} (h:nT.get f=some λR=>ar2 (F R)) (ho:oT.get f=none) (n:Nat) (a b:AV) (H:Hp) (K:KV):(RN E nT oT (n+1)).call f [a,b] H K=F (RN E nT oT n) a b H K:=QM h ho n _ H K
theorem A7s {F:Rt→AV→AV→AV→Hp→KV→Am} (h:nT.get f=some λR=>ar3 (F R)) (ho:oT.get f=none) (n:Nat) (a b c:AV) (H:Hp) (K:KV):(RN E nT oT (n+1)).call f [a,b,c] H K=F (RN E nT oT n) a b c H K:=QM h ho n _ H K
theorem A7r {F:Rt→AV→AV→AV→AV→Hp→KV→Am} (h:nT.get f=some λR=>ar4 (F R)) (ho:oT.get f=none) (n:Nat) (a b c d:AV) (H:Hp) (K:KV):(RN E nT oT (n+1)).call f [a,b,c,d] H K=F (RN E nT oT n) a b c d H K:=QM h ho n _ H K
end
theorem A7q {E:XE} {nT:BT NF} {oT:BT OF} {P:Program} (hE:XE.Ok ZQ E P) (hT:nT.All (Lk E)) (hO:oT.All (A6c E P)):∀n,RSound ZQ E P (RN E nT oT n):=by
 intro n
 induction n with
 |zero=>
  refine⟨?_,?_⟩
  ·intro ro cf c t H K r m h1 h2 h
   cases h
  ·intro f args H K r h
   cases h
 |succ n ih=>
  have hZ:A8o ZQ E P (A8s E (RN E nT oT n)):=A4v (λ_ _ _ _ h=>h) hE ih
  have hrun:W9 ZQ E P (Vk E (RN E nT oT n)):= λro cf c t H K r m hro hd h=>A4w hE ih hZ hro c t H K hd h
  have hcN:∀(f:Nat) (args:List AV) (H:Hp) (K:KV) (r:AV×Hp),A32 E nT (RN E nT oT n) f args H K=some r→YU P f∧Qt P E.G f args H (λv H'=>K v H'=some r):= λf args H K r h=>by
   unfold A32 at h
   split at h
   ·rename_i F hF
    exact A2f hE hrun (hT.get hF _ _ _ _ _ h)
   ·exact A2f hE hrun h
  refine⟨hrun,λf args H K r h=> ?_⟩
  have h:A62 E nT oT (RN E nT oT n) f args H K=some r:=h
  unfold A62 at h
  split at h
  ·rename_i F hF
   rcases hO.get hF _ _ _ _ _ h with h|h
   ·exact hcN f args H K r h
   ·exact h
  ·exact hcN f args H K r h
theorem A1k {P:Program} {G:Gl} {f:Nat} {args:List AV} {H:Hp} {x:Value} {K:KV} {r:AV×Hp} (hK:K (.v x) H=some r) (hc:∀w0 C w ys,Rel G w0 C H w→BV C w args ys→Calls P f ys.toArray w λe w'=>e= .returned x∧Below w.heap.size w w'):Qt P G f args H (λv' H'=>K v' H'=some r):= λw0 C w ys hr ha=>
 (hc w0 C w ys hr ha).mono λe w' ⟨he,hb⟩=>⟨.v x,x,C,H,he,hr.of_below hb,.v _,(hr.ext_below hb).frm,hK⟩
def PS (R:Rt) (f:Nat) (args:List AV) (v:AV):Prop:=∀H K,Ah R f args H K=K v
def Fx (b:Bool) (D:Nat) (a a':AV) (H:Hp) (q:Bool):Prop:=∀K:Bool→AV→Am,I8 b H D a K=K q a'
theorem E1 {b:Bool} {D:Nat} {x:Value} {H:Hp}:Fx b D (.v x) (.v x) H false:= λK=>by cases D<;>rfl
theorem NM {D n:Nat} {cs:List AV} {H:Hp}:Fx true D (.list n cs) (.list n cs) H false:= λK=>by cases D<;>rfl
theorem B6z {D:Nat} {es:List (Value×AV)} {H:Hp}:Fx true D (.imap es) (.imap es) H false:= λK=>by cases D<;>rfl
def Py (b:Bool) (D:Nat) (l l':List AV) (H:Hp) (q:Bool):Prop:=∀K:Bool→List AV→Am,Hf (I8 b H D) l K=K q l'
theorem Bl {b:Bool} {D:Nat} {H:Hp}:Py b D [] [] H false:= λ_=>rfl
theorem Ay {b:Bool} {D:Nat} {a a':AV} {l l':List AV} {H:Hp} {q q':Bool} (h:Fx b D a a' H q) (k:Py b D l l' H q'):Py b D (a::l) (a'::l') H (q||q'):= λK=>by
 have e:Hf (I8 b H D) (a::l) K=I8 b H D a λq a'=>Hf (I8 b H D) l λq' l'=>K (@Bool.rec (λ_=>Bool) q' true q) (a'::l'):=rfl
 rw[e,h,k]
 cases q<;>rfl
theorem J6 {b:Bool} {D:Nat} {H:Hp} {α:Type} (f:α→Value):∀(l:List α),Py b D (l.map λx=> .v (f x)) (l.map λx=> .v (f x)) H false
 |[]=>Bl
 |a::l=>Ay (q:=false) (q':=false) E1 (J6 f l)
theorem OH {b:Bool} {D:Nat} {cs cs':List AV} {H:Hp} {q:Bool} (h:Py b D cs cs' H q):Fx b (D+1) (.agg cs) (.agg cs') H q:= λK=>h _
theorem UW {b:Bool} {D:Nat} {cs cs':List AV} {H:Hp} {q:Bool} (h:Py b D cs cs' H q):Fx b (D+1) (.tup cs) (.tup cs') H q:= λK=>h _
theorem C6 {H:Hp} {r:Nat} {x:Row} {K:Row→Am} (h:Aw H r=some x):Lf H r K=K x:=by
 induction H with
 |nil=>simp[Aw] at h
 |cons p H ih=>
  obtain⟨k,y⟩:=p
  simp only[Aw] at h
  have e:Lf ((k,y)::H) r K=@Bool.rec (λ_=>Am) (Lf H r K) (K y) (Nat.beq r k):=rfl
  rw[e]
  by_cases hk:r=k
  ·rw[if_pos hk] at h
   rw[hk,l29,←(VP h).1]
  ·rw[if_neg hk] at h
   have:Nat.beq r k=false:=by
    cases hb:Nat.beq r k
    ·rfl
    ·exact absurd (Uq hb) hk
   rw[this]
   exact ih h
theorem VZ {b:Bool} {D:Nat} {H:Hp} {sz s n:Nat} {q:Bool} {e:TypeId} {cs cs':List AV} {q':Bool} (hl:Aw H s=some (.cells q e cs)) (hn:cs.length=n*sz) (h:Py b D cs cs' H q'):Fx b (D+1) (.sl sz s 0 n) (.list n cs') H true:= λK=>by
 have e1:I8 b H (D+1) (.sl sz s 0 n) K=Lf H s λx=>L2 x λ_ cs=>F2 (Nat.mul n sz) (Da 0 cs) λc=>Hf (I8 b H D) c λ_ c'=>K true (.list n c'):=rfl
 rw[e1,C6 hl]
 have e2:(L2 (.cells q e cs) λ_ cs=>F2 (Nat.mul n sz) (Da 0 cs) λc=>Hf (I8 b H D) c λ_ c'=>K true (.list n c'))=F2 (n*sz) cs λc=>Hf (I8 b H D) c λ_ c'=>K true (.list n c'):=rfl
 rw[e2,Mj _ _ _ (by omega),l1z (by omega),h]
def CS (R:Rt) (f:Nat) (args:List AV) (v:AV):Prop:=∀K:KV,(∀v0 H0,(∀b,∃q,Fx b depth v0 v H0 q)→K v0 H0=some (v,[]))→R.call f args [] K=some (v,[])
theorem AZ {R:Rt} {f:Nat} {args args':List AV} {v:AV} {H:Hp} {q:Bool} {K:AV→Am} (hc:CS R f args' v) (ha:Py true depth args args' H q):Ah R f args H K=K v:=by
 unfold Ah
 rw[ha]
 have:=hc (λv0 H'=>I8 (!q) H' depth v0 λ_ v'=>some (v',[])) (λv0 H0 h=>by
  obtain⟨q',h'⟩:=h (!q)
  exact h' _)
 rw[this]
 rfl
theorem CS.ps {R:Rt} {f:Nat} {args:List AV} {v:AV} (hc:CS R f args v) (ha:∀H,Py true depth args args H false):PS R f args v:= λH K=>AZ hc (ha H)
abbrev W (x:BitVec 32):AV:= .v (.int .u32 (x.toNat:Int))
abbrev By (b:UInt8):AV:= .v (.int .u8 (b.toNat:Int))
def JA (l:List UInt8):List AV:=l.map λb=>By b
def CM (l:List (BitVec 32)):List AV:=l.map λx=>W x
theorem Uz {k:IntKind} (h:k.signed=false) (z:Int):k.wrap z=z%(2^k.bits:Nat):=by
 simp only[IntKind.wrap,h,Bool.false_and]
 simp
theorem IY (x:BitVec 32):BitVec.ofInt 32 (x.toNat:Int)=x:=by
 apply BitVec.eq_of_toNat_eq
 simp
theorem Vs {n:Nat} (h:n<4294967296):IntKind.u32.wrap (n:Int)=(n:Int):=by
 rw[Uz rfl]
 show(n:Int)%(4294967296:Nat)=n
 omega
section
variable {K:AV→Am} {i j:TI} {x y:BitVec 32}
theorem A45 (op:BinOp) (f:IT) (hs:Gi op=false) (hf:A7Y op=f):Aj i op (W x) (W y) K=f .u32 x.toNat y.toNat K:=by
 have:Aj i op (W x) (W y) K=@Bool.rec (λ_=>Am) (ck (decide (IntKind.u32= .u32)) (A7Y op .u32 x.toNat y.toNat K)) (A7Y op .u32 x.toNat y.toNat K) (Gi op):=rfl
 rw[this,hs,hf];rfl
theorem Mt:Aj i .add (W x) (W y) K=K (W (x+y)):=by
 rw[A45 .add B6u rfl rfl]
 unfold B6u
 rw[Ga,Uz rfl]
 have:((x.toNat:Int)+(y.toNat:Int))%(2^IntKind.u32.bits:Nat)=((x+y).toNat:Int):=by
  rw[BitVec.toNat_add]
  show((x.toNat:Int)+(y.toNat:Int))%(4294967296:Nat)=_
  simp only[Int.natCast_emod,Int.natCast_add]
 show K (.v (.int .u32 (((x.toNat:Int)+(y.toNat:Int))%(2^IntKind.u32.bits:Nat))))=_
 rw[this]
theorem QX:Aj i .xor (W x) (W y) K=K (W (x^^^y)):=by
 rw[A45 .xor B6s rfl rfl]
 unfold B6s
 rw[QT]
 have e:(BitVec.ofInt IntKind.u32.bits (x.toNat:Int)^^^BitVec.ofInt IntKind.u32.bits (y.toNat:Int)).toNat=(x^^^y).toNat:=by
  show(BitVec.ofInt 32 (x.toNat:Int)^^^BitVec.ofInt 32 (y.toNat:Int)).toNat=_
  rw[IY,IY]
 rw[e,Vs (x^^^y).isLt]
theorem A2X:Aj i .and (W x) (W y) K=K (W (x&&&y)):=by
 rw[A45 .and B6t rfl rfl]
 unfold B6t
 rw[QT]
 have e:(BitVec.ofInt IntKind.u32.bits (x.toNat:Int)&&&BitVec.ofInt IntKind.u32.bits (y.toNat:Int)).toNat=(x&&&y).toNat:=by
  show(BitVec.ofInt 32 (x.toNat:Int)&&&BitVec.ofInt 32 (y.toNat:Int)).toNat=_
  rw[IY,IY]
 rw[e,Vs (x&&&y).isLt]
theorem Ws:Aj i .or (W x) (W y) K=K (W (x|||y)):=by
 rw[A45 .or iOr rfl rfl]
 unfold iOr
 rw[QT]
 have e:(BitVec.ofInt IntKind.u32.bits (x.toNat:Int)|||BitVec.ofInt IntKind.u32.bits (y.toNat:Int)).toNat=(x|||y).toNat:=by
  show(BitVec.ofInt 32 (x.toNat:Int)|||BitVec.ofInt 32 (y.toNat:Int)).toNat=_
  rw[IY,IY]
 rw[e,Vs (x|||y).isLt]
theorem B3E:EP .xor (W x) K=K (W (~~~x)):=by
 have e0:EP .xor (W x) K=fI (IntKind.u32.wrap ((BitVec.ofInt IntKind.u32.bits (if IntKind.u32.signed=true then-1 else IntKind.u32.max)^^^BitVec.ofInt IntKind.u32.bits (x.toNat:Int)).toNat)) λz=>K (.v (.int .u32 z)):=rfl
 rw[e0,QT]
 have e:(BitVec.ofInt IntKind.u32.bits (if IntKind.u32.signed=true then-1 else IntKind.u32.max)^^^BitVec.ofInt IntKind.u32.bits (x.toNat:Int)).toNat=(~~~x).toNat:=by
  show(BitVec.ofInt 32 4294967295^^^BitVec.ofInt 32 (x.toNat:Int)).toNat=_
  rw[IY]
  have:BitVec.ofInt 32 4294967295=BitVec.allOnes 32:=by decide
  rw[this,BitVec.allOnes_xor]
 rw[e,Vs (~~~x).isLt]
theorem He {q:IntKind} {z:Int} {k:Nat} (hz:z=k) (hk:k≤32):Aj i .shr (W x) (.v (.int q z)) K=K (W (x>>>k)):=by
 subst hz
 have:Aj i .shr (W x) (.v (.int q (k:Int))) K=ck (YL 0 (k:Int)) (fI ((x.toNat:Int).fdiv (2^(min (k:Int).toNat 32))) λz=>K (.v (.int .u32 z))):=rfl
 rw[this,QT]
 have h1:YL 0 (k:Int)=true:=by rw[Jc];simp
 have h2:(x.toNat:Int).fdiv (2^(min (k:Int).toNat 32))=((x>>>k).toNat:Int):=by
  rw[WB,l1x hk,BitVec.toNat_ushiftRight,Nat.shiftRight_eq_div_pow]
  have:((2:Int)^k)=((2^k:Nat):Int):=by simp
  rw[this,Int.fdiv_eq_ediv_of_nonneg _ (Int.natCast_nonneg _)]
  exact(Int.natCast_ediv _ _).symm
 rw[h1,h2]
 rfl
theorem Jh {q:IntKind} {z:Int} {k:Nat} (hz:z=k) (hk:k≤32):Aj i .shl (W x) (.v (.int q z)) K=K (W (x<<<k)):=by
 subst hz
 have:Aj i .shl (W x) (.v (.int q (k:Int))) K=ck (YL 0 (k:Int)) (Lg .u32 ((x.toNat:Int)*2^(min (k:Int).toNat 32)) λz=>K (.v (.int .u32 z))):=rfl
 rw[this,Ga,Uz rfl]
 have h1:YL 0 (k:Int)=true:=by rw[Jc];simp
 have h2:((x.toNat:Int)*2^(min (k:Int).toNat 32))%(2^IntKind.u32.bits:Nat)=((x<<<k).toNat:Int):=by
  rw[WB,l1x hk,BitVec.toNat_shiftLeft,Nat.shiftLeft_eq]
  have:((2:Int)^k)=((2^k:Nat):Int):=by simp
  rw[this,←Int.natCast_mul]
  exact(Int.natCast_emod _ _).symm
 rw[h1,h2]
 rfl
theorem B3R {a b a' b':Nat} {zi zj:AV} {k:IntKind}:EO ⟨a,b,.int k,zi⟩ ⟨a',b',.int .u8,zj⟩ (W x) K=K (By (UInt8.ofNat x.toNat)):=by
 have:EO ⟨a,b,.int k,zi⟩ ⟨a',b',.int .u8,zj⟩ (W x) K=Lg .u8 (x.toNat:Int) λz=>K (.v (.int .u8 z)):=rfl
 rw[this,Ga,Uz rfl]
 have:(x.toNat:Int)%(2^IntKind.u8.bits:Nat)=((UInt8.ofNat x.toNat).toNat:Int):=by
  rw[UInt8.toNat_ofNat']
  exact(Int.natCast_emod _ _).symm
 rw[this]
theorem B3S {a b a' b':Nat} {zi zj:AV} {k:IntKind} {c:UInt8}:EO ⟨a,b,.int k,zi⟩ ⟨a',b',.int .u32,zj⟩ (By c) K=K (W (BitVec.ofNat 32 c.toNat)):=by
 have:EO ⟨a,b,.int k,zi⟩ ⟨a',b',.int .u32,zj⟩ (By c) K=Lg .u32 (c.toNat:Int) λz=>K (.v (.int .u32 z)):=rfl
 rw[this,Ga,Uz rfl]
 have:(c.toNat:Int)%(2^IntKind.u32.bits:Nat)=((BitVec.ofNat 32 c.toNat).toNat:Int):=by
  rw[BitVec.toNat_ofNat]
  exact(Int.natCast_emod _ _).symm
 rw[this]
theorem B3X {v:AV} {H:Hp}:Ai (some (v,H)) K=K v:=id rfl
theorem A89 {v:AV} {H:Hp} {K':KV}:DC (some (v,H)) K'=K' v H:=id rfl
end
def Wf (H:Hp):Prop:=∀k∈H.map (·.1),k<A7 H
theorem B3b (H:Hp) (r:Nat) (y:Row):(upd H r y).map (·.1)=H.map (·.1):=by
 induction H with
 |nil=>rfl
 |cons p H ih=>
  obtain⟨k,x⟩:=p
  by_cases hk:r=k
  ·subst hk;simp[upd]
  ·simp[upd,hk,ih]
theorem Fw:Wf []:= λk h=>by simp at h
theorem BP {H:Hp} {x:Row} (h:Wf H):Wf ((A7 H,x)::H):= λk hk=>by
 show k<A7 H+1
 simp only[l1i,XQ] at hk
 rcases hk with rfl|hk
 ·omega
 ·have:=h k hk;omega
theorem C7 {H:Hp} {r:Nat} {y:Row} (h:Wf H):Wf (upd H r y):= λk hk=>by rw[Ee];rw[B3b] at hk;exact h k hk
theorem B30 {H:Hp} {s:Nat} {x:Row} (h:Aw H s=some x):s∈H.map (·.1):=by
 induction H with
 |nil=>simp[Aw] at h
 |cons p H ih=>
  obtain⟨k,y⟩:=p
  simp only[Aw] at h
  split at h
  ·rename_i hk;simp[hk]
  ·simp[ih h]
theorem Wf.lt {H:Hp} (h:Wf H) {s:Nat} {x:Row} (hl:Aw H s=some x):s<A7 H:=h s (B30 hl)
theorem A0 {H:Hp} {x:Row} (hx:x≠.gone):Aw ((A7 H,x)::H) (A7 H)=some x:=by
 simp only[Aw,if_pos]
 cases x<;>first|rfl|exact absurd rfl hx
theorem Bn {H:Hp} {x y:Row} {s:Nat} (hs:s<A7 H) (hl:Aw H s=some y):Aw ((A7 H,x)::H) s=some y:=by
 simp only[Aw]
 rw[if_neg (by omega)]
 exact hl
structure Lat (H H':Hp) (P:Nat→Prop):Prop where
 wf:Wf H→Wf H'
 nx:A7 H≤A7 H'
 keep:Wf H→∀s x,Aw H s=some x→¬P s→Aw H' s=some x
theorem Lat.refl (H:Hp) (P:Nat→Prop):Lat H H P:=⟨id,NV _,λ_ _ _ h _=>h⟩
theorem Lat.trans {H H' H'':Hp} {P Q R:Nat→Prop} (h:Lat H H' P) (k:Lat H' H'' Q) (hp:∀s,s<A7 H→P s→R s) (hq:∀s,s<A7 H→Q s→R s):Lat H H'' R:=
 ⟨λw=>k.wf (h.wf w),l1m h.nx k.nx,λw s x hs hn=>k.keep (h.wf w) s x (h.keep w s x hs λhP=>hn (hp s (w.lt hs) hP)) λhQ=>hn (hq s (w.lt hs) hQ)⟩
theorem Lat.cons (H:Hp) (x:Row) (P:Nat→Prop):Lat H ((A7 H,x)::H) P:=⟨BP,l1p _,λw s y hs _=>Bn (w.lt hs) hs⟩
theorem Lat.upd (H:Hp) (r:Nat) (y:Row) {P:Nat→Prop} (hP:P r):Lat H (upd H r y) P:=⟨C7,by rw[Ee];exact NV _,λ_ s x hs hn=>by rw[As (λe=>hn (by rw[e];exact hP))];exact hs⟩
def B3 (H:Hp) (e sz:Nat) (v:AV) (n:Nat) (cs:List AV):Prop:=
 (v= .v (.slice none 0 0)∧n=0∧cs=[])∨∃r q,v= .sl sz r 0 n∧Aw H r=some (.cells q e cs)∧cs.length=n*sz
def Bh (v:AV) (s:Nat):Prop:=∃sz o n,v= .sl sz s o n
theorem B3.lat {H H':Hp} {e sz n:Nat} {v:AV} {cs:List AV} {P:Nat→Prop} (h:B3 H e sz v n cs) (w:Wf H) (k:Lat H H' P) (hP:∀s,Bh v s→¬P s):B3 H' e sz v n cs:=by
 rcases h with h|⟨r,q,h1,h2,h3⟩
 ·exact .inl h
 ·exact .inr ⟨r,q,h1,k.keep w r _ h2 (hP r ⟨sz,0,n,h1⟩),h3⟩
theorem B3.lt {H:Hp} {e sz n:Nat} {v:AV} {cs:List AV} (h:B3 H e sz v n cs) (w:Wf H) {s:Nat} (hs:Bh v s):s<A7 H:=by
 obtain⟨a,b,c,rfl⟩:=hs
 rcases h with⟨h,_⟩|⟨r,q,h1,h2,h3⟩
 ·cases h
 ·injection h1 with _ h1;subst h1;exact w.lt h2
theorem B0H {H:Hp} {n:Nat} {cs:List AV} {K:Nat→List AV→Am}:Vb H (.list n cs) K=K n cs:=rfl
theorem C1k {H:Hp} {l:List UInt8} {K:Nat→List AV→Am}:Vb H (S l) K=K l.length (JA l):=by
 have:Vb H (S l) K=Hw l 0 λm=>Va l λc=>K m c:=rfl
 rw[this,C4,TT,Le];rfl
theorem Sg {H:Hp} {e sz n:Nat} {v:AV} {cs:List AV} {K:Nat→List AV→Am} (h:B3 H e sz v n cs):Vb H v K=K n cs:=by
 rcases h with⟨rfl,rfl,rfl⟩|⟨r,q,rfl,h2,h3⟩
 ·rfl
 ·have:Vb H (.sl sz r 0 n) K=Lf H r λx=>L2 x λ_ cs=>F2 (Nat.mul n sz) (Da 0 cs) λc=>K n c:=rfl
  rw[this,C6 h2]
  show F2 (n*sz) cs (λc=>K n c)=_
  rw[Mj _ _ _ (by omega),l1z (by omega)]
theorem apt {H:Hp} {e sz n m:Nat} {ie i2:TI} {v src:AV} {cs ys:List AV} (h:B3 H e sz v n cs) (hs:∀K:Nat→List AV→Am,Vb H src K=K m ys) (hl:ys.length=m*sz) (h1:ys.all AV.one=true) (hsz:sz≠0) (hz:(B7 ie.zero).length=sz)
 (ht:(A4O i2.d&&V2 sz src)=true) (hb:(n+m)*ie.bytes≤70368744177664) (hb2:n+m≤70368744177664):
 ∃v' H',(∀K:KV,Ea e sz ie i2 v src H K=K v' H')∧B3 H' e sz v' (n+m) (cs++ys)∧(∀s,Bh v' s→s=A7 H)∧Lat H H' (Bh v):=by
 have hkey:∀K:KV,A46 e sz ie i2 v src H K=(match(generalizing:=false) v with
  | .v (.slice none 0 0)=>ck (Nat.ble (Nat.mul m ie.bytes) 70368744177664&&Nat.ble m 70368744177664) (Ij H λr=>K (.sl sz r 0 m) ((r,.cells false e ys)::H))
  | .sl sz' r1 o n=>Lf H r1 λx=>L2 x λE cs=>Hw cs 0 λcl=>
   ck (Nat.beq E e&&(Nat.beq sz' sz&&(Nat.beq (Nat.add o (Nat.mul n sz)) cl&&(Nat.ble (Nat.mul (Nat.add n m) ie.bytes) 70368744177664&&Nat.ble (Nat.add n m) 70368744177664))))
    (UZ (Da o cs) ys λcs'=>Qf H r1 .gone λH'=>Ij H λr=>fN (Nat.add n m) λnm=>K (.sl sz r 0 nm) ((r,.cells false e cs')::H'))
  |_=>none):= λK=>by
  unfold A46
  rw[hs,C4,Dq,C4]
  have c:(Nat.beq (0+ys.length) (Nat.mul m sz)&&(PK ys&&(!Nat.beq sz 0&&(Nat.beq (0+(B7 ie.zero).length) sz&&(A4O i2.d&&V2 sz src)))))=true:=by
   have hs0:Nat.beq sz 0=false:=by
    cases hb:Nat.beq sz 0
    ·rfl
    ·exact absurd (Uq hb) hsz
   rw[G9,h1,ht,hz,hl,hs0]
   simp
  rw[c];rfl
 rcases h with⟨rfl,rfl,rfl⟩|⟨r,q,rfl,h2,h3⟩
 ·refine⟨.sl sz (A7 H) 0 m,(A7 H,.cells false e ys)::H,λK=> ?_,.inr ⟨A7 H,false,by rw[Le],by rw[List.nil_append];exact A0 (by simp),by rw[List.nil_append,Le];exact hl⟩,λs ⟨a,b,c,hh⟩=>by injection hh with _ hh;exact hh.symm,Lat.cons _ _ _⟩
  show A46 e sz ie i2 (.v (.slice none 0 0)) src H K=_
  rw[hkey K]
  have c:(Nat.ble (Nat.mul m ie.bytes) 70368744177664&&Nat.ble m 70368744177664)=true:=by
   simp only[Le] at hb hb2
   rw[Iv,Xu,Xu];exact⟨hb,hb2⟩
  simp only[c,Cg]
  rfl
 ·refine⟨.sl sz (A7 H) 0 (n+m),(A7 H,.cells false e (cs++ys))::upd H r .gone,λK=> ?_,.inr ⟨A7 H,false,rfl,?_,by rw[F5,h3,hl,l19]⟩,λs ⟨a,b,c,hh⟩=>by injection hh with _ hh;exact hh.symm,?_⟩
  ·have e1:Ea e sz ie i2 (.sl sz r 0 n) src H K=Lf H r λx=>L2 x λE cs=>Hw cs 0 λcl=>@Bool.rec (λ_=>Am) (QQ (Nat.add 0 (Nat.mul n sz)) cs λcs'=>Qf H r (.cells false E cs') λH1=>A46 e sz ie i2 (.sl sz r 0 n) src H1 K) (A46 e sz ie i2 (.sl sz r 0 n) src H K) (Nat.beq (Nat.add 0 (Nat.mul n sz)) cl):=rfl
   rw[e1,C6 h2]
   have e2:∀F:TypeId→List AV→Am,L2 (.cells q e cs) F=F e cs:= λ_=>rfl
   rw[e2,C4]
   have c0:Nat.beq (Nat.add 0 (Nat.mul n sz)) (0+cs.length)=true:=by
    show Nat.beq (0+n*sz) (0+cs.length)=true
    rw[h3];exact l29 _
   rw[c0]
   show A46 e sz ie i2 (.sl sz r 0 n) src H K=_
   rw[hkey K]
   simp only
   rw[C6 h2,e2,C4]
   have c:(Nat.beq e e&&(Nat.beq sz sz&&(Nat.beq (Nat.add 0 (Nat.mul n sz)) (0+cs.length)&&(Nat.ble (Nat.mul (Nat.add n m) ie.bytes) 70368744177664&&Nat.ble (Nat.add n m) 70368744177664))))=true:=by
    rw[c0,l29,l29]
    simp only[l16,Iv,Xu]
    exact⟨hb,hb2⟩
   rw[c]
   show UZ (Da 0 cs) ys _=_
   rw[Ll,Ez,Cg,DX,Ct]
   rfl
  ·have:=A0 (H:=upd H r .gone) (x:= .cells false e (cs++ys)) (by simp)
   rw[Ee] at this
   exact this
  ·have h4:Lat H (upd H r .gone) (Bh (.sl sz r 0 n)):=Lat.upd H r .gone ⟨sz,0,n,rfl⟩
   have h5:=Lat.cons (upd H r .gone) (.cells false e (cs++ys)) (Bh (.sl sz r 0 n))
   rw[Ee] at h5
   exact h4.trans h5 (λ_ _ h=>h) (λ_ _ h=>h)
theorem B0v (a:AV):∀n (K:List AV→Am),Wa n [a] K=K (List.replicate n a):=by
 intro n K
 rw[Tz]
 congr 1
 induction n with
 |zero=>rfl
 |succ n ih=>simp[SX,ih,l17]
theorem A8c {H:Hp} {e:Nat} {ie:TI} {a z:AV} (hz:∀K:List AV→Am,Gv ie.zero K=K [z]) (ha:∀K:List AV→Am,Gv a K=K [a]) (h1:AV.one a=true) (K:KV):Fp e 1 ie 1 [(0,1,a)] H K=K (.sl 1 (A7 H) 0 1) ((A7 H,.cells false e [a])::H):=by
 unfold Fp
 rw[hz]
 show Wa 1 [z] (λcs=>UY [(0,1,a)] cs λcs'=>Ij H λs=>K (.sl 1 s 0 1) ((s,.cells false e cs')::H))=_
 rw[B0v]
 show Gv a (λvs=>Hw vs 0 λn=>ck (Nat.beq n 1) (ck (PK vs) (EH 0 vs [z] λcs'=>Ij H λs=>K (.sl 1 s 0 1) ((s,.cells false e cs')::H))))=_
 rw[ha]
 have:PK [a]=true:=by rw[G9];simp[h1]
 show ck (PK [a]) (Ij H λs=>K (.sl 1 s 0 1) ((s,.cells false e [a])::H))=_
 rw[this,Cg];rfl
theorem Og {H:Hp} {e n:Nat} {cs:List AV} (h:cs.length=n):B3 ((A7 H,.cells false e cs)::H) e 1 (.sl 1 (A7 H) 0 n) n cs:= .inr ⟨A7 H,false,rfl,A0 (by simp),by omega⟩
theorem A9p (l:List UInt8):(JA l).all AV.one=true:=by simp[JA,AV.one,Value.oneCell']
theorem MO (l:List UInt8):(JA l).length=l.length:=by simp[JA]
theorem A4b (a b:List UInt8):JA a++JA b=JA (a++b):=by simp[JA]
end Go.Abs
end
