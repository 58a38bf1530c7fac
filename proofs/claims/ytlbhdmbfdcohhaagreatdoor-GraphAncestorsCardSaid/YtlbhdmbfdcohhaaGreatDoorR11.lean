import Derived.Test.YtlbhdmbfdcohhaaGreatDoorRows
import Derived.ProofKit
import Derived.KernelRfl
import Derived.Test.YtlbhdmbfdcohhaaGreatDoorR10
set_option linter.all false
set_option maxHeartbeats 100000000
noncomputable section
namespace Go.Abs
open Go.RowKit
def BT.All {α:Type} (p:Nat→α→Prop):BT α→Prop
 | .leaf=>True
 | .node k v l r=>p k v∧l.All p∧r.All p
theorem A5c {α:Type} {p:Nat→α→Prop}:(BT.leaf:BT α).All p:=trivial
theorem A5b {α:Type} {p:Nat→α→Prop} {k:Nat} {v:α} {l r:BT α} (h:p k v) (hl:l.All p) (hr:r.All p):(BT.node k v l r).All p:=⟨h,hl,hr⟩
theorem BT.All.get {α:Type} {p:Nat→α→Prop}:∀{b:BT α},b.All p→∀{i:Nat} {v:α},b.get i=some v→p i v:=by
 intro b
 induction b with
 |leaf=>intro _ i v h;cases h
 |node k w l r ihl ihr=>
  intro ha i v h
  obtain⟨h1,h2,h3⟩:=ha
  simp only[BT.get] at h
  split at h
  ·rename_i hk
   injection h with h
   subst h
   rw[Vm hk];exact h1
  ·split at h
   ·exact ihl h2 h
   ·exact ihr h3 h
abbrev NF:=Rt→List AV→Hp→KV→Al
def ar0 (F:Hp→KV→Al) (l:List AV):Hp→KV→Al:=match l with|[]=>F|_=> λ_ _=>none
def ar1 (F:AV→Hp→KV→Al) (l:List AV):Hp→KV→Al:=match l with|[a]=>F a|_=> λ_ _=>none
def ar2 (F:AV→AV→Hp→KV→Al) (l:List AV):Hp→KV→Al:=match l with|[a,b]=>F a b|_=> λ_ _=>none
def ar3 (F:AV→AV→AV→Hp→KV→Al) (l:List AV):Hp→KV→Al:=match l with|[a,b,c]=>F a b c|_=> λ_ _=>none
def ar4 (F:AV→AV→AV→AV→Hp→KV→Al) (l:List AV):Hp→KV→Al:=match l with|[a,b,c,d]=>F a b c d|_=> λ_ _=>none
def ar5 (F:AV→AV→AV→AV→AV→Hp→KV→Al) (l:List AV):Hp→KV→Al:=match l with|[a,b,c,d,e]=>F a b c d e|_=> λ_ _=>none
def Vw (E:XE) (R:Rt):A5d:= λcf c t H K=>VY E R (A9n E R) cf c t H K
def Lk (E:XE) (f:Nat) (F:NF):Prop:=∀(R:Rt) (args:List AV) (H:Hp) (K:KV) (r:AV×Hp),F R args H K=some r→zfn E (Vw E R) f args H K=some r
theorem lk0 {E:XE} {f:Nat} {F:Rt→Hp→KV→Al} (h:∀R H K,zfn E (Vw E R) f [] H K=F R H K):Lk E f λR=>ar0 (F R):= λR args H K r hr=>by
 match args,hr with
 |[],hr=>exact(h R H K).trans hr
theorem lk1 {E:XE} {f:Nat} {F:Rt→AV→Hp→KV→Al} (h:∀R a H K,zfn E (Vw E R) f [a] H K=F R a H K):Lk E f λR=>ar1 (F R):= λR args H K r hr=>by
 match args,hr with
 |[a],hr=>exact(h R a H K).trans hr
theorem lk2 {E:XE} {f:Nat} {F:Rt→AV→AV→Hp→KV→Al} (h:∀R a b H K,zfn E (Vw E R) f [a,b] H K=F R a b H K):Lk E f λR=>ar2 (F R):= λR args H K r hr=>by
 match args,hr with
 |[a,b],hr=>exact(h R a b H K).trans hr
theorem lk3 {E:XE} {f:Nat} {F:Rt→AV→AV→AV→Hp→KV→Al} (h:∀R a b c H K,zfn E (Vw E R) f [a,b,c] H K=F R a b c H K):Lk E f λR=>ar3 (F R):= λR args H K r hr=>by
 match args,hr with
 |[a,b,c],hr=>exact(h R a b c H K).trans hr
theorem lk4 {E:XE} {f:Nat} {F:Rt→AV→AV→AV→AV→Hp→KV→Al} (h:∀R a b c d H K,zfn E (Vw E R) f [a,b,c,d] H K=F R a b c d H K):Lk E f λR=>ar4 (F R):= λR args H K r hr=>by
 match args,hr with
 |[a,b,c,d],hr=>exact(h R a b c d H K).trans hr
theorem lk5 {E:XE} {f:Nat} {F:Rt→AV→AV→AV→AV→AV→Hp→KV→Al} (h:∀R a b c d e H K,zfn E (Vw E R) f [a,b,c,d,e] H K=F R a b c d e H K):Lk E f λR=>ar5 (F R):= λR args H K r hr=>by
 match args,hr with
 |[a,b,c,d,e],hr=>exact(h R a b c d e H K).trans hr
def A28 (E:XE) (nT:BT NF) (R:Rt):B5g:= λf args H K=>match nT.get f with|some F=>F R args H K|none=>zfn E (Vw E R) f args H K
abbrev OF:=List AV→Hp→KV→Al→Al
def A79 (E:XE) (P:Program) (f:Nat) (F:OF):Prop:=∀(args:List AV) (H:Hp) (K:KV) (alt:Al) (r:AV×Hp),F args H K alt=some r→
 alt=some r∨(ZR P f∧Rj P E.G f args H (λv' H'=>K v' H'=some r))
def A70 (E:XE) (nT:BT NF) (oT:BT OF) (R:Rt):B5g:= λf args H K=>match oT.get f with
 |some F=>F args H K (A28 E nT R f args H K)
 |none=>A28 E nT R f args H K
def SJ (E:XE) (nT:BT NF) (oT:BT OF) (n:Nat):Rt:=@Nat.rec (λ_=>Rt) ⟨λ_ _ _ _=>none,λ_ _ _ _ _=>none⟩ (λ_ R=>⟨A70 E nT oT R,Vw E R⟩) n
section
variable {E:XE} {nT:BT NF} {oT:BT OF} {f:Nat}
theorem RC {F:NF} (h:nT.get f=some F) (ho:oT.get f=none) (n:Nat) (args:List AV) (H:Hp) (K:KV):(SJ E nT oT (n+1)).call f args H K=F (SJ E nT oT n) args H K:=by
 show A70 E nT oT (SJ E nT oT n) f args H K=_
 unfold A70
 rw[ho]
 unfold A28
 simp only[h]
theorem A8p {F:Rt→Hp→KV→Al} (h:nT.get f=some λR=>ar0 (F R)) (ho:oT.get f=none) (n:Nat) (H:Hp) (K:KV):(SJ E nT oT (n+1)).call f [] H K=F (SJ E nT oT n) H K:=RC h ho n _ H K
theorem A8o {F:Rt→AV→Hp→KV→Al} (h:nT.get f=some λR=>ar1 (F R)) (ho:oT.get f=none) (n:Nat) (a:AV) (H:Hp) (K:KV):(SJ E nT oT (n+1)).call f [a] H K=F (SJ E nT oT n) a H K:=RC h ho n _ H K
theorem A8n {F:Rt→AV→AV→Hp→KV→Al} (h:nT.get f=some λR=>ar2 (F R)) (ho:oT.get f=none) (n:Nat) (a b:AV) (H:Hp) (K:KV):(SJ E nT oT (n+1)).call f [a,b] H K=F (SJ E nT oT n) a b H K:=RC h ho n _ H K
theorem A8m {F:Rt→AV→AV→AV→Hp→KV→Al} (h:nT.get f=some λR=>ar3 (F R)) (ho:oT.get f=none) (n:Nat) (a b c:AV) (H:Hp) (K:KV):(SJ E nT oT (n+1)).call f [a,b,c] H K=F (SJ E nT oT n) a b c H K:=RC h ho n _ H K
theorem A8l {F:Rt→AV→AV→AV→AV→Hp→KV→Al} (h:nT.get f=some λR=>ar4 (F R)) (ho:oT.get f=none) (n:Nat) (a b c d:AV) (H:Hp) (K:KV):(SJ E nT oT (n+1)).call f [a,b,c,d] H K=F (SJ E nT oT n) a b c d H K:=RC h ho n _ H K
end
theorem A8k {E:XE} {nT:BT NF} {oT:BT OF} {P:Program} (hE:XE.Ok A0I E P) (hT:nT.All (Lk E)) (hO:oT.All (A79 E P)):∀n,RSound A0I E P (SJ E nT oT n):=by
 intro n
 induction n with
 |zero=>
  refine⟨?_,?_⟩
  ·intro ro cf c t H K r m h1 h2 h
   cases h
  ·intro f args H K r h
   cases h
 |succ n ih=>
  have hZ:A9k A0I E P (A9n E (SJ E nT oT n)):=A5t (λ_ _ _ _ h=>h) hE ih
  have hrun:Xq A0I E P (Vw E (SJ E nT oT n)):= λro cf c t H K r m hro hd h=>A5u hE ih hZ hro c t H K hd h
  have hcN:∀(f:Nat) (args:List AV) (H:Hp) (K:KV) (r:AV×Hp),A28 E nT (SJ E nT oT n) f args H K=some r→ZR P f∧Rj P E.G f args H (λv H'=>K v H'=some r):= λf args H K r h=>by
   unfold A28 at h
   split at h
   ·rename_i F hF
    exact A35 hE hrun (hT.get hF _ _ _ _ _ h)
   ·exact A35 hE hrun h
  refine⟨hrun,λf args H K r h=> ?_⟩
  have h:A70 E nT oT (SJ E nT oT n) f args H K=some r:=h
  unfold A70 at h
  split at h
  ·rename_i F hF
   rcases hO.get hF _ _ _ _ _ h with h|h
   ·exact hcN f args H K r h
   ·exact h
  ·exact hcN f args H K r h
theorem A2e {P:Program} {G:Gl} {f:Nat} {args:List AV} {H:Hp} {x:Value} {K:KV} {r:AV×Hp} (hK:K (.v x) H=some r) (hc:∀w0 C w ys,Rel G w0 C H w→Ca C w args ys→Calls P f ys.toArray w λe w'=>e= .returned x∧Below w.heap.size w w'):Rj P G f args H (λv' H'=>K v' H'=some r):= λw0 C w ys hr ha=>
 (hc w0 C w ys hr ha).mono λe w' ⟨he,hb⟩=>⟨.v x,x,C,H,he,hr.of_below hb,.v _,(hr.ext_below hb).frm,hK⟩
def PS (R:Rt) (f:Nat) (args:List AV) (v:AV):Prop:=∀H K,Ah R f args H K=K v
def Fx (b:Bool) (D:Nat) (a a':AV) (H:Hp) (q:Bool):Prop:=∀K:Bool→AV→Al,Jg b H D a K=K q a'
theorem Ed {b:Bool} {D:Nat} {x:Value} {H:Hp}:Fx b D (.v x) (.v x) H false:= λK=>by cases D<;>rfl
theorem OA {D n:Nat} {cs:List AV} {H:Hp}:Fx true D (.list n cs) (.list n cs) H false:= λK=>by cases D<;>rfl
theorem B01 {D:Nat} {es:List (Value×AV)} {H:Hp}:Fx true D (.imap es) (.imap es) H false:= λK=>by cases D<;>rfl
def OM (b:Bool) (D:Nat) (l l':List AV) (H:Hp) (q:Bool):Prop:=∀K:Bool→List AV→Al,HP (Jg b H D) l K=K q l'
theorem Bt {b:Bool} {D:Nat} {H:Hp}:OM b D [] [] H false:= λ_=>rfl
theorem A2 {b:Bool} {D:Nat} {a a':AV} {l l':List AV} {H:Hp} {q q':Bool} (h:Fx b D a a' H q) (k:OM b D l l' H q'):OM b D (a::l) (a'::l') H (q||q'):= λK=>by
 have e:HP (Jg b H D) (a::l) K=Jg b H D a λq a'=>HP (Jg b H D) l λq' l'=>K (@Bool.rec (λ_=>Bool) q' true q) (a'::l'):=rfl
 rw[e,h,k]
 cases q<;>rfl
theorem Kf {b:Bool} {D:Nat} {H:Hp} {α:Type} (f:α→Value):∀(l:List α),OM b D (l.map λx=> .v (f x)) (l.map λx=> .v (f x)) H false
 |[]=>Bt
 |a::l=>A2 (q:=false) (q':=false) Ed (Kf f l)
theorem PE {b:Bool} {D:Nat} {cs cs':List AV} {H:Hp} {q:Bool} (h:OM b D cs cs' H q):Fx b (D+1) (.agg cs) (.agg cs') H q:= λK=>h _
theorem Yo {b:Bool} {D:Nat} {cs cs':List AV} {H:Hp} {q:Bool} (h:OM b D cs cs' H q):Fx b (D+1) (.tup cs) (.tup cs') H q:= λK=>h _
theorem Cl {H:Hp} {r:Nat} {x:Row} {K:Row→Al} (h:Ax H r=some x):Kj H r K=K x:=by
 induction H with
 |nil=>simp[Ax] at h
 |cons p H ih=>
  obtain⟨k,y⟩:=p
  simp only[Ax] at h
  have e:Kj ((k,y)::H) r K=@Bool.rec (λ_=>Al) (Kj H r K) (K y) (Nat.beq r k):=rfl
  rw[e]
  by_cases hk:r=k
  ·rw[if_pos hk] at h
   rw[hk,l29,←(WE h).1]
  ·rw[if_neg hk] at h
   have:Nat.beq r k=false:=by
    cases hb:Nat.beq r k
    ·rfl
    ·exact absurd (Vm hb) hk
   rw[this]
   exact ih h
theorem Vn {b:Bool} {D:Nat} {H:Hp} {sz s n:Nat} {q:Bool} {e:TypeId} {cs cs':List AV} {q':Bool} (hl:Ax H s=some (.cells q e cs)) (hn:cs.length=n*sz) (h:OM b D cs cs' H q'):Fx b (D+1) (.sl sz s 0 n) (.list n cs') H true:= λK=>by
 have e1:Jg b H (D+1) (.sl sz s 0 n) K=Kj H s λx=>KF x λ_ cs=>FT (Nat.mul n sz) (Dp 0 cs) λc=>HP (Jg b H D) c λ_ c'=>K true (.list n c'):=rfl
 rw[e1,Cl hl]
 have e2:(KF (.cells q e cs) λ_ cs=>FT (Nat.mul n sz) (Dp 0 cs) λc=>HP (Jg b H D) c λ_ c'=>K true (.list n c'))=FT (n*sz) cs λc=>HP (Jg b H D) c λ_ c'=>K true (.list n c'):=rfl
 rw[e2,MS _ _ _ (by omega),l1z (by omega),h]
def CS (R:Rt) (f:Nat) (args:List AV) (v:AV):Prop:=∀K:KV,(∀v0 H0,(∀b,∃q,Fx b depth v0 v H0 q)→K v0 H0=some (v,[]))→R.call f args [] K=some (v,[])
theorem Bc {R:Rt} {f:Nat} {args args':List AV} {v:AV} {H:Hp} {q:Bool} {K:AV→Al} (hc:CS R f args' v) (ha:OM true depth args args' H q):Ah R f args H K=K v:=by
 unfold Ah
 rw[ha]
 have:=hc (λv0 H'=>Jg (!q) H' depth v0 λ_ v'=>some (v',[])) (λv0 H0 h=>by
  obtain⟨q',h'⟩:=h (!q)
  exact h' _)
 rw[this]
 rfl
theorem CS.ps {R:Rt} {f:Nat} {args:List AV} {v:AV} (hc:CS R f args v) (ha:∀H,OM true depth args args H false):PS R f args v:= λH K=>Bc hc (ha H)
abbrev W (x:BitVec 32):AV:= .v (.int .u32 (x.toNat:Int))
abbrev By (b:UInt8):AV:= .v (.int .u8 (b.toNat:Int))
def Ki (l:List UInt8):List AV:=l.map λb=>By b
def Db (l:List (BitVec 32)):List AV:=l.map λx=>W x
theorem Vx {k:IntKind} (h:k.signed=false) (z:Int):k.wrap z=z%(2^k.bits:Nat):=by
 simp only[IntKind.wrap,h,Bool.false_and]
 simp
theorem J4 (x:BitVec 32):BitVec.ofInt 32 (x.toNat:Int)=x:=by
 apply BitVec.eq_of_toNat_eq
 simp
theorem Wc {n:Nat} (h:n<4294967296):IntKind.u32.wrap (n:Int)=(n:Int):=by
 rw[Vx rfl]
 show(n:Int)%(4294967296:Nat)=n
 omega
section
variable {K:AV→Al} {i j:TI} {x y:BitVec 32}
theorem A51 (op:BinOp) (f:IT) (hs:GI op=false) (hf:A8S op=f):Ak i op (W x) (W y) K=f .u32 x.toNat y.toNat K:=by
 have:Ak i op (W x) (W y) K=@Bool.rec (λ_=>Al) (ck (decide (IntKind.u32= .u32)) (A8S op .u32 x.toNat y.toNat K)) (A8S op .u32 x.toNat y.toNat K) (GI op):=rfl
 rw[this,hs,hf];rfl
theorem Na:Ak i .add (W x) (W y) K=K (W (x+y)):=by
 rw[A51 .add B7v rfl rfl]
 unfold B7v
 rw[GA,Vx rfl]
 have:((x.toNat:Int)+(y.toNat:Int))%(2^IntKind.u32.bits:Nat)=((x+y).toNat:Int):=by
  rw[BitVec.toNat_add]
  show((x.toNat:Int)+(y.toNat:Int))%(4294967296:Nat)=_
  simp only[Int.natCast_emod,Int.natCast_add]
 show K (.v (.int .u32 (((x.toNat:Int)+(y.toNat:Int))%(2^IntKind.u32.bits:Nat))))=_
 rw[this]
theorem RM:Ak i .xor (W x) (W y) K=K (W (x^^^y)):=by
 rw[A51 .xor B7t rfl rfl]
 unfold B7t
 rw[RJ]
 have e:(BitVec.ofInt IntKind.u32.bits (x.toNat:Int)^^^BitVec.ofInt IntKind.u32.bits (y.toNat:Int)).toNat=(x^^^y).toNat:=by
  show(BitVec.ofInt 32 (x.toNat:Int)^^^BitVec.ofInt 32 (y.toNat:Int)).toNat=_
  rw[J4,J4]
 rw[e,Wc (x^^^y).isLt]
theorem A3L:Ak i .and (W x) (W y) K=K (W (x&&&y)):=by
 rw[A51 .and B7u rfl rfl]
 unfold B7u
 rw[RJ]
 have e:(BitVec.ofInt IntKind.u32.bits (x.toNat:Int)&&&BitVec.ofInt IntKind.u32.bits (y.toNat:Int)).toNat=(x&&&y).toNat:=by
  show(BitVec.ofInt 32 (x.toNat:Int)&&&BitVec.ofInt 32 (y.toNat:Int)).toNat=_
  rw[J4,J4]
 rw[e,Wc (x&&&y).isLt]
theorem Xe:Ak i .or (W x) (W y) K=K (W (x|||y)):=by
 rw[A51 .or iOr rfl rfl]
 unfold iOr
 rw[RJ]
 have e:(BitVec.ofInt IntKind.u32.bits (x.toNat:Int)|||BitVec.ofInt IntKind.u32.bits (y.toNat:Int)).toNat=(x|||y).toNat:=by
  show(BitVec.ofInt 32 (x.toNat:Int)|||BitVec.ofInt 32 (y.toNat:Int)).toNat=_
  rw[J4,J4]
 rw[e,Wc (x|||y).isLt]
theorem B4r:F8 .xor (W x) K=K (W (~~~x)):=by
 have e0:F8 .xor (W x) K=fI (IntKind.u32.wrap ((BitVec.ofInt IntKind.u32.bits (if IntKind.u32.signed=true then-1 else IntKind.u32.max)^^^BitVec.ofInt IntKind.u32.bits (x.toNat:Int)).toNat)) λz=>K (.v (.int .u32 z)):=rfl
 rw[e0,RJ]
 have e:(BitVec.ofInt IntKind.u32.bits (if IntKind.u32.signed=true then-1 else IntKind.u32.max)^^^BitVec.ofInt IntKind.u32.bits (x.toNat:Int)).toNat=(~~~x).toNat:=by
  show(BitVec.ofInt 32 4294967295^^^BitVec.ofInt 32 (x.toNat:Int)).toNat=_
  rw[J4]
  have:BitVec.ofInt 32 4294967295=BitVec.allOnes 32:=by decide
  rw[this,BitVec.allOnes_xor]
 rw[e,Wc (~~~x).isLt]
theorem HO {q:IntKind} {z:Int} {k:Nat} (hz:z=k) (hk:k≤32):Ak i .shr (W x) (.v (.int q z)) K=K (W (x>>>k)):=by
 subst hz
 have:Ak i .shr (W x) (.v (.int q (k:Int))) K=ck (ZH 0 (k:Int)) (fI ((x.toNat:Int).fdiv (2^(min (k:Int).toNat 32))) λz=>K (.v (.int .u32 z))):=rfl
 rw[this,RJ]
 have h1:ZH 0 (k:Int)=true:=by rw[J7];simp
 have h2:(x.toNat:Int).fdiv (2^(min (k:Int).toNat 32))=((x>>>k).toNat:Int):=by
  rw[Xs,l1x hk,BitVec.toNat_ushiftRight,Nat.shiftRight_eq_div_pow]
  have:((2:Int)^k)=((2^k:Nat):Int):=by simp
  rw[this,Int.fdiv_eq_ediv_of_nonneg _ (Int.natCast_nonneg _)]
  exact(Int.natCast_ediv _ _).symm
 rw[h1,h2]
 rfl
theorem JC {q:IntKind} {z:Int} {k:Nat} (hz:z=k) (hk:k≤32):Ak i .shl (W x) (.v (.int q z)) K=K (W (x<<<k)):=by
 subst hz
 have:Ak i .shl (W x) (.v (.int q (k:Int))) K=ck (ZH 0 (k:Int)) (LN .u32 ((x.toNat:Int)*2^(min (k:Int).toNat 32)) λz=>K (.v (.int .u32 z))):=rfl
 rw[this,GA,Vx rfl]
 have h1:ZH 0 (k:Int)=true:=by rw[J7];simp
 have h2:((x.toNat:Int)*2^(min (k:Int).toNat 32))%(2^IntKind.u32.bits:Nat)=((x<<<k).toNat:Int):=by
  rw[Xs,l1x hk,BitVec.toNat_shiftLeft,Nat.shiftLeft_eq]
  have:((2:Int)^k)=((2^k:Nat):Int):=by simp
  rw[this,←Int.natCast_mul]
  exact(Int.natCast_emod _ _).symm
 rw[h1,h2]
 rfl
theorem B4G {a b a' b':Nat} {zi zj:AV} {k:IntKind}:Fg ⟨a,b,.int k,zi⟩ ⟨a',b',.int .u8,zj⟩ (W x) K=K (By (UInt8.ofNat x.toNat)):=by
 have:Fg ⟨a,b,.int k,zi⟩ ⟨a',b',.int .u8,zj⟩ (W x) K=LN .u8 (x.toNat:Int) λz=>K (.v (.int .u8 z)):=rfl
 rw[this,GA,Vx rfl]
 have:(x.toNat:Int)%(2^IntKind.u8.bits:Nat)=((UInt8.ofNat x.toNat).toNat:Int):=by
  rw[UInt8.toNat_ofNat']
  exact(Int.natCast_emod _ _).symm
 rw[this]
theorem B4H {a b a' b':Nat} {zi zj:AV} {k:IntKind} {c:UInt8}:Fg ⟨a,b,.int k,zi⟩ ⟨a',b',.int .u32,zj⟩ (By c) K=K (W (BitVec.ofNat 32 c.toNat)):=by
 have:Fg ⟨a,b,.int k,zi⟩ ⟨a',b',.int .u32,zj⟩ (By c) K=LN .u32 (c.toNat:Int) λz=>K (.v (.int .u32 z)):=rfl
 rw[this,GA,Vx rfl]
 have:(c.toNat:Int)%(2^IntKind.u32.bits:Nat)=((BitVec.ofNat 32 c.toNat).toNat:Int):=by
  rw[BitVec.toNat_ofNat]
  exact(Int.natCast_emod _ _).symm
 rw[this]
theorem B4M {v:AV} {H:Hp}:Ai (some (v,H)) K=K v:=id rfl
theorem A93 {v:AV} {H:Hp} {K':KV}:DW (some (v,H)) K'=K' v H:=id rfl
end
def Wf (H:Hp):Prop:=∀k∈H.map (·.1),k<A6 H
theorem B42 (H:Hp) (r:Nat) (y:Row):(upd H r y).map (·.1)=H.map (·.1):=by
 induction H with
 |nil=>rfl
 |cons p H ih=>
  obtain⟨k,x⟩:=p
  by_cases hk:r=k
  ·subst hk;simp[upd]
  ·simp[upd,hk,ih]
theorem Fv:Wf []:= λk h=>by simp at h
theorem BE {H:Hp} {x:Row} (h:Wf H):Wf ((A6 H,x)::H):= λk hk=>by
 show k<A6 H+1
 simp only[ZY,WG] at hk
 rcases hk with rfl|hk
 ·omega
 ·have:=h k hk;omega
theorem Cj {H:Hp} {r:Nat} {y:Row} (h:Wf H):Wf (upd H r y):= λk hk=>by rw[Ck];rw[B42] at hk;exact h k hk
theorem B3Q {H:Hp} {s:Nat} {x:Row} (h:Ax H s=some x):s∈H.map (·.1):=by
 induction H with
 |nil=>simp[Ax] at h
 |cons p H ih=>
  obtain⟨k,y⟩:=p
  simp only[Ax] at h
  split at h
  ·rename_i hk;simp[hk]
  ·simp[ih h]
theorem Wf.lt {H:Hp} (h:Wf H) {s:Nat} {x:Row} (hl:Ax H s=some x):s<A6 H:=h s (B3Q hl)
theorem A1 {H:Hp} {x:Row} (hx:x≠.gone):Ax ((A6 H,x)::H) (A6 H)=some x:=by
 simp only[Ax,if_pos]
 cases x<;>first|rfl|exact absurd rfl hx
theorem Bj {H:Hp} {x y:Row} {s:Nat} (hs:s<A6 H) (hl:Ax H s=some y):Ax ((A6 H,x)::H) s=some y:=by
 simp only[Ax]
 rw[if_neg (by omega)]
 exact hl
structure Lat (H H':Hp) (P:Nat→Prop):Prop where
 wf:Wf H→Wf H'
 nx:A6 H≤A6 H'
 keep:Wf H→∀s x,Ax H s=some x→¬P s→Ax H' s=some x
theorem Lat.refl (H:Hp) (P:Nat→Prop):Lat H H P:=⟨id,O8 _,λ_ _ _ h _=>h⟩
theorem Lat.trans {H H' H'':Hp} {P Q R:Nat→Prop} (h:Lat H H' P) (k:Lat H' H'' Q) (hp:∀s,s<A6 H→P s→R s) (hq:∀s,s<A6 H→Q s→R s):Lat H H'' R:=
 ⟨λw=>k.wf (h.wf w),l1m h.nx k.nx,λw s x hs hn=>k.keep (h.wf w) s x (h.keep w s x hs λhP=>hn (hp s (w.lt hs) hP)) λhQ=>hn (hq s (w.lt hs) hQ)⟩
theorem Lat.cons (H:Hp) (x:Row) (P:Nat→Prop):Lat H ((A6 H,x)::H) P:=⟨BE,l1p _,λw s y hs _=>Bj (w.lt hs) hs⟩
theorem Lat.upd (H:Hp) (r:Nat) (y:Row) {P:Nat→Prop} (hP:P r):Lat H (upd H r y) P:=⟨Cj,by rw[Ck];exact O8 _,λ_ s x hs hn=>by rw[Au (λe=>hn (by rw[e];exact hP))];exact hs⟩
def B1 (H:Hp) (e sz:Nat) (v:AV) (n:Nat) (cs:List AV):Prop:=
 (v= .v (.slice none 0 0)∧n=0∧cs=[])∨∃r q,v= .sl sz r 0 n∧Ax H r=some (.cells q e cs)∧cs.length=n*sz
def AX (v:AV) (s:Nat):Prop:=∃sz o n,v= .sl sz s o n
theorem B1.lat {H H':Hp} {e sz n:Nat} {v:AV} {cs:List AV} {P:Nat→Prop} (h:B1 H e sz v n cs) (w:Wf H) (k:Lat H H' P) (hP:∀s,AX v s→¬P s):B1 H' e sz v n cs:=by
 rcases h with h|⟨r,q,h1,h2,h3⟩
 ·exact .inl h
 ·exact .inr ⟨r,q,h1,k.keep w r _ h2 (hP r ⟨sz,0,n,h1⟩),h3⟩
theorem B1.lt {H:Hp} {e sz n:Nat} {v:AV} {cs:List AV} (h:B1 H e sz v n cs) (w:Wf H) {s:Nat} (hs:AX v s):s<A6 H:=by
 obtain⟨a,b,c,rfl⟩:=hs
 rcases h with⟨h,_⟩|⟨r,q,h1,h2,h3⟩
 ·cases h
 ·injection h1 with _ h1;subst h1;exact w.lt h2
theorem A3G {H:Hp} {n:Nat} {cs:List AV} {K:Nat→List AV→Al}:Uu H (.list n cs) K=K n cs:=rfl
theorem C2o {H:Hp} {l:List UInt8} {K:Nat→List AV→Al}:Uu H (S l) K=K l.length (Ki l):=by
 have:Uu H (S l) K=HJ l 0 λm=>VK l λc=>K m c:=rfl
 rw[this,Cw,UP,Ln];rfl
theorem B4w {H:Hp} {K:Nat→List AV→Al}:Uu H (.v (.slice none 0 0)) K=K 0 []:=rfl
theorem SZ {H:Hp} {e sz n:Nat} {v:AV} {cs:List AV} {K:Nat→List AV→Al} (h:B1 H e sz v n cs):Uu H v K=K n cs:=by
 rcases h with⟨rfl,rfl,rfl⟩|⟨r,q,rfl,h2,h3⟩
 ·rfl
 ·have:Uu H (.sl sz r 0 n) K=Kj H r λx=>KF x λ_ cs=>FT (Nat.mul n sz) (Dp 0 cs) λc=>K n c:=rfl
  rw[this,Cl h2]
  show FT (n*sz) cs (λc=>K n c)=_
  rw[MS _ _ _ (by omega),l1z (by omega)]
theorem apt {H:Hp} {e sz n m:Nat} {ie i2:TI} {v src:AV} {cs ys:List AV} (h:B1 H e sz v n cs) (hs:∀K:Nat→List AV→Al,Uu H src K=K m ys) (hl:ys.length=m*sz) (h1:ys.all AV.one=true) (hsz:sz≠0) (hz:(B6 ie.zero).length=sz)
 (ht:(A0B i2.d&&TH sz src)=true) (hb:(n+m)*ie.bytes≤70368744177664) (hb2:n+m≤70368744177664):
 ∃v' H',(∀K:KV,DN e sz ie i2 v src H K=K v' H')∧B1 H' e sz v' (n+m) (cs++ys)∧(∀s,AX v' s→s=A6 H)∧Lat H H' (AX v):=by
 have hkey:∀K:KV,Xg e sz ie i2 v src H K=(match(generalizing:=false) v with
  | .v (.slice none 0 0)=>ck (Nat.ble (Nat.mul m ie.bytes) 70368744177664&&Nat.ble m 70368744177664) (HE H λr=>K (.sl sz r 0 m) ((r,.cells false e ys)::H))
  | .sl sz' r1 o n=>Kj H r1 λx=>KF x λE cs=>HJ cs 0 λcl=>
   ck (Nat.beq E e&&(Nat.beq sz' sz&&(Nat.beq (Nat.add o (Nat.mul n sz)) cl&&(Nat.ble (Nat.mul (Nat.add n m) ie.bytes) 70368744177664&&Nat.ble (Nat.add n m) 70368744177664))))
    (Ur (Dp o cs) ys λcs'=>Og H r1 .gone λH'=>HE H λr=>fN (Nat.add n m) λnm=>K (.sl sz r 0 nm) ((r,.cells false e cs')::H'))
  |_=>none):= λK=>by
  unfold Xg
  rw[hs,Cw,Dc,Cw]
  have c:(Nat.beq (0+ys.length) (Nat.mul m sz)&&(Qa ys&&(!Nat.beq sz 0&&(Nat.beq (0+(B6 ie.zero).length) sz&&(A0B i2.d&&TH sz src)))))=true:=by
   have hs0:Nat.beq sz 0=false:=by
    cases hb:Nat.beq sz 0
    ·rfl
    ·exact absurd (Vm hb) hsz
   rw[Gc,h1,ht,hz,hl,hs0]
   simp
  rw[c];rfl
 rcases h with⟨rfl,rfl,rfl⟩|⟨r,q,rfl,h2,h3⟩
 ·refine⟨.sl sz (A6 H) 0 m,(A6 H,.cells false e ys)::H,λK=> ?_,.inr ⟨A6 H,false,by rw[Ln],by rw[List.nil_append];exact A1 (by simp),by rw[List.nil_append,Ln];exact hl⟩,λs ⟨a,b,c,hh⟩=>by injection hh with _ hh;exact hh.symm,Lat.cons _ _ _⟩
  show Xg e sz ie i2 (.v (.slice none 0 0)) src H K=_
  rw[hkey K]
  have c:(Nat.ble (Nat.mul m ie.bytes) 70368744177664&&Nat.ble m 70368744177664)=true:=by
   simp only[Ln] at hb hb2
   rw[Jp,Yf,Yf];exact⟨hb,hb2⟩
  simp only[c,BX]
  rfl
 ·refine⟨.sl sz (A6 H) 0 (n+m),(A6 H,.cells false e (cs++ys))::upd H r .gone,λK=> ?_,.inr ⟨A6 H,false,rfl,?_,by rw[FA,h3,hl,l19]⟩,λs ⟨a,b,c,hh⟩=>by injection hh with _ hh;exact hh.symm,?_⟩
  ·have e1:DN e sz ie i2 (.sl sz r 0 n) src H K=Kj H r λx=>KF x λE cs=>HJ cs 0 λcl=>@Bool.rec (λ_=>Al) (Ti (Nat.add 0 (Nat.mul n sz)) cs λcs'=>Og H r (.cells false E cs') λH1=>Xg e sz ie i2 (.sl sz r 0 n) src H1 K) (Xg e sz ie i2 (.sl sz r 0 n) src H K) (Nat.beq (Nat.add 0 (Nat.mul n sz)) cl):=rfl
   rw[e1,Cl h2]
   have e2:∀F:TypeId→List AV→Al,KF (.cells q e cs) F=F e cs:= λ_=>rfl
   rw[e2,Cw]
   have c0:Nat.beq (Nat.add 0 (Nat.mul n sz)) (0+cs.length)=true:=by
    show Nat.beq (0+n*sz) (0+cs.length)=true
    rw[h3];exact l29 _
   rw[c0]
   show Xg e sz ie i2 (.sl sz r 0 n) src H K=_
   rw[hkey K]
   simp only
   rw[Cl h2,e2,Cw]
   have c:(Nat.beq e e&&(Nat.beq sz sz&&(Nat.beq (Nat.add 0 (Nat.mul n sz)) (0+cs.length)&&(Nat.ble (Nat.mul (Nat.add n m) ie.bytes) 70368744177664&&Nat.ble (Nat.add n m) 70368744177664))))=true:=by
    rw[c0,l29,l29]
    simp only[l16,Jp,Yf]
    exact⟨hb,hb2⟩
   rw[c]
   show Ur (Dp 0 cs) ys _=_
   rw[K4,D8,BX,DI,C8]
   rfl
  ·have:=A1 (H:=upd H r .gone) (x:= .cells false e (cs++ys)) (by simp)
   rw[Ck] at this
   exact this
  ·have h4:Lat H (upd H r .gone) (AX (.sl sz r 0 n)):=Lat.upd H r .gone ⟨sz,0,n,rfl⟩
   have h5:=Lat.cons (upd H r .gone) (.cells false e (cs++ys)) (AX (.sl sz r 0 n))
   rw[Ck] at h5
   exact h4.trans h5 (λ_ _ h=>h) (λ_ _ h=>h)
theorem B1k (a:AV):∀n (K:List AV→Al),WO n [a] K=K (List.replicate n a):=by
 intro n K
 rw[Uo]
 congr 1
 induction n with
 |zero=>rfl
 |succ n ih=>simp[TL,ih,l17]
theorem A97 {H:Hp} {e:Nat} {ie:TI} {a z:AV} (hz:∀K:List AV→Al,GU ie.zero K=K [z]) (ha:∀K:List AV→Al,GU a K=K [a]) (h1:AV.one a=true) (K:KV):Fh e 1 ie 1 [(0,1,a)] H K=K (.sl 1 (A6 H) 0 1) ((A6 H,.cells false e [a])::H):=by
 unfold Fh
 rw[hz]
 show WO 1 [z] (λcs=>VJ [(0,1,a)] cs λcs'=>HE H λs=>K (.sl 1 s 0 1) ((s,.cells false e cs')::H))=_
 rw[B1k]
 show GU a (λvs=>HJ vs 0 λn=>ck (Nat.beq n 1) (ck (Qa vs) (EG 0 vs [z] λcs'=>HE H λs=>K (.sl 1 s 0 1) ((s,.cells false e cs')::H))))=_
 rw[ha]
 have:Qa [a]=true:=by rw[Gc];simp[h1]
 show ck (Qa [a]) (HE H λs=>K (.sl 1 s 0 1) ((s,.cells false e [a])::H))=_
 rw[this,BX];rfl
theorem OW {H:Hp} {e n:Nat} {cs:List AV} (h:cs.length=n):B1 ((A6 H,.cells false e cs)::H) e 1 (.sl 1 (A6 H) 0 n) n cs:= .inr ⟨A6 H,false,rfl,A1 (by simp),by omega⟩
theorem B0f (l:List UInt8):(Ki l).all AV.one=true:=by simp[Ki,AV.one,Value.oneCell']
theorem Ny (l:List UInt8):(Ki l).length=l.length:=by simp[Ki]
theorem A55 (a b:List UInt8):Ki a++Ki b=Ki (a++b):=by simp[Ki]
theorem A7W {α:Type}:∀(l:List α) (k:Nat) (a:α),k<l.length→splice l k [a]=l.set k a:=by
 intro l
 induction l with
 |nil=>intro k a h;simp at h
 |cons b l ih=>
  intro k a h
  cases k with
  |zero=>simp[splice]
  |succ k=>
   have:=ih k a (by simpa using h)
   simp only[splice,List.length_singleton] at this⊢
   simp[this]
theorem Sg {α:Type} (l vs:List α) (h:vs.length=l.length):splice l 0 vs=vs:=by simp[splice,h]
theorem Bf {ty:Nat} {i:TI} {H:Hp} {cs:List AV} {K:KV} (hz:i.zero= .agg cs):AK ty i H K=K (.ptr (A6 H) 0 0) ((A6 H,.cells true ty cs)::H):=by
 unfold AK
 rw[hz,Dc,BX];rfl
theorem A90 {ty:Nat} {v:Value} {H:Hp} {K:KV} (h1:AV.one (.v v)=true):Dh ty (.v v) H K=K (.ptr (A6 H) 0 0) ((A6 H,.cells true ty [.v v])::H):=by
 unfold Dh
 rw[Dc,Gc,BX]
 have:(B6 (.v v)).all AV.one=true:=by simp[B6,h1]
 rw[this];rfl
theorem C2v {ty n:Nat} {cs:List AV} {H:Hp} {K:KV}:Dh ty (.list n cs) H K=K (.ptr (A6 H) 0 0) ((A6 H,.cells true ty [.list n cs])::H):=by
 unfold Dh
 rw[Dc,Gc,BX];rfl
theorem EY {ty:Nat} {cs:List AV} {H:Hp} {K:KV} (h1:cs.all AV.one=true):Dh ty (.agg cs) H K=K (.ptr (A6 H) 0 0) ((A6 H,.cells true ty cs)::H):=by
 unfold Dh
 rw[Dc,Gc,BX]
 have:(B6 (.agg cs)).all AV.one=true:=h1
 rw[this];rfl
theorem AC {H:Hp} {r:Nat} {x:Row} {q:Bool} {e:Nat} {cs:List AV} (h:Ax H r=some x):Ax (upd H r (.cells q e cs)) r=some (.cells q e cs):=by
 rw[Ec h];rfl
theorem Ez {i:TI} {s p e:Nat} {q:Bool} {cs:List AV} {v:AV} {H:Hp} {K:Hp→Al} (hl:Ax H s=some (.cells q e cs)) (hp:p<cs.length) (hz:i.size=1) (hv:B6 v=[v]) (h1:AV.one v=true):Cq i (.ptr s p 0) v H K=K (upd H s (.cells q e (cs.set p v))):=by
 have e1:Cq i (.ptr s p 0) v H K=Kj H s λx=>A2x x λq e cs=>GU v λvs=>HJ vs 0 λn=>ck (Nat.beq n i.size) (ck (Qa vs) (EG (Nat.add p 0) vs cs λcs'=>Og H s (.cells q e cs') K)):=rfl
 rw[e1,Cl hl]
 show GU v _=_
 rw[Dc,hv,Cw,hz,Gc]
 have:[v].all AV.one=true:=by simp[h1]
 rw[this]
 show EG p [v] cs _=_
 rw[KS _ _ _ _ (by simp;omega),A7W _ _ _ hp,D8]
theorem B7 {i:TI} {s e:Nat} {q:Bool} {cs vs:List AV} {H:Hp} {K:Hp→Al} (hl:Ax H s=some (.cells q e cs)) (hp:vs.length=cs.length) (hz:i.size=cs.length) (h1:vs.all AV.one=true):Cq i (.ptr s 0 0) (.agg vs) H K=K (upd H s (.cells q e vs)):=by
 have e1:Cq i (.ptr s 0 0) (.agg vs) H K=Kj H s λx=>A2x x λq e cs=>GU (.agg vs) λvs=>HJ vs 0 λn=>ck (Nat.beq n i.size) (ck (Qa vs) (EG 0 vs cs λcs'=>Og H s (.cells q e cs') K)):=rfl
 rw[e1,Cl hl]
 show(GU (.agg vs) λvs=>HJ vs 0 λn=>ck (Nat.beq n i.size) (ck (Qa vs) (EG 0 vs cs λcs'=>Og H s (.cells q e cs') K)))=_
 have hc:B6 (.agg vs)=vs:=rfl
 rw[Dc,hc,Cw,hz,Gc,h1,hp,Ln,l29]
 show EG 0 vs cs _=_
 rw[KS _ _ _ _ (by omega),Sg _ _ hp,D8]
theorem Bm {t:TI} {H:Hp} {r e:Nat} {q:Bool} {cs:List AV} {K:AV→Al} (h:t.d.isAgg=true) (hz:t.size=cs.length) (hl:Ax H r=some (.cells q e cs)):Aq t (.ptr r 0 0) H K=K (.agg cs):=by
 have:Aq t (.ptr r 0 0) H K=Kj H r λx=>KF x λ_ cs=>@Bool.rec (λ_=>Al) (hdK (Dp 0 cs) K) (FT t.size (Dp 0 cs) λc=>K (.agg c)) t.d.isAgg:=rfl
 rw[this,h,Cl hl]
 show FT t.size (Dp 0 cs) _=_
 rw[C8,l1n,hz,MS _ _ _ (by omega),l06]
theorem AY {t:TI} {H:Hp} {r p e:Nat} {q:Bool} {cs:List AV} {K:AV→Al} (h:t.d.isAgg=false) (hl:Ax H r=some (.cells q e cs)) (hp:p<cs.length):Aq t (.ptr r p 0) H K=K (cs.getD p .dk):=by
 have:Aq t (.ptr r p 0) H K=Kj H r λx=>KF x λ_ cs=>@Bool.rec (λ_=>Al) (hdK (Dp (Nat.add p 0) cs) K) (FT t.size (Dp (Nat.add p 0) cs) λc=>K (.agg c)) t.d.isAgg:=rfl
 rw[this,h,Cl hl]
 show hdK (Dp p cs) K=_
 rw[C8,l11 hp,Ul,JV hp];rfl
theorem DC {t:TI} {m e s:Nat} {z:Int} (k:Nat) {K:AV→Al} (hd:t.d= .array m e 1) (hz:z=k) (hk:k<m):B0 t (.ptr s 0 0) (.v (.int .i64 z)) K=K (.ptr s k 0):=by
 subst hz
 have e1:B0 t (.ptr s 0 0) (.v (.int .i64 (k:Int))) K=iN (k:Int) λn=>ck (Nat.blt n m) (fN (Nat.add 0 (Nat.mul n 1)) λq=>K (.ptr s q 0)):=by
  obtain⟨a,b,d,z⟩:=t;simp only at hd;subst hd;rfl
 rw[e1,JW,DI]
 have h2:Nat.add 0 (Nat.mul k 1)=k:=by show 0+k*1=k;omega
 have h3:Nat.blt k m=true:=by rw[Uk];exact hk
 rw[h2,h3];rfl
theorem B0a {t j:TI} {m e:Nat} {cs:List AV} {z:Int} (k:Nat) {K:AV→Al} (hd:t.d= .array m e 1) (hj:j.d.isAgg=false) (hz:z=k) (hk:k<m) (hc:m≤cs.length):Ta t j (.agg cs) (.v (.int .i64 z)) K=K (cs.getD k .dk):=by
 subst hz
 have e1:Ta t j (.agg cs) (.v (.int .i64 (k:Int))) K=iN (k:Int) λn=>ck (Nat.blt n m) (YQ j (Dp (Nat.mul n 1) cs) K):=by
  obtain⟨a,b,d,z⟩:=t;simp only at hd;subst hd;rfl
 rw[e1,JW]
 have h2:Nat.mul k 1=k:=l28 k
 have h3:Nat.blt k m=true:=by rw[Uk];exact hk
 have h4:k<cs.length:=by omega
 rw[h2,h3,C8,l11 h4,Ul,JV h4]
 show YQ j (cs[k]::cs.drop (k+1)) K=_
 unfold YQ
 rw[hj];rfl
theorem Hh {r p k:Nat} {K:AV→Al}:IM (.ptr r p k) K=K (.ptr r p k):=id rfl
theorem Xw {R:Rt} {r N:Nat} {args:List AV} {t:Tm} {ps:Array Tmp} {aZ bd:Code} {H:Hp} {K:KV} (hl:Ax H r=some (.loop N t ps aZ bd (some none))) (hp:A3r N ps.toList=true):
 Sc R r args H K=rdK R.run N t ps args aZ bd H (λH2 K2=>Ga H2 r true none K2) (λe H4=>match e with
  | .normal=>Ga H4 r false (some none) λH5=>K (.v (.bool true)) H5
  | .ret=>Ga H4 r false (some (some .ret)) λH5=>K (.v (.bool false)) H5
  | .exit id=>Ga H4 r false (some (some (.exit id))) λH5=>K (.v (.bool false)) H5
  | .goto l=>Ga H4 r false (some (some (.goto l))) λH5=>K (.v (.bool false)) H5
  |_=>none):=by
 unfold Sc
 rw[Cl hl]
 show ck (A3r N ps.toList) _=_
 rw[hp];rfl
theorem X6 {H:Hp} {r N:Nat} {t:Tm} {ps:Array Tmp} {aZ bd:Code} {to:Option (Option Code)} {K:Hp→Al} (hl:Ax H r=some (.loop N t ps aZ bd (some none))):Ga H r true to K=K (upd H r (.loop N t ps aZ bd to)):=by
 unfold Ga
 rw[Cl hl]
 show Og H r _ K=_
 rw[D8]
theorem X5 {H:Hp} {r N:Nat} {t:Tm} {ps:Array Tmp} {aZ bd:Code} {to:Option (Option Code)} {K:Hp→Al} (hl:Ax H r=some (.loop N t ps aZ bd none)):Ga H r false to K=K (upd H r (.loop N t ps aZ bd to)):=by
 unfold Ga
 rw[Cl hl]
 show Og H r _ K=_
 rw[D8]
theorem MO {H:Hp} {r N:Nat} {x:Row} {t:Tm} {ps:Array Tmp} {aZ bd:Code} {to:Option (Option Code)} (h:Ax H r=some x):Ax (upd H r (.loop N t ps aZ bd to)) r=some (.loop N t ps aZ bd to):=by
 rw[Ec h];rfl
def BT.allB {α:Type} (c:Nat→α→Bool):BT α→Bool
 | .leaf=>true
 | .node k v l r=>c k v&&(l.allB c&&r.allB c)
theorem B58 {α:Type} {c:Nat→α→Bool} {p:Nat→α→Prop} (h:∀k v,c k v=true→p k v):∀{b:BT α},b.allB c=true→b.All p:=by
 intro b
 induction b with
 |leaf=>intro _;trivial
 |node k v l r ihl ihr=>
  intro hb
  simp only[BT.allB,Jp] at hb
  exact⟨h k v hb.1,ihl hb.2.1,ihr hb.2.2⟩
def A8f:TD→Bool
 | .slice _ 0=>true
 | .array _ _ 0=>true
 |_=>false
def A9p:AV→AV→Bool
 | .v (.int k n),.v (.int k' n')=>decide (k=k')&&decide (n=n')
 | .v (.bool b),.v (.bool b')=>b==b'
 | .v (.string s),.v (.string s')=>s.data.toList.isEmpty&&s'.data.toList.isEmpty
 | .v (.slice none 0 0),.v (.slice none 0 0)=>true
 | .v (.pointer none),.v (.pointer none)=>true
 | .v (.map none),.v (.map none)=>true
 | .v .nilFunc,.v .nilFunc=>true
 | .v .nilIface,.v .nilIface=>true
 |_,_=>false
def X0:List AV→List AV→Bool
 |[],[]=>true
 |a::as',b::bs=>A9p a b&&X0 as' bs
 |_,_=>false
def zeq:AV→AV→Bool
 | .agg cs,.agg ds=>X0 cs ds
 |a,b=>A9p a b
theorem Y8 {a b:AV} (h:A9p a b=true):a=b:=by
 unfold A9p at h
 split at h<;>simp at h<;>try rfl
 ·rw[h.1,h.2]
 ·rw[h]
 ·rename_i s s'
  obtain⟨⟨l⟩⟩:=s
  obtain⟨⟨l'⟩⟩:=s'
  simp at h
  rw[h.1,h.2]
theorem A3W:∀{as' bs:List AV},X0 as' bs=true→as'=bs:=by
 intro as'
 induction as' with
 |nil=>intro bs h;cases bs<;>simp[X0] at h⊢
 |cons a as' ih=>
  intro bs h
  cases bs with
  |nil=>simp[X0] at h
  |cons b bs=>
   simp only[X0,Jp] at h
   rw[Y8 h.1,ih h.2]
theorem B0o {a b:AV} (h:zeq a b=true):a=b:=by
 unfold zeq at h
 split at h
 ·rw[A3W h]
 ·exact Y8 h
def B9u:TD→TD→Bool
 | .int k,.int k'=>decide (k=k')
 | .bool,.bool=>true
 | .string,.string=>true
 | .pointer e,.pointer e'=>decide (e=e')
 | .slice e n,.slice e' n'=>decide (e=e')&&decide (n=n')
 | .array m e n,.array m' e' n'=>decide (m=m')&&decide (e=e')&&decide (n=n')
 | .struct fs,.struct fs'=>decide (fs=fs')
 | .map k e,.map k' e'=>decide (k=k')&&decide (e=e')
 | .func,.func=>true
 | .iface,.iface=>true
 | .other,.other=>true
 |_,_=>false
theorem A7S {a b:TD} (h:B9u a b=true):a=b:=by
 unfold B9u at h
 split at h<;>simp at h<;>try rfl
 ·rw[h]
 ·rw[h]
 ·rw[h.1,h.2]
 ·rw[h.1.1,h.1.2,h.2]
 ·rw[h]
 ·rw[h.1,h.2]
def tiB (P:Program) (t:Nat) (i:TI):Bool:=
 match P.info? t with
 |some x=>match P.underlying t,x.zero with
  |some u,some z=>Nat.beq x.size i.size&&(Nat.beq x.bytes i.bytes&&(B9u (td P u) i.d&&(zeq (ofV z) i.zero&& !A8f i.d)))
  |_,_=>false
 |none=>false
def TiR (P:Program) (t:Nat) (i:TI):Prop:=TOk1 P t i∧A8f i.d=false
theorem B9t {P:Program} (t:Nat) (i:TI) (h:tiB P t i=true):TiR P t i:=by
 unfold tiB at h
 split at h
 ·rename_i x hx
  split at h
  ·rename_i u z hu hz
   simp only[Jp,l14] at h
   obtain⟨h1,h2,h3,h4,h5⟩:=h
   refine⟨⟨?_,?_,?_⟩,h5⟩
   ·rw[hx];simp[Vm h1,Vm h2]
   ·rw[hx];simp[hz,B0o h4]
   ·rw[hu];simp[A7S h3]
  ·cases h
 ·cases h
def FnR (P:Program) (f:Nat) (x:XFn):Prop:=(P.funcs[f]?).map (λfn=>(fn.body,fn.ntmps,fn.results.toList,fn.name== "runtime.NumGoroutine"))=some (some x.c,x.n,x.rs,false)
theorem FnR.ex {P:Program} {f:Nat} {x:XFn} (h:FnR P f x):∃fn,P.funcs[f]?=some fn∧fn.body=some x.c∧fn.ntmps=x.n∧fn.results.toList=x.rs∧(fn.name== "runtime.NumGoroutine")=false:=by
 unfold FnR at h
 cases hf:P.funcs[f]? with
 |none=>rw[hf] at h;simp at h
 |some fn=>
  rw[hf] at h
  simp only[l0x,l0y,Prod.mk.injEq] at h
  exact⟨fn,rfl,h.1,h.2.1,h.2.2.1,h.2.2.2⟩
def DrR (E:XE) (_:Nat) (x:XFn):Prop:=PU (A0I E ⟨false,x.lv,x.fz,x.n,x.rc⟩) x.c=true
def eqR (P:Program) (t:Nat) (ks:List LK):Prop:=leaves P 6 t=some (true,ks)∧P.eqGuardType P.depth t=false
def glR (_:Nat) (cs:List AV):Prop:=cs.all isV=true
def C4j (P:Program) (l:Lie):Prop:=liesAt P P.depth l.1 (l.2.1/P.cellsOf l.1) l.2.2.1 l.2.2.2 1=true∧(P.info? l.2.2.2).isSome=true
theorem C3d {E:XE} {P:Program} (hty:E.ty.All (TiR P)) (hT:E.T=E.ty.get) (hmix:P.follows .mixedOrders=true) (hgl:E.gl.All glR) (hf:E.ft.All (FnR P)) (hd:E.ft.All (DrR E)) (he:E.eqt.All (eqR P)) (hl:∀l∈E.lie,C4j P l) (hu:P.underlying E.up=some .unsafePointer) (hn:∀f,E.ne f=true→Xr P f):XE.Ok A0I E P where
 ty:= λt i h=>(hty.get (by rw[hT] at h;exact h)).1
 pos:= λt i e esz h hh h0=>by
  have:=(hty.get (by rw[hT] at h;exact h)).2
  subst h0
  rcases hh with hh|⟨n,hh⟩<;>(rw[hh] at this;simp[A8f] at this)
 mix:=hmix
 gl:= λg cs h=>hgl.get h
 fn:= λf x h=>by
  obtain⟨fn,h1,h2,h3,h4,h5⟩:=(hf.get h).ex
  exact⟨fn,h1,h2,h3,h4,h5,hd.get h⟩
 eq:= λt ks h=>⟨(he.get h).1,(he.get h).2⟩
 lie:= λe n o u h=>hl _ h
 up:= λ_=>hu
 ne:=hn
theorem A4N {P:Program} {f:Nat} {fn:Func} (hf:P.funcs[f]?=some fn) (hname:(fn.name== "runtime.NumGoroutine")=false) (hb:fn.body.isNone=true) (hn:Extern.findNext fn=none) (he:Extern.find fn=some Extern.AbiNoEscape.same):Xr P f:=by
 intro x w
 have:Extern.AbiNoEscape.same #[x]=pure x:=rfl
 have hname':¬fn.name= "runtime.NumGoroutine" :=by simpa using hname
 have hb':fn.body=none:=by simpa using hb
 simp[callFunc,hf,hname',hb',hn,he,mark,this]
 rfl
end Go.Abs
end
noncomputable section
namespace Go.Proofs.YtlbhdmbfdcohhaaGreatDoor
open Go.RowKit
set_option maxRecDepth 100000
theorem Yq:Tryz.pinned.checked.prog.funcNamed Rows.graphAncestorsRow.func=some 5:=by kernel_rfl
theorem B81:joinedFacts Tryz.prog 5 Tryz.f5 Rows.graphAncestorsSpec Rows.graphAncestorsRow=true:=by
 unfold joinedFacts
 simp only[Bool.and_eq_true]
 repeat' apply And.intro
 all_goals as_aux_lemma=>kernel_rfl
end Go.Proofs.YtlbhdmbfdcohhaaGreatDoor
end
