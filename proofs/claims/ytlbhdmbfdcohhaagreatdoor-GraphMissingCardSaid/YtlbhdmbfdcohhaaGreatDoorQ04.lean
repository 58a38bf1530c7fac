import Derived.Test.YtlbhdmbfdcohhaaGreatDoorQ03
set_option linter.all false
set_option maxHeartbeats 100000000
noncomputable section
namespace Go.Abs
open Go.RowKit
def C3h:Unit:=()
def C3g:Unit:=C3h
def C3f:Unit:=C3g
def C3e:Unit:=C3f
def C3d:Unit:=C3e
def C3c:Unit:=C3d
def C3b:Unit:=C3c
def C3a:Unit:=C3b
def C39:Unit:=C3a
def C38:Unit:=C39
def C0z:Unit:=C38
def C0y:Unit:=C0z
def C0x:Unit:=C0y
def C0w:Unit:=C0x
def C0v:Unit:=C0w
def C0u:Unit:=C0v
def C0t:Unit:=C0u
def C0s:Unit:=C0t
def C0r:Unit:=C0s
def C0q:Unit:=C0r
def C0p:Unit:=C0q
def C0o:Unit:=C0p
def C0n:Unit:=C0o
def C0m:Unit:=C0n
def C0l:Unit:=C0m
def C0k:Unit:=C0l
def C0j:Unit:=C0k
def C0i:Unit:=C0j
def C0h:Unit:=C0i
def C0g:Unit:=C0h
def C0f:Unit:=C0g
def C0e:Unit:=C0f
def C0d:Unit:=C0e
def C0c:Unit:=C0d
def C0b:Unit:=C0c
def C0a:Unit:=C0b
def C09:Unit:=C0a
def C08:Unit:=C09
def C07:Unit:=C08
def C06:Unit:=C07
def C05:Unit:=C06
def C04:Unit:=C05
def C03:Unit:=C04
def C02:Unit:=C03
def C01:Unit:=C02
def C00:Unit:=C01
def B9Z:Unit:=C00
def B9Y:Unit:=B9Z
def B9X:Unit:=B9Y
def B9W:Unit:=B9X
def B9V:Unit:=B9W
def B9U:Unit:=B9V
def B9T:Unit:=B9U
def B9S:Unit:=B9T
def B9R:Unit:=B9S
def B9Q:Unit:=B9R
def B9P:Unit:=B9Q
def B9O:Unit:=B9P
def B9N:Unit:=B9O
def B9M:Unit:=B9N
def B9L:Unit:=B9M
def B9K:Unit:=B9L
def B9J:Unit:=B9K
def B9I:Unit:=B9J
def B9H:Unit:=B9I
def B9G:Unit:=B9H
def B9F:Unit:=B9G
def B9E:Unit:=B9F
def B9D:Unit:=B9E
def B9C:Unit:=B9D
def B9B:Unit:=B9C
def B9A:Unit:=B9B
def B9z:Unit:=B9A
def B9y:Unit:=B9z
def B9x:Unit:=B9y
def B9w:Unit:=B9x
def B9v:Unit:=B9w
def B9u:Unit:=B9v
def B9t:Unit:=B9u
def B9s:Unit:=B9t
def B9r:Unit:=B9s
def B9q:Unit:=B9r
def B9p:Unit:=B9q
def B9o:Unit:=B9p
def B9n:Unit:=B9o
def B9m:Unit:=B9n
def B9l:Unit:=B9m
def B9k:Unit:=B9l
def B9j:Unit:=B9k
def B9i:Unit:=B9j
def B9h:Unit:=B9i
def B9g:Unit:=B9h
def B9f:Unit:=B9g
def B9e:Unit:=B9f
def B9d:Unit:=B9e
def B9c:Unit:=B9d
def B9b:Unit:=B9c
def B9a:Unit:=B9b
def B99:Unit:=B9a
def B98:Unit:=B99
def B67:Unit:=B98
def B66:Unit:=B67
def B65:Unit:=B66
def B64:Unit:=B65
def B63:Unit:=B64
def B62:Unit:=B63
def B61:Unit:=B62
def B60:Unit:=B61
def B5Z:Unit:=B60
def B5Y:Unit:=B5Z
def B5X:Unit:=B5Y
def B5W:Unit:=B5X
def B5V:Unit:=B5W
def B5U:Unit:=B5V
def B5T:Unit:=B5U
def B5S:Unit:=B5T
def B5R:Unit:=B5S
def B5Q:Unit:=B5R
def B5P:Unit:=B5Q
def B5O:Unit:=B5P
def Gv:Unit:=B5O
abbrev Al:=Option (AV×Hp)
abbrev KV:=AV→Hp→Al
abbrev B55:=Nat→List AV→Hp→KV→Al
inductive BT (α:Type) where
 |leaf
 |node (k:Nat) (v:α) (l r:BT α)
def BT.get {α:Type}:BT α→Nat→Option α
 | .leaf,_=>none
 | .node k v l r,i=>match Nat.beq i k with
  |true=>some v
  |false=>match Nat.blt i k with
   |true=>l.get i
   |false=>r.get i
def BT.getK {α:Type} (b:BT α):Nat→(α→Al)→Al:=
 (λ(_:Unit)=>@BT.rec α (λ_=>Nat→(α→Al)→Al) (λ_ _=>none)
  (λk v _ _ ihl ihr i K=>@Bool.rec (λ_=>Al) (@Bool.rec (λ_=>Al) (ihr i K) (ihl i K) (Nat.blt i k)) (K v) (Nat.beq i k)) b) Gv
theorem BT.getK_eq {α:Type} (b:BT α) (i:Nat) (K:α→Al):b.getK i K=match b.get i with|some v=>K v|none=>none:=by
 induction b with
 |leaf=>rfl
 |node k v l r ihl ihr=>
  simp only[BT.getK,BT.get]
  cases Nat.beq i k
  ·cases Nat.blt i k
   ·exact ihr
   ·exact ihl
  ·rfl
structure Cf where
 b:Bool
 lv:List Nat
 fz:Bool
 n:Nat
 rc:List (Nat×List (Nat×Nat))
structure XFn where
 n:Nat
 rs:List ResultVar
 c:Code
 lv:List Nat
 fz:Bool
 rc:List (Nat×List (Nat×Nat))
inductive LK where
 |int (k:IntKind)|str|bool
abbrev Lie:=Nat×Nat×Nat×Nat
structure XE where
 ft:BT XFn
 ty:BT TI
 gl:BT (List AV)
 imp:Nat→Bool
 lf:Nat
 eqt:BT (List LK)
 lie:List Lie
 up:Nat
 ne:Nat→Bool
def fN (n:Nat) (K:Nat→Al):Al:=@Nat.rec (λ_=>Al) (K 0) (λm _=>K (Nat.succ m)) n
def fI (z:Int) (K:Int→Al):Al:=@Int.rec (λ_=>Al) (λn=>fN n λn=>K (.ofNat n)) (λn=>fN n λn=>K (.negSucc n)) z
def ck (b:Bool) (K:Al):Al:=@Bool.rec (λ_=>Al) none K b
theorem DL (n:Nat) (K:Nat→Al):fN n K=K n:=by cases n<;>rfl
theorem R4 (z:Int) (K:Int→Al):fI z K=K z:=by cases z<;>simp[fI,DL]
def ckS (b:Bool) (K:Al):Al:=(λ(_:Unit)=>@Bool.rec (λ_=>Al) none K b) Gv
def fNS (n:Nat) (K:Nat→Al):Al:=(λ(_:Unit)=>@Nat.rec (λ_=>Al) (K 0) (λm _=>K (Nat.succ m)) n) Gv
def WJ {α:Type} (a:List α):List α→(List α→Al)→Al:=
 (λ(_:Unit)=>@List.rec α (λ_=>List α→(List α→Al)→Al) (λl K=>K l) (λx _ ih l K=>ih l λy=>K (x::y)) a) Gv
def A9O {α:Type} (l:List α):Nat→(Nat→Al)→Al:=(λ(_:Unit)=>@List.rec α (λ_=>Nat→(Nat→Al)→Al) (λn K=>K n) (λ_ _ ih n K=>ih (Nat.succ n) K) l) Gv
theorem B4a (n:Nat) (K:Nat→Al):fNS n K=K n:=DL n K
theorem N6 {α:Type} (a l:List α):∀K:List α→Al,WJ a l K=K (a++l):=by
 induction a with
 |nil=>intro K;rfl
 |cons x a ih=>intro K;exact ih _
theorem B43 {α:Type} (l:List α):∀(n:Nat) (K:Nat→Al),A9O l n K=K (n+l.length):=by
 induction l with
 |nil=>intro n K;rfl
 |cons a l ih=>
  intro n K
  have:A9O (a::l) n K=A9O l (Nat.succ n) K:=rfl
  rw[this,ih]
  congr 1
  simp;omega
theorem Bm {b:Bool} {K:Al} {r:AV×Hp} (h:ck b K=some r):b=true∧K=some r:=by cases b;cases h;exact⟨rfl,h⟩
theorem JC {b:Bool} {K:Al} {r:AV×Hp} (h:ckS b K=some r):b=true∧K=some r:=Bm h
def gtm (t:Tm):Nat→(AV→Al)→Al:=
 (λ(_:Unit)=>@List.rec (Nat×AV) (λ_=>Nat→(AV→Al)→Al) (λ_ K=>K .dk)
  (λp _ ih=>@Prod.rec Nat AV (λ_=>Nat→(AV→Al)→Al) (λk v i K=>@Bool.rec (λ_=>Al) (ih i K) (K v) (Nat.beq i k)) p) t) Gv
theorem SC (t:Tm) (i:Nat) (K:AV→Al):gtm t i K=K (FP t i):=by
 induction t with
 |nil=>rfl
 |cons p t ih=>
  obtain⟨k,v⟩:=p
  simp only[gtm,FP]
  cases h:Nat.beq i k
  ·rw[if_neg (λe=>by rw[e,l29] at h;cases h)];exact ih
  ·rw[if_pos (UY h)]
def Ks (H:Hp):Nat→(Row→Al)→Al:=
 @List.rec (Nat×Row) (λ_=>Nat→(Row→Al)→Al) (λ_ _=>none)
  (λp _ ih=>@Prod.rec Nat Row (λ_=>Nat→(Row→Al)→Al) (λk v i K=>@Bool.rec (λ_=>Al) (ih i K) (K v) (Nat.beq i k)) p) H
theorem G8 {H:Hp} {i:Nat} {K:Row→Al} {r:AV×Hp} (hg:K .gone=none) (h:Ks H i K=some r):∃x,Au H i=some x∧K x=some r:=by
 induction H with
 |nil=>cases h
 |cons p H ih=>
  obtain⟨k,v⟩:=p
  simp only[Ks] at h
  simp only[Au]
  cases hb:Nat.beq i k
  ·rw[hb] at h
   rw[if_neg (λe=>by rw[e,l29] at hb;cases hb)]
   exact ih h
  ·rw[hb] at h
   rw[if_pos (UY hb)]
   cases v with
   |gone=>exact absurd (hg▸h) (by simp)
   |_=>exact⟨_,rfl,h⟩
def Oe (H:Hp):Nat→Row→(Hp→Al)→Al:=
 @List.rec (Nat×Row) (λ_=>Nat→Row→(Hp→Al)→Al) (λ_ _ K=>K [])
  (λp l ih=>@Prod.rec Nat Row (λ_=>Nat→Row→(Hp→Al)→Al) (λk x r y K=>@Bool.rec (λ_=>Al) (ih r y λl'=>K ((k,x)::l')) (K ((k,y)::l)) (Nat.beq r k)) p) H
theorem D8 (H:Hp) (r:Nat) (y:Row):∀K:Hp→Al,Oe H r y K=K (upd H r y):=by
 induction H with
 |nil=>intro K;rfl
 |cons p H ih=>
  intro K
  obtain⟨k,x⟩:=p
  simp only[Oe,upd]
  cases hb:Nat.beq r k
  ·rw[if_neg (λe=>by rw[e,l29] at hb;cases hb)]
   exact ih _
  ·rw[if_pos (UY hb)]
def HM (H:Hp) (K:Nat→Al):Al:=
 @List.rec (Nat×Row) (λ_=>Al) (K 0) (λp _ _=>@Prod.rec Nat Row (λ_=>Al) (λk _=>fN (Nat.succ k) K) p) H
theorem BW (H:Hp) (K:Nat→Al):HM H K=K (A3 H):=by
 cases H with
 |nil=>rfl
 |cons p H=>obtain⟨k,x⟩:=p;exact DL (k+1) K
def V8 {α:Type} (a:List α):List α→(List α→Al)→Al:=
 @List.rec α (λ_=>List α→(List α→Al)→Al) (λl K=>K l) (λx _ ih l K=>ih l λy=>K (x::y)) a
theorem LI {α:Type} (a l:List α):∀K:List α→Al,V8 a l K=K (a++l):=by
 induction a with
 |nil=>intro K;rfl
 |cons x a ih=>intro K;exact ih _
def Dg {α:Type} (n:Nat):List α→List α:=
 @Nat.rec (λ_=>List α→List α) (λl=>l) (λ_ ih l=>@List.rec α (λ_=>List α) [] (λ_ l _=>ih l) l) n
theorem Ct {α:Type} (n:Nat):∀l:List α,Dg n l=l.drop n:=by
 induction n with
 |zero=>intro l;rfl
 |succ n ih=>
  intro l
  cases l with
  |nil=>rfl
  |cons a l=>exact ih l
def Po {α:Type} (n:Nat):List α→(List α→Al)→Al:=
 @Nat.rec (λ_=>List α→(List α→Al)→Al) (λ_ K=>K []) (λ_ ih l K=>@List.rec α (λ_=>Al) (K []) (λa l _=>ih l λl'=>K (a::l')) l) n
theorem Kt {α:Type} (n:Nat):∀(l:List α) (K:List α→Al),Po n l K=K (l.take n):=by
 induction n with
 |zero=>intro l K;rfl
 |succ n ih=>
  intro l K
  cases l with
  |nil=>rfl
  |cons a l=>exact ih l _
def Ia {α:Type} (l:List α):Nat→(Nat→Al)→Al:=@List.rec α (λ_=>Nat→(Nat→Al)→Al) (λn K=>K n) (λ_ _ ih n K=>fN (Nat.succ n) λm=>ih m K) l
theorem CA {α:Type} (l:List α):∀(n:Nat) (K:Nat→Al),Ia l n K=K (n+l.length):=by
 induction l with
 |nil=>intro n K;rfl
 |cons a l ih=>
  intro n K
  have:Ia (a::l) n K=fN (Nat.succ n) λm=>Ia l m K:=rfl
  rw[this,DL,ih]
  congr 1
  simp;omega
def B7t (vs:List AV):List AV→(List AV→Al)→Al:=
 @List.rec AV (λ_=>List AV→(List AV→Al)→Al) (λl K=>K l) (λv _ ih l K=>@List.rec AV (λ_=>Al) none (λ_ l _=>ih l λl'=>K (v::l')) l) vs
theorem B17 (vs:List AV):∀(l:List AV) (K:List AV→Al) (r:AV×Hp),B7t vs l K=some r→vs.length≤l.length∧K (vs++l.drop vs.length)=some r:=by
 induction vs with
 |nil=>intro l K r h;exact⟨l1c _,h⟩
 |cons v vs ih=>
  intro l K r h
  cases l with
  |nil=>cases h
  |cons a l=>
   obtain⟨h1,h2⟩:=ih l _ r h
   exact⟨by simpa using h1,h2⟩
theorem B7s (vs:List AV):∀(l:List AV) (K:List AV→Al),vs.length≤l.length→B7t vs l K=K (vs++l.drop vs.length):=by
 induction vs with
 |nil=>intro l K h;rfl
 |cons v vs ih=>
  intro l K h
  cases l with
  |nil=>simp at h
  |cons a l=>exact ih l _ (by simpa using h)
def EL (n:Nat):List AV→List AV→(List AV→Al)→Al:=
 @Nat.rec (λ_=>List AV→List AV→(List AV→Al)→Al) (λvs l K=>B7t vs l K) (λ_ ih vs l K=>@List.rec AV (λ_=>Al) none (λa l _=>ih vs l λl'=>K (a::l')) l) n
theorem LG (n:Nat):∀(vs l:List AV) (K:List AV→Al) (r:AV×Hp),EL n vs l K=some r→n+vs.length≤l.length∧K (splice l n vs)=some r:=by
 induction n with
 |zero=>
  intro vs l K r h
  obtain⟨h1,h2⟩:=B17 vs l K r h
  exact⟨by omega,by simpa [splice] using h2⟩
 |succ n ih=>
  intro vs l K r h
  cases l with
  |nil=>cases h
  |cons a l=>
   obtain⟨h1,h2⟩:=ih vs l _ r h
   refine⟨by simp;omega,?_⟩
   have:splice (a::l) (n+1) vs=a::splice l n vs:=by simp[splice,Nat.add_right_comm]
   rw[this];exact h2
theorem KO (n:Nat):∀(vs l:List AV) (K:List AV→Al),n+vs.length≤l.length→EL n vs l K=K (splice l n vs):=by
 induction n with
 |zero=>
  intro vs l K h
  have:=B7s vs l K (by omega)
  have e:EL 0 vs l K=B7t vs l K:=rfl
  rw[e,this]
  simp[splice]
 |succ n ih=>
  intro vs l K h
  cases l with
  |nil=>simp at h
  |cons a l=>
   have:splice (a::l) (n+1) vs=a::splice l n vs:=by simp[splice,Nat.add_right_comm]
   rw[this]
   exact ih vs l _ (by simp at h;omega)
def iN (z:Int) (K:Nat→Al):Al:=@Int.rec (λ_=>Al) (λn=>fN n K) (λ_=>none) z
theorem SB {z:Int} {K:Nat→Al} {r:AV×Hp} (h:iN z K=some r):∃n:Nat,z=n∧K n=some r:=by
 cases z with
 |ofNat n=>exact⟨n,rfl,by simpa [iN,DL] using h⟩
 |negSucc n=>cases h
theorem J6 (n:Nat) (K:Nat→Al):iN n K=K n:=DL n K
def Zu (a b:Int):Bool:=@Int.rec (λ_=>Bool) (λm=>@Int.rec (λ_=>Bool) (λn=>Nat.ble m n) (λ_=>false) b) (λm=>@Int.rec (λ_=>Bool) (λ_=>true) (λn=>Nat.ble n m) b) a
def ieq (a b:Int):Bool:=@Int.rec (λ_=>Bool) (λm=>@Int.rec (λ_=>Bool) (λn=>Nat.beq m n) (λ_=>false) b) (λm=>@Int.rec (λ_=>Bool) (λ_=>false) (λn=>Nat.beq m n) b) a
theorem J5 (a b:Int):Zu a b=decide (a≤b):=by
 cases a<;>cases b<;>simp only[Zu]
 ·rw[Zs];simp[XS]
 ·rw[Zs];simp;omega
 ·rw[Zs];simp;omega
 ·rw[Zs];simp[XS];omega
theorem NV (a b:Int):ieq a b=decide (a=b):=by
 cases a<;>cases b<;>simp only[ieq]
 ·rw[Zs];simp[ZL,Int.ofNat_inj]
 ·rw[Zs];simp
 ·rw[Zs];simp
 ·rw[Zs];simp[ZL]
def bB (b:Bool) (K:AV→Al):Al:=@Bool.rec (λ_=>Al) (K (.v (.bool false))) (K (.v (.bool true))) b
theorem La (b:Bool) (K:AV→Al):bB b K=K (.v (.bool b)):=by cases b<;>rfl
def FU {α:Type} (n:Nat):List α→(List α→Al)→Al:=
 @Nat.rec (λ_=>List α→(List α→Al)→Al) (λ_ K=>K []) (λ_ ih l K=>@List.rec α (λ_=>Al) none (λa l _=>ih l λl'=>K (a::l')) l) n
theorem N5 {α:Type} (n:Nat):∀(l:List α) (K:List α→Al) (r:AV×Hp),FU n l K=some r→n≤l.length∧K (l.take n)=some r:=by
 induction n with
 |zero=>intro l K r h;exact⟨l1c _,h⟩
 |succ n ih=>
  intro l K r h
  cases l with
  |nil=>cases h
  |cons a l=>
   obtain⟨h1,h2⟩:=ih l _ r h
   exact⟨by simpa using h1,h2⟩
theorem MM {α:Type} (n:Nat):∀(l:List α) (K:List α→Al),n≤l.length→FU n l K=K (l.take n):=by
 induction n with
 |zero=>intro l K _;rfl
 |succ n ih=>
  intro l K h
  cases l with
  |nil=>simp at h
  |cons a l=>exact ih l _ (by simpa using h)
def hdK (l:List AV) (K:AV→Al):Al:=@List.rec AV (λ_=>Al) none (λa _ _=>K a) l
theorem A6t {l:List AV} {K:AV→Al} {r:AV×Hp} (h:hdK l K=some r):∃a l',l=a::l'∧K a=some r:=by
 cases l with
 |nil=>cases h
 |cons a l=>exact⟨a,l,rfl,h⟩
def Ma (x:Row) (K:TypeId→List AV→Al):Al:=match x with| .cells _ e cs=>K e cs|_=>none
def A2l (x:Row) (K:Bool→TypeId→List AV→Al):Al:=match x with| .cells q e cs=>K q e cs|_=>none
def B00 (v:AV) (H:Hp) (K:List AV→Al):Al:=
 match v with
 | .ptr r p k=>Ks H r λx=>Ma x λ_ cs=>K (Dg (Nat.add p k) cs)
 | .iptr cs=>K cs
 |_=>none
section
variable {T:Ty} {H:Hp} {r:AV×Hp}
theorem J0 {H:Hp} {i:Nat} {K:TypeId→List AV→Al} {r:AV×Hp} (h:(Ks H i λx=>Ma x K)=some r):∃q e cs,Au H i=some (.cells q e cs)∧K e cs=some r:=by
 obtain⟨x,h1,h2⟩:=G8 rfl h
 unfold Ma at h2
 split at h2
 ·exact⟨_,_,_,h1,h2⟩
 ·cases h2
theorem Ur {H:Hp} {i:Nat} {K:Bool→TypeId→List AV→Al} {r:AV×Hp} (h:(Ks H i λx=>A2l x K)=some r):∃q e cs,Au H i=some (.cells q e cs)∧K q e cs=some r:=by
 obtain⟨x,h1,h2⟩:=G8 rfl h
 unfold A2l at h2
 split at h2
 ·exact⟨_,_,_,h1,h2⟩
 ·cases h2
def Y9 (i:TI) (cs:List AV) (K:AV→Al):Al:=@Bool.rec (λ_=>Al) (hdK cs K) (FU i.size cs λc=>K (.agg c)) i.d.isAgg
theorem SJ {ty:TypeId} {i:TI} {cs:List AV} {K:AV→Al} (hT:T ty=some i) (h:Y9 i cs K=some r):∃v,K v=some r∧TT T ty cs (λv'=>v'=v):=by
 unfold Y9 at h
 cases ha:i.d.isAgg
 ·rw[ha] at h
  obtain⟨a,l,rfl,h2⟩:=A6t h
  exact⟨a,h2,by simp[TT,hT,ha]⟩
 ·rw[ha] at h
  obtain⟨h1,h2⟩:=N5 _ _ _ _ h
  exact⟨_,h2,by simp[TT,hT,ha,h1]⟩
def Aq (i:TI) (v:AV) (H:Hp) (K:AV→Al):Al:=B00 v H λcs=>Y9 i cs K
theorem A6M {ty:TypeId} {i:TI} {v:AV} {K:AV→Al} (hT:T ty=some i) (h:Aq i v H K=some r):∃u,K u=some r∧A5m T ty v H (λv'=>v'=u):=by
 unfold Aq B00 at h
 split at h
 ·obtain⟨q,e,cs,h1,h2⟩:=J0 h
  rw[Ct] at h2
  obtain⟨u,h3,h4⟩:=SJ (T:=T) (ty:=ty) hT h2
  exact⟨u,h3,by simp only[A5m,h1];exact h4⟩
 ·obtain⟨u,h3,h4⟩:=SJ (T:=T) (ty:=ty) hT h
  exact⟨u,h3,h4⟩
 ·cases h
def Qs (l:List AV):Bool:=@List.rec AV (λ_=>Bool) true (λa _ ih=>@Bool.rec (λ_=>Bool) false ih (AV.one a)) l
theorem FZ (l:List AV):Qs l=l.all AV.one:=by
 induction l with
 |nil=>rfl
 |cons a l ih=>
  have e:Qs (a::l)=@Bool.rec (λ_=>Bool) false (Qs l) (AV.one a):=rfl
  rw[e,l2j,←ih]
  cases AV.one a<;>rfl
def GT (a:AV) (K:List AV→Al):Al:=match a with| .agg cs=>K cs|a=>K [a]
theorem Da (a:AV) (K:List AV→Al):GT a K=K (B6 a):=by cases a<;>rfl
def Ck (i:TI) (p v:AV) (H:Hp) (K:Hp→Al):Al:=
 match p with
 | .ptr s p k=>Ks H s λx=>A2l x λq e cs=>GT v λvs=>Ia vs 0 λn=>ck (Nat.beq n i.size) (ck (Qs vs) (EL (Nat.add p k) vs cs λcs'=>Oe H s (.cells q e cs') K))
 |_=>none
theorem B4k {ty:TypeId} {i:TI} {p v:AV} {K:Hp→Al} (hT:T ty=some i) (h:Ck i p v H K=some r):∃H',K H'=some r∧A01 T ty p v H (λH''=>H''=H'):=by
 unfold Ck at h
 split at h
 ·obtain⟨q,e,cs,h1,h2⟩:=Ur h
  rw[Da,CA] at h2
  obtain⟨h3,h2⟩:=Bm h2
  obtain⟨h4,h2⟩:=Bm h2
  obtain⟨h5,h2⟩:=LG _ _ _ _ _ h2
  rw[D8] at h2
  rw[FZ] at h4
  refine⟨_,h2,?_⟩
  simp only[A01,h1,hT]
  exact⟨by have:=UY h3;omega,h4,h5,rfl⟩
 ·cases h
def AH (ty:TypeId) (i:TI) (H:Hp) (K:KV):Al:=GT i.zero λcs=>HM H λs=>K (.ptr s 0 0) ((s,.cells true ty cs)::H)
theorem A6Q {ty:TypeId} {i:TI} {K:KV} (hT:T ty=some i) (h:AH ty i H K=some r):∃v H',K v H'=some r∧A0a T ty H (A3 H) (λv' H''=>v'=v∧H''=H'):=by
 rw[AH,Da,BW] at h
 exact⟨_,_,h,by simp[A0a,hT]⟩
def CU (ty:TypeId) (v:AV) (H:Hp) (K:KV):Al:=GT v λcs=>ck (Qs cs) (HM H λs=>K (.ptr s 0 0) ((s,.cells true ty cs)::H))
theorem B1u {ty:TypeId} {v:AV} {K:KV} (h:CU ty v H K=some r):∃u H',K u H'=some r∧B8B ty v H (A3 H) (λv' H''=>v'=u∧H''=H'):=by
 rw[CU,Da] at h
 obtain⟨h1,h⟩:=Bm h
 rw[BW] at h
 rw[FZ] at h1
 exact⟨_,_,h,h1,rfl,rfl⟩
def V7 (l:List (Nat×Nat×AV)):List AV→(List AV→Al)→Al:=
 @List.rec (Nat×Nat×AV) (λ_=>List AV→(List AV→Al)→Al) (λcs K=>K cs)
  (λp _ ih cs K=>GT p.2.2 λvs=>Ia vs 0 λn=>ck (Nat.beq n p.2.1) (ck (Qs vs) (EL p.1 vs cs λcs'=>ih cs' K))) l
theorem TX {place:Nat→Option (Nat×Nat)}:∀(l:List (Nat×Nat×AV)) (ps:List (Nat×AV)) (cs:List AV) (K:List AV→Al),(ps.map λp=>(place p.1).map λq=>(q.1,q.2,p.2))=l.map some→V7 l cs K=some r→∃cs',K cs'=some r∧PE place ps cs=some cs':=by
 intro l
 induction l with
 |nil=>
  intro ps cs K he h
  cases ps with
  |nil=>exact⟨cs,h,rfl⟩
  |cons p ps=>simp at he
 |cons x l ih=>
  intro ps cs K he h
  cases ps with
  |nil=>simp at he
  |cons p ps=>
   simp only[ZK,List.cons.injEq] at he
   obtain⟨he1,he2⟩:=he
   cases hq:place p.1 with
   |none=>rw[hq] at he1;simp at he1
   |some q=>
    rw[hq] at he1
    simp only[l0x,l0y] at he1
    have hx:V7 (x::l) cs K=GT x.2.2 λvs=>Ia vs 0 λn=>ck (Nat.beq n x.2.1) (ck (Qs vs) (EL x.1 vs cs λcs'=>V7 l cs' K)):=rfl
    rw[hx,Da,CA] at h
    obtain⟨h3,h⟩:=Bm h
    obtain⟨h4,h⟩:=Bm h
    obtain⟨h5,h⟩:=LG _ _ _ _ _ h
    rw[FZ] at h4
    obtain⟨cs',h6,h7⟩:=ih ps _ K he2 h
    refine⟨cs',h6,?_⟩
    obtain⟨i,a⟩:=p
    subst he1
    have h3:=UY h3
    simp only[PE,hq]
    rw[if_pos ⟨by simpa using h3,h5,h4⟩]
    exact h7
def Bi (i:TI) (l:List (Nat×Nat×AV)) (K:AV→Al):Al:=GT i.zero λz=>V7 l z λcs=>K (.agg cs)
def Oo (i:TI) (j:Nat):Option (Nat×Nat):=
 match i.d with
 | .struct fs=>(fs[j]?).map λf=>(f.1,f.2.1)
 | .array _ _ esz=>some (j*esz,esz)
 | .slice _ esz=>some (j*esz,esz)
 |_=>none
def A4W (i:TI):Bool:=
 match i.d with
 | .struct fs=>fs.all λf=>f.2.1 !=0
 | .array _ _ esz=>esz !=0
 |_=>false
theorem A6P {ty:TypeId} {i:TI} {l:List (Nat×Nat×AV)} {ps:List (Nat×AV)} {K:AV→Al} (hT:T ty=some i) (hb:A4W i=true) (he:(ps.map λp=>(Oo i p.1).map λq=>(q.1,q.2,p.2))=l.map some) (h:Bi i l K=some r):
 ∃v,K v=some r∧A07 T ty ps (λv'=>v'=v):=by
 rw[Bi,Da] at h
 obtain⟨cs',h1,h2⟩:=TX l ps _ _ he h
 refine⟨_,h1,?_⟩
 unfold A07
 rw[hT]
 simp only
 unfold A4W at hb
 cases hd:i.d with
 |struct fs=>
  rw[hd] at hb
  simp only
  refine⟨hb,?_⟩
  have:Oo i= λj=>(fs[j]?).map λf=>(f.1,f.2.1):=by funext j;simp[Oo,hd]
  rw[this] at h2
  rw[h2];rfl
 |array n e esz=>
  rw[hd] at hb
  simp only
  refine⟨by simpa using hb,?_⟩
  have:Oo i= λj=>some (j*esz,esz):=by funext j;simp[Oo,hd]
  rw[this] at h2
  rw[h2];rfl
 |_=>rw[hd] at hb;cases hb
end
section
variable {T:Ty} {H:Hp} {r:AV×Hp}
def B7q (z:Int) (K:Int→Al):Al:=
 @Int.rec (λ_=>Al) (λn=>fN n λn=>@Bool.rec (λ_=>Al) (fI (IntKind.i64.wrap (.ofNat n)) K) (K (.ofNat n)) (Nat.blt n 9223372036854775808))
  (λn=>fN n λn=>@Bool.rec (λ_=>Al) (fI (IntKind.i64.wrap (.negSucc n)) K) (K (.negSucc n)) (Nat.blt n 9223372036854775808)) z
theorem B7p (z:Int) (K:Int→Al):B7q z K=K (IntKind.i64.wrap z):=by
 have key:∀x:Int, -9223372036854775808≤x→x<9223372036854775808→IntKind.i64.wrap x=x:= λx h1 h2=>by
  simp only[IntKind.wrap,IntKind.bits,IntKind.signed]
  have e1:(2^64:Int)=18446744073709551616:=by decide
  have e2:(2^(64-1):Int)=9223372036854775808:=by decide
  simp only[e1,e2,l16,decide_eq_true_eq]
  split<;>omega
 cases z with
 |ofNat n=>
  simp only[B7q,DL]
  cases h:Nat.blt n 9223372036854775808
  ·simp only[R4]
  ·rw[TU] at h
   rw[key _ (by simp only[Int.ofNat_eq_natCast];omega) (by simp only[Int.ofNat_eq_natCast];omega)]
 |negSucc n=>
  simp only[B7q,DL]
  cases h:Nat.blt n 9223372036854775808
  ·simp only[R4]
  ·rw[TU] at h
   rw[key _ (by omega) (by omega)]
def LF (k:IntKind) (z:Int) (K:Int→Al):Al:=match k with| .i64=>B7q z K|k=>fI (k.wrap z) K
theorem G9 (k:IntKind) (z:Int) (K:Int→Al):LF k z K=K (k.wrap z):=by
 cases k<;>first|exact B7p _ _|exact R4 _ _
abbrev IT:=IntKind→Int→Int→(AV→Al)→Al
def B7j:IT:= λk a b K=>LF k (Int.add a b) λz=>K (.v (.int k z))
def C4n:IT:= λk a b K=>LF k (Int.sub a b) λz=>K (.v (.int k z))
def C4t:IT:= λk a b K=>LF k (Int.mul a b) λz=>K (.v (.int k z))
def C4r:IT:= λk a b K=>ck (!ieq b 0) (LF k (Int.tdiv a b) λz=>K (.v (.int k z)))
def C4q:IT:= λk a b K=>ck (!ieq b 0) (fI (Int.tmod a b) λz=>K (.v (.int k z)))
def B7i:IT:= λk a b K=>fI (k.wrap ((BitVec.ofInt k.bits a&&&BitVec.ofInt k.bits b).toNat)) λz=>K (.v (.int k z))
def iOr:IT:= λk a b K=>fI (k.wrap ((BitVec.ofInt k.bits a|||BitVec.ofInt k.bits b).toNat)) λz=>K (.v (.int k z))
def B7h:IT:= λk a b K=>fI (k.wrap ((BitVec.ofInt k.bits a^^^BitVec.ofInt k.bits b).toNat)) λz=>K (.v (.int k z))
def C4z:IT:= λk a b K=>fI (k.wrap ((BitVec.ofInt k.bits a&&& ~~~BitVec.ofInt k.bits b).toNat)) λz=>K (.v (.int k z))
def C4y:IT:= λ_ a b K=>bB (ieq a b) K
def C4s:IT:= λ_ a b K=>bB (!ieq a b) K
def C4u:IT:= λ_ a b K=>bB (!Zu b a) K
def C4v:IT:= λ_ a b K=>bB (Zu a b) K
def C4w:IT:= λ_ a b K=>bB (!Zu a b) K
def C4x:IT:= λ_ a b K=>bB (Zu b a) K
def C4p:IT:= λk a b K=>ck (Zu 0 b) (LF k (a*2^(min b.toNat k.bits)) λz=>K (.v (.int k z)))
def C4o:IT:= λk a b K=>ck (Zu 0 b) (fI (a.fdiv (2^(min b.toNat k.bits))) λz=>K (.v (.int k z)))
def A8H (op:BinOp):IT:=match op with
 | .add=>B7j| .sub=>C4n| .mul=>C4t| .quo=>C4r| .rem=>C4q| .and=>B7i| .or=>iOr| .xor=>B7h| .andNot=>C4z
 | .eql=>C4y| .neq=>C4s| .lss=>C4u| .leq=>C4v| .gtr=>C4w| .geq=>C4x| .shl=>C4p| .shr=>C4o
theorem A3y {op:BinOp} {k:IntKind} {a b:Int} {K:AV→Al} (h:A8H op k a b K=some r):∃v,K (.v v)=some r∧(if GK op then XD op k a b=some v else YZ op k a b=some v):=by
 have hq:∀{x:Al},ck (!ieq b 0) x=some r→b≠0∧x=some r:= λh=>by
  obtain⟨h1,h2⟩:=Bm h
  refine⟨λe=> ?_,h2⟩
  subst e
  simp[NV] at h1
 have hs:∀{x:Al},ck (Zu 0 b) x=some r→0≤b∧x=some r:= λh=>by
  obtain⟨h1,h2⟩:=Bm h
  rw[J5] at h1
  exact⟨by simpa using h1,h2⟩
 cases op<;>simp only[A8H,B7j,C4n,C4t,C4r,C4q,B7i,iOr,B7h,C4z,C4y,C4s,C4u,C4v,C4w,C4x,C4p,C4o,G9,R4,La] at h<;>try (cases h;done)
 case add=>exact⟨_,h,rfl⟩
 case sub=>exact⟨_,h,rfl⟩
 case mul=>exact⟨_,h,rfl⟩
 case quo=>
  obtain⟨h1,h2⟩:=hq h
  exact⟨_,h2,by simp[GK,YZ,h1]⟩
 case rem=>
  obtain⟨h1,h2⟩:=hq h
  exact⟨_,h2,by simp[GK,YZ,h1]⟩
 case and=>exact⟨_,h,rfl⟩
 case or=>exact⟨_,h,rfl⟩
 case xor=>exact⟨_,h,rfl⟩
 case andNot=>exact⟨_,h,rfl⟩
 case shl=>
  obtain⟨h1,h2⟩:=hs h
  exact⟨_,h2,by simp only[GK,if_true,XD];rw[if_neg (by omega)]⟩
 case shr=>
  obtain⟨h1,h2⟩:=hs h
  exact⟨_,h2,by simp only[GK,if_true,XD];rw[if_neg (by omega)]⟩
 case eql=>exact⟨_,h,by simp only[GK,YZ,NV];rw[show(a==b)=decide (a=b) from by by_cases e:a=b<;>simp[e]];simp⟩
 case neq=>exact⟨_,h,by simp only[GK,YZ,NV,bne];rw[show(a==b)=decide (a=b) from by by_cases e:a=b<;>simp[e]];simp⟩
 case lss=>exact⟨_,h,by simp only[GK,YZ,J5];rw[show(!decide (b≤a))=decide (a<b) from by rw[Zs];simp];simp⟩
 case leq=>exact⟨_,h,by simp[GK,YZ,J5]⟩
 case gtr=>exact⟨_,h,by simp only[GK,YZ,J5];rw[show(!decide (a≤b))=decide (a>b) from by rw[Zs];simp];simp⟩
 case geq=>exact⟨_,h,by simp[GK,YZ,J5]⟩
def eqB (a:List UInt8):List UInt8→Bool:=
 @List.rec UInt8 (λ_=>List UInt8→Bool) (λb=>@List.rec UInt8 (λ_=>Bool) true (λ_ _ _=>false) b)
  (λx _ ih b=>@List.rec UInt8 (λ_=>Bool) false (λy l _=>@Bool.rec (λ_=>Bool) false (ih l) (Nat.beq x.toNat y.toNat)) b) a
theorem Pz (a:List UInt8):∀b,eqB a b=(a==b):=by
 induction a with
 |nil=>intro b;cases b<;>rfl
 |cons x a ih=>
  intro b
  cases b with
  |nil=>rfl
  |cons y b=>
   have e:eqB (x::a) (y::b)=@Bool.rec (λ_=>Bool) false (eqB a b) (Nat.beq x.toNat y.toNat):=rfl
   rw[e,ih]
   cases h:Nat.beq x.toNat y.toNat
   ·have:x≠y:= λe=>by rw[e,l29] at h;cases h
    simp[this]
   ·have:x=y:=UInt8.toNat_inj.1 (UY h)
    simp[this]
def ltB (a:List UInt8):List UInt8→Bool:=
 @List.rec UInt8 (λ_=>List UInt8→Bool) (λb=>@List.rec UInt8 (λ_=>Bool) false (λ_ _ _=>true) b)
  (λx _ ih b=>@List.rec UInt8 (λ_=>Bool) false (λy l _=>@Bool.rec (λ_=>Bool) (@Bool.rec (λ_=>Bool) false (ih l) (Nat.beq x.toNat y.toNat)) true (Nat.blt x.toNat y.toNat)) b) a
theorem A4t (a:List UInt8):∀b,ltB a b=Op.bytesLess a b:=by
 induction a with
 |nil=>intro b;cases b<;>rfl
 |cons x a ih=>
  intro b
  cases b with
  |nil=>rfl
  |cons y b=>
   have e:ltB (x::a) (y::b)=@Bool.rec (λ_=>Bool) (@Bool.rec (λ_=>Bool) false (ltB a b) (Nat.beq x.toNat y.toNat)) true (Nat.blt x.toNat y.toNat):=rfl
   rw[e,ih,Op.bytesLess]
   have h1:(Nat.blt x.toNat y.toNat)=decide (x<y):=by
    rw[Zs];simp[TU,UInt8.lt_iff_toNat_lt]
   have h2:(Nat.beq x.toNat y.toNat)=(x==y):=by
    rw[Zs];simp[ZL,UInt8.toNat_inj]
   rw[h1,h2]
   cases decide (x<y)
   ·cases (x==y)<;>rfl
   ·rfl
def C1Y (op:BinOp) (a b:ByteArray) (K:AV→Al):Al:=
 match op with
 | .add=>V8 a.data.toList b.data.toList λl=>ck (Nat.blt l.length 9223372036854775808) (K (.v (.string ⟨⟨l⟩⟩)))
 | .eql=>bB (eqB a.data.toList b.data.toList) K
 | .neq=>bB (!eqB a.data.toList b.data.toList) K
 | .lss=>bB (ltB a.data.toList b.data.toList) K
 | .leq=>bB (ltB a.data.toList b.data.toList||eqB a.data.toList b.data.toList) K
 | .gtr=>bB (!(ltB a.data.toList b.data.toList||eqB a.data.toList b.data.toList)) K
 | .geq=>bB (!ltB a.data.toList b.data.toList) K
 |_=>none
theorem Tt (a:ByteArray):a.toList=a.data.toList:=ByteArray.toList_eq a
theorem B1g {op:BinOp} {a b:ByteArray} {K:AV→Al} (h:C1Y op a b K=some r):∃v,K (.v v)=some r∧B0K op a b=some v:=by
 cases op<;>simp only[C1Y,La,LI,Pz,A4t] at h<;>try (cases h;done)
 case add=>
  obtain⟨h1,h2⟩:=Bm h
  refine⟨_,h2,?_⟩
  rw[TU] at h1
  have hmax:IntKind.i64.max=9223372036854775807:=by decide
  have hs:a.size+b.size=(a.data.toList++b.data.toList).length:=by rw[FK];rfl
  simp only[B0K]
  rw[if_neg (by rw[hmax];omega)]
  congr 2
 all_goals exact⟨_,h,by simp[B0K,Tt]⟩
def Ak (i:TI) (op:BinOp) (a b:AV) (K:AV→Al):Al:=
 match a,b with
 | .v (.int k m),.v (.int k' n)=>@Bool.rec (λ_=>Al) (ck (decide (k=k')) (A8H op k m n K)) (A8H op k m n K) (GK op)
 | .v (.string s),.v (.string u)=>C1Y op s u K
 | .v (.bool p),.v (.bool q)=>match i.d,op with
  | .bool,.eql=>bB (p==q) K
  | .bool,.neq=>bB (!(p==q)) K
  |_,_=>none
 |a,b=>match A66 i.d a b,op with
  |some q,.eql=>bB q K
  |some q,.neq=>bB (!q) K
  |_,_=>none
theorem A3D {ty:TypeId} {i:TI} {op:BinOp} {a b:AV} {K:AV→Al} (hT:T ty=some i) (h:Ak i op a b K=some r):∃v,K v=some r∧A09 T op ty a b (λv'=>v'=v):=by
 unfold Ak at h
 split at h
 ·rename_i k m k' n
  cases hs:GK op
  ·rw[hs] at h
   obtain⟨h1,h2⟩:=Bm h
   obtain⟨v,h3,h4⟩:=A3y h2
   rw[hs] at h4
   exact⟨_,h3,by simp only[A09,hs,l0z,if_false];exact⟨by simpa using h1,by simp only[l0z,if_false] at h4;rw[h4];rfl⟩⟩
  ·rw[hs] at h
   obtain⟨v,h3,h4⟩:=A3y h
   rw[hs] at h4
   exact⟨_,h3,by simp only[A09,hs,if_true];simp only[if_true] at h4;rw[h4];rfl⟩
 ·obtain⟨v,h3,h4⟩:=B1g h
  exact⟨_,h3,by simp only[A09];rw[h4];rfl⟩
 ·rename_i p q
  split at h
  ·rename_i hd
   rw[La] at h
   exact⟨_,h,by simp only[A09];exact⟨⟨i,hT,hd⟩,trivial⟩⟩
  ·rename_i hd
   rw[La] at h
   exact⟨_,h,by simp only[A09];exact⟨⟨i,hT,hd⟩,trivial⟩⟩
  ·cases h
 ·rename_i h1 h2 h3
  have hx:∀Kp:AV→Prop,(∃q,A66 i.d a b=some q∧((op= .eql∧Kp (.v (.bool q)))∨(op= .neq∧Kp (.v (.bool (!q))))))→A09 T op ty a b Kp:= λKp hk=>by
   obtain⟨q,hq,hk⟩:=hk
   unfold A09
   split
   ·exact(h1 _ _ _ _ rfl rfl).elim
   ·exact(h2 _ _ rfl rfl).elim
   ·exact(h3 _ _ rfl rfl).elim
   ·rw[hT]
    simp only[hq]
    rcases hk with⟨rfl,hk⟩|⟨rfl,hk⟩<;>exact hk
  cases hq:A66 i.d a b with
  |none=>rw[hq] at h;cases h
  |some q=>
   rw[hq] at h
   cases op<;>first|(cases h;done)|skip
   ·simp only[La] at h;exact⟨_,h,hx _ ⟨q,hq,.inl ⟨rfl,rfl⟩⟩⟩
   ·simp only[La] at h;exact⟨_,h,hx _ ⟨q,hq,.inr ⟨rfl,rfl⟩⟩⟩
def F2 (op:UnOp) (a:AV) (K:AV→Al):Al:=
 match op,a with
 | .neg,.v (.int k n)=>LF k (Int.sub 0 n) λz=>K (.v (.int k z))
 | .xor,.v (.int k n)=>fI (k.wrap ((BitVec.ofInt k.bits (if k.signed then-1 else k.max)^^^BitVec.ofInt k.bits n).toNat)) λz=>K (.v (.int k z))
 | .not,.v (.bool b)=>bB (!b) K
 |_,_=>none
theorem B4i {op:UnOp} {a:AV} {K:AV→Al} (h:F2 op a K=some r):∃v,K v=some r∧xun op a (λv'=>v'=v):=by
 unfold F2 at h
 split at h
 ·rw[G9] at h;exact⟨_,h,rfl⟩
 ·rw[R4] at h;exact⟨_,h,rfl⟩
 ·rw[La] at h;exact⟨_,h,rfl⟩
 ·cases h
def Fl (i j:TI) (a:AV) (K:AV→Al):Al:=
 match j.d,a with
 | .int k,.v (.int _ n)=>LF k n λz=>K (.v (.int k z))
 | .string,.v (.string s)=>match i.d with| .string=>K (.v (.string s))|_=>none
 |_,_=>none
theorem A8N {s d:TypeId} {i j:TI} {a:AV} {K:AV→Al} (hi:T s=some i) (hj:T d=some j) (h:Fl i j a K=some r):∃v,K v=some r∧A2V T s d a (λv'=>v'=v):=by
 unfold Fl at h
 split at h
 ·rename_i hd
  rw[G9] at h
  exact⟨_,h,by simp only[A2V,hi,hj,hd]⟩
 ·rename_i hd
  split at h
  ·rename_i hs
   exact⟨_,h,by simp only[A2V,hi,hj,hd,hs];exact⟨trivial,trivial⟩⟩
  ·cases h
 ·cases h
end
section
variable {T:Ty} {H:Hp} {r:AV×Hp}
def AL (off:Nat) (v:AV) (K:AV→Al):Al:=
 match v with
 | .ptr s p k=>fN (Nat.add (Nat.add p k) off) λo=>K (.ptr s o 0)
 | .iptr cs=>K (.iptr (Dg off cs))
 |_=>none
theorem B4s {ty:TypeId} {i:TI} {v:AV} {f off sz ft:Nat} {fs:List (Nat×Nat×TypeId)} {K:AV→Al} (hT:T ty=some i) (hd:i.d= .struct fs) (hf:fs[f]?=some (off,sz,ft)) (hz:sz≠0) (h:AL off v K=some r):∃u,K u=some r∧Xq T ty v f (λv'=>v'=u):=by
 unfold AL at h
 split at h
 ·rw[DL] at h
  refine⟨_,h,?_⟩
  simp only[Xq,hT,hd,hf]
  exact⟨hz,_,0,by simp[Xk],rfl⟩
 ·rw[Ct] at h
  refine⟨_,h,?_⟩
  simp only[Xq,hT,hd,hf]
  exact⟨hz,trivial⟩
 ·cases h
def A8I (off:Nat) (j:TI) (v:AV) (K:AV→Al):Al:=
 match v with
 | .agg cs=>Y9 j (Dg off cs) K
 |_=>none
theorem B1r {ty:TypeId} {i j:TI} {v:AV} {f off sz ft:Nat} {fs:List (Nat×Nat×TypeId)} {K:AV→Al} (hT:T ty=some i) (hd:i.d= .struct fs) (hf:fs[f]?=some (off,sz,ft)) (hj:T ft=some j) (h:A8I off j v K=some r):∃u,K u=some r∧A06 T ty v f (λv'=>v'=u):=by
 unfold A8I at h
 split at h
 ·rw[Ct] at h
  obtain⟨u,h1,h2⟩:=SJ (T:=T) (ty:=ft) hj h
  exact⟨u,h1,by simp only[A06,hT,hd,hf];exact h2⟩
 ·cases h
def A4C (a:AV) (K:Int→Al):Al:=match a with| .v (.int _ n)=>K n|_=>none
theorem ML {a:AV} {K:Int→Al} (h:A4C a K=some r):∃k n,a= .v (.int k n)∧K n=some r:=by
 unfold A4C at h
 split at h
 ·exact⟨_,_,rfl,h⟩
 ·cases h
def Bv (i:TI) (x ix:AV) (K:AV→Al):Al:=
 A4C ix λz=>iN z λn=>match i.d,x with
  | .slice _ esz,.list m cs=>ck (Nat.blt n m) (Po esz (Dg (Nat.mul n esz) cs) λc=>K (.iptr c))
  | .slice _ esz,.sl _ s o m=>ck (Nat.blt n m) (fN (Nat.add o (Nat.mul n esz)) λp=>K (.ptr s p 0))
  | .array m _ esz,.ptr s p k=>ck (Nat.blt n m) (fN (Nat.add (Nat.add p k) (Nat.mul n esz)) λq=>K (.ptr s q 0))
  | .array m _ esz,.iptr cs=>ck (Nat.blt n m) (Po esz (Dg (Nat.mul n esz) cs) λc=>K (.iptr c))
  |_,_=>none
theorem B4q {ty:TypeId} {i:TI} {x ix:AV} {K:AV→Al} (hT:T ty=some i) (h:Bv i x ix K=some r):∃u,K u=some r∧A05 T ty x ix (λv'=>v'=u):=by
 unfold Bv at h
 obtain⟨k,z,rfl,h'⟩:=ML h
 clear h
 obtain⟨n,rfl,h⟩:=SB h'
 clear h'
 unfold A05
 rw[hT]
 simp only
 split at h
 ·rename_i hd
  obtain⟨h1,h⟩:=Bm h
  rw[Kt,Ct] at h
  rw[TU] at h1
  exact⟨_,h,by simp only[hd,Xj];exact⟨⟨by omega,by omega⟩,rfl⟩⟩
 ·rename_i hd
  obtain⟨h1,h⟩:=Bm h
  rw[DL] at h
  rw[TU] at h1
  exact⟨_,h,by simp only[hd,Xj];exact⟨⟨by omega,by omega⟩,rfl⟩⟩
 ·rename_i hd
  obtain⟨h1,h⟩:=Bm h
  rw[DL] at h
  rw[TU] at h1
  exact⟨_,h,by simp only[hd,Xj];exact⟨⟨by omega,by omega⟩,_,0,by simp[Xk],rfl⟩⟩
 ·rename_i hd
  obtain⟨h1,h⟩:=Bm h
  rw[Kt,Ct] at h
  rw[TU] at h1
  exact⟨_,h,by simp only[hd,Xj];exact⟨⟨by omega,by omega⟩,rfl⟩⟩
 ·cases h
def B8w (l:List UInt8) (K:AV→Al):Al:=@List.rec UInt8 (λ_=>Al) none (λb _ _=>fN b.toNat λn=>K (.v (.int .u8 (.ofNat n)))) l
def SM (i j:TI) (x ix:AV) (K:AV→Al):Al:=
 A4C ix λz=>iN z λn=>match i.d,x with
  | .string,.v (.string s)=>B8w (Dg n s.data.toList) K
  | .array m _ esz,.agg cs=>ck (Nat.blt n m) (Y9 j (Dg (Nat.mul n esz) cs) K)
  |_,_=>none
def WS (i:TI):Option TypeId:=match i.d with| .array _ e _=>some e| .slice e _=>some e|_=>none
theorem B1q {ty:TypeId} {i j:TI} {x ix:AV} {K:AV→Al} (hT:T ty=some i) (hj:∀e,WS i=some e→T e=some j) (h:SM i j x ix K=some r):∃u,K u=some r∧A04 T ty x ix (λv'=>v'=u):=by
 unfold SM at h
 obtain⟨k,z,rfl,h'⟩:=ML h
 clear h
 obtain⟨n,rfl,h⟩:=SB h'
 clear h'
 unfold A04
 rw[hT]
 simp only
 split at h
 ·rename_i s hd
  rw[Ct] at h
  cases hl:s.data.toList.drop n with
  |nil=>rw[hl] at h;cases h
  |cons b l=>
   rw[hl] at h
   have h:(fN b.toNat λn=>K (.v (.int .u8 (.ofNat n))))=some r:=h
   rw[DL] at h
   have hlt:n<s.data.toList.length:=by
    have:=congrArg List.length hl
    simp at this
    simp
    omega
   have hb:s.data.toList[n]?=some b:=by
    have:=congrArg (λl=>l[0]?) hl
    simpa using this
   refine⟨_,h,?_⟩
   simp only[hd,Xj]
   refine⟨⟨by omega,?_⟩,?_⟩
   ·have:s.size=s.data.toList.length:=rfl
    omega
   ·rw[Th,hb];rfl
 ·rename_i m e esz cs hd
  obtain⟨h1,h⟩:=Bm h
  rw[Ct] at h
  rw[TU] at h1
  obtain⟨u,h2,h3⟩:=SJ (T:=T) (ty:=e) (hj e (by simp[WS,hd])) h
  exact⟨u,h2,by simp only[hd,Xj];exact⟨⟨by omega,by omega⟩,h3⟩⟩
 ·cases h
def R7 (x:Option AV) (d:Nat) (K:Nat→Al):Al:=
 match x with
 |none=>fN d K
 |some a=>A4C a λz=>iN z K
theorem GY {x:Option AV} {d:Nat} {K:Nat→Al} (h:R7 x d K=some r):∃n:Nat,UB x d=some (n:Int)∧K n=some r:=by
 unfold R7 at h
 split at h
 ·rw[DL] at h;exact⟨d,rfl,h⟩
 ·obtain⟨k,z,rfl,h1⟩:=ML h
  obtain⟨n,rfl,h2⟩:=SB h1
  exact⟨n,rfl,h2⟩
def El (i:TI) (x:AV) (lo hi mx:Option AV) (K:AV→Al):Al:=
 match i.d,x with
 | .string,.v (.string s)=>ck mx.isNone (R7 lo 0 λl=>Ia s.data.toList 0 λm=>R7 hi m λh=>ck (Nat.ble l h&&Nat.ble h m) (Po (Nat.sub h l) (Dg l s.data.toList) λb=>K (.v (.string ⟨⟨b⟩⟩))))
 | .slice _ esz,.list m cs=>R7 lo 0 λl=>R7 hi m λh=>R7 mx m λx=>ck ((mx.isNone||hi.isSome)&&(Nat.ble l h&&(Nat.ble h x&&Nat.ble x m))) (fN (Nat.sub h l) λn=>Po (Nat.mul n esz) (Dg (Nat.mul l esz) cs) λc=>K (.list n c))
 | .slice _ esz,.sl sz s o m=>ck (Nat.beq esz sz) (R7 lo 0 λl=>R7 hi m λh=>R7 mx m λx=>ck ((mx.isNone||hi.isSome)&&(Nat.ble l h&&(Nat.ble h x&&Nat.ble x m))) (fN (Nat.add o (Nat.mul l esz)) λo'=>fN (Nat.sub h l) λn=>K (.sl sz s o' n)))
 | .slice _ _,.v (.slice none 0 0)=>ck mx.isNone (R7 lo 0 λl=>R7 hi 0 λh=>ck (Nat.beq l 0&&Nat.beq h 0) (K (.v (.slice none 0 0))))
 |_,_=>none
theorem A6D {ty:TypeId} {i:TI} {x:AV} {lo hi mx:Option AV} {K:AV→Al} (hT:T ty=some i) (h:El i x lo hi mx K=some r):∃u,K u=some r∧A02 T ty x lo hi mx (λv'=>v'=u):=by
 unfold El at h
 unfold A02
 rw[hT]
 simp only
 split at h
 ·rename_i s hd
  obtain⟨h0,h⟩:=Bm h
  obtain⟨l,hl,h⟩:=GY h
  rw[CA] at h
  obtain⟨n,hn,h⟩:=GY h
  obtain⟨h1,h⟩:=Bm h
  rw[Kt,Ct] at h
  simp only[Jp,XS] at h1
  have hz:0+s.data.toList.length=s.size:=K1 _
  rw[hz] at hn h1
  refine⟨_,h,?_⟩
  simp only[hd,hl,hn,JM,Xj]
  refine⟨h0,⟨by omega,by omega,by omega⟩,?_⟩
  congr 2
  apply ByteArray.ext
  apply ZM
  simp only[ByteArray.data_extract,Array.toList_extract,List.extract]
  rfl
 ·rename_i e esz m cs hd
  obtain⟨l,hl,h⟩:=GY h
  obtain⟨n,hn,h⟩:=GY h
  obtain⟨y,hy,h⟩:=GY h
  obtain⟨h1,h⟩:=Bm h
  rw[DL,Kt,Ct] at h
  simp only[Jp,XS] at h1
  refine⟨_,h,?_⟩
  have e1:((n:Int)-l).toNat=n-l:=by omega
  simp only[hd,hl,hn,hy,JM,Xj,e1]
  refine⟨⟨by omega,by omega,by omega,by omega⟩,λhm=> ?_,rfl⟩
  cases mx with
  |none=>simp at hm
  |some _=>simpa using h1.1
 ·rename_i e esz sz s o m hd
  obtain⟨h0,h⟩:=Bm h
  obtain⟨l,hl,h⟩:=GY h
  obtain⟨n,hn,h⟩:=GY h
  obtain⟨y,hy,h⟩:=GY h
  obtain⟨h1,h⟩:=Bm h
  rw[DL,DL] at h
  simp only[Jp,XS] at h1
  refine⟨_,h,?_⟩
  have e1:((n:Int)-l).toNat=n-l:=by omega
  simp only[hd,hl,hn,hy,JM,Xj,e1]
  refine⟨UY h0,⟨by omega,by omega,by omega,by omega⟩,λhm=> ?_,rfl⟩
  cases mx with
  |none=>simp at hm
  |some _=>simpa using h1.1
 ·rename_i e esz hd
  obtain⟨h0,h⟩:=Bm h
  obtain⟨l,hl,h⟩:=GY h
  obtain⟨n,hn,h⟩:=GY h
  obtain⟨h1,h⟩:=Bm h
  simp only[Jp,ZL] at h1
  refine⟨_,h,?_⟩
  simp only[hd,hl,hn,JM]
  exact⟨h0,⟨by omega,by omega⟩,trivial⟩
 ·cases h
def AA (v:AV) (k:Nat) (K:AV→Al):Al:=match v with| .tup vs=>hdK (Dg k vs) K|_=>none
theorem B1s {v:AV} {k:Nat} {K:AV→Al} (h:AA v k K=some r):∃vs u,v= .tup vs∧vs[k]?=some u∧K u=some r:=by
 unfold AA at h
 split at h
 ·rename_i vs
  rw[Ct] at h
  obtain⟨a,l,hl,h⟩:=A6t h
  refine⟨vs,a,rfl,?_,h⟩
  have:=congrArg (λl=>l[0]?) hl
  simpa using this
 ·cases h
def AN (i:TI) (x:AV) (K:AV→Al):Al:=
 match i.d,x with
 | .string,.v (.string s)=>Ia s.data.toList 0 λn=>K (.v (.int .i64 (.ofNat n)))
 | .slice _ _,.list n _=>K (.v (.int .i64 (.ofNat n)))
 | .slice _ _,.sl _ _ _ n=>K (.v (.int .i64 (.ofNat n)))
 | .slice _ _,.v (.slice none 0 0)=>K (.v (.int .i64 (.ofNat 0)))
 | .array n _ _,_=>K (.v (.int .i64 (.ofNat n)))
 |_,_=>none
theorem B1p {ty:TypeId} {i:TI} {x:AV} {K:AV→Al} (hT:T ty=some i) (h:AN i x K=some r):∃u,K u=some r∧B23 T ty x (λv'=>v'=u):=by
 unfold AN at h
 unfold B23
 rw[hT]
 simp only
 split at h
 ·rename_i s hd
  rw[CA] at h
  refine⟨_,h,?_⟩
  simp only[hd]
  rw[K1];rfl
 ·rename_i hd;exact⟨_,h,by simp only[hd];rfl⟩
 ·rename_i hd;exact⟨_,h,by simp only[hd];rfl⟩
 ·rename_i hd;exact⟨_,h,by simp only[hd];rfl⟩
 ·rename_i hd;exact⟨_,h,by simp only[hd];rfl⟩
 ·cases h
def eMM (isMin:Bool) (a b:AV) (K:AV→Al):Al:=
 match a,b with
 | .v (.int k x),.v (.int k' y)=>ck (decide (k=k')) (@Bool.rec (λ_=>Al) (@Bool.rec (λ_=>Al) (K (.v (.int k y))) (K (.v (.int k x))) (Zu y x)) (@Bool.rec (λ_=>Al) (K (.v (.int k y))) (K (.v (.int k x))) (Zu x y)) isMin)
 | .v (.string s),.v (.string u)=>@Bool.rec (λ_=>Al) (K (.v (.string u))) (K (.v (.string s))) (@Bool.rec (λ_=>Bool) (!ltB s.data.toList u.data.toList) (ltB s.data.toList u.data.toList||eqB s.data.toList u.data.toList) isMin)
 |_,_=>none
theorem A6I {isMin:Bool} {a b:AV} {K:AV→Al} (h:eMM isMin a b K=some r):∃u,K u=some r∧xmm isMin a b (λv'=>v'=u):=by
 unfold eMM at h
 split at h
 ·rename_i k x k' y
  obtain⟨h1,h⟩:=Bm h
  simp only[xmm]
  have hk:k=k':=by simpa using h1
  cases isMin
  ·rw[J5] at h
   by_cases hxy:y≤x
   ·rw[decide_eq_true hxy] at h
    exact⟨_,h,hk,by rw[if_neg (by simp),if_neg (by omega)]⟩
   ·rw[decide_eq_false hxy] at h
    exact⟨_,h,hk,by rw[if_neg (by simp),if_pos (by omega)]⟩
  ·rw[J5 x y] at h
   by_cases hxy:x≤y
   ·rw[decide_eq_true hxy] at h
    exact⟨_,h,hk,by rw[if_pos rfl,if_neg (by omega)]⟩
   ·rw[decide_eq_false hxy] at h
    exact⟨_,h,hk,by rw[if_pos rfl,if_pos (by omega)]⟩
 ·rename_i s u
  simp only[xmm]
  cases isMin
  ·simp only[A4t,Tt] at h⊢
   cases hb:(!Op.bytesLess s.data.toList u.data.toList)<;>(rw[hb] at h;exact⟨_,h,rfl⟩)
  ·simp only[A4t,Pz,Tt] at h⊢
   cases hb:(Op.bytesLess s.data.toList u.data.toList||s.data.toList==u.data.toList)<;>(rw[hb] at h;exact⟨_,h,rfl⟩)
 ·cases h
end
end Go.Abs
end
