import Derived.Test.YtlbhdmbfdcohhaaGreatDoorT03
set_option linter.all false
set_option maxHeartbeats 100000000
noncomputable section
namespace Go.Abs
open Go.RowKit
def C4i:Unit:=()
def C4h:Unit:=C4i
def C4g:Unit:=C4h
def C4f:Unit:=C4g
def C4e:Unit:=C4f
def C4d:Unit:=C4e
def C4c:Unit:=C4d
def C4b:Unit:=C4c
def C4a:Unit:=C4b
def C49:Unit:=C4a
def C1r:Unit:=C49
def C1q:Unit:=C1r
def C1p:Unit:=C1q
def C1o:Unit:=C1p
def C1n:Unit:=C1o
def C1m:Unit:=C1n
def C1l:Unit:=C1m
def C1k:Unit:=C1l
def C1j:Unit:=C1k
def C1i:Unit:=C1j
def C1h:Unit:=C1i
def C1g:Unit:=C1h
def C1f:Unit:=C1g
def C1e:Unit:=C1f
def C1d:Unit:=C1e
def C1c:Unit:=C1d
def C1b:Unit:=C1c
def C1a:Unit:=C1b
def C19:Unit:=C1a
def C18:Unit:=C19
def C17:Unit:=C18
def C16:Unit:=C17
def C15:Unit:=C16
def C14:Unit:=C15
def C13:Unit:=C14
def C12:Unit:=C13
def C11:Unit:=C12
def C10:Unit:=C11
def C0Z:Unit:=C10
def C0Y:Unit:=C0Z
def C0X:Unit:=C0Y
def C0W:Unit:=C0X
def C0V:Unit:=C0W
def C0U:Unit:=C0V
def C0T:Unit:=C0U
def C0S:Unit:=C0T
def C0R:Unit:=C0S
def C0Q:Unit:=C0R
def C0P:Unit:=C0Q
def C0O:Unit:=C0P
def C0N:Unit:=C0O
def C0M:Unit:=C0N
def C0L:Unit:=C0M
def C0K:Unit:=C0L
def C0J:Unit:=C0K
def C0I:Unit:=C0J
def C0H:Unit:=C0I
def C0G:Unit:=C0H
def C0F:Unit:=C0G
def C0E:Unit:=C0F
def C0D:Unit:=C0E
def C0C:Unit:=C0D
def C0B:Unit:=C0C
def C0A:Unit:=C0B
def C0z:Unit:=C0A
def C0y:Unit:=C0z
def C0x:Unit:=C0y
def C0w:Unit:=C0x
def C0v:Unit:=C0w
def C0u:Unit:=C0v
def C0t:Unit:=C0u
def C0s:Unit:=C0t
def C0r:Unit:=C0s
def C0q:Unit:=C0r
def C0p:Unit:=C0q
def C0o:Unit:=C0p
def C0n:Unit:=C0o
def C0m:Unit:=C0n
def C0l:Unit:=C0m
def C0k:Unit:=C0l
def C0j:Unit:=C0k
def C0i:Unit:=C0j
def C0h:Unit:=C0i
def C0g:Unit:=C0h
def C0f:Unit:=C0g
def C0e:Unit:=C0f
def C0d:Unit:=C0e
def C0c:Unit:=C0d
def C0b:Unit:=C0c
def C0a:Unit:=C0b
def C09:Unit:=C0a
def C08:Unit:=C09
def C07:Unit:=C08
def C06:Unit:=C07
def C05:Unit:=C06
def C04:Unit:=C05
def C03:Unit:=C04
def C02:Unit:=C03
def C01:Unit:=C02
def C00:Unit:=C01
def B6R:Unit:=C00
def B6Q:Unit:=B6R
def B6P:Unit:=B6Q
def B6O:Unit:=B6P
def B6N:Unit:=B6O
def B6M:Unit:=B6N
def B6L:Unit:=B6M
def B6K:Unit:=B6L
def B6J:Unit:=B6K
def B6I:Unit:=B6J
def B6H:Unit:=B6I
def B6G:Unit:=B6H
def B6F:Unit:=B6G
def B6E:Unit:=B6F
def B6D:Unit:=B6E
def B6C:Unit:=B6D
def B6B:Unit:=B6C
def B6A:Unit:=B6B
def B6z:Unit:=B6A
def B6y:Unit:=B6z
def GU:Unit:=B6y
abbrev Aj:=Option (AV×Hp)
abbrev KV:=AV→Hp→Aj
abbrev B5N:=Nat→List AV→Hp→KV→Aj
inductive BT (α:Type) where
 |leaf
 |node (k:Nat) (v:α) (l r:BT α)
def BT.get {α:Type}:BT α→Nat→Option α
 | .leaf,_=>none
 | .node k v l r,i=>match Nat.beq i k with
  |true=>some v
  |false=>match Nat.blt i k with
   |true=>l.get i
   |false=>r.get i
def BT.getK {α:Type} (b:BT α):Nat→(α→Aj)→Aj:=
 (λ(_:Unit)=>@BT.rec α (λ_=>Nat→(α→Aj)→Aj) (λ_ _=>none)
  (λk v _ _ ihl ihr i K=>@Bool.rec (λ_=>Aj) (@Bool.rec (λ_=>Aj) (ihr i K) (ihl i K) (Nat.blt i k)) (K v) (Nat.beq i k)) b) GU
theorem BT.getK_eq {α:Type} (b:BT α) (i:Nat) (K:α→Aj):b.getK i K=match b.get i with|some v=>K v|none=>none:=by
 induction b with
 |leaf=>rfl
 |node k v l r ihl ihr=>
  simp only[BT.getK,BT.get]
  cases Nat.beq i k
  ·cases Nat.blt i k
   ·exact ihr
   ·exact ihl
  ·rfl
structure Cf where
 b:Bool
 lv:List Nat
 fz:Bool
 n:Nat
 rc:List (Nat×List (Nat×Nat))
structure XFn where
 n:Nat
 rs:List ResultVar
 c:Code
 lv:List Nat
 fz:Bool
 rc:List (Nat×List (Nat×Nat))
inductive LK where
 |int (k:IntKind)|str|bool
abbrev Lie:=Nat×Nat×Nat×Nat
structure XE where
 ft:BT XFn
 ty:BT TI
 gl:BT (List AV)
 imp:Nat→Bool
 lf:Nat
 eqt:BT (List LK)
 lie:List Lie
 up:Nat
 ne:Nat→Bool
def fN (n:Nat) (K:Nat→Aj):Aj:=@Nat.rec (λ_=>Aj) (K 0) (λm _=>K (Nat.succ m)) n
def fI (z:Int) (K:Int→Aj):Aj:=@Int.rec (λ_=>Aj) (λn=>fN n λn=>K (.ofNat n)) (λn=>fN n λn=>K (.negSucc n)) z
def ck (b:Bool) (K:Aj):Aj:=@Bool.rec (λ_=>Aj) none K b
theorem Dt (n:Nat) (K:Nat→Aj):fN n K=K n:=by cases n<;>rfl
theorem Sj (z:Int) (K:Int→Aj):fI z K=K z:=by cases z<;>simp[fI,Dt]
def ckS (b:Bool) (K:Aj):Aj:=(λ(_:Unit)=>@Bool.rec (λ_=>Aj) none K b) GU
def fNS (n:Nat) (K:Nat→Aj):Aj:=(λ(_:Unit)=>@Nat.rec (λ_=>Aj) (K 0) (λm _=>K (Nat.succ m)) n) GU
def UU {α:Type} (a:List α):List α→(List α→Aj)→Aj:=
 (λ(_:Unit)=>@List.rec α (λ_=>List α→(List α→Aj)→Aj) (λl K=>K l) (λx _ ih l K=>ih l λy=>K (x::y)) a) GU
def B0j {α:Type} (l:List α):Nat→(Nat→Aj)→Aj:=(λ(_:Unit)=>@List.rec α (λ_=>Nat→(Nat→Aj)→Aj) (λn K=>K n) (λ_ _ ih n K=>ih (Nat.succ n) K) l) GU
theorem B4P (n:Nat) (K:Nat→Aj):fNS n K=K n:=Dt n K
theorem KP {α:Type} (a l:List α):∀K:List α→Aj,UU a l K=K (a++l):=by
 induction a with
 |nil=>intro K;rfl
 |cons x a ih=>intro K;exact ih _
theorem B4H {α:Type} (l:List α):∀(n:Nat) (K:Nat→Aj),B0j l n K=K (n+l.length):=by
 induction l with
 |nil=>intro n K;rfl
 |cons a l ih=>
  intro n K
  have:B0j (a::l) n K=B0j l (Nat.succ n) K:=rfl
  rw[this,ih]
  congr 1
  simp;omega
theorem Bv {b:Bool} {K:Aj} {r:AV×Hp} (h:ck b K=some r):b=true∧K=some r:=by cases b;cases h;exact⟨rfl,h⟩
theorem Kc {b:Bool} {K:Aj} {r:AV×Hp} (h:ckS b K=some r):b=true∧K=some r:=Bv h
def gtm (t:Tm):Nat→(AV→Aj)→Aj:=
 (λ(_:Unit)=>@List.rec (Nat×AV) (λ_=>Nat→(AV→Aj)→Aj) (λ_ K=>K .dk)
  (λp _ ih=>@Prod.rec Nat AV (λ_=>Nat→(AV→Aj)→Aj) (λk v i K=>@Bool.rec (λ_=>Aj) (ih i K) (K v) (Nat.beq i k)) p) t) GU
theorem Tn (t:Tm) (i:Nat) (K:AV→Aj):gtm t i K=K (Gt t i):=by
 induction t with
 |nil=>rfl
 |cons p t ih=>
  obtain⟨k,v⟩:=p
  simp only[gtm,Gt]
  cases h:Nat.beq i k
  ·rw[if_neg (λe=>by rw[e,Zq] at h;cases h)];exact ih
  ·rw[if_pos (VG h)]
def J3 (H:Hp):Nat→(Row→Aj)→Aj:=
 @List.rec (Nat×Row) (λ_=>Nat→(Row→Aj)→Aj) (λ_ _=>none)
  (λp _ ih=>@Prod.rec Nat Row (λ_=>Nat→(Row→Aj)→Aj) (λk v i K=>@Bool.rec (λ_=>Aj) (ih i K) (K v) (Nat.beq i k)) p) H
theorem Hf {H:Hp} {i:Nat} {K:Row→Aj} {r:AV×Hp} (hg:K .gone=none) (h:J3 H i K=some r):∃x,Aq H i=some x∧K x=some r:=by
 induction H with
 |nil=>cases h
 |cons p H ih=>
  obtain⟨k,v⟩:=p
  simp only[J3] at h
  simp only[Aq]
  cases hb:Nat.beq i k
  ·rw[hb] at h
   rw[if_neg (λe=>by rw[e,Zq] at hb;cases hb)]
   exact ih h
  ·rw[hb] at h
   rw[if_pos (VG hb)]
   cases v with
   |gone=>exact absurd (hg▸h) (by simp)
   |_=>exact⟨_,rfl,h⟩
def Lx (H:Hp):Nat→Row→(Hp→Aj)→Aj:=
 @List.rec (Nat×Row) (λ_=>Nat→Row→(Hp→Aj)→Aj) (λ_ _ K=>K [])
  (λp l ih=>@Prod.rec Nat Row (λ_=>Nat→Row→(Hp→Aj)→Aj) (λk x r y K=>@Bool.rec (λ_=>Aj) (ih r y λl'=>K ((k,x)::l')) (K ((k,y)::l)) (Nat.beq r k)) p) H
theorem Db (H:Hp) (r:Nat) (y:Row):∀K:Hp→Aj,Lx H r y K=K (upd H r y):=by
 induction H with
 |nil=>intro K;rfl
 |cons p H ih=>
  intro K
  obtain⟨k,x⟩:=p
  simp only[Lx,upd]
  cases hb:Nat.beq r k
  ·rw[if_neg (λe=>by rw[e,Zq] at hb;cases hb)]
   exact ih _
  ·rw[if_pos (VG hb)]
def Ih (H:Hp) (K:Nat→Aj):Aj:=
 @List.rec (Nat×Row) (λ_=>Aj) (K 0) (λp _ _=>@Prod.rec Nat Row (λ_=>Aj) (λk _=>fN (Nat.succ k) K) p) H
theorem Ca (H:Hp) (K:Nat→Aj):Ih H K=K (A2 H):=by
 cases H with
 |nil=>rfl
 |cons p H=>obtain⟨k,x⟩:=p;exact Dt (k+1) K
def UV {α:Type} (a:List α):List α→(List α→Aj)→Aj:=
 @List.rec α (λ_=>List α→(List α→Aj)→Aj) (λl K=>K l) (λx _ ih l K=>ih l λy=>K (x::y)) a
theorem KZ {α:Type} (a l:List α):∀K:List α→Aj,UV a l K=K (a++l):=by
 induction a with
 |nil=>intro K;rfl
 |cons x a ih=>intro K;exact ih _
def D4 {α:Type} (n:Nat):List α→List α:=
 @Nat.rec (λ_=>List α→List α) (λl=>l) (λ_ ih l=>@List.rec α (λ_=>List α) [] (λ_ l _=>ih l) l) n
theorem CL {α:Type} (n:Nat):∀l:List α,D4 n l=l.drop n:=by
 induction n with
 |zero=>intro l;rfl
 |succ n ih=>
  intro l
  cases l with
  |nil=>rfl
  |cons a l=>exact ih l
def Qo {α:Type} (n:Nat):List α→(List α→Aj)→Aj:=
 @Nat.rec (λ_=>List α→(List α→Aj)→Aj) (λ_ K=>K []) (λ_ ih l K=>@List.rec α (λ_=>Aj) (K []) (λa l _=>ih l λl'=>K (a::l')) l) n
theorem MF {α:Type} (n:Nat):∀(l:List α) (K:List α→Aj),Qo n l K=K (l.take n):=by
 induction n with
 |zero=>intro l K;rfl
 |succ n ih=>
  intro l K
  cases l with
  |nil=>rfl
  |cons a l=>exact ih l _
def GS {α:Type} (l:List α):Nat→(Nat→Aj)→Aj:=@List.rec α (λ_=>Nat→(Nat→Aj)→Aj) (λn K=>K n) (λ_ _ ih n K=>fN (Nat.succ n) λm=>ih m K) l
theorem Cq {α:Type} (l:List α):∀(n:Nat) (K:Nat→Aj),GS l n K=K (n+l.length):=by
 induction l with
 |nil=>intro n K;rfl
 |cons a l ih=>
  intro n K
  have:GS (a::l) n K=fN (Nat.succ n) λm=>GS l m K:=rfl
  rw[this,Dt,ih]
  congr 1
  simp;omega
def B8d (vs:List AV):List AV→(List AV→Aj)→Aj:=
 @List.rec AV (λ_=>List AV→(List AV→Aj)→Aj) (λl K=>K l) (λv _ ih l K=>@List.rec AV (λ_=>Aj) none (λ_ l _=>ih l λl'=>K (v::l')) l) vs
theorem B1z (vs:List AV):∀(l:List AV) (K:List AV→Aj) (r:AV×Hp),B8d vs l K=some r→vs.length≤l.length∧K (vs++l.drop vs.length)=some r:=by
 induction vs with
 |nil=>intro l K r h;exact⟨l1c _,h⟩
 |cons v vs ih=>
  intro l K r h
  cases l with
  |nil=>cases h
  |cons a l=>
   obtain⟨h1,h2⟩:=ih l _ r h
   exact⟨by simpa using h1,h2⟩
theorem B8c (vs:List AV):∀(l:List AV) (K:List AV→Aj),vs.length≤l.length→B8d vs l K=K (vs++l.drop vs.length):=by
 induction vs with
 |nil=>intro l K h;rfl
 |cons v vs ih=>
  intro l K h
  cases l with
  |nil=>simp at h
  |cons a l=>exact ih l _ (by simpa using h)
def EE (n:Nat):List AV→List AV→(List AV→Aj)→Aj:=
 @Nat.rec (λ_=>List AV→List AV→(List AV→Aj)→Aj) (λvs l K=>B8d vs l K) (λ_ ih vs l K=>@List.rec AV (λ_=>Aj) none (λa l _=>ih vs l λl'=>K (a::l')) l) n
theorem MG (n:Nat):∀(vs l:List AV) (K:List AV→Aj) (r:AV×Hp),EE n vs l K=some r→n+vs.length≤l.length∧K (splice l n vs)=some r:=by
 induction n with
 |zero=>
  intro vs l K r h
  obtain⟨h1,h2⟩:=B1z vs l K r h
  exact⟨by omega,by simpa [splice] using h2⟩
 |succ n ih=>
  intro vs l K r h
  cases l with
  |nil=>cases h
  |cons a l=>
   obtain⟨h1,h2⟩:=ih vs l _ r h
   refine⟨by simp;omega,?_⟩
   have:splice (a::l) (n+1) vs=a::splice l n vs:=by simp[splice,Nat.add_right_comm]
   rw[this];exact h2
theorem JX (n:Nat):∀(vs l:List AV) (K:List AV→Aj),n+vs.length≤l.length→EE n vs l K=K (splice l n vs):=by
 induction n with
 |zero=>
  intro vs l K h
  have:=B8c vs l K (by omega)
  have e:EE 0 vs l K=B8d vs l K:=rfl
  rw[e,this]
  simp[splice]
 |succ n ih=>
  intro vs l K h
  cases l with
  |nil=>simp at h
  |cons a l=>
   have:splice (a::l) (n+1) vs=a::splice l n vs:=by simp[splice,Nat.add_right_comm]
   rw[this]
   exact ih vs l _ (by simp at h;omega)
def iN (z:Int) (K:Nat→Aj):Aj:=@Int.rec (λ_=>Aj) (λn=>fN n K) (λ_=>none) z
theorem Tk {z:Int} {K:Nat→Aj} {r:AV×Hp} (h:iN z K=some r):∃n:Nat,z=n∧K n=some r:=by
 cases z with
 |ofNat n=>exact⟨n,rfl,by simpa [iN,Dt] using h⟩
 |negSucc n=>cases h
theorem JD (n:Nat) (K:Nat→Aj):iN n K=K n:=Dt n K
def ile (a b:Int):Bool:=@Int.rec (λ_=>Bool) (λm=>@Int.rec (λ_=>Bool) (λn=>Nat.ble m n) (λ_=>false) b) (λm=>@Int.rec (λ_=>Bool) (λ_=>true) (λn=>Nat.ble n m) b) a
def ieq (a b:Int):Bool:=@Int.rec (λ_=>Bool) (λm=>@Int.rec (λ_=>Bool) (λn=>Nat.beq m n) (λ_=>false) b) (λm=>@Int.rec (λ_=>Bool) (λ_=>false) (λn=>Nat.beq m n) b) a
theorem JW (a b:Int):ile a b=decide (a≤b):=by
 cases a<;>cases b<;>simp only[ile]
 ·rw[l0w];simp[YE]
 ·rw[l0w];simp;omega
 ·rw[l0w];simp;omega
 ·rw[l0w];simp[YE];omega
theorem OK (a b:Int):ieq a b=decide (a=b):=by
 cases a<;>cases b<;>simp only[ieq]
 ·rw[l0w];simp[l13,Int.ofNat_inj]
 ·rw[l0w];simp
 ·rw[l0w];simp
 ·rw[l0w];simp[l13]
def bB (b:Bool) (K:AV→Aj):Aj:=@Bool.rec (λ_=>Aj) (K (.v (.bool false))) (K (.v (.bool true))) b
theorem XA4 (b:Bool) (K:AV→Aj):bB b K=K (.v (.bool b)):=by cases b<;>rfl
def Gx {α:Type} (n:Nat):List α→(List α→Aj)→Aj:=
 @Nat.rec (λ_=>List α→(List α→Aj)→Aj) (λ_ K=>K []) (λ_ ih l K=>@List.rec α (λ_=>Aj) none (λa l _=>ih l λl'=>K (a::l')) l) n
theorem Oq {α:Type} (n:Nat):∀(l:List α) (K:List α→Aj) (r:AV×Hp),Gx n l K=some r→n≤l.length∧K (l.take n)=some r:=by
 induction n with
 |zero=>intro l K r h;exact⟨l1c _,h⟩
 |succ n ih=>
  intro l K r h
  cases l with
  |nil=>cases h
  |cons a l=>
   obtain⟨h1,h2⟩:=ih l _ r h
   exact⟨by simpa using h1,h2⟩
theorem N9 {α:Type} (n:Nat):∀(l:List α) (K:List α→Aj),n≤l.length→Gx n l K=K (l.take n):=by
 induction n with
 |zero=>intro l K _;rfl
 |succ n ih=>
  intro l K h
  cases l with
  |nil=>simp at h
  |cons a l=>exact ih l _ (by simpa using h)
def hdK (l:List AV) (K:AV→Aj):Aj:=@List.rec AV (λ_=>Aj) none (λa _ _=>K a) l
theorem A6O {l:List AV} {K:AV→Aj} {r:AV×Hp} (h:hdK l K=some r):∃a l',l=a::l'∧K a=some r:=by
 cases l with
 |nil=>cases h
 |cons a l=>exact⟨a,l,rfl,h⟩
def Kw (x:Row) (K:TypeId→List AV→Aj):Aj:=match x with| .cells _ e cs=>K e cs|_=>none
def A1d (x:Row) (K:Bool→TypeId→List AV→Aj):Aj:=match x with| .cells q e cs=>K q e cs|_=>none
def B0t (v:AV) (H:Hp) (K:List AV→Aj):Aj:=
 match v with
 | .ptr r p k=>J3 H r λx=>Kw x λ_ cs=>K (D4 (Nat.add p k) cs)
 | .iptr cs=>K cs
 |_=>none
section
variable {T:Ty} {H:Hp} {r:AV×Hp}
theorem JR {H:Hp} {i:Nat} {K:TypeId→List AV→Aj} {r:AV×Hp} (h:(J3 H i λx=>Kw x K)=some r):∃q e cs,Aq H i=some (.cells q e cs)∧K e cs=some r:=by
 obtain⟨x,h1,h2⟩:=Hf rfl h
 unfold Kw at h2
 split at h2
 ·exact⟨_,_,_,h1,h2⟩
 ·cases h2
theorem Vn {H:Hp} {i:Nat} {K:Bool→TypeId→List AV→Aj} {r:AV×Hp} (h:(J3 H i λx=>A1d x K)=some r):∃q e cs,Aq H i=some (.cells q e cs)∧K q e cs=some r:=by
 obtain⟨x,h1,h2⟩:=Hf rfl h
 unfold A1d at h2
 split at h2
 ·exact⟨_,_,_,h1,h2⟩
 ·cases h2
def Zu (i:TI) (cs:List AV) (K:AV→Aj):Aj:=@Bool.rec (λ_=>Aj) (hdK cs K) (Gx i.size cs λc=>K (.agg c)) i.d.isAgg
theorem Tt {ty:TypeId} {i:TI} {cs:List AV} {K:AV→Aj} (hT:T ty=some i) (h:Zu i cs K=some r):∃v,K v=some r∧UL T ty cs (λv'=>v'=v):=by
 unfold Zu at h
 cases ha:i.d.isAgg
 ·rw[ha] at h
  obtain⟨a,l,rfl,h2⟩:=A6O h
  exact⟨a,h2,by simp[UL,hT,ha]⟩
 ·rw[ha] at h
  obtain⟨h1,h2⟩:=Oq _ _ _ _ h
  exact⟨_,h2,by simp[UL,hT,ha,h1]⟩
def Au (i:TI) (v:AV) (H:Hp) (K:AV→Aj):Aj:=B0t v H λcs=>Zu i cs K
theorem A7c {ty:TypeId} {i:TI} {v:AV} {K:AV→Aj} (hT:T ty=some i) (h:Au i v H K=some r):∃u,K u=some r∧A5Q T ty v H (λv'=>v'=u):=by
 unfold Au B0t at h
 split at h
 ·obtain⟨q,e,cs,h1,h2⟩:=JR h
  rw[CL] at h2
  obtain⟨u,h3,h4⟩:=Tt (T:=T) (ty:=ty) hT h2
  exact⟨u,h3,by simp only[A5Q,h1];exact h4⟩
 ·obtain⟨u,h3,h4⟩:=Tt (T:=T) (ty:=ty) hT h
  exact⟨u,h3,h4⟩
 ·cases h
def PZ (l:List AV):Bool:=@List.rec AV (λ_=>Bool) true (λa _ ih=>@Bool.rec (λ_=>Bool) false ih (AV.one a)) l
theorem Gk (l:List AV):PZ l=l.all AV.one:=by
 induction l with
 |nil=>rfl
 |cons a l ih=>
  have e:PZ (a::l)=@Bool.rec (λ_=>Bool) false (PZ l) (AV.one a):=rfl
  rw[e,l2j,←ih]
  cases AV.one a<;>rfl
def Ho (a:AV) (K:List AV→Aj):Aj:=match a with| .agg cs=>K cs|a=>K [a]
theorem CQ (a:AV) (K:List AV→Aj):Ho a K=K (B9 a):=by cases a<;>rfl
def CI (i:TI) (p v:AV) (H:Hp) (K:Hp→Aj):Aj:=
 match p with
 | .ptr s p k=>J3 H s λx=>A1d x λq e cs=>Ho v λvs=>GS vs 0 λn=>ck (Nat.beq n i.size) (ck (PZ vs) (EE (Nat.add p k) vs cs λcs'=>Lx H s (.cells q e cs') K))
 |_=>none
theorem B4Z {ty:TypeId} {i:TI} {p v:AV} {K:Hp→Aj} (hT:T ty=some i) (h:CI i p v H K=some r):∃H',K H'=some r∧A0L T ty p v H (λH''=>H''=H'):=by
 unfold CI at h
 split at h
 ·obtain⟨q,e,cs,h1,h2⟩:=Vn h
  rw[CQ,Cq] at h2
  obtain⟨h3,h2⟩:=Bv h2
  obtain⟨h4,h2⟩:=Bv h2
  obtain⟨h5,h2⟩:=MG _ _ _ _ _ h2
  rw[Db] at h2
  rw[Gk] at h4
  refine⟨_,h2,?_⟩
  simp only[A0L,h1,hT]
  exact⟨by have:=VG h3;omega,h4,h5,rfl⟩
 ·cases h
def AJ (ty:TypeId) (i:TI) (H:Hp) (K:KV):Aj:=Ho i.zero λcs=>Ih H λs=>K (.ptr s 0 0) ((s,.cells true ty cs)::H)
theorem A7g {ty:TypeId} {i:TI} {K:KV} (hT:T ty=some i) (h:AJ ty i H K=some r):∃v H',K v H'=some r∧A0U T ty H (A2 H) (λv' H''=>v'=v∧H''=H'):=by
 rw[AJ,CQ,Ca] at h
 exact⟨_,_,h,by simp[A0U,hT]⟩
def DS (ty:TypeId) (v:AV) (H:Hp) (K:KV):Aj:=Ho v λcs=>ck (PZ cs) (Ih H λs=>K (.ptr s 0 0) ((s,.cells true ty cs)::H))
theorem B1V {ty:TypeId} {v:AV} {K:KV} (h:DS ty v H K=some r):∃u H',K u H'=some r∧B9r ty v H (A2 H) (λv' H''=>v'=u∧H''=H'):=by
 rw[DS,CQ] at h
 obtain⟨h1,h⟩:=Bv h
 rw[Ca] at h
 rw[Gk] at h1
 exact⟨_,_,h,h1,rfl,rfl⟩
def Wq (l:List (Nat×Nat×AV)):List AV→(List AV→Aj)→Aj:=
 @List.rec (Nat×Nat×AV) (λ_=>List AV→(List AV→Aj)→Aj) (λcs K=>K cs)
  (λp _ ih cs K=>Ho p.2.2 λvs=>GS vs 0 λn=>ck (Nat.beq n p.2.1) (ck (PZ vs) (EE p.1 vs cs λcs'=>ih cs' K))) l
theorem US {place:Nat→Option (Nat×Nat)}:∀(l:List (Nat×Nat×AV)) (ps:List (Nat×AV)) (cs:List AV) (K:List AV→Aj),(ps.map λp=>(place p.1).map λq=>(q.1,q.2,p.2))=l.map some→Wq l cs K=some r→∃cs',K cs'=some r∧Q8 place ps cs=some cs':=by
 intro l
 induction l with
 |nil=>
  intro ps cs K he h
  cases ps with
  |nil=>exact⟨cs,h,rfl⟩
  |cons p ps=>simp at he
 |cons x l ih=>
  intro ps cs K he h
  cases ps with
  |nil=>simp at he
  |cons p ps=>
   simp only[Vu,List.cons.injEq] at he
   obtain⟨he1,he2⟩:=he
   cases hq:place p.1 with
   |none=>rw[hq] at he1;simp at he1
   |some q=>
    rw[hq] at he1
    simp only[l0x,l0y] at he1
    have hx:Wq (x::l) cs K=Ho x.2.2 λvs=>GS vs 0 λn=>ck (Nat.beq n x.2.1) (ck (PZ vs) (EE x.1 vs cs λcs'=>Wq l cs' K)):=rfl
    rw[hx,CQ,Cq] at h
    obtain⟨h3,h⟩:=Bv h
    obtain⟨h4,h⟩:=Bv h
    obtain⟨h5,h⟩:=MG _ _ _ _ _ h
    rw[Gk] at h4
    obtain⟨cs',h6,h7⟩:=ih ps _ K he2 h
    refine⟨cs',h6,?_⟩
    obtain⟨i,a⟩:=p
    subst he1
    have h3:=VG h3
    simp only[Q8,hq]
    rw[if_pos ⟨by simpa using h3,h5,h4⟩]
    exact h7
def B4 (i:TI) (l:List (Nat×Nat×AV)) (K:AV→Aj):Aj:=Ho i.zero λz=>Wq l z λcs=>K (.agg cs)
def Pe (i:TI) (j:Nat):Option (Nat×Nat):=
 match i.d with
 | .struct fs=>(fs[j]?).map λf=>(f.1,f.2.1)
 | .array _ _ esz=>some (j*esz,esz)
 | .slice _ esz=>some (j*esz,esz)
 |_=>none
def A5o (i:TI):Bool:=
 match i.d with
 | .struct fs=>fs.all λf=>f.2.1 !=0
 | .array _ _ esz=>esz !=0
 |_=>false
theorem A7f {ty:TypeId} {i:TI} {l:List (Nat×Nat×AV)} {ps:List (Nat×AV)} {K:AV→Aj} (hT:T ty=some i) (hb:A5o i=true) (he:(ps.map λp=>(Pe i p.1).map λq=>(q.1,q.2,p.2))=l.map some) (h:B4 i l K=some r):
 ∃v,K v=some r∧A0R T ty ps (λv'=>v'=v):=by
 rw[B4,CQ] at h
 obtain⟨cs',h1,h2⟩:=US l ps _ _ he h
 refine⟨_,h1,?_⟩
 unfold A0R
 rw[hT]
 simp only
 unfold A5o at hb
 cases hd:i.d with
 |struct fs=>
  rw[hd] at hb
  simp only
  refine⟨hb,?_⟩
  have:Pe i= λj=>(fs[j]?).map λf=>(f.1,f.2.1):=by funext j;simp[Pe,hd]
  rw[this] at h2
  rw[h2];rfl
 |array n e esz=>
  rw[hd] at hb
  simp only
  refine⟨by simpa using hb,?_⟩
  have:Pe i= λj=>some (j*esz,esz):=by funext j;simp[Pe,hd]
  rw[this] at h2
  rw[h2];rfl
 |_=>rw[hd] at hb;cases hb
end
section
variable {T:Ty} {H:Hp} {r:AV×Hp}
def B8a (z:Int) (K:Int→Aj):Aj:=
 @Int.rec (λ_=>Aj) (λn=>fN n λn=>@Bool.rec (λ_=>Aj) (fI (IntKind.i64.wrap (.ofNat n)) K) (K (.ofNat n)) (Nat.blt n 9223372036854775808))
  (λn=>fN n λn=>@Bool.rec (λ_=>Aj) (fI (IntKind.i64.wrap (.negSucc n)) K) (K (.negSucc n)) (Nat.blt n 9223372036854775808)) z
theorem B89 (z:Int) (K:Int→Aj):B8a z K=K (IntKind.i64.wrap z):=by
 have key:∀x:Int, -9223372036854775808≤x→x<9223372036854775808→IntKind.i64.wrap x=x:= λx h1 h2=>by
  simp only[IntKind.wrap,IntKind.bits,IntKind.signed]
  have e1:(2^64:Int)=18446744073709551616:=by decide
  have e2:(2^(64-1):Int)=9223372036854775808:=by decide
  simp only[e1,e2,l16,decide_eq_true_eq]
  split<;>omega
 cases z with
 |ofNat n=>
  simp only[B8a,Dt]
  cases h:Nat.blt n 9223372036854775808
  ·simp only[Sj]
  ·rw[UM] at h
   rw[key _ (by simp only[Int.ofNat_eq_natCast];omega) (by simp only[Int.ofNat_eq_natCast];omega)]
 |negSucc n=>
  simp only[B8a,Dt]
  cases h:Nat.blt n 9223372036854775808
  ·simp only[Sj]
  ·rw[UM] at h
   rw[key _ (by omega) (by omega)]
def ME (k:IntKind) (z:Int) (K:Int→Aj):Aj:=match k with| .i64=>B8a z K|k=>fI (k.wrap z) K
theorem Hg (k:IntKind) (z:Int) (K:Int→Aj):ME k z K=K (k.wrap z):=by
 cases k<;>first|exact B89 _ _|exact Sj _ _
abbrev IT:=IntKind→Int→Int→(AV→Aj)→Aj
def B83:IT:= λk a b K=>ME k (Int.add a b) λz=>K (.v (.int k z))
def C5l:IT:= λk a b K=>ME k (Int.sub a b) λz=>K (.v (.int k z))
def C5r:IT:= λk a b K=>ME k (Int.mul a b) λz=>K (.v (.int k z))
def C5p:IT:= λk a b K=>ck (!ieq b 0) (ME k (Int.tdiv a b) λz=>K (.v (.int k z)))
def C5o:IT:= λk a b K=>ck (!ieq b 0) (fI (Int.tmod a b) λz=>K (.v (.int k z)))
def B82:IT:= λk a b K=>fI (k.wrap ((BitVec.ofInt k.bits a&&&BitVec.ofInt k.bits b).toNat)) λz=>K (.v (.int k z))
def iOr:IT:= λk a b K=>fI (k.wrap ((BitVec.ofInt k.bits a|||BitVec.ofInt k.bits b).toNat)) λz=>K (.v (.int k z))
def B81:IT:= λk a b K=>fI (k.wrap ((BitVec.ofInt k.bits a^^^BitVec.ofInt k.bits b).toNat)) λz=>K (.v (.int k z))
def C5x:IT:= λk a b K=>fI (k.wrap ((BitVec.ofInt k.bits a&&& ~~~BitVec.ofInt k.bits b).toNat)) λz=>K (.v (.int k z))
def C5w:IT:= λ_ a b K=>bB (ieq a b) K
def C5q:IT:= λ_ a b K=>bB (!ieq a b) K
def C5s:IT:= λ_ a b K=>bB (!ile b a) K
def C5t:IT:= λ_ a b K=>bB (ile a b) K
def C5u:IT:= λ_ a b K=>bB (!ile a b) K
def C5v:IT:= λ_ a b K=>bB (ile b a) K
def C5n:IT:= λk a b K=>ck (ile 0 b) (ME k (a*2^(min b.toNat k.bits)) λz=>K (.v (.int k z)))
def C5m:IT:= λk a b K=>ck (ile 0 b) (fI (a.fdiv (2^(min b.toNat k.bits))) λz=>K (.v (.int k z)))
def A95 (op:BinOp):IT:=match op with
 | .add=>B83| .sub=>C5l| .mul=>C5r| .quo=>C5p| .rem=>C5o| .and=>B82| .or=>iOr| .xor=>B81| .andNot=>C5x
 | .eql=>C5w| .neq=>C5q| .lss=>C5s| .leq=>C5t| .gtr=>C5u| .geq=>C5v| .shl=>C5n| .shr=>C5m
theorem A43 {op:BinOp} {k:IntKind} {a b:Int} {K:AV→Aj} (h:A95 op k a b K=some r):∃v,K (.v v)=some r∧(if Ht op then Yy op k a b=some v else ZR op k a b=some v):=by
 have hq:∀{x:Aj},ck (!ieq b 0) x=some r→b≠0∧x=some r:= λh=>by
  obtain⟨h1,h2⟩:=Bv h
  refine⟨λe=> ?_,h2⟩
  subst e
  simp[OK] at h1
 have hs:∀{x:Aj},ck (ile 0 b) x=some r→0≤b∧x=some r:= λh=>by
  obtain⟨h1,h2⟩:=Bv h
  rw[JW] at h1
  exact⟨by simpa using h1,h2⟩
 cases op<;>simp only[A95,B83,C5l,C5r,C5p,C5o,B82,iOr,B81,C5x,C5w,C5q,C5s,C5t,C5u,C5v,C5n,C5m,Hg,Sj,XA4] at h<;>try (cases h;done)
 case add=>exact⟨_,h,rfl⟩
 case sub=>exact⟨_,h,rfl⟩
 case mul=>exact⟨_,h,rfl⟩
 case quo=>
  obtain⟨h1,h2⟩:=hq h
  exact⟨_,h2,by simp[Ht,ZR,h1]⟩
 case rem=>
  obtain⟨h1,h2⟩:=hq h
  exact⟨_,h2,by simp[Ht,ZR,h1]⟩
 case and=>exact⟨_,h,rfl⟩
 case or=>exact⟨_,h,rfl⟩
 case xor=>exact⟨_,h,rfl⟩
 case andNot=>exact⟨_,h,rfl⟩
 case shl=>
  obtain⟨h1,h2⟩:=hs h
  exact⟨_,h2,by simp only[Ht,if_true,Yy];rw[if_neg (by omega)]⟩
 case shr=>
  obtain⟨h1,h2⟩:=hs h
  exact⟨_,h2,by simp only[Ht,if_true,Yy];rw[if_neg (by omega)]⟩
 case eql=>exact⟨_,h,by simp only[Ht,ZR,OK];rw[show(a==b)=decide (a=b) from by by_cases e:a=b<;>simp[e]];simp⟩
 case neq=>exact⟨_,h,by simp only[Ht,ZR,OK,bne];rw[show(a==b)=decide (a=b) from by by_cases e:a=b<;>simp[e]];simp⟩
 case lss=>exact⟨_,h,by simp only[Ht,ZR,JW];rw[show(!decide (b≤a))=decide (a<b) from by rw[l0w];simp];simp⟩
 case leq=>exact⟨_,h,by simp[Ht,ZR,JW]⟩
 case gtr=>exact⟨_,h,by simp only[Ht,ZR,JW];rw[show(!decide (a≤b))=decide (a>b) from by rw[l0w];simp];simp⟩
 case geq=>exact⟨_,h,by simp[Ht,ZR,JW]⟩
def eqB (a:List UInt8):List UInt8→Bool:=
 @List.rec UInt8 (λ_=>List UInt8→Bool) (λb=>@List.rec UInt8 (λ_=>Bool) true (λ_ _ _=>false) b)
  (λx _ ih b=>@List.rec UInt8 (λ_=>Bool) false (λy l _=>@Bool.rec (λ_=>Bool) false (ih l) (Nat.beq x.toNat y.toNat)) b) a
theorem OO (a:List UInt8):∀b,eqB a b=(a==b):=by
 induction a with
 |nil=>intro b;cases b<;>rfl
 |cons x a ih=>
  intro b
  cases b with
  |nil=>rfl
  |cons y b=>
   have e:eqB (x::a) (y::b)=@Bool.rec (λ_=>Bool) false (eqB a b) (Nat.beq x.toNat y.toNat):=rfl
   rw[e,ih]
   cases h:Nat.beq x.toNat y.toNat
   ·have:x≠y:= λe=>by rw[e,Zq] at h;cases h
    simp[this]
   ·have:x=y:=UInt8.toNat_inj.1 (VG h)
    simp[this]
def ltB (a:List UInt8):List UInt8→Bool:=
 @List.rec UInt8 (λ_=>List UInt8→Bool) (λb=>@List.rec UInt8 (λ_=>Bool) false (λ_ _ _=>true) b)
  (λx _ ih b=>@List.rec UInt8 (λ_=>Bool) false (λy l _=>@Bool.rec (λ_=>Bool) (@Bool.rec (λ_=>Bool) false (ih l) (Nat.beq x.toNat y.toNat)) true (Nat.blt x.toNat y.toNat)) b) a
theorem A1Q (a:List UInt8):∀b,ltB a b=Op.bytesLess a b:=by
 induction a with
 |nil=>intro b;cases b<;>rfl
 |cons x a ih=>
  intro b
  cases b with
  |nil=>rfl
  |cons y b=>
   have e:ltB (x::a) (y::b)=@Bool.rec (λ_=>Bool) (@Bool.rec (λ_=>Bool) false (ltB a b) (Nat.beq x.toNat y.toNat)) true (Nat.blt x.toNat y.toNat):=rfl
   rw[e,ih,Op.bytesLess]
   have h1:(Nat.blt x.toNat y.toNat)=decide (x<y):=by
    rw[l0w];simp[UM,UInt8.lt_iff_toNat_lt]
   have h2:(Nat.beq x.toNat y.toNat)=(x==y):=by
    rw[l0w];simp[l13,UInt8.toNat_inj]
   rw[h1,h2]
   cases decide (x<y)
   ·cases (x==y)<;>rfl
   ·rfl
def C2T (op:BinOp) (a b:ByteArray) (K:AV→Aj):Aj:=
 match op with
 | .add=>UV a.data.toList b.data.toList λl=>ck (Nat.blt l.length 9223372036854775808) (K (.v (.string ⟨⟨l⟩⟩)))
 | .eql=>bB (eqB a.data.toList b.data.toList) K
 | .neq=>bB (!eqB a.data.toList b.data.toList) K
 | .lss=>bB (ltB a.data.toList b.data.toList) K
 | .leq=>bB (ltB a.data.toList b.data.toList||eqB a.data.toList b.data.toList) K
 | .gtr=>bB (!(ltB a.data.toList b.data.toList||eqB a.data.toList b.data.toList)) K
 | .geq=>bB (!ltB a.data.toList b.data.toList) K
 |_=>none
theorem Uh (a:ByteArray):a.toList=a.data.toList:=ByteArray.toList_eq a
theorem B1I {op:BinOp} {a b:ByteArray} {K:AV→Aj} (h:C2T op a b K=some r):∃v,K (.v v)=some r∧B1e op a b=some v:=by
 cases op<;>simp only[C2T,XA4,KZ,OO,A1Q] at h<;>try (cases h;done)
 case add=>
  obtain⟨h1,h2⟩:=Bv h
  refine⟨_,h2,?_⟩
  rw[UM] at h1
  have hmax:IntKind.i64.max=9223372036854775807:=by decide
  have hs:a.size+b.size=(a.data.toList++b.data.toList).length:=by rw[XA2];rfl
  simp only[B1e]
  rw[if_neg (by rw[hmax];omega)]
  congr 2
 all_goals exact⟨_,h,by simp[B1e,Uh]⟩
def Al (i:TI) (op:BinOp) (a b:AV) (K:AV→Aj):Aj:=
 match a,b with
 | .v (.int k m),.v (.int k' n)=>@Bool.rec (λ_=>Aj) (ck (decide (k=k')) (A95 op k m n K)) (A95 op k m n K) (Ht op)
 | .v (.string s),.v (.string u)=>C2T op s u K
 | .v (.bool p),.v (.bool q)=>match i.d,op with
  | .bool,.eql=>bB (p==q) K
  | .bool,.neq=>bB (!(p==q)) K
  |_,_=>none
 |a,b=>match A6z i.d a b,op with
  |some q,.eql=>bB q K
  |some q,.neq=>bB (!q) K
  |_,_=>none
theorem A47 {ty:TypeId} {i:TI} {op:BinOp} {a b:AV} {K:AV→Aj} (hT:T ty=some i) (h:Al i op a b K=some r):∃v,K v=some r∧A0T T op ty a b (λv'=>v'=v):=by
 unfold Al at h
 split at h
 ·rename_i k m k' n
  cases hs:Ht op
  ·rw[hs] at h
   obtain⟨h1,h2⟩:=Bv h
   obtain⟨v,h3,h4⟩:=A43 h2
   rw[hs] at h4
   exact⟨_,h3,by simp only[A0T,hs,l0z,if_false];exact⟨by simpa using h1,by simp only[l0z,if_false] at h4;rw[h4];rfl⟩⟩
  ·rw[hs] at h
   obtain⟨v,h3,h4⟩:=A43 h
   rw[hs] at h4
   exact⟨_,h3,by simp only[A0T,hs,if_true];simp only[if_true] at h4;rw[h4];rfl⟩
 ·obtain⟨v,h3,h4⟩:=B1I h
  exact⟨_,h3,by simp only[A0T];rw[h4];rfl⟩
 ·rename_i p q
  split at h
  ·rename_i hd
   rw[XA4] at h
   exact⟨_,h,by simp only[A0T];exact⟨⟨i,hT,hd⟩,trivial⟩⟩
  ·rename_i hd
   rw[XA4] at h
   exact⟨_,h,by simp only[A0T];exact⟨⟨i,hT,hd⟩,trivial⟩⟩
  ·cases h
 ·rename_i h1 h2 h3
  have hx:∀Kp:AV→Prop,(∃q,A6z i.d a b=some q∧((op= .eql∧Kp (.v (.bool q)))∨(op= .neq∧Kp (.v (.bool (!q))))))→A0T T op ty a b Kp:= λKp hk=>by
   obtain⟨q,hq,hk⟩:=hk
   unfold A0T
   split
   ·exact(h1 _ _ _ _ rfl rfl).elim
   ·exact(h2 _ _ rfl rfl).elim
   ·exact(h3 _ _ rfl rfl).elim
   ·rw[hT]
    simp only[hq]
    rcases hk with⟨rfl,hk⟩|⟨rfl,hk⟩<;>exact hk
  cases hq:A6z i.d a b with
  |none=>rw[hq] at h;cases h
  |some q=>
   rw[hq] at h
   cases op<;>first|(cases h;done)|skip
   ·simp only[XA4] at h;exact⟨_,h,hx _ ⟨q,hq,.inl ⟨rfl,rfl⟩⟩⟩
   ·simp only[XA4] at h;exact⟨_,h,hx _ ⟨q,hq,.inr ⟨rfl,rfl⟩⟩⟩
def Iy (op:UnOp) (a:AV) (K:AV→Aj):Aj:=
 match op,a with
 | .neg,.v (.int k n)=>ME k (Int.sub 0 n) λz=>K (.v (.int k z))
 | .xor,.v (.int k n)=>fI (k.wrap ((BitVec.ofInt k.bits (if k.signed then-1 else k.max)^^^BitVec.ofInt k.bits n).toNat)) λz=>K (.v (.int k z))
 | .not,.v (.bool b)=>bB (!b) K
 |_,_=>none
theorem B4X {op:UnOp} {a:AV} {K:AV→Aj} (h:Iy op a K=some r):∃v,K v=some r∧xun op a (λv'=>v'=v):=by
 unfold Iy at h
 split at h
 ·rw[Hg] at h;exact⟨_,h,rfl⟩
 ·rw[Sj] at h;exact⟨_,h,rfl⟩
 ·rw[XA4] at h;exact⟨_,h,rfl⟩
 ·cases h
def F7 (i j:TI) (a:AV) (K:AV→Aj):Aj:=
 match j.d,a with
 | .int k,.v (.int _ n)=>ME k n λz=>K (.v (.int k z))
 | .string,.v (.string s)=>match i.d with| .string=>K (.v (.string s))|_=>none
 |_,_=>none
theorem A9a {s d:TypeId} {i j:TI} {a:AV} {K:AV→Aj} (hi:T s=some i) (hj:T d=some j) (h:F7 i j a K=some r):∃v,K v=some r∧A3u T s d a (λv'=>v'=v):=by
 unfold F7 at h
 split at h
 ·rename_i hd
  rw[Hg] at h
  exact⟨_,h,by simp only[A3u,hi,hj,hd]⟩
 ·rename_i hd
  split at h
  ·rename_i hs
   exact⟨_,h,by simp only[A3u,hi,hj,hd,hs];exact⟨trivial,trivial⟩⟩
  ·cases h
 ·cases h
end
section
variable {T:Ty} {H:Hp} {r:AV×Hp}
def AN (off:Nat) (v:AV) (K:AV→Aj):Aj:=
 match v with
 | .ptr s p k=>fN (Nat.add (Nat.add p k) off) λo=>K (.ptr s o 0)
 | .iptr cs=>K (.iptr (D4 off cs))
 |_=>none
theorem B59 {ty:TypeId} {i:TI} {v:AV} {f off sz ft:Nat} {fs:List (Nat×Nat×TypeId)} {K:AV→Aj} (hT:T ty=some i) (hd:i.d= .struct fs) (hf:fs[f]?=some (off,sz,ft)) (hz:sz≠0) (h:AN off v K=some r):∃u,K u=some r∧Yc T ty v f (λv'=>v'=u):=by
 unfold AN at h
 split at h
 ·rw[Dt] at h
  refine⟨_,h,?_⟩
  simp only[Yc,hT,hd,hf]
  exact⟨hz,_,0,by simp[Xo],rfl⟩
 ·rw[CL] at h
  refine⟨_,h,?_⟩
  simp only[Yc,hT,hd,hf]
  exact⟨hz,trivial⟩
 ·cases h
def A5h (off:Nat) (j:TI) (v:AV) (K:AV→Aj):Aj:=
 match v with
 | .agg cs=>Zu j (D4 off cs) K
 |_=>none
theorem B1S {ty:TypeId} {i j:TI} {v:AV} {f off sz ft:Nat} {fs:List (Nat×Nat×TypeId)} {K:AV→Aj} (hT:T ty=some i) (hd:i.d= .struct fs) (hf:fs[f]?=some (off,sz,ft)) (hj:T ft=some j) (h:A5h off j v K=some r):∃u,K u=some r∧A0Q T ty v f (λv'=>v'=u):=by
 unfold A5h at h
 split at h
 ·rw[CL] at h
  obtain⟨u,h1,h2⟩:=Tt (T:=T) (ty:=ft) hj h
  exact⟨u,h1,by simp only[A0Q,hT,hd,hf];exact h2⟩
 ·cases h
def A53 (a:AV) (K:Int→Aj):Aj:=match a with| .v (.int _ n)=>K n|_=>none
theorem N0 {a:AV} {K:Int→Aj} (h:A53 a K=some r):∃k n,a= .v (.int k n)∧K n=some r:=by
 unfold A53 at h
 split at h
 ·exact⟨_,_,rfl,h⟩
 ·cases h
def BA (i:TI) (x ix:AV) (K:AV→Aj):Aj:=
 A53 ix λz=>iN z λn=>match i.d,x with
  | .slice _ esz,.list m cs=>ck (Nat.blt n m) (Qo esz (D4 (Nat.mul n esz) cs) λc=>K (.iptr c))
  | .slice _ esz,.sl _ s o m=>ck (Nat.blt n m) (fN (Nat.add o (Nat.mul n esz)) λp=>K (.ptr s p 0))
  | .array m _ esz,.ptr s p k=>ck (Nat.blt n m) (fN (Nat.add (Nat.add p k) (Nat.mul n esz)) λq=>K (.ptr s q 0))
  | .array m _ esz,.iptr cs=>ck (Nat.blt n m) (Qo esz (D4 (Nat.mul n esz) cs) λc=>K (.iptr c))
  |_,_=>none
theorem B57 {ty:TypeId} {i:TI} {x ix:AV} {K:AV→Aj} (hT:T ty=some i) (h:BA i x ix K=some r):∃u,K u=some r∧A0P T ty x ix (λv'=>v'=u):=by
 unfold BA at h
 obtain⟨k,z,rfl,h'⟩:=N0 h
 clear h
 obtain⟨n,rfl,h⟩:=Tk h'
 clear h'
 unfold A0P
 rw[hT]
 simp only
 split at h
 ·rename_i hd
  obtain⟨h1,h⟩:=Bv h
  rw[MF,CL] at h
  rw[UM] at h1
  exact⟨_,h,by simp only[hd,XT];exact⟨⟨by omega,by omega⟩,rfl⟩⟩
 ·rename_i hd
  obtain⟨h1,h⟩:=Bv h
  rw[Dt] at h
  rw[UM] at h1
  exact⟨_,h,by simp only[hd,XT];exact⟨⟨by omega,by omega⟩,rfl⟩⟩
 ·rename_i hd
  obtain⟨h1,h⟩:=Bv h
  rw[Dt] at h
  rw[UM] at h1
  exact⟨_,h,by simp only[hd,XT];exact⟨⟨by omega,by omega⟩,_,0,by simp[Xo],rfl⟩⟩
 ·rename_i hd
  obtain⟨h1,h⟩:=Bv h
  rw[MF,CL] at h
  rw[UM] at h1
  exact⟨_,h,by simp only[hd,XT];exact⟨⟨by omega,by omega⟩,rfl⟩⟩
 ·cases h
def B9m (l:List UInt8) (K:AV→Aj):Aj:=@List.rec UInt8 (λ_=>Aj) none (λb _ _=>fN b.toNat λn=>K (.v (.int .u8 (.ofNat n)))) l
def Tv (i j:TI) (x ix:AV) (K:AV→Aj):Aj:=
 A53 ix λz=>iN z λn=>match i.d,x with
  | .string,.v (.string s)=>B9m (D4 n s.data.toList) K
  | .array m _ esz,.agg cs=>ck (Nat.blt n m) (Zu j (D4 (Nat.mul n esz) cs) K)
  |_,_=>none
def X7 (i:TI):Option TypeId:=match i.d with| .array _ e _=>some e| .slice e _=>some e|_=>none
theorem B1R {ty:TypeId} {i j:TI} {x ix:AV} {K:AV→Aj} (hT:T ty=some i) (hj:∀e,X7 i=some e→T e=some j) (h:Tv i j x ix K=some r):∃u,K u=some r∧A0O T ty x ix (λv'=>v'=u):=by
 unfold Tv at h
 obtain⟨k,z,rfl,h'⟩:=N0 h
 clear h
 obtain⟨n,rfl,h⟩:=Tk h'
 clear h'
 unfold A0O
 rw[hT]
 simp only
 split at h
 ·rename_i s hd
  rw[CL] at h
  cases hl:s.data.toList.drop n with
  |nil=>rw[hl] at h;cases h
  |cons b l=>
   rw[hl] at h
   have h:(fN b.toNat λn=>K (.v (.int .u8 (.ofNat n))))=some r:=h
   rw[Dt] at h
   have hlt:n<s.data.toList.length:=by
    have:=congrArg List.length hl
    simp at this
    simp
    omega
   have hb:s.data.toList[n]?=some b:=by
    have:=congrArg (λl=>l[0]?) hl
    simpa using this
   refine⟨_,h,?_⟩
   simp only[hd,XT]
   refine⟨⟨by omega,?_⟩,?_⟩
   ·have:s.size=s.data.toList.length:=rfl
    omega
   ·rw[Ua,hb];rfl
 ·rename_i m e esz cs hd
  obtain⟨h1,h⟩:=Bv h
  rw[CL] at h
  rw[UM] at h1
  obtain⟨u,h2,h3⟩:=Tt (T:=T) (ty:=e) (hj e (by simp[X7,hd])) h
  exact⟨u,h2,by simp only[hd,XT];exact⟨⟨by omega,by omega⟩,h3⟩⟩
 ·cases h
def TV (x:Option AV) (d:Nat) (K:Nat→Aj):Aj:=
 match x with
 |none=>fN d K
 |some a=>A53 a λz=>iN z K
theorem HK {x:Option AV} {d:Nat} {K:Nat→Aj} (h:TV x d K=some r):∃n:Nat,Vz x d=some (n:Int)∧K n=some r:=by
 unfold TV at h
 split at h
 ·rw[Dt] at h;exact⟨d,rfl,h⟩
 ·obtain⟨k,z,rfl,h1⟩:=N0 h
  obtain⟨n,rfl,h2⟩:=Tk h1
  exact⟨n,rfl,h2⟩
def DI (i:TI) (x:AV) (lo hi mx:Option AV) (K:AV→Aj):Aj:=
 match i.d,x with
 | .string,.v (.string s)=>ck mx.isNone (TV lo 0 λl=>GS s.data.toList 0 λm=>TV hi m λh=>ck (Nat.ble l h&&Nat.ble h m) (Qo (Nat.sub h l) (D4 l s.data.toList) λb=>K (.v (.string ⟨⟨b⟩⟩))))
 | .slice _ esz,.list m cs=>TV lo 0 λl=>TV hi m λh=>TV mx m λx=>ck ((mx.isNone||hi.isSome)&&(Nat.ble l h&&(Nat.ble h x&&Nat.ble x m))) (fN (Nat.sub h l) λn=>Qo (Nat.mul n esz) (D4 (Nat.mul l esz) cs) λc=>K (.list n c))
 | .slice _ esz,.sl sz s o m=>ck (Nat.beq esz sz) (TV lo 0 λl=>TV hi m λh=>TV mx m λx=>ck ((mx.isNone||hi.isSome)&&(Nat.ble l h&&(Nat.ble h x&&Nat.ble x m))) (fN (Nat.add o (Nat.mul l esz)) λo'=>fN (Nat.sub h l) λn=>K (.sl sz s o' n)))
 | .slice _ _,.v (.slice none 0 0)=>ck mx.isNone (TV lo 0 λl=>TV hi 0 λh=>ck (Nat.beq l 0&&Nat.beq h 0) (K (.v (.slice none 0 0))))
 |_,_=>none
theorem A72 {ty:TypeId} {i:TI} {x:AV} {lo hi mx:Option AV} {K:AV→Aj} (hT:T ty=some i) (h:DI i x lo hi mx K=some r):∃u,K u=some r∧A0M T ty x lo hi mx (λv'=>v'=u):=by
 unfold DI at h
 unfold A0M
 rw[hT]
 simp only
 split at h
 ·rename_i s hd
  obtain⟨h0,h⟩:=Bv h
  obtain⟨l,hl,h⟩:=HK h
  rw[Cq] at h
  obtain⟨n,hn,h⟩:=HK h
  obtain⟨h1,h⟩:=Bv h
  rw[MF,CL] at h
  simp only[Jq,YE] at h1
  have hz:0+s.data.toList.length=s.size:=KN _
  rw[hz] at hn h1
  refine⟨_,h,?_⟩
  simp only[hd,hl,hn,Kl,XT]
  refine⟨h0,⟨by omega,by omega,by omega⟩,?_⟩
  congr 2
  apply ByteArray.ext
  apply l0c
  simp only[ByteArray.data_extract,Array.toList_extract,List.extract]
  rfl
 ·rename_i e esz m cs hd
  obtain⟨l,hl,h⟩:=HK h
  obtain⟨n,hn,h⟩:=HK h
  obtain⟨y,hy,h⟩:=HK h
  obtain⟨h1,h⟩:=Bv h
  rw[Dt,MF,CL] at h
  simp only[Jq,YE] at h1
  refine⟨_,h,?_⟩
  have e1:((n:Int)-l).toNat=n-l:=by omega
  simp only[hd,hl,hn,hy,Kl,XT,e1]
  refine⟨⟨by omega,by omega,by omega,by omega⟩,λhm=> ?_,rfl⟩
  cases mx with
  |none=>simp at hm
  |some _=>simpa using h1.1
 ·rename_i e esz sz s o m hd
  obtain⟨h0,h⟩:=Bv h
  obtain⟨l,hl,h⟩:=HK h
  obtain⟨n,hn,h⟩:=HK h
  obtain⟨y,hy,h⟩:=HK h
  obtain⟨h1,h⟩:=Bv h
  rw[Dt,Dt] at h
  simp only[Jq,YE] at h1
  refine⟨_,h,?_⟩
  have e1:((n:Int)-l).toNat=n-l:=by omega
  simp only[hd,hl,hn,hy,Kl,XT,e1]
  refine⟨VG h0,⟨by omega,by omega,by omega,by omega⟩,λhm=> ?_,rfl⟩
  cases mx with
  |none=>simp at hm
  |some _=>simpa using h1.1
 ·rename_i e esz hd
  obtain⟨h0,h⟩:=Bv h
  obtain⟨l,hl,h⟩:=HK h
  obtain⟨n,hn,h⟩:=HK h
  obtain⟨h1,h⟩:=Bv h
  simp only[Jq,l13] at h1
  refine⟨_,h,?_⟩
  simp only[hd,hl,hn,Kl]
  exact⟨h0,⟨by omega,by omega⟩,trivial⟩
 ·cases h
def Bc (v:AV) (k:Nat) (K:AV→Aj):Aj:=match v with| .tup vs=>hdK (D4 k vs) K|_=>none
theorem B1T {v:AV} {k:Nat} {K:AV→Aj} (h:Bc v k K=some r):∃vs u,v= .tup vs∧vs[k]?=some u∧K u=some r:=by
 unfold Bc at h
 split at h
 ·rename_i vs
  rw[CL] at h
  obtain⟨a,l,hl,h⟩:=A6O h
  refine⟨vs,a,rfl,?_,h⟩
  have:=congrArg (λl=>l[0]?) hl
  simpa using this
 ·cases h
def AR (i:TI) (x:AV) (K:AV→Aj):Aj:=
 match i.d,x with
 | .string,.v (.string s)=>GS s.data.toList 0 λn=>K (.v (.int .i64 (.ofNat n)))
 | .slice _ _,.list n _=>K (.v (.int .i64 (.ofNat n)))
 | .slice _ _,.sl _ _ _ n=>K (.v (.int .i64 (.ofNat n)))
 | .slice _ _,.v (.slice none 0 0)=>K (.v (.int .i64 (.ofNat 0)))
 | .array n _ _,_=>K (.v (.int .i64 (.ofNat n)))
 |_,_=>none
theorem B1Q {ty:TypeId} {i:TI} {x:AV} {K:AV→Aj} (hT:T ty=some i) (h:AR i x K=some r):∃u,K u=some r∧B2w T ty x (λv'=>v'=u):=by
 unfold AR at h
 unfold B2w
 rw[hT]
 simp only
 split at h
 ·rename_i s hd
  rw[Cq] at h
  refine⟨_,h,?_⟩
  simp only[hd]
  rw[KN];rfl
 ·rename_i hd;exact⟨_,h,by simp only[hd];rfl⟩
 ·rename_i hd;exact⟨_,h,by simp only[hd];rfl⟩
 ·rename_i hd;exact⟨_,h,by simp only[hd];rfl⟩
 ·rename_i hd;exact⟨_,h,by simp only[hd];rfl⟩
 ·cases h
def eMM (isMin:Bool) (a b:AV) (K:AV→Aj):Aj:=
 match a,b with
 | .v (.int k x),.v (.int k' y)=>ck (decide (k=k')) (@Bool.rec (λ_=>Aj) (@Bool.rec (λ_=>Aj) (K (.v (.int k y))) (K (.v (.int k x))) (ile y x)) (@Bool.rec (λ_=>Aj) (K (.v (.int k y))) (K (.v (.int k x))) (ile x y)) isMin)
 | .v (.string s),.v (.string u)=>@Bool.rec (λ_=>Aj) (K (.v (.string u))) (K (.v (.string s))) (@Bool.rec (λ_=>Bool) (!ltB s.data.toList u.data.toList) (ltB s.data.toList u.data.toList||eqB s.data.toList u.data.toList) isMin)
 |_,_=>none
theorem A77 {isMin:Bool} {a b:AV} {K:AV→Aj} (h:eMM isMin a b K=some r):∃u,K u=some r∧xmm isMin a b (λv'=>v'=u):=by
 unfold eMM at h
 split at h
 ·rename_i k x k' y
  obtain⟨h1,h⟩:=Bv h
  simp only[xmm]
  have hk:k=k':=by simpa using h1
  cases isMin
  ·rw[JW] at h
   by_cases hxy:y≤x
   ·rw[decide_eq_true hxy] at h
    exact⟨_,h,hk,by rw[if_neg (by simp),if_neg (by omega)]⟩
   ·rw[decide_eq_false hxy] at h
    exact⟨_,h,hk,by rw[if_neg (by simp),if_pos (by omega)]⟩
  ·rw[JW x y] at h
   by_cases hxy:x≤y
   ·rw[decide_eq_true hxy] at h
    exact⟨_,h,hk,by rw[if_pos rfl,if_neg (by omega)]⟩
   ·rw[decide_eq_false hxy] at h
    exact⟨_,h,hk,by rw[if_pos rfl,if_pos (by omega)]⟩
 ·rename_i s u
  simp only[xmm]
  cases isMin
  ·simp only[A1Q,Uh] at h⊢
   cases hb:(!Op.bytesLess s.data.toList u.data.toList)<;>(rw[hb] at h;exact⟨_,h,rfl⟩)
  ·simp only[A1Q,OO,Uh] at h⊢
   cases hb:(Op.bytesLess s.data.toList u.data.toList||s.data.toList==u.data.toList)<;>(rw[hb] at h;exact⟨_,h,rfl⟩)
 ·cases h
end
end Go.Abs
end
