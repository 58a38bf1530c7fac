import Derived.Test.YtlbhdmbfdcohhaaGreatDoorS03
set_option linter.all false
set_option maxHeartbeats 100000000
noncomputable section
namespace Go.Abs
open Go.RowKit
def C4i:Unit:=()
def C4h:Unit:=C4i
def C4g:Unit:=C4h
def C4f:Unit:=C4g
def C4e:Unit:=C4f
def C4d:Unit:=C4e
def C4c:Unit:=C4d
def C4b:Unit:=C4c
def C4a:Unit:=C4b
def C49:Unit:=C4a
def C1t:Unit:=C49
def C1s:Unit:=C1t
def C1r:Unit:=C1s
def C1q:Unit:=C1r
def C1p:Unit:=C1q
def C1o:Unit:=C1p
def C1n:Unit:=C1o
def C1m:Unit:=C1n
def C1l:Unit:=C1m
def C1k:Unit:=C1l
def C1j:Unit:=C1k
def C1i:Unit:=C1j
def C1h:Unit:=C1i
def C1g:Unit:=C1h
def C1f:Unit:=C1g
def C1e:Unit:=C1f
def C1d:Unit:=C1e
def C1c:Unit:=C1d
def C1b:Unit:=C1c
def C1a:Unit:=C1b
def C19:Unit:=C1a
def C18:Unit:=C19
def C17:Unit:=C18
def C16:Unit:=C17
def C15:Unit:=C16
def C14:Unit:=C15
def C13:Unit:=C14
def C12:Unit:=C13
def C11:Unit:=C12
def C10:Unit:=C11
def C0Z:Unit:=C10
def C0Y:Unit:=C0Z
def C0X:Unit:=C0Y
def C0W:Unit:=C0X
def C0V:Unit:=C0W
def C0U:Unit:=C0V
def C0T:Unit:=C0U
def C0S:Unit:=C0T
def C0R:Unit:=C0S
def C0Q:Unit:=C0R
def C0P:Unit:=C0Q
def C0O:Unit:=C0P
def C0N:Unit:=C0O
def C0M:Unit:=C0N
def C0L:Unit:=C0M
def C0K:Unit:=C0L
def C0J:Unit:=C0K
def C0I:Unit:=C0J
def C0H:Unit:=C0I
def C0G:Unit:=C0H
def C0F:Unit:=C0G
def C0E:Unit:=C0F
def C0D:Unit:=C0E
def C0C:Unit:=C0D
def C0B:Unit:=C0C
def C0A:Unit:=C0B
def C0z:Unit:=C0A
def C0y:Unit:=C0z
def C0x:Unit:=C0y
def C0w:Unit:=C0x
def C0v:Unit:=C0w
def C0u:Unit:=C0v
def C0t:Unit:=C0u
def C0s:Unit:=C0t
def C0r:Unit:=C0s
def C0q:Unit:=C0r
def C0p:Unit:=C0q
def C0o:Unit:=C0p
def C0n:Unit:=C0o
def C0m:Unit:=C0n
def C0l:Unit:=C0m
def C0k:Unit:=C0l
def C0j:Unit:=C0k
def C0i:Unit:=C0j
def C0h:Unit:=C0i
def C0g:Unit:=C0h
def C0f:Unit:=C0g
def C0e:Unit:=C0f
def C0d:Unit:=C0e
def C0c:Unit:=C0d
def C0b:Unit:=C0c
def C0a:Unit:=C0b
def C09:Unit:=C0a
def C08:Unit:=C09
def C07:Unit:=C08
def C06:Unit:=C07
def C05:Unit:=C06
def C04:Unit:=C05
def C03:Unit:=C04
def C02:Unit:=C03
def B6O:Unit:=C02
def B6N:Unit:=B6O
def B6M:Unit:=B6N
def B6L:Unit:=B6M
def B6K:Unit:=B6L
def B6J:Unit:=B6K
def B6I:Unit:=B6J
def B6H:Unit:=B6I
def B6G:Unit:=B6H
def B6F:Unit:=B6G
def B6E:Unit:=B6F
def B6D:Unit:=B6E
def B6C:Unit:=B6D
def B6B:Unit:=B6C
def B6A:Unit:=B6B
def B6z:Unit:=B6A
def B6y:Unit:=B6z
def B6x:Unit:=B6y
def B6w:Unit:=B6x
def B6v:Unit:=B6w
def GT:Unit:=B6v
abbrev Aj:=Option (AV×Hp)
abbrev KV:=AV→Hp→Aj
abbrev B5L:=Nat→List AV→Hp→KV→Aj
inductive BT (α:Type) where
 |leaf
 |node (k:Nat) (v:α) (l r:BT α)
def BT.get {α:Type}:BT α→Nat→Option α
 | .leaf,_=>none
 | .node k v l r,i=>match Nat.beq i k with
  |true=>some v
  |false=>match Nat.blt i k with
   |true=>l.get i
   |false=>r.get i
def BT.getK {α:Type} (b:BT α):Nat→(α→Aj)→Aj:=
 (λ(_:Unit)=>@BT.rec α (λ_=>Nat→(α→Aj)→Aj) (λ_ _=>none)
  (λk v _ _ ihl ihr i K=>@Bool.rec (λ_=>Aj) (@Bool.rec (λ_=>Aj) (ihr i K) (ihl i K) (Nat.blt i k)) (K v) (Nat.beq i k)) b) GT
theorem BT.getK_eq {α:Type} (b:BT α) (i:Nat) (K:α→Aj):b.getK i K=match b.get i with|some v=>K v|none=>none:=by
 induction b with
 |leaf=>rfl
 |node k v l r ihl ihr=>
  simp only[BT.getK,BT.get]
  cases Nat.beq i k
  ·cases Nat.blt i k
   ·exact ihr
   ·exact ihl
  ·rfl
structure Cf where
 b:Bool
 lv:List Nat
 fz:Bool
 n:Nat
 rc:List (Nat×List (Nat×Nat))
structure XFn where
 n:Nat
 rs:List ResultVar
 c:Code
 lv:List Nat
 fz:Bool
 rc:List (Nat×List (Nat×Nat))
inductive LK where
 |int (k:IntKind)|str|bool
abbrev Lie:=Nat×Nat×Nat×Nat
structure XE where
 ft:BT XFn
 ty:BT TI
 gl:BT (List AV)
 imp:Nat→Bool
 lf:Nat
 eqt:BT (List LK)
 lie:List Lie
 up:Nat
 ne:Nat→Bool
def fN (n:Nat) (K:Nat→Aj):Aj:=@Nat.rec (λ_=>Aj) (K 0) (λm _=>K (Nat.succ m)) n
def fI (z:Int) (K:Int→Aj):Aj:=@Int.rec (λ_=>Aj) (λn=>fN n λn=>K (.ofNat n)) (λn=>fN n λn=>K (.negSucc n)) z
def ck (b:Bool) (K:Aj):Aj:=@Bool.rec (λ_=>Aj) none K b
theorem Di (n:Nat) (K:Nat→Aj):fN n K=K n:=by cases n<;>rfl
theorem Sh (z:Int) (K:Int→Aj):fI z K=K z:=by cases z<;>simp[fI,Di]
def ckS (b:Bool) (K:Aj):Aj:=(λ(_:Unit)=>@Bool.rec (λ_=>Aj) none K b) GT
def fNS (n:Nat) (K:Nat→Aj):Aj:=(λ(_:Unit)=>@Nat.rec (λ_=>Aj) (K 0) (λm _=>K (Nat.succ m)) n) GT
def US {α:Type} (a:List α):List α→(List α→Aj)→Aj:=
 (λ(_:Unit)=>@List.rec α (λ_=>List α→(List α→Aj)→Aj) (λl K=>K l) (λx _ ih l K=>ih l λy=>K (x::y)) a) GT
def B0n {α:Type} (l:List α):Nat→(Nat→Aj)→Aj:=(λ(_:Unit)=>@List.rec α (λ_=>Nat→(Nat→Aj)→Aj) (λn K=>K n) (λ_ _ ih n K=>ih (Nat.succ n) K) l) GT
theorem B4O (n:Nat) (K:Nat→Aj):fNS n K=K n:=Di n K
theorem KS {α:Type} (a l:List α):∀K:List α→Aj,US a l K=K (a++l):=by
 induction a with
 |nil=>intro K;rfl
 |cons x a ih=>intro K;exact ih _
theorem B4H {α:Type} (l:List α):∀(n:Nat) (K:Nat→Aj),B0n l n K=K (n+l.length):=by
 induction l with
 |nil=>intro n K;rfl
 |cons a l ih=>
  intro n K
  have:B0n (a::l) n K=B0n l (Nat.succ n) K:=rfl
  rw[this,ih]
  congr 1
  simp;omega
theorem Bw {b:Bool} {K:Aj} {r:AV×Hp} (h:ck b K=some r):b=true∧K=some r:=by cases b;cases h;exact⟨rfl,h⟩
theorem Kf {b:Bool} {K:Aj} {r:AV×Hp} (h:ckS b K=some r):b=true∧K=some r:=Bw h
def gtm (t:Tm):Nat→(AV→Aj)→Aj:=
 (λ(_:Unit)=>@List.rec (Nat×AV) (λ_=>Nat→(AV→Aj)→Aj) (λ_ K=>K .dk)
  (λp _ ih=>@Prod.rec Nat AV (λ_=>Nat→(AV→Aj)→Aj) (λk v i K=>@Bool.rec (λ_=>Aj) (ih i K) (K v) (Nat.beq i k)) p) t) GT
theorem Ti (t:Tm) (i:Nat) (K:AV→Aj):gtm t i K=K (Gn t i):=by
 induction t with
 |nil=>rfl
 |cons p t ih=>
  obtain⟨k,v⟩:=p
  simp only[gtm,Gn]
  cases h:Nat.beq i k
  ·rw[if_neg (λe=>by rw[e,Zj] at h;cases h)];exact ih
  ·rw[if_pos (VC h)]
def JL (H:Hp):Nat→(Row→Aj)→Aj:=
 @List.rec (Nat×Row) (λ_=>Nat→(Row→Aj)→Aj) (λ_ _=>none)
  (λp _ ih=>@Prod.rec Nat Row (λ_=>Nat→(Row→Aj)→Aj) (λk v i K=>@Bool.rec (λ_=>Aj) (ih i K) (K v) (Nat.beq i k)) p) H
theorem Hd {H:Hp} {i:Nat} {K:Row→Aj} {r:AV×Hp} (hg:K .gone=none) (h:JL H i K=some r):∃x,Aq H i=some x∧K x=some r:=by
 induction H with
 |nil=>cases h
 |cons p H ih=>
  obtain⟨k,v⟩:=p
  simp only[JL] at h
  simp only[Aq]
  cases hb:Nat.beq i k
  ·rw[hb] at h
   rw[if_neg (λe=>by rw[e,Zj] at hb;cases hb)]
   exact ih h
  ·rw[hb] at h
   rw[if_pos (VC hb)]
   cases v with
   |gone=>exact absurd (hg▸h) (by simp)
   |_=>exact⟨_,rfl,h⟩
def LL (H:Hp):Nat→Row→(Hp→Aj)→Aj:=
 @List.rec (Nat×Row) (λ_=>Nat→Row→(Hp→Aj)→Aj) (λ_ _ K=>K [])
  (λp l ih=>@Prod.rec Nat Row (λ_=>Nat→Row→(Hp→Aj)→Aj) (λk x r y K=>@Bool.rec (λ_=>Aj) (ih r y λl'=>K ((k,x)::l')) (K ((k,y)::l)) (Nat.beq r k)) p) H
theorem Dm (H:Hp) (r:Nat) (y:Row):∀K:Hp→Aj,LL H r y K=K (upd H r y):=by
 induction H with
 |nil=>intro K;rfl
 |cons p H ih=>
  intro K
  obtain⟨k,x⟩:=p
  simp only[LL,upd]
  cases hb:Nat.beq r k
  ·rw[if_neg (λe=>by rw[e,Zj] at hb;cases hb)]
   exact ih _
  ·rw[if_pos (VC hb)]
def XA3 (H:Hp) (K:Nat→Aj):Aj:=
 @List.rec (Nat×Row) (λ_=>Aj) (K 0) (λp _ _=>@Prod.rec Nat Row (λ_=>Aj) (λk _=>fN (Nat.succ k) K) p) H
theorem BZ (H:Hp) (K:Nat→Aj):XA3 H K=K (A2 H):=by
 cases H with
 |nil=>rfl
 |cons p H=>obtain⟨k,x⟩:=p;exact Di (k+1) K
def UT {α:Type} (a:List α):List α→(List α→Aj)→Aj:=
 @List.rec α (λ_=>List α→(List α→Aj)→Aj) (λl K=>K l) (λx _ ih l K=>ih l λy=>K (x::y)) a
theorem Lb {α:Type} (a l:List α):∀K:List α→Aj,UT a l K=K (a++l):=by
 induction a with
 |nil=>intro K;rfl
 |cons x a ih=>intro K;exact ih _
def Dv {α:Type} (n:Nat):List α→List α:=
 @Nat.rec (λ_=>List α→List α) (λl=>l) (λ_ ih l=>@List.rec α (λ_=>List α) [] (λ_ l _=>ih l) l) n
theorem CE {α:Type} (n:Nat):∀l:List α,Dv n l=l.drop n:=by
 induction n with
 |zero=>intro l;rfl
 |succ n ih=>
  intro l
  cases l with
  |nil=>rfl
  |cons a l=>exact ih l
def Ot {α:Type} (n:Nat):List α→(List α→Aj)→Aj:=
 @Nat.rec (λ_=>List α→(List α→Aj)→Aj) (λ_ K=>K []) (λ_ ih l K=>@List.rec α (λ_=>Aj) (K []) (λa l _=>ih l λl'=>K (a::l')) l) n
theorem KR {α:Type} (n:Nat):∀(l:List α) (K:List α→Aj),Ot n l K=K (l.take n):=by
 induction n with
 |zero=>intro l K;rfl
 |succ n ih=>
  intro l K
  cases l with
  |nil=>rfl
  |cons a l=>exact ih l _
def GP {α:Type} (l:List α):Nat→(Nat→Aj)→Aj:=@List.rec α (λ_=>Nat→(Nat→Aj)→Aj) (λn K=>K n) (λ_ _ ih n K=>fN (Nat.succ n) λm=>ih m K) l
theorem Co {α:Type} (l:List α):∀(n:Nat) (K:Nat→Aj),GP l n K=K (n+l.length):=by
 induction l with
 |nil=>intro n K;rfl
 |cons a l ih=>
  intro n K
  have:GP (a::l) n K=fN (Nat.succ n) λm=>GP l m K:=rfl
  rw[this,Di,ih]
  congr 1
  simp;omega
def B8a (vs:List AV):List AV→(List AV→Aj)→Aj:=
 @List.rec AV (λ_=>List AV→(List AV→Aj)→Aj) (λl K=>K l) (λv _ ih l K=>@List.rec AV (λ_=>Aj) none (λ_ l _=>ih l λl'=>K (v::l')) l) vs
theorem B1C (vs:List AV):∀(l:List AV) (K:List AV→Aj) (r:AV×Hp),B8a vs l K=some r→vs.length≤l.length∧K (vs++l.drop vs.length)=some r:=by
 induction vs with
 |nil=>intro l K r h;exact⟨l1c _,h⟩
 |cons v vs ih=>
  intro l K r h
  cases l with
  |nil=>cases h
  |cons a l=>
   obtain⟨h1,h2⟩:=ih l _ r h
   exact⟨by simpa using h1,h2⟩
theorem B89 (vs:List AV):∀(l:List AV) (K:List AV→Aj),vs.length≤l.length→B8a vs l K=K (vs++l.drop vs.length):=by
 induction vs with
 |nil=>intro l K h;rfl
 |cons v vs ih=>
  intro l K h
  cases l with
  |nil=>simp at h
  |cons a l=>exact ih l _ (by simpa using h)
def E8 (n:Nat):List AV→List AV→(List AV→Aj)→Aj:=
 @Nat.rec (λ_=>List AV→List AV→(List AV→Aj)→Aj) (λvs l K=>B8a vs l K) (λ_ ih vs l K=>@List.rec AV (λ_=>Aj) none (λa l _=>ih vs l λl'=>K (a::l')) l) n
theorem ME (n:Nat):∀(vs l:List AV) (K:List AV→Aj) (r:AV×Hp),E8 n vs l K=some r→n+vs.length≤l.length∧K (splice l n vs)=some r:=by
 induction n with
 |zero=>
  intro vs l K r h
  obtain⟨h1,h2⟩:=B1C vs l K r h
  exact⟨by omega,by simpa [splice] using h2⟩
 |succ n ih=>
  intro vs l K r h
  cases l with
  |nil=>cases h
  |cons a l=>
   obtain⟨h1,h2⟩:=ih vs l _ r h
   refine⟨by simp;omega,?_⟩
   have:splice (a::l) (n+1) vs=a::splice l n vs:=by simp[splice,Nat.add_right_comm]
   rw[this];exact h2
theorem Ka (n:Nat):∀(vs l:List AV) (K:List AV→Aj),n+vs.length≤l.length→E8 n vs l K=K (splice l n vs):=by
 induction n with
 |zero=>
  intro vs l K h
  have:=B89 vs l K (by omega)
  have e:E8 0 vs l K=B8a vs l K:=rfl
  rw[e,this]
  simp[splice]
 |succ n ih=>
  intro vs l K h
  cases l with
  |nil=>simp at h
  |cons a l=>
   have:splice (a::l) (n+1) vs=a::splice l n vs:=by simp[splice,Nat.add_right_comm]
   rw[this]
   exact ih vs l _ (by simp at h;omega)
def iN (z:Int) (K:Nat→Aj):Aj:=@Int.rec (λ_=>Aj) (λn=>fN n K) (λ_=>none) z
theorem Th {z:Int} {K:Nat→Aj} {r:AV×Hp} (h:iN z K=some r):∃n:Nat,z=n∧K n=some r:=by
 cases z with
 |ofNat n=>exact⟨n,rfl,by simpa [iN,Di] using h⟩
 |negSucc n=>cases h
theorem Jn (n:Nat) (K:Nat→Aj):iN n K=K n:=Di n K
def ile (a b:Int):Bool:=@Int.rec (λ_=>Bool) (λm=>@Int.rec (λ_=>Bool) (λn=>Nat.ble m n) (λ_=>false) b) (λm=>@Int.rec (λ_=>Bool) (λ_=>true) (λn=>Nat.ble n m) b) a
def ieq (a b:Int):Bool:=@Int.rec (λ_=>Bool) (λm=>@Int.rec (λ_=>Bool) (λn=>Nat.beq m n) (λ_=>false) b) (λm=>@Int.rec (λ_=>Bool) (λ_=>false) (λn=>Nat.beq m n) b) a
theorem JZ (a b:Int):ile a b=decide (a≤b):=by
 cases a<;>cases b<;>simp only[ile]
 ·rw[l0w];simp[XQ]
 ·rw[l0w];simp;omega
 ·rw[l0w];simp;omega
 ·rw[l0w];simp[XQ];omega
theorem OM (a b:Int):ieq a b=decide (a=b):=by
 cases a<;>cases b<;>simp only[ieq]
 ·rw[l0w];simp[l13,Int.ofNat_inj]
 ·rw[l0w];simp
 ·rw[l0w];simp
 ·rw[l0w];simp[l13]
def bB (b:Bool) (K:AV→Aj):Aj:=@Bool.rec (λ_=>Aj) (K (.v (.bool false))) (K (.v (.bool true))) b
theorem MT (b:Bool) (K:AV→Aj):bB b K=K (.v (.bool b)):=by cases b<;>rfl
def Gs {α:Type} (n:Nat):List α→(List α→Aj)→Aj:=
 @Nat.rec (λ_=>List α→(List α→Aj)→Aj) (λ_ K=>K []) (λ_ ih l K=>@List.rec α (λ_=>Aj) none (λa l _=>ih l λl'=>K (a::l')) l) n
theorem Oq {α:Type} (n:Nat):∀(l:List α) (K:List α→Aj) (r:AV×Hp),Gs n l K=some r→n≤l.length∧K (l.take n)=some r:=by
 induction n with
 |zero=>intro l K r h;exact⟨l1c _,h⟩
 |succ n ih=>
  intro l K r h
  cases l with
  |nil=>cases h
  |cons a l=>
   obtain⟨h1,h2⟩:=ih l _ r h
   exact⟨by simpa using h1,h2⟩
theorem NB {α:Type} (n:Nat):∀(l:List α) (K:List α→Aj),n≤l.length→Gs n l K=K (l.take n):=by
 induction n with
 |zero=>intro l K _;rfl
 |succ n ih=>
  intro l K h
  cases l with
  |nil=>simp at h
  |cons a l=>exact ih l _ (by simpa using h)
def hdK (l:List AV) (K:AV→Aj):Aj:=@List.rec AV (λ_=>Aj) none (λa _ _=>K a) l
theorem A6V {l:List AV} {K:AV→Aj} {r:AV×Hp} (h:hdK l K=some r):∃a l',l=a::l'∧K a=some r:=by
 cases l with
 |nil=>cases h
 |cons a l=>exact⟨a,l,rfl,h⟩
def Ky (x:Row) (K:TypeId→List AV→Aj):Aj:=match x with| .cells _ e cs=>K e cs|_=>none
def A1a (x:Row) (K:Bool→TypeId→List AV→Aj):Aj:=match x with| .cells q e cs=>K q e cs|_=>none
def B0x (v:AV) (H:Hp) (K:List AV→Aj):Aj:=
 match v with
 | .ptr r p k=>JL H r λx=>Ky x λ_ cs=>K (Dv (Nat.add p k) cs)
 | .iptr cs=>K cs
 |_=>none
section
variable {T:Ty} {H:Hp} {r:AV×Hp}
theorem JT {H:Hp} {i:Nat} {K:TypeId→List AV→Aj} {r:AV×Hp} (h:(JL H i λx=>Ky x K)=some r):∃q e cs,Aq H i=some (.cells q e cs)∧K e cs=some r:=by
 obtain⟨x,h1,h2⟩:=Hd rfl h
 unfold Ky at h2
 split at h2
 ·exact⟨_,_,_,h1,h2⟩
 ·cases h2
theorem Vm {H:Hp} {i:Nat} {K:Bool→TypeId→List AV→Aj} {r:AV×Hp} (h:(JL H i λx=>A1a x K)=some r):∃q e cs,Aq H i=some (.cells q e cs)∧K q e cs=some r:=by
 obtain⟨x,h1,h2⟩:=Hd rfl h
 unfold A1a at h2
 split at h2
 ·exact⟨_,_,_,h1,h2⟩
 ·cases h2
def Zo (i:TI) (cs:List AV) (K:AV→Aj):Aj:=@Bool.rec (λ_=>Aj) (hdK cs K) (Gs i.size cs λc=>K (.agg c)) i.d.isAgg
theorem Tq {ty:TypeId} {i:TI} {cs:List AV} {K:AV→Aj} (hT:T ty=some i) (h:Zo i cs K=some r):∃v,K v=some r∧UI T ty cs (λv'=>v'=v):=by
 unfold Zo at h
 cases ha:i.d.isAgg
 ·rw[ha] at h
  obtain⟨a,l,rfl,h2⟩:=A6V h
  exact⟨a,h2,by simp[UI,hT,ha]⟩
 ·rw[ha] at h
  obtain⟨h1,h2⟩:=Oq _ _ _ _ h
  exact⟨_,h2,by simp[UI,hT,ha,h1]⟩
def Ar (i:TI) (v:AV) (H:Hp) (K:AV→Aj):Aj:=B0x v H λcs=>Zo i cs K
theorem A7j {ty:TypeId} {i:TI} {v:AV} {K:AV→Aj} (hT:T ty=some i) (h:Ar i v H K=some r):∃u,K u=some r∧A5U T ty v H (λv'=>v'=u):=by
 unfold Ar B0x at h
 split at h
 ·obtain⟨q,e,cs,h1,h2⟩:=JT h
  rw[CE] at h2
  obtain⟨u,h3,h4⟩:=Tq (T:=T) (ty:=ty) hT h2
  exact⟨u,h3,by simp only[A5U,h1];exact h4⟩
 ·obtain⟨u,h3,h4⟩:=Tq (T:=T) (ty:=ty) hT h
  exact⟨u,h3,h4⟩
 ·cases h
def PZ (l:List AV):Bool:=@List.rec AV (λ_=>Bool) true (λa _ ih=>@Bool.rec (λ_=>Bool) false ih (AV.one a)) l
theorem Gg (l:List AV):PZ l=l.all AV.one:=by
 induction l with
 |nil=>rfl
 |cons a l ih=>
  have e:PZ (a::l)=@Bool.rec (λ_=>Bool) false (PZ l) (AV.one a):=rfl
  rw[e,l2j,←ih]
  cases AV.one a<;>rfl
def Hi (a:AV) (K:List AV→Aj):Aj:=match a with| .agg cs=>K cs|a=>K [a]
theorem CQ (a:AV) (K:List AV→Aj):Hi a K=K (B8 a):=by cases a<;>rfl
def CG (i:TI) (p v:AV) (H:Hp) (K:Hp→Aj):Aj:=
 match p with
 | .ptr s p k=>JL H s λx=>A1a x λq e cs=>Hi v λvs=>GP vs 0 λn=>ck (Nat.beq n i.size) (ck (PZ vs) (E8 (Nat.add p k) vs cs λcs'=>LL H s (.cells q e cs') K))
 |_=>none
theorem B4Y {ty:TypeId} {i:TI} {p v:AV} {K:Hp→Aj} (hT:T ty=some i) (h:CG i p v H K=some r):∃H',K H'=some r∧A0H T ty p v H (λH''=>H''=H'):=by
 unfold CG at h
 split at h
 ·obtain⟨q,e,cs,h1,h2⟩:=Vm h
  rw[CQ,Co] at h2
  obtain⟨h3,h2⟩:=Bw h2
  obtain⟨h4,h2⟩:=Bw h2
  obtain⟨h5,h2⟩:=ME _ _ _ _ _ h2
  rw[Dm] at h2
  rw[Gg] at h4
  refine⟨_,h2,?_⟩
  simp only[A0H,h1,hT]
  exact⟨by have:=VC h3;omega,h4,h5,rfl⟩
 ·cases h
def AJ (ty:TypeId) (i:TI) (H:Hp) (K:KV):Aj:=Hi i.zero λcs=>XA3 H λs=>K (.ptr s 0 0) ((s,.cells true ty cs)::H)
theorem A7n {ty:TypeId} {i:TI} {K:KV} (hT:T ty=some i) (h:AJ ty i H K=some r):∃v H',K v H'=some r∧A0Q T ty H (A2 H) (λv' H''=>v'=v∧H''=H'):=by
 rw[AJ,CQ,BZ] at h
 exact⟨_,_,h,by simp[A0Q,hT]⟩
def DK (ty:TypeId) (v:AV) (H:Hp) (K:KV):Aj:=Hi v λcs=>ck (PZ cs) (XA3 H λs=>K (.ptr s 0 0) ((s,.cells true ty cs)::H))
theorem B1Z {ty:TypeId} {v:AV} {K:KV} (h:DK ty v H K=some r):∃u H',K u H'=some r∧B9s ty v H (A2 H) (λv' H''=>v'=u∧H''=H'):=by
 rw[DK,CQ] at h
 obtain⟨h1,h⟩:=Bw h
 rw[BZ] at h
 rw[Gg] at h1
 exact⟨_,_,h,h1,rfl,rfl⟩
def Wm (l:List (Nat×Nat×AV)):List AV→(List AV→Aj)→Aj:=
 @List.rec (Nat×Nat×AV) (λ_=>List AV→(List AV→Aj)→Aj) (λcs K=>K cs)
  (λp _ ih cs K=>Hi p.2.2 λvs=>GP vs 0 λn=>ck (Nat.beq n p.2.1) (ck (PZ vs) (E8 p.1 vs cs λcs'=>ih cs' K))) l
theorem UR {place:Nat→Option (Nat×Nat)}:∀(l:List (Nat×Nat×AV)) (ps:List (Nat×AV)) (cs:List AV) (K:List AV→Aj),(ps.map λp=>(place p.1).map λq=>(q.1,q.2,p.2))=l.map some→Wm l cs K=some r→∃cs',K cs'=some r∧Q8 place ps cs=some cs':=by
 intro l
 induction l with
 |nil=>
  intro ps cs K he h
  cases ps with
  |nil=>exact⟨cs,h,rfl⟩
  |cons p ps=>simp at he
 |cons x l ih=>
  intro ps cs K he h
  cases ps with
  |nil=>simp at he
  |cons p ps=>
   simp only[XS,List.cons.injEq] at he
   obtain⟨he1,he2⟩:=he
   cases hq:place p.1 with
   |none=>rw[hq] at he1;simp at he1
   |some q=>
    rw[hq] at he1
    simp only[l0x,l0y] at he1
    have hx:Wm (x::l) cs K=Hi x.2.2 λvs=>GP vs 0 λn=>ck (Nat.beq n x.2.1) (ck (PZ vs) (E8 x.1 vs cs λcs'=>Wm l cs' K)):=rfl
    rw[hx,CQ,Co] at h
    obtain⟨h3,h⟩:=Bw h
    obtain⟨h4,h⟩:=Bw h
    obtain⟨h5,h⟩:=ME _ _ _ _ _ h
    rw[Gg] at h4
    obtain⟨cs',h6,h7⟩:=ih ps _ K he2 h
    refine⟨cs',h6,?_⟩
    obtain⟨i,a⟩:=p
    subst he1
    have h3:=VC h3
    simp only[Q8,hq]
    rw[if_pos ⟨by simpa using h3,h5,h4⟩]
    exact h7
def B3 (i:TI) (l:List (Nat×Nat×AV)) (K:AV→Aj):Aj:=Hi i.zero λz=>Wm l z λcs=>K (.agg cs)
def Pe (i:TI) (j:Nat):Option (Nat×Nat):=
 match i.d with
 | .struct fs=>(fs[j]?).map λf=>(f.1,f.2.1)
 | .array _ _ esz=>some (j*esz,esz)
 | .slice _ esz=>some (j*esz,esz)
 |_=>none
def A5t (i:TI):Bool:=
 match i.d with
 | .struct fs=>fs.all λf=>f.2.1 !=0
 | .array _ _ esz=>esz !=0
 |_=>false
theorem A7m {ty:TypeId} {i:TI} {l:List (Nat×Nat×AV)} {ps:List (Nat×AV)} {K:AV→Aj} (hT:T ty=some i) (hb:A5t i=true) (he:(ps.map λp=>(Pe i p.1).map λq=>(q.1,q.2,p.2))=l.map some) (h:B3 i l K=some r):
 ∃v,K v=some r∧A0N T ty ps (λv'=>v'=v):=by
 rw[B3,CQ] at h
 obtain⟨cs',h1,h2⟩:=UR l ps _ _ he h
 refine⟨_,h1,?_⟩
 unfold A0N
 rw[hT]
 simp only
 unfold A5t at hb
 cases hd:i.d with
 |struct fs=>
  rw[hd] at hb
  simp only
  refine⟨hb,?_⟩
  have:Pe i= λj=>(fs[j]?).map λf=>(f.1,f.2.1):=by funext j;simp[Pe,hd]
  rw[this] at h2
  rw[h2];rfl
 |array n e esz=>
  rw[hd] at hb
  simp only
  refine⟨by simpa using hb,?_⟩
  have:Pe i= λj=>some (j*esz,esz):=by funext j;simp[Pe,hd]
  rw[this] at h2
  rw[h2];rfl
 |_=>rw[hd] at hb;cases hb
end
section
variable {T:Ty} {H:Hp} {r:AV×Hp}
def B87 (z:Int) (K:Int→Aj):Aj:=
 @Int.rec (λ_=>Aj) (λn=>fN n λn=>@Bool.rec (λ_=>Aj) (fI (IntKind.i64.wrap (.ofNat n)) K) (K (.ofNat n)) (Nat.blt n 9223372036854775808))
  (λn=>fN n λn=>@Bool.rec (λ_=>Aj) (fI (IntKind.i64.wrap (.negSucc n)) K) (K (.negSucc n)) (Nat.blt n 9223372036854775808)) z
theorem B86 (z:Int) (K:Int→Aj):B87 z K=K (IntKind.i64.wrap z):=by
 have key:∀x:Int, -9223372036854775808≤x→x<9223372036854775808→IntKind.i64.wrap x=x:= λx h1 h2=>by
  simp only[IntKind.wrap,IntKind.bits,IntKind.signed]
  have e1:(2^64:Int)=18446744073709551616:=by decide
  have e2:(2^(64-1):Int)=9223372036854775808:=by decide
  simp only[e1,e2,l16,decide_eq_true_eq]
  split<;>omega
 cases z with
 |ofNat n=>
  simp only[B87,Di]
  cases h:Nat.blt n 9223372036854775808
  ·simp only[Sh]
  ·rw[UK] at h
   rw[key _ (by simp only[Int.ofNat_eq_natCast];omega) (by simp only[Int.ofNat_eq_natCast];omega)]
 |negSucc n=>
  simp only[B87,Di]
  cases h:Nat.blt n 9223372036854775808
  ·simp only[Sh]
  ·rw[UK] at h
   rw[key _ (by omega) (by omega)]
def MD (k:IntKind) (z:Int) (K:Int→Aj):Aj:=match k with| .i64=>B87 z K|k=>fI (k.wrap z) K
theorem He (k:IntKind) (z:Int) (K:Int→Aj):MD k z K=K (k.wrap z):=by
 cases k<;>first|exact B86 _ _|exact Sh _ _
abbrev IT:=IntKind→Int→Int→(AV→Aj)→Aj
def B80:IT:= λk a b K=>MD k (Int.add a b) λz=>K (.v (.int k z))
def C5m:IT:= λk a b K=>MD k (Int.sub a b) λz=>K (.v (.int k z))
def C5s:IT:= λk a b K=>MD k (Int.mul a b) λz=>K (.v (.int k z))
def C5q:IT:= λk a b K=>ck (!ieq b 0) (MD k (Int.tdiv a b) λz=>K (.v (.int k z)))
def C5p:IT:= λk a b K=>ck (!ieq b 0) (fI (Int.tmod a b) λz=>K (.v (.int k z)))
def B7Z:IT:= λk a b K=>fI (k.wrap ((BitVec.ofInt k.bits a&&&BitVec.ofInt k.bits b).toNat)) λz=>K (.v (.int k z))
def iOr:IT:= λk a b K=>fI (k.wrap ((BitVec.ofInt k.bits a|||BitVec.ofInt k.bits b).toNat)) λz=>K (.v (.int k z))
def B7Y:IT:= λk a b K=>fI (k.wrap ((BitVec.ofInt k.bits a^^^BitVec.ofInt k.bits b).toNat)) λz=>K (.v (.int k z))
def C5y:IT:= λk a b K=>fI (k.wrap ((BitVec.ofInt k.bits a&&& ~~~BitVec.ofInt k.bits b).toNat)) λz=>K (.v (.int k z))
def C5x:IT:= λ_ a b K=>bB (ieq a b) K
def C5r:IT:= λ_ a b K=>bB (!ieq a b) K
def C5t:IT:= λ_ a b K=>bB (!ile b a) K
def C5u:IT:= λ_ a b K=>bB (ile a b) K
def C5v:IT:= λ_ a b K=>bB (!ile a b) K
def C5w:IT:= λ_ a b K=>bB (ile b a) K
def C5o:IT:= λk a b K=>ck (ile 0 b) (MD k (a*2^(min b.toNat k.bits)) λz=>K (.v (.int k z)))
def C5n:IT:= λk a b K=>ck (ile 0 b) (fI (a.fdiv (2^(min b.toNat k.bits))) λz=>K (.v (.int k z)))
def A9b (op:BinOp):IT:=match op with
 | .add=>B80| .sub=>C5m| .mul=>C5s| .quo=>C5q| .rem=>C5p| .and=>B7Z| .or=>iOr| .xor=>B7Y| .andNot=>C5y
 | .eql=>C5x| .neq=>C5r| .lss=>C5t| .leq=>C5u| .gtr=>C5v| .geq=>C5w| .shl=>C5o| .shr=>C5n
theorem A41 {op:BinOp} {k:IntKind} {a b:Int} {K:AV→Aj} (h:A9b op k a b K=some r):∃v,K (.v v)=some r∧(if Hn op then Yu op k a b=some v else ZM op k a b=some v):=by
 have hq:∀{x:Aj},ck (!ieq b 0) x=some r→b≠0∧x=some r:= λh=>by
  obtain⟨h1,h2⟩:=Bw h
  refine⟨λe=> ?_,h2⟩
  subst e
  simp[OM] at h1
 have hs:∀{x:Aj},ck (ile 0 b) x=some r→0≤b∧x=some r:= λh=>by
  obtain⟨h1,h2⟩:=Bw h
  rw[JZ] at h1
  exact⟨by simpa using h1,h2⟩
 cases op<;>simp only[A9b,B80,C5m,C5s,C5q,C5p,B7Z,iOr,B7Y,C5y,C5x,C5r,C5t,C5u,C5v,C5w,C5o,C5n,He,Sh,MT] at h<;>try (cases h;done)
 case add=>exact⟨_,h,rfl⟩
 case sub=>exact⟨_,h,rfl⟩
 case mul=>exact⟨_,h,rfl⟩
 case quo=>
  obtain⟨h1,h2⟩:=hq h
  exact⟨_,h2,by simp[Hn,ZM,h1]⟩
 case rem=>
  obtain⟨h1,h2⟩:=hq h
  exact⟨_,h2,by simp[Hn,ZM,h1]⟩
 case and=>exact⟨_,h,rfl⟩
 case or=>exact⟨_,h,rfl⟩
 case xor=>exact⟨_,h,rfl⟩
 case andNot=>exact⟨_,h,rfl⟩
 case shl=>
  obtain⟨h1,h2⟩:=hs h
  exact⟨_,h2,by simp only[Hn,if_true,Yu];rw[if_neg (by omega)]⟩
 case shr=>
  obtain⟨h1,h2⟩:=hs h
  exact⟨_,h2,by simp only[Hn,if_true,Yu];rw[if_neg (by omega)]⟩
 case eql=>exact⟨_,h,by simp only[Hn,ZM,OM];rw[show(a==b)=decide (a=b) from by by_cases e:a=b<;>simp[e]];simp⟩
 case neq=>exact⟨_,h,by simp only[Hn,ZM,OM,bne];rw[show(a==b)=decide (a=b) from by by_cases e:a=b<;>simp[e]];simp⟩
 case lss=>exact⟨_,h,by simp only[Hn,ZM,JZ];rw[show(!decide (b≤a))=decide (a<b) from by rw[l0w];simp];simp⟩
 case leq=>exact⟨_,h,by simp[Hn,ZM,JZ]⟩
 case gtr=>exact⟨_,h,by simp only[Hn,ZM,JZ];rw[show(!decide (a≤b))=decide (a>b) from by rw[l0w];simp];simp⟩
 case geq=>exact⟨_,h,by simp[Hn,ZM,JZ]⟩
def eqB (a:List UInt8):List UInt8→Bool:=
 @List.rec UInt8 (λ_=>List UInt8→Bool) (λb=>@List.rec UInt8 (λ_=>Bool) true (λ_ _ _=>false) b)
  (λx _ ih b=>@List.rec UInt8 (λ_=>Bool) false (λy l _=>@Bool.rec (λ_=>Bool) false (ih l) (Nat.beq x.toNat y.toNat)) b) a
theorem OQ (a:List UInt8):∀b,eqB a b=(a==b):=by
 induction a with
 |nil=>intro b;cases b<;>rfl
 |cons x a ih=>
  intro b
  cases b with
  |nil=>rfl
  |cons y b=>
   have e:eqB (x::a) (y::b)=@Bool.rec (λ_=>Bool) false (eqB a b) (Nat.beq x.toNat y.toNat):=rfl
   rw[e,ih]
   cases h:Nat.beq x.toNat y.toNat
   ·have:x≠y:= λe=>by rw[e,Zj] at h;cases h
    simp[this]
   ·have:x=y:=UInt8.toNat_inj.1 (VC h)
    simp[this]
def ltB (a:List UInt8):List UInt8→Bool:=
 @List.rec UInt8 (λ_=>List UInt8→Bool) (λb=>@List.rec UInt8 (λ_=>Bool) false (λ_ _ _=>true) b)
  (λx _ ih b=>@List.rec UInt8 (λ_=>Bool) false (λy l _=>@Bool.rec (λ_=>Bool) (@Bool.rec (λ_=>Bool) false (ih l) (Nat.beq x.toNat y.toNat)) true (Nat.blt x.toNat y.toNat)) b) a
theorem A4W (a:List UInt8):∀b,ltB a b=Op.bytesLess a b:=by
 induction a with
 |nil=>intro b;cases b<;>rfl
 |cons x a ih=>
  intro b
  cases b with
  |nil=>rfl
  |cons y b=>
   have e:ltB (x::a) (y::b)=@Bool.rec (λ_=>Bool) (@Bool.rec (λ_=>Bool) false (ltB a b) (Nat.beq x.toNat y.toNat)) true (Nat.blt x.toNat y.toNat):=rfl
   rw[e,ih,Op.bytesLess]
   have h1:(Nat.blt x.toNat y.toNat)=decide (x<y):=by
    rw[l0w];simp[UK,UInt8.lt_iff_toNat_lt]
   have h2:(Nat.beq x.toNat y.toNat)=(x==y):=by
    rw[l0w];simp[l13,UInt8.toNat_inj]
   rw[h1,h2]
   cases decide (x<y)
   ·cases (x==y)<;>rfl
   ·rfl
def C2T (op:BinOp) (a b:ByteArray) (K:AV→Aj):Aj:=
 match op with
 | .add=>UT a.data.toList b.data.toList λl=>ck (Nat.blt l.length 9223372036854775808) (K (.v (.string ⟨⟨l⟩⟩)))
 | .eql=>bB (eqB a.data.toList b.data.toList) K
 | .neq=>bB (!eqB a.data.toList b.data.toList) K
 | .lss=>bB (ltB a.data.toList b.data.toList) K
 | .leq=>bB (ltB a.data.toList b.data.toList||eqB a.data.toList b.data.toList) K
 | .gtr=>bB (!(ltB a.data.toList b.data.toList||eqB a.data.toList b.data.toList)) K
 | .geq=>bB (!ltB a.data.toList b.data.toList) K
 |_=>none
theorem Ue (a:ByteArray):a.toList=a.data.toList:=ByteArray.toList_eq a
theorem B1L {op:BinOp} {a b:ByteArray} {K:AV→Aj} (h:C2T op a b K=some r):∃v,K (.v v)=some r∧B1i op a b=some v:=by
 cases op<;>simp only[C2T,MT,Lb,OQ,A4W] at h<;>try (cases h;done)
 case add=>
  obtain⟨h1,h2⟩:=Bw h
  refine⟨_,h2,?_⟩
  rw[UK] at h1
  have hmax:IntKind.i64.max=9223372036854775807:=by decide
  have hs:a.size+b.size=(a.data.toList++b.data.toList).length:=by rw[Fl];rfl
  simp only[B1i]
  rw[if_neg (by rw[hmax];omega)]
  congr 2
 all_goals exact⟨_,h,by simp[B1i,Ue]⟩
def Ak (i:TI) (op:BinOp) (a b:AV) (K:AV→Aj):Aj:=
 match a,b with
 | .v (.int k m),.v (.int k' n)=>@Bool.rec (λ_=>Aj) (ck (decide (k=k')) (A9b op k m n K)) (A9b op k m n K) (Hn op)
 | .v (.string s),.v (.string u)=>C2T op s u K
 | .v (.bool p),.v (.bool q)=>match i.d,op with
  | .bool,.eql=>bB (p==q) K
  | .bool,.neq=>bB (!(p==q)) K
  |_,_=>none
 |a,b=>match A6E i.d a b,op with
  |some q,.eql=>bB q K
  |some q,.neq=>bB (!q) K
  |_,_=>none
theorem A45 {ty:TypeId} {i:TI} {op:BinOp} {a b:AV} {K:AV→Aj} (hT:T ty=some i) (h:Ak i op a b K=some r):∃v,K v=some r∧A0P T op ty a b (λv'=>v'=v):=by
 unfold Ak at h
 split at h
 ·rename_i k m k' n
  cases hs:Hn op
  ·rw[hs] at h
   obtain⟨h1,h2⟩:=Bw h
   obtain⟨v,h3,h4⟩:=A41 h2
   rw[hs] at h4
   exact⟨_,h3,by simp only[A0P,hs,l0z,if_false];exact⟨by simpa using h1,by simp only[l0z,if_false] at h4;rw[h4];rfl⟩⟩
  ·rw[hs] at h
   obtain⟨v,h3,h4⟩:=A41 h
   rw[hs] at h4
   exact⟨_,h3,by simp only[A0P,hs,if_true];simp only[if_true] at h4;rw[h4];rfl⟩
 ·obtain⟨v,h3,h4⟩:=B1L h
  exact⟨_,h3,by simp only[A0P];rw[h4];rfl⟩
 ·rename_i p q
  split at h
  ·rename_i hd
   rw[MT] at h
   exact⟨_,h,by simp only[A0P];exact⟨⟨i,hT,hd⟩,trivial⟩⟩
  ·rename_i hd
   rw[MT] at h
   exact⟨_,h,by simp only[A0P];exact⟨⟨i,hT,hd⟩,trivial⟩⟩
  ·cases h
 ·rename_i h1 h2 h3
  have hx:∀Kp:AV→Prop,(∃q,A6E i.d a b=some q∧((op= .eql∧Kp (.v (.bool q)))∨(op= .neq∧Kp (.v (.bool (!q))))))→A0P T op ty a b Kp:= λKp hk=>by
   obtain⟨q,hq,hk⟩:=hk
   unfold A0P
   split
   ·exact(h1 _ _ _ _ rfl rfl).elim
   ·exact(h2 _ _ rfl rfl).elim
   ·exact(h3 _ _ rfl rfl).elim
   ·rw[hT]
    simp only[hq]
    rcases hk with⟨rfl,hk⟩|⟨rfl,hk⟩<;>exact hk
  cases hq:A6E i.d a b with
  |none=>rw[hq] at h;cases h
  |some q=>
   rw[hq] at h
   cases op<;>first|(cases h;done)|skip
   ·simp only[MT] at h;exact⟨_,h,hx _ ⟨q,hq,.inl ⟨rfl,rfl⟩⟩⟩
   ·simp only[MT] at h;exact⟨_,h,hx _ ⟨q,hq,.inr ⟨rfl,rfl⟩⟩⟩
def GR (op:UnOp) (a:AV) (K:AV→Aj):Aj:=
 match op,a with
 | .neg,.v (.int k n)=>MD k (Int.sub 0 n) λz=>K (.v (.int k z))
 | .xor,.v (.int k n)=>fI (k.wrap ((BitVec.ofInt k.bits (if k.signed then-1 else k.max)^^^BitVec.ofInt k.bits n).toNat)) λz=>K (.v (.int k z))
 | .not,.v (.bool b)=>bB (!b) K
 |_,_=>none
theorem B4W {op:UnOp} {a:AV} {K:AV→Aj} (h:GR op a K=some r):∃v,K v=some r∧xun op a (λv'=>v'=v):=by
 unfold GR at h
 split at h
 ·rw[He] at h;exact⟨_,h,rfl⟩
 ·rw[Sh] at h;exact⟨_,h,rfl⟩
 ·rw[MT] at h;exact⟨_,h,rfl⟩
 ·cases h
def F2 (i j:TI) (a:AV) (K:AV→Aj):Aj:=
 match j.d,a with
 | .int k,.v (.int _ n)=>MD k n λz=>K (.v (.int k z))
 | .string,.v (.string s)=>match i.d with| .string=>K (.v (.string s))|_=>none
 |_,_=>none
theorem A9g {s d:TypeId} {i j:TI} {a:AV} {K:AV→Aj} (hi:T s=some i) (hj:T d=some j) (h:F2 i j a K=some r):∃v,K v=some r∧A3s T s d a (λv'=>v'=v):=by
 unfold F2 at h
 split at h
 ·rename_i hd
  rw[He] at h
  exact⟨_,h,by simp only[A3s,hi,hj,hd]⟩
 ·rename_i hd
  split at h
  ·rename_i hs
   exact⟨_,h,by simp only[A3s,hi,hj,hd,hs];exact⟨trivial,trivial⟩⟩
  ·cases h
 ·cases h
end
section
variable {T:Ty} {H:Hp} {r:AV×Hp}
def AM (off:Nat) (v:AV) (K:AV→Aj):Aj:=
 match v with
 | .ptr s p k=>fN (Nat.add (Nat.add p k) off) λo=>K (.ptr s o 0)
 | .iptr cs=>K (.iptr (Dv off cs))
 |_=>none
theorem B58 {ty:TypeId} {i:TI} {v:AV} {f off sz ft:Nat} {fs:List (Nat×Nat×TypeId)} {K:AV→Aj} (hT:T ty=some i) (hd:i.d= .struct fs) (hf:fs[f]?=some (off,sz,ft)) (hz:sz≠0) (h:AM off v K=some r):∃u,K u=some r∧XY T ty v f (λv'=>v'=u):=by
 unfold AM at h
 split at h
 ·rw[Di] at h
  refine⟨_,h,?_⟩
  simp only[XY,hT,hd,hf]
  exact⟨hz,_,0,by simp[Xk],rfl⟩
 ·rw[CE] at h
  refine⟨_,h,?_⟩
  simp only[XY,hT,hd,hf]
  exact⟨hz,trivial⟩
 ·cases h
def A5m (off:Nat) (j:TI) (v:AV) (K:AV→Aj):Aj:=
 match v with
 | .agg cs=>Zo j (Dv off cs) K
 |_=>none
theorem B1W {ty:TypeId} {i j:TI} {v:AV} {f off sz ft:Nat} {fs:List (Nat×Nat×TypeId)} {K:AV→Aj} (hT:T ty=some i) (hd:i.d= .struct fs) (hf:fs[f]?=some (off,sz,ft)) (hj:T ft=some j) (h:A5m off j v K=some r):∃u,K u=some r∧A0M T ty v f (λv'=>v'=u):=by
 unfold A5m at h
 split at h
 ·rw[CE] at h
  obtain⟨u,h1,h2⟩:=Tq (T:=T) (ty:=ft) hj h
  exact⟨u,h1,by simp only[A0M,hT,hd,hf];exact h2⟩
 ·cases h
def A57 (a:AV) (K:Int→Aj):Aj:=match a with| .v (.int _ n)=>K n|_=>none
theorem N9 {a:AV} {K:Int→Aj} (h:A57 a K=some r):∃k n,a= .v (.int k n)∧K n=some r:=by
 unfold A57 at h
 split at h
 ·exact⟨_,_,rfl,h⟩
 ·cases h
def B9 (i:TI) (x ix:AV) (K:AV→Aj):Aj:=
 A57 ix λz=>iN z λn=>match i.d,x with
  | .slice _ esz,.list m cs=>ck (Nat.blt n m) (Ot esz (Dv (Nat.mul n esz) cs) λc=>K (.iptr c))
  | .slice _ esz,.sl _ s o m=>ck (Nat.blt n m) (fN (Nat.add o (Nat.mul n esz)) λp=>K (.ptr s p 0))
  | .array m _ esz,.ptr s p k=>ck (Nat.blt n m) (fN (Nat.add (Nat.add p k) (Nat.mul n esz)) λq=>K (.ptr s q 0))
  | .array m _ esz,.iptr cs=>ck (Nat.blt n m) (Ot esz (Dv (Nat.mul n esz) cs) λc=>K (.iptr c))
  |_,_=>none
theorem B56 {ty:TypeId} {i:TI} {x ix:AV} {K:AV→Aj} (hT:T ty=some i) (h:B9 i x ix K=some r):∃u,K u=some r∧A0L T ty x ix (λv'=>v'=u):=by
 unfold B9 at h
 obtain⟨k,z,rfl,h'⟩:=N9 h
 clear h
 obtain⟨n,rfl,h⟩:=Th h'
 clear h'
 unfold A0L
 rw[hT]
 simp only
 split at h
 ·rename_i hd
  obtain⟨h1,h⟩:=Bw h
  rw[KR,CE] at h
  rw[UK] at h1
  exact⟨_,h,by simp only[hd,XP];exact⟨⟨by omega,by omega⟩,rfl⟩⟩
 ·rename_i hd
  obtain⟨h1,h⟩:=Bw h
  rw[Di] at h
  rw[UK] at h1
  exact⟨_,h,by simp only[hd,XP];exact⟨⟨by omega,by omega⟩,rfl⟩⟩
 ·rename_i hd
  obtain⟨h1,h⟩:=Bw h
  rw[Di] at h
  rw[UK] at h1
  exact⟨_,h,by simp only[hd,XP];exact⟨⟨by omega,by omega⟩,_,0,by simp[Xk],rfl⟩⟩
 ·rename_i hd
  obtain⟨h1,h⟩:=Bw h
  rw[KR,CE] at h
  rw[UK] at h1
  exact⟨_,h,by simp only[hd,XP];exact⟨⟨by omega,by omega⟩,rfl⟩⟩
 ·cases h
def B9m (l:List UInt8) (K:AV→Aj):Aj:=@List.rec UInt8 (λ_=>Aj) none (λb _ _=>fN b.toNat λn=>K (.v (.int .u8 (.ofNat n)))) l
def Tr (i j:TI) (x ix:AV) (K:AV→Aj):Aj:=
 A57 ix λz=>iN z λn=>match i.d,x with
  | .string,.v (.string s)=>B9m (Dv n s.data.toList) K
  | .array m _ esz,.agg cs=>ck (Nat.blt n m) (Zo j (Dv (Nat.mul n esz) cs) K)
  |_,_=>none
def X3 (i:TI):Option TypeId:=match i.d with| .array _ e _=>some e| .slice e _=>some e|_=>none
theorem B1V {ty:TypeId} {i j:TI} {x ix:AV} {K:AV→Aj} (hT:T ty=some i) (hj:∀e,X3 i=some e→T e=some j) (h:Tr i j x ix K=some r):∃u,K u=some r∧A0K T ty x ix (λv'=>v'=u):=by
 unfold Tr at h
 obtain⟨k,z,rfl,h'⟩:=N9 h
 clear h
 obtain⟨n,rfl,h⟩:=Th h'
 clear h'
 unfold A0K
 rw[hT]
 simp only
 split at h
 ·rename_i s hd
  rw[CE] at h
  cases hl:s.data.toList.drop n with
  |nil=>rw[hl] at h;cases h
  |cons b l=>
   rw[hl] at h
   have h:(fN b.toNat λn=>K (.v (.int .u8 (.ofNat n))))=some r:=h
   rw[Di] at h
   have hlt:n<s.data.toList.length:=by
    have:=congrArg List.length hl
    simp at this
    simp
    omega
   have hb:s.data.toList[n]?=some b:=by
    have:=congrArg (λl=>l[0]?) hl
    simpa using this
   refine⟨_,h,?_⟩
   simp only[hd,XP]
   refine⟨⟨by omega,?_⟩,?_⟩
   ·have:s.size=s.data.toList.length:=rfl
    omega
   ·rw[TW,hb];rfl
 ·rename_i m e esz cs hd
  obtain⟨h1,h⟩:=Bw h
  rw[CE] at h
  rw[UK] at h1
  obtain⟨u,h2,h3⟩:=Tq (T:=T) (ty:=e) (hj e (by simp[X3,hd])) h
  exact⟨u,h2,by simp only[hd,XP];exact⟨⟨by omega,by omega⟩,h3⟩⟩
 ·cases h
def Sj (x:Option AV) (d:Nat) (K:Nat→Aj):Aj:=
 match x with
 |none=>fN d K
 |some a=>A57 a λz=>iN z K
theorem HG {x:Option AV} {d:Nat} {K:Nat→Aj} (h:Sj x d K=some r):∃n:Nat,Vx x d=some (n:Int)∧K n=some r:=by
 unfold Sj at h
 split at h
 ·rw[Di] at h;exact⟨d,rfl,h⟩
 ·obtain⟨k,z,rfl,h1⟩:=N9 h
  obtain⟨n,rfl,h2⟩:=Th h1
  exact⟨n,rfl,h2⟩
def Dh (i:TI) (x:AV) (lo hi mx:Option AV) (K:AV→Aj):Aj:=
 match i.d,x with
 | .string,.v (.string s)=>ck mx.isNone (Sj lo 0 λl=>GP s.data.toList 0 λm=>Sj hi m λh=>ck (Nat.ble l h&&Nat.ble h m) (Ot (Nat.sub h l) (Dv l s.data.toList) λb=>K (.v (.string ⟨⟨b⟩⟩))))
 | .slice _ esz,.list m cs=>Sj lo 0 λl=>Sj hi m λh=>Sj mx m λx=>ck ((mx.isNone||hi.isSome)&&(Nat.ble l h&&(Nat.ble h x&&Nat.ble x m))) (fN (Nat.sub h l) λn=>Ot (Nat.mul n esz) (Dv (Nat.mul l esz) cs) λc=>K (.list n c))
 | .slice _ esz,.sl sz s o m=>ck (Nat.beq esz sz) (Sj lo 0 λl=>Sj hi m λh=>Sj mx m λx=>ck ((mx.isNone||hi.isSome)&&(Nat.ble l h&&(Nat.ble h x&&Nat.ble x m))) (fN (Nat.add o (Nat.mul l esz)) λo'=>fN (Nat.sub h l) λn=>K (.sl sz s o' n)))
 | .slice _ _,.v (.slice none 0 0)=>ck mx.isNone (Sj lo 0 λl=>Sj hi 0 λh=>ck (Nat.beq l 0&&Nat.beq h 0) (K (.v (.slice none 0 0))))
 |_,_=>none
theorem A79 {ty:TypeId} {i:TI} {x:AV} {lo hi mx:Option AV} {K:AV→Aj} (hT:T ty=some i) (h:Dh i x lo hi mx K=some r):∃u,K u=some r∧A0I T ty x lo hi mx (λv'=>v'=u):=by
 unfold Dh at h
 unfold A0I
 rw[hT]
 simp only
 split at h
 ·rename_i s hd
  obtain⟨h0,h⟩:=Bw h
  obtain⟨l,hl,h⟩:=HG h
  rw[Co] at h
  obtain⟨n,hn,h⟩:=HG h
  obtain⟨h1,h⟩:=Bw h
  rw[KR,CE] at h
  simp only[Jm,XQ] at h1
  have hz:0+s.data.toList.length=s.size:=KF _
  rw[hz] at hn h1
  refine⟨_,h,?_⟩
  simp only[hd,hl,hn,Kn,XP]
  refine⟨h0,⟨by omega,by omega,by omega⟩,?_⟩
  congr 2
  apply ByteArray.ext
  apply l0c
  simp only[ByteArray.data_extract,Array.toList_extract,List.extract]
  rfl
 ·rename_i e esz m cs hd
  obtain⟨l,hl,h⟩:=HG h
  obtain⟨n,hn,h⟩:=HG h
  obtain⟨y,hy,h⟩:=HG h
  obtain⟨h1,h⟩:=Bw h
  rw[Di,KR,CE] at h
  simp only[Jm,XQ] at h1
  refine⟨_,h,?_⟩
  have e1:((n:Int)-l).toNat=n-l:=by omega
  simp only[hd,hl,hn,hy,Kn,XP,e1]
  refine⟨⟨by omega,by omega,by omega,by omega⟩,λhm=> ?_,rfl⟩
  cases mx with
  |none=>simp at hm
  |some _=>simpa using h1.1
 ·rename_i e esz sz s o m hd
  obtain⟨h0,h⟩:=Bw h
  obtain⟨l,hl,h⟩:=HG h
  obtain⟨n,hn,h⟩:=HG h
  obtain⟨y,hy,h⟩:=HG h
  obtain⟨h1,h⟩:=Bw h
  rw[Di,Di] at h
  simp only[Jm,XQ] at h1
  refine⟨_,h,?_⟩
  have e1:((n:Int)-l).toNat=n-l:=by omega
  simp only[hd,hl,hn,hy,Kn,XP,e1]
  refine⟨VC h0,⟨by omega,by omega,by omega,by omega⟩,λhm=> ?_,rfl⟩
  cases mx with
  |none=>simp at hm
  |some _=>simpa using h1.1
 ·rename_i e esz hd
  obtain⟨h0,h⟩:=Bw h
  obtain⟨l,hl,h⟩:=HG h
  obtain⟨n,hn,h⟩:=HG h
  obtain⟨h1,h⟩:=Bw h
  simp only[Jm,l13] at h1
  refine⟨_,h,?_⟩
  simp only[hd,hl,hn,Kn]
  exact⟨h0,⟨by omega,by omega⟩,trivial⟩
 ·cases h
def AN (v:AV) (k:Nat) (K:AV→Aj):Aj:=match v with| .tup vs=>hdK (Dv k vs) K|_=>none
theorem B1X {v:AV} {k:Nat} {K:AV→Aj} (h:AN v k K=some r):∃vs u,v= .tup vs∧vs[k]?=some u∧K u=some r:=by
 unfold AN at h
 split at h
 ·rename_i vs
  rw[CE] at h
  obtain⟨a,l,hl,h⟩:=A6V h
  refine⟨vs,a,rfl,?_,h⟩
  have:=congrArg (λl=>l[0]?) hl
  simpa using this
 ·cases h
def AQ (i:TI) (x:AV) (K:AV→Aj):Aj:=
 match i.d,x with
 | .string,.v (.string s)=>GP s.data.toList 0 λn=>K (.v (.int .i64 (.ofNat n)))
 | .slice _ _,.list n _=>K (.v (.int .i64 (.ofNat n)))
 | .slice _ _,.sl _ _ _ n=>K (.v (.int .i64 (.ofNat n)))
 | .slice _ _,.v (.slice none 0 0)=>K (.v (.int .i64 (.ofNat 0)))
 | .array n _ _,_=>K (.v (.int .i64 (.ofNat n)))
 |_,_=>none
theorem B1U {ty:TypeId} {i:TI} {x:AV} {K:AV→Aj} (hT:T ty=some i) (h:AQ i x K=some r):∃u,K u=some r∧B2z T ty x (λv'=>v'=u):=by
 unfold AQ at h
 unfold B2z
 rw[hT]
 simp only
 split at h
 ·rename_i s hd
  rw[Co] at h
  refine⟨_,h,?_⟩
  simp only[hd]
  rw[KF];rfl
 ·rename_i hd;exact⟨_,h,by simp only[hd];rfl⟩
 ·rename_i hd;exact⟨_,h,by simp only[hd];rfl⟩
 ·rename_i hd;exact⟨_,h,by simp only[hd];rfl⟩
 ·rename_i hd;exact⟨_,h,by simp only[hd];rfl⟩
 ·cases h
def eMM (isMin:Bool) (a b:AV) (K:AV→Aj):Aj:=
 match a,b with
 | .v (.int k x),.v (.int k' y)=>ck (decide (k=k')) (@Bool.rec (λ_=>Aj) (@Bool.rec (λ_=>Aj) (K (.v (.int k y))) (K (.v (.int k x))) (ile y x)) (@Bool.rec (λ_=>Aj) (K (.v (.int k y))) (K (.v (.int k x))) (ile x y)) isMin)
 | .v (.string s),.v (.string u)=>@Bool.rec (λ_=>Aj) (K (.v (.string u))) (K (.v (.string s))) (@Bool.rec (λ_=>Bool) (!ltB s.data.toList u.data.toList) (ltB s.data.toList u.data.toList||eqB s.data.toList u.data.toList) isMin)
 |_,_=>none
theorem A7e {isMin:Bool} {a b:AV} {K:AV→Aj} (h:eMM isMin a b K=some r):∃u,K u=some r∧xmm isMin a b (λv'=>v'=u):=by
 unfold eMM at h
 split at h
 ·rename_i k x k' y
  obtain⟨h1,h⟩:=Bw h
  simp only[xmm]
  have hk:k=k':=by simpa using h1
  cases isMin
  ·rw[JZ] at h
   by_cases hxy:y≤x
   ·rw[decide_eq_true hxy] at h
    exact⟨_,h,hk,by rw[if_neg (by simp),if_neg (by omega)]⟩
   ·rw[decide_eq_false hxy] at h
    exact⟨_,h,hk,by rw[if_neg (by simp),if_pos (by omega)]⟩
  ·rw[JZ x y] at h
   by_cases hxy:x≤y
   ·rw[decide_eq_true hxy] at h
    exact⟨_,h,hk,by rw[if_pos rfl,if_neg (by omega)]⟩
   ·rw[decide_eq_false hxy] at h
    exact⟨_,h,hk,by rw[if_pos rfl,if_pos (by omega)]⟩
 ·rename_i s u
  simp only[xmm]
  cases isMin
  ·simp only[A4W,Ue] at h⊢
   cases hb:(!Op.bytesLess s.data.toList u.data.toList)<;>(rw[hb] at h;exact⟨_,h,rfl⟩)
  ·simp only[A4W,OQ,Ue] at h⊢
   cases hb:(Op.bytesLess s.data.toList u.data.toList||s.data.toList==u.data.toList)<;>(rw[hb] at h;exact⟨_,h,rfl⟩)
 ·cases h
end
end Go.Abs
end
