import Derived.ChangeKeysEq
import Derived.Laws.StructEq
import Derived.Laws.BytesString
import Derived.Test.YtngdjmhcceoafaaGreatDoorP01
set_option linter.all false
set_option maxHeartbeats 100000000
noncomputable section
namespace Go.Abs
open Go.RowKit
section
variable {r:AV×Hp} {b:Bool} {α:Type}
def C1c:Unit:=()
def C1b:Unit:=C1c
def C1a:Unit:=C1b
def C19:Unit:=C1a
def C18:Unit:=C19
def C17:Unit:=C18
def C16:Unit:=C17
def C15:Unit:=C16
def C14:Unit:=C15
def C13:Unit:=C14
def B88:Unit:=C13
def B87:Unit:=B88
def B86:Unit:=B87
def B85:Unit:=B86
def B84:Unit:=B85
def B83:Unit:=B84
def B82:Unit:=B83
def B81:Unit:=B82
def B80:Unit:=B81
def B7Z:Unit:=B80
def B7Y:Unit:=B7Z
def B7X:Unit:=B7Y
def B7W:Unit:=B7X
def B7V:Unit:=B7W
def B7U:Unit:=B7V
def B7T:Unit:=B7U
def B7S:Unit:=B7T
def B7R:Unit:=B7S
def B7Q:Unit:=B7R
def B7P:Unit:=B7Q
def B7O:Unit:=B7P
def B7N:Unit:=B7O
def B7M:Unit:=B7N
def B7L:Unit:=B7M
def B7K:Unit:=B7L
def B7J:Unit:=B7K
def B7I:Unit:=B7J
def B7H:Unit:=B7I
def B7G:Unit:=B7H
def B7F:Unit:=B7G
def B7E:Unit:=B7F
def B7D:Unit:=B7E
def B7C:Unit:=B7D
def B7B:Unit:=B7C
def B7A:Unit:=B7B
def B7z:Unit:=B7A
def B7y:Unit:=B7z
def B7x:Unit:=B7y
def B7w:Unit:=B7x
def B7v:Unit:=B7w
def B7u:Unit:=B7v
def B7t:Unit:=B7u
def B7s:Unit:=B7t
def B7r:Unit:=B7s
def B7q:Unit:=B7r
def B7p:Unit:=B7q
def B7o:Unit:=B7p
def B7n:Unit:=B7o
def B7m:Unit:=B7n
def B7l:Unit:=B7m
def B7k:Unit:=B7l
def B7j:Unit:=B7k
def B7i:Unit:=B7j
def B7h:Unit:=B7i
def B7g:Unit:=B7h
def B7f:Unit:=B7g
def B7e:Unit:=B7f
def B7d:Unit:=B7e
def B7c:Unit:=B7d
def B7b:Unit:=B7c
def B7a:Unit:=B7b
def B79:Unit:=B7a
def B78:Unit:=B79
def B77:Unit:=B78
def B76:Unit:=B77
def B75:Unit:=B76
def B74:Unit:=B75
def B73:Unit:=B74
def B72:Unit:=B73
def B71:Unit:=B72
def B70:Unit:=B71
def B6Z:Unit:=B70
def B6Y:Unit:=B6Z
def B6X:Unit:=B6Y
def B6W:Unit:=B6X
def B6V:Unit:=B6W
def B6U:Unit:=B6V
def B6T:Unit:=B6U
def B6S:Unit:=B6T
def B6R:Unit:=B6S
def B6Q:Unit:=B6R
def B6P:Unit:=B6Q
def B6O:Unit:=B6P
def B6N:Unit:=B6O
def B6M:Unit:=B6N
def B6L:Unit:=B6M
def B6K:Unit:=B6L
def B6J:Unit:=B6K
def B6I:Unit:=B6J
def B6H:Unit:=B6I
def B3c:Unit:=B6H
def B3b:Unit:=B3c
def B3a:Unit:=B3b
def B39:Unit:=B3a
def B38:Unit:=B39
def B37:Unit:=B38
def B36:Unit:=B37
def B35:Unit:=B36
def B34:Unit:=B35
def B33:Unit:=B34
def B32:Unit:=B33
def B31:Unit:=B32
def B30:Unit:=B31
def B2Z:Unit:=B30
def B2Y:Unit:=B2Z
def B2X:Unit:=B2Y
def B2W:Unit:=B2X
def B2V:Unit:=B2W
def B2U:Unit:=B2V
def B2T:Unit:=B2U
def Iq:Unit:=B2T
abbrev Af:=Option (AV×Hp)
abbrev KV:=AV->Hp->Af
abbrev B1W:=Nat->List AV->Hp->KV->Af
inductive BT (α:Type) where
 |leaf
 |node (k:Nat) (v:α) (l r:BT α)
def BT.get:BT α->Nat->Option α
 | .leaf,_=>none
 | .node k v l r,i=>match Nat.beq i k with
  |true=>some v
  |false=>match Nat.blt i k with
   |true=>l.get i
   |false=>r.get i
def BT.getK (b:BT α):Nat->(α->Af)->Af:=
 (λ(_:Unit)=>@BT.rec α (λ_=>Nat->(α->Af)->Af) (λ_ _=>none)
  (λk v _ _ a c i K=>@Bool.rec (λ_=>Af) (@Bool.rec (λ_=>Af) (c i K) (a i K) (Nat.blt i k)) (K v) (Nat.beq i k)) b) Iq
def BT.getK_eq (b:BT α) (i:Nat) (K:α->Af):b.getK i K=match b.get i with|some v=>K v|none=>none:=by
 induction b with
 |leaf=>rfl
 |node k v l r a c=>
  simp only[BT.getK,BT.get];cases Nat.beq i k
  ·cases Nat.blt i k
   ·exact c
   ·exact a
  ·rfl
structure Cf where
 b:Bool
 lv:List Nat
 fz:Bool
 n:Nat
 rc:List (Nat×List (Nat×Nat))
structure XFn where
 n:Nat
 rs:List ResultVar
 c:Code
 lv:List Nat
 fz:Bool
 rc:List (Nat×List (Nat×Nat))
inductive LK where
 |int (k:IntKind)|str|bool
abbrev Lie:=Nat×Nat×Nat×Nat
structure XE where
 ft:BT XFn
 ty:BT TI
 gl:BT (List AV)
 imp:Nat->Bool
 lf:Nat
 eqt:BT (List LK)
 lie:List Lie
 up:Nat
 ne:Nat->Bool
 lm:Nat->Bool
 ov:Nat->Bool
def fN (n:Nat) (K:Nat->Af):Af:=@Nat.rec (λ_=>Af) (K 0) (λm _=>K (Nat.succ m)) n
def fI (z:Int) (K:Int->Af):Af:=@Int.rec (λ_=>Af) (λn=>fN n λn=>K (.ofNat n)) (λn=>fN n λn=>K (.negSucc n)) z
def ck (b:Bool) (K:Af):Af:=@Bool.rec (λ_=>Af) none K b
def DT (n:Nat) (K:Nat->Af):fN n K=K n:=by cases n<;>rfl
def UZ (z:Int) (K:Int->Af):fI z K=K z:=by cases z<;>simp[fI,DT]
def ckS (b:Bool) (K:Af):Af:=(λ(_:Unit)=>@Bool.rec (λ_=>Af) none K b) Iq
def fNS (n:Nat) (K:Nat->Af):Af:=(λ(_:Unit)=>@Nat.rec (λ_=>Af) (K 0) (λm _=>K (Nat.succ m)) n) Iq
def SD (a:List α):List α->(List α->Af)->Af:=
 (λ(_:Unit)=>@List.rec α (λ_=>List α->(List α->Af)->Af) (λl K=>K l) (λx _ ih l K=>ih l λy=>K (x::y)) a) Iq
def A5k (l:List α):Nat->(Nat->Af)->Af:=(λ(_:Unit)=>@List.rec α (λ_=>Nat->(Nat->Af)->Af) (λn K=>K n) (λ_ _ ih n K=>ih (Nat.succ n) K) l) Iq
def B0M (n:Nat) (K:Nat->Af):fNS n K=K n:=DT n K
def Jt (a l:List α):∀K:List α->Af,SD a l K=K (a++l):=by
 induction a with
 |nil=>intro K;rfl
 |cons x a ih=>intro K;exact ih _
def B0z (l:List α):∀(n:Nat) (K:Nat->Af),A5k l n K=K (n+l.length):=by
 induction l with
 |nil=>intro n K;rfl
 |cons a l ih=>
  intro n K;have:A5k (a::l) n K=A5k l (Nat.succ n) K:=rfl;rw[this,ih]
  congr 1
  simp;omega
def B3 {K:Af} (h:ck b K=some r):b=true/\K=some r:=by cases b;cases h;exact⟨rfl,h⟩
def L9 {K:Af} (h:ckS b K=some r):b=true/\K=some r:=B3 h
def gtm (t:Tm):Nat->(AV->Af)->Af:=
 (λ(_:Unit)=>@List.rec (Nat×AV) (λ_=>Nat->(AV->Af)->Af) (λ_ K=>K .dk)
  (λp _ ih=>@Prod.rec Nat AV (λ_=>Nat->(AV->Af)->Af) (λk v i K=>@Bool.rec (λ_=>Af) (ih i K) (K v) (Nat.beq i k)) p) t) Iq
def Wo (t:Tm) (i:Nat) (K:AV->Af):gtm t i K=K (HZ t i):=by
 induction t with
 |nil=>rfl
 |cons p t ih=>
  obtain⟨k,v⟩:=p;simp only[gtm,HZ];cases h:Nat.beq i k
  ·rw[C4 (λe=>by rw[e,mK] at h;cases h)];exact ih
  ·rw[Dj (YM h)]
def IJ (H:Hp):Nat->(Row->Af)->Af:=
 @List.rec (Nat×Row) (λ_=>Nat->(Row->Af)->Af) (λ_ _=>none)
  (λp _ ih=>@Prod.rec Nat Row (λ_=>Nat->(Row->Af)->Af) (λk v i K=>@Bool.rec (λ_=>Af) (ih i K) (K v) (Nat.beq i k)) p) H
def Iw {H:Hp} {i:Nat} {K:Row->Af} (a:K .gone=none) (h:IJ H i K=some r):∃x,Aj H i=some x/\K x=some r:=by
 induction H with
 |nil=>cases h
 |cons p H ih=>
  obtain⟨k,v⟩:=p;simp only[IJ] at h;simp only[Aj];cases hb:Nat.beq i k
  ·rw[hb] at h;rw[C4 (λe=>by rw[e,mK] at hb;cases hb)];exact ih h
  ·rw[hb] at h;rw[Dj (YM hb)];cases v with
   |gone=>exact absurd (a▸h) (by simp)
   |_=>exact⟨_,rfl,h⟩
def LC (H:Hp):Nat->Row->(Hp->Af)->Af:=
 @List.rec (Nat×Row) (λ_=>Nat->Row->(Hp->Af)->Af) (λ_ _ K=>K [])
  (λp l ih=>@Prod.rec Nat Row (λ_=>Nat->Row->(Hp->Af)->Af) (λk x r y K=>@Bool.rec (λ_=>Af) (ih r y λa=>K ((k,x)::a)) (K ((k,y)::l)) (Nat.beq r k)) p) H
def Dh (H:Hp) (r:Nat) (y:Row):∀K:Hp->Af,LC H r y K=K (upd H r y):=by
 induction H with
 |nil=>intro K;rfl
 |cons p H ih=>
  intro K;obtain⟨k,x⟩:=p;simp only[LC,upd];cases hb:Nat.beq r k
  ·rw[C4 (λe=>by rw[e,mK] at hb;cases hb)];exact ih _
  ·rw[Dj (YM hb)]
def Ig (H:Hp) (K:Nat->Af):Af:=
 @List.rec (Nat×Row) (λ_=>Af) (K 0) (λp _ _=>@Prod.rec Nat Row (λ_=>Af) (λk _=>fN (Nat.succ k) K) p) H
def BV (H:Hp) (K:Nat->Af):Ig H K=K (Ao H):=by
 cases H with
 |nil=>rfl
 |cons p H=>obtain⟨k,x⟩:=p;exact DT (k+1) K
def Ym (a:List α):List α->(List α->Af)->Af:=
 @List.rec α (λ_=>List α->(List α->Af)->Af) (λl K=>K l) (λx _ ih l K=>ih l λy=>K (x::y)) a
def MD (a l:List α):∀K:List α->Af,Ym a l K=K (a++l):=by
 induction a with
 |nil=>intro K;rfl
 |cons x a ih=>intro K;exact ih _
def Di (n:Nat):List α->List α:=
 @Nat.rec (λ_=>List α->List α) (λl=>l) (λ_ ih l=>@List.rec α (λ_=>List α) [] (λ_ l _=>ih l) l) n
def C6 (n:Nat):∀l:List α,Di n l=l.drop n:=by
 induction n with
 |zero=>intro l;rfl
 |succ n ih=>
  intro l;cases l with
  |nil=>rfl
  |cons a l=>exact ih l
def SB (n:Nat):List α->(List α->Af)->Af:=
 @Nat.rec (λ_=>List α->(List α->Af)->Af) (λ_ K=>K []) (λ_ ih l K=>@List.rec α (λ_=>Af) (K []) (λa l _=>ih l λc=>K (a::c)) l) n
def Oh (n:Nat):∀(l:List α) (K:List α->Af),SB n l K=K (l.take n):=by
 induction n with
 |zero=>intro l K;rfl
 |succ n ih=>
  intro l K;cases l with
  |nil=>rfl
  |cons a l=>exact ih l _
def HI (l:List α):Nat->(Nat->Af)->Af:=@List.rec α (λ_=>Nat->(Nat->Af)->Af) (λn K=>K n) (λ_ _ ih n K=>fN (Nat.succ n) λm=>ih m K) l
def Co (l:List α):∀(n:Nat) (K:Nat->Af),HI l n K=K (n+l.length):=by
 induction l with
 |nil=>intro n K;rfl
 |cons a l ih=>
  intro n K;have:HI (a::l) n K=fN (Nat.succ n) λm=>HI l m K:=rfl;rw[this,DT,ih]
  congr 1
  simp;omega
def B4y (vs:List AV):List AV->(List AV->Af)->Af:=
 @List.rec AV (λ_=>List AV->(List AV->Af)->Af) (λl K=>K l) (λv _ ih l K=>@List.rec AV (λ_=>Af) none (λ_ l _=>ih l λa=>K (v::a)) l) vs
def A6W (vs:List AV):∀(l:List AV) (K:List AV->Af) (r:AV×Hp),B4y vs l K=some r->vs.length<=l.length/\K (vs++l.drop vs.length)=some r:=by
 induction vs with
 |nil=>intro l K r h;exact⟨W? _,h⟩
 |cons v vs ih=>
  intro l K r h;cases l with
  |nil=>cases h
  |cons a l=>
   obtain⟨h1,h2⟩:=ih l _ r h;exact⟨by simpa using h1,h2⟩
def B4x (vs:List AV):∀(l:List AV) (K:List AV->Af),vs.length<=l.length->B4y vs l K=K (vs++l.drop vs.length):=by
 induction vs with
 |nil=>intro l K h;rfl
 |cons v vs ih=>
  intro l K h;cases l with
  |nil=>simp at h
  |cons a l=>exact ih l _ (by simpa using h)
def El (n:Nat):List AV->List AV->(List AV->Af)->Af:=
 @Nat.rec (λ_=>List AV->List AV->(List AV->Af)->Af) (λvs l K=>B4y vs l K) (λ_ ih vs l K=>@List.rec AV (λ_=>Af) none (λa l _=>ih vs l λc=>K (a::c)) l) n
def Oi (n:Nat):∀(vs l:List AV) (K:List AV->Af) (r:AV×Hp),El n vs l K=some r->n+vs.length<=l.length/\K (splice l n vs)=some r:=by
 induction n with
 |zero=>
  intro vs l K r h;obtain⟨h1,h2⟩:=A6W vs l K r h;exact⟨by omega,by simpa [splice] using h2⟩
 |succ n ih=>
  intro vs l K r h;cases l with
  |nil=>cases h
  |cons a l=>
   obtain⟨h1,h2⟩:=ih vs l _ r h;refine⟨by simp;omega,?_⟩;have:splice (a::l) (n+1) vs=a::splice l n vs:=by simp[splice,Nat.add_right_comm]
   rw[this];exact h2
def Il (n:Nat):∀(vs l:List AV) (K:List AV->Af),n+vs.length<=l.length->El n vs l K=K (splice l n vs):=by
 induction n with
 |zero=>
  intro vs l K h;have:=B4x vs l K (by omega);have e:El 0 vs l K=B4y vs l K:=rfl;rw[e,this];simp[splice]
 |succ n ih=>
  intro vs l K h;cases l with
  |nil=>simp at h
  |cons a l=>
   have:splice (a::l) (n+1) vs=a::splice l n vs:=by simp[splice,Nat.add_right_comm]
   rw[this];exact ih vs l _ (by simp at h;omega)
def iN (z:Int) (K:Nat->Af):Af:=@Int.rec (λ_=>Af) (λn=>fN n K) (λ_=>none) z
def Wm {z:Int} {K:Nat->Af} (h:iN z K=some r):∃n:Nat,z=n/\K n=some r:=by
 cases z with
 |ofNat n=>exact⟨n,rfl,by simpa [iN,DT] using h⟩
 |negSucc n=>cases h
def JW (n:Nat) (K:Nat->Af):iN n K=K n:=DT n K
def oR (a b:Int):Bool:=@Int.rec (λ_=>Bool) (λm=>@Int.rec (λ_=>Bool) (λn=>Nat.ble m n) (λ_=>false) b) (λm=>@Int.rec (λ_=>Bool) (λ_=>true) (λn=>Nat.ble n m) b) a
def ieq (a b:Int):Bool:=@Int.rec (λ_=>Bool) (λm=>@Int.rec (λ_=>Bool) (λn=>Nat.beq m n) (λ_=>false) b) (λm=>@Int.rec (λ_=>Bool) (λ_=>false) (λn=>Nat.beq m n) b) a
def Lw (a b:Int):oR a b=decide (a<=b):=by
 cases a<;>cases b<;>simp only[oR]
 ·rw[tG];simp[iS]
 ·rw[tG];simp;omega
 ·rw[tG];simp;omega
 ·rw[tG];simp[iS];omega
def Q8 (a b:Int):ieq a b=decide (a=b):=by
 cases a<;>cases b<;>simp only[ieq]
 ·rw[tG];simp[pO,Int.ofNat_inj]
 ·rw[tG];simp
 ·rw[tG];simp
 ·rw[tG];simp[pO]
def bB (b:Bool) (K:AV->Af):Af:=@Bool.rec (λ_=>Af) (K (.v (.bool false))) (K (.v (.bool true))) b
def OC (b:Bool) (K:AV->Af):bB b K=K (.v (.bool b)):=by cases b<;>rfl
end
section
variable {v:AV} {K:AV->Af} {i:TI} {α:Type}
def E8 (n:Nat):List α->(List α->Af)->Af:=
 @Nat.rec (λ_=>List α->(List α->Af)->Af) (λ_ K=>K []) (λ_ ih l K=>@List.rec α (λ_=>Af) none (λa l _=>ih l λb=>K (a::b)) l) n
def Nm (n:Nat):∀(l:List α) (K:List α->Af) (r:AV×Hp),E8 n l K=some r->n<=l.length/\K (l.take n)=some r:=by
 induction n with
 |zero=>intro l K r h;exact⟨W? _,h⟩
 |succ n ih=>
  intro l K r h;cases l with
  |nil=>cases h
  |cons a l=>
   obtain⟨h1,h2⟩:=ih l _ r h;exact⟨by simpa using h1,h2⟩
def KA (n:Nat):∀(l:List α) (K:List α->Af),n<=l.length->E8 n l K=K (l.take n):=by
 induction n with
 |zero=>intro l K _;rfl
 |succ n ih=>
  intro l K h;cases l with
  |nil=>simp at h
  |cons a l=>exact ih l _ (by simpa using h)
def hdK (l:List AV) (K:AV->Af):Af:=@List.rec AV (λ_=>Af) none (λa _ _=>K a) l
def A1c {l:List AV} {r:AV×Hp} (h:hdK l K=some r):∃a b,l=a::b/\K a=some r:=by
 cases l with
 |nil=>cases h
 |cons a l=>exact⟨a,l,rfl,h⟩
def JV (x:Row) (K:TypeId->List AV->Af):Af:=match x with| .cells _ e cs=>K e cs|_=>none
def eS (x:Row) (K:Bool->TypeId->List AV->Af):Af:=match x with| .cells q e cs=>K q e cs|_=>none
def A5B (v:AV) (H:Hp) (K:List AV->Af):Af:=
 match v with
 | .ptr r p k=>IJ H r λx=>JV x λ_ cs=>K (Di (Nat.add p k) cs)
 | .iptr cs=>K cs
 |_=>none
section
variable {T:Ty} {H:Hp} {r:AV×Hp}
def Kz {i:Nat} {K:TypeId->List AV->Af} (h:(IJ H i λx=>JV x K)=some r):∃q e cs,Aj H i=some (.cells q e cs)/\K e cs=some r:=by
 obtain⟨x,h1,h2⟩:=Iw rfl h;unfold JV at h2;split at h2
 ·exact⟨_,_,_,h1,h2⟩
 ·cases h2
def UE {i:Nat} {K:Bool->TypeId->List AV->Af} (h:(IJ H i λx=>eS x K)=some r):∃q e cs,Aj H i=some (.cells q e cs)/\K q e cs=some r:=by
 obtain⟨x,h1,h2⟩:=Iw rfl h;unfold eS at h2;split at h2
 ·exact⟨_,_,_,h1,h2⟩
 ·cases h2
def mP (i:TI) (cs:List AV) (K:AV->Af):Af:=@Bool.rec (λ_=>Af) (hdK cs K) (E8 i.size cs λc=>K (.agg c)) i.d.isAgg
def Wx {ty:TypeId} {cs:List AV} (c:T ty=some i) (h:mP i cs K=some r):∃v,K v=some r/\XZ T ty cs (λe=>e=v):=by
 unfold mP at h;cases b:i.d.isAgg
 ·rw[b] at h;obtain⟨a,l,rfl,h2⟩:=A1c h;exact⟨a,h2,by simp[XZ,c,b]⟩
 ·rw[b] at h;obtain⟨h1,h2⟩:=Nm _ _ _ _ h;exact⟨_,h2,by simp[XZ,c,b,h1]⟩
def AF (i:TI) (v:AV) (H:Hp) (K:AV->Af):Af:=A5B v H λcs=>mP i cs K
def A1H {ty:TypeId} (c:T ty=some i) (h:AF i v H K=some r):∃u,K u=some r/\A04 T ty v H (λd=>d=u):=by
 unfold AF A5B at h;split at h
 ·obtain⟨q,e,cs,h1,h2⟩:=Kz h;rw[C6] at h2;obtain⟨u,a,b⟩:=Wx (T:=T) (ty:=ty) c h2;exact⟨u,a,by simp only[A04,h1];exact b⟩
 ·obtain⟨u,a,b⟩:=Wx (T:=T) (ty:=ty) c h;exact⟨u,a,b⟩
 ·cases h
def Nu (l:List AV):Bool:=@List.rec AV (λ_=>Bool) true (λa _ ih=>@Bool.rec (λ_=>Bool) false ih (AV.one a)) l
def FI (l:List AV):Nu l=l.all AV.one:=by
 induction l with
 |nil=>rfl
 |cons a l ih=>
  have e:Nu (a::l)=@Bool.rec (λ_=>Bool) false (Nu l) (AV.one a):=rfl;rw[e,pK,<-ih];cases AV.one a<;>rfl
def GW (a:AV) (K:List AV->Af):Af:=match a with| .agg cs=>K cs|a=>K [a]
def CI (a:AV) (K:List AV->Af):GW a K=K (Bv a):=by cases a<;>rfl
def E0 (i:TI) (p v:AV) (H:Hp) (K:Hp->Af):Af:=
 match p with
 | .ptr s p k=>IJ H s λx=>eS x λq e cs=>GW v λvs=>HI vs 0 λn=>ck (Nat.beq n i.size) (ck (Nu vs) (El (Nat.add p k) vs cs λa=>LC H s (.cells q e a) K))
 |_=>none
def B0V {ty:TypeId} {p v:AV} {K:Hp->Af} (g:T ty=some i) (h:E0 i p v H K=some r):∃b,K b=some r/\qG T ty p v H (λa=>a=b):=by
 unfold E0 at h;split at h
 ·obtain⟨q,e,cs,h1,h2⟩:=UE h;rw[CI,Co] at h2;obtain⟨d,h2⟩:=B3 h2;obtain⟨c,h2⟩:=B3 h2;obtain⟨f,h2⟩:=Oi _ _ _ _ _ h2;rw[Dh] at h2;rw[FI] at c;refine⟨_,h2,?_⟩;simp only[qG,h1,g];exact⟨by have:=YM d;omega,c,f,rfl⟩
 ·cases h
def Bx (ty:TypeId) (i:TI) (H:Hp) (K:KV):Af:=GW i.zero λcs=>Ig H λs=>K (.ptr s 0 0) ((s,.cells true ty cs)::H)
def A1L {ty:TypeId} {K:KV} (c:T ty=some i) (h:Bx ty i H K=some r):∃v b,K v b=some r/\qQ T ty H (Ao H) (λd a=>d=v/\a=b):=by
 rw[Bx,CI,BV] at h;exact⟨_,_,h,by simp[qQ,c]⟩
def Ho (ty:TypeId) (v:AV) (H:Hp) (K:KV):Af:=GW v λcs=>ck (Nu cs) (Ig H λs=>K (.ptr s 0 0) ((s,.cells true ty cs)::H))
def A7d {ty:TypeId} {K:KV} (h:Ho ty v H K=some r):∃u b,K u b=some r/\B67 ty v H (Ao H) (λc a=>c=u/\a=b):=by
 rw[Ho,CI] at h;obtain⟨h1,h⟩:=B3 h;rw[BV] at h;rw[FI] at h1;exact⟨_,_,h,h1,rfl,rfl⟩
def dI (l:List (Nat×Nat×AV)):List AV->(List AV->Af)->Af:=
 @List.rec (Nat×Nat×AV) (λ_=>List AV->(List AV->Af)->Af) (λcs K=>K cs)
  (λp _ ih cs K=>GW p.2.2 λvs=>HI vs 0 λn=>ck (Nat.beq n p.2.1) (ck (Nu vs) (El p.1 vs cs λa=>ih a K))) l
def Yi {place:Nat->Option (Nat×Nat)}:∀(l:List (Nat×Nat×AV)) (ps:List (Nat×AV)) (cs:List AV) (K:List AV->Af),(ps.map λp=>(place p.1).map λq=>(q.1,q.2,p.2))=l.map some->dI l cs K=some r->∃b,K b=some r/\SO place ps cs=some b:=by
 intro l
 induction l with
 |nil=>
  intro ps cs K he h;cases ps with
  |nil=>exact⟨cs,h,rfl⟩
  |cons p ps=>simp at he
 |cons x l ih=>
  intro ps cs K he h;cases ps with
  |nil=>simp at he
  |cons p ps=>
   simp only[WR,List.cons.injEq] at he;obtain⟨c,e⟩:=he;cases hq:place p.1 with
   |none=>rw[hq] at c;simp at c
   |some q=>
    rw[hq] at c;simp only[xZ,l0z] at c;have m:dI (x::l) cs K=GW x.2.2 λvs=>HI vs 0 λn=>ck (Nat.beq n x.2.1) (ck (Nu vs) (El x.1 vs cs λb=>dI l b K)):=rfl;rw[m,CI,Co] at h;obtain⟨d,h⟩:=B3 h;obtain⟨f,h⟩:=B3 h;obtain⟨g,h⟩:=Oi _ _ _ _ _ h;rw[FI] at f;obtain⟨b,j,k⟩:=ih ps _ K e h;refine⟨b,j,?_⟩;obtain⟨i,a⟩:=p;subst c;have d:=YM d;simp only[SO,hq];rw[Dj ⟨by simpa using d,g,f⟩];exact k
def BZ (i:TI) (l:List (Nat×Nat×AV)) (K:AV->Af):Af:=GW i.zero λz=>dI l z λcs=>K (.agg cs)
def QO (i:TI) (j:Nat):Option (Nat×Nat):=
 match i.d with
 | .struct b=>(b[j]?).map λf=>(f.1,f.2.1)
 | .array _ _ a=>some (j*a,a)
 | .slice _ a=>some (j*a,a)
 |_=>none
def S? (i:TI):Bool:=
 match i.d with
 | .struct b=>b.all λf=>f.2.1 !=0
 | .array _ _ a=>a !=0
 |_=>false
def A1K {ty:TypeId} {l:List (Nat×Nat×AV)} {ps:List (Nat×AV)} (k:T ty=some i) (hb:S? i=true) (he:(ps.map λp=>(QO i p.1).map λq=>(q.1,q.2,p.2))=l.map some) (h:BZ i l K=some r):
 ∃v,K v=some r/\qM T ty ps (λm=>m=v):=by
 rw[BZ,CI] at h;obtain⟨c,h1,h2⟩:=Yi l ps _ _ he h;refine⟨_,h1,?_⟩;unfold qM;rw[k];simp only;unfold S? at hb;cases b:i.d with
 |struct g=>
  rw[b] at hb;simp only;refine⟨hb,?_⟩;have:QO i= λj=>(g[j]?).map λf=>(f.1,f.2.1):=by funext j;simp[QO,b]
  rw[this] at h2;rw[h2];rfl
 |array n e a=>
  rw[b] at hb;simp only;refine⟨by simpa using hb,?_⟩;have:QO i= λj=>some (j*a,a):=by funext j;simp[QO,b]
  rw[this] at h2;rw[h2];rfl
 |_=>rw[b] at hb;cases hb
end
end
section
variable {a:AV} {K:AV->Af} {op:BinOp} {i:TI}
section
variable {T:Ty} {H:Hp} {r:AV×Hp}
def B4v (z:Int) (K:Int->Af):Af:=
 @Int.rec (λ_=>Af) (λn=>fN n λn=>@Bool.rec (λ_=>Af) (fI (IntKind.i64.wrap (.ofNat n)) K) (K (.ofNat n)) (Nat.blt n 9223372036854775808))
  (λn=>fN n λn=>@Bool.rec (λ_=>Af) (fI (IntKind.i64.wrap (.negSucc n)) K) (K (.negSucc n)) (Nat.blt n 9223372036854775808)) z
def B4u (z:Int) (K:Int->Af):B4v z K=K (IntKind.i64.wrap z):=by
 have key:∀x:Int, -9223372036854775808<=x->x<9223372036854775808->IntKind.i64.wrap x=x:= λx h1 h2=>by
  simp only[IntKind.wrap,IntKind.bits,IntKind.signed];have b:(2^64:Int)=18446744073709551616:=by decide
  have c:(2^(64-1):Int)=9223372036854775808:=by decide
  simp only[b,c,X',decide_eq_true_eq];split<;>omega
 cases z with
 |ofNat n=>
  simp only[B4v,DT];cases h:Nat.blt n 9223372036854775808
  ·simp only[UZ]
  ·rw[Wj] at h;rw[key _ (by simp only[Int.ofNat_eq_natCast];omega) (by simp only[Int.ofNat_eq_natCast];omega)]
 |negSucc n=>
  simp only[B4v,DT];cases h:Nat.blt n 9223372036854775808
  ·simp only[UZ]
  ·rw[Wj] at h;rw[key _ (by omega) (by omega)]
def Og (k:IntKind) (z:Int) (K:Int->Af):Af:=match k with| .i64=>B4v z K|k=>fI (k.wrap z) K
def IQ (k:IntKind) (z:Int) (K:Int->Af):Og k z K=K (k.wrap z):=by
 cases k<;>first|exact B4u _ _|exact UZ _ _
abbrev IT:=IntKind->Int->Int->(AV->Af)->Af
def B4o:IT:= λk a b K=>Og k (Int.add a b) λz=>K (.v (.int k z))
def C2j:IT:= λk a b K=>Og k (Int.sub a b) λz=>K (.v (.int k z))
def C2p:IT:= λk a b K=>Og k (Int.mul a b) λz=>K (.v (.int k z))
def C2n:IT:= λk a b K=>ck (!ieq b 0) (Og k (Int.tdiv a b) λz=>K (.v (.int k z)))
def C2m:IT:= λk a b K=>ck (!ieq b 0) (fI (Int.tmod a b) λz=>K (.v (.int k z)))
def B4n:IT:= λk a b K=>fI (k.wrap ((BitVec.ofInt k.bits a&&&BitVec.ofInt k.bits b).toNat)) λz=>K (.v (.int k z))
def iOr:IT:= λk a b K=>fI (k.wrap ((BitVec.ofInt k.bits a|||BitVec.ofInt k.bits b).toNat)) λz=>K (.v (.int k z))
def B4m:IT:= λk a b K=>fI (k.wrap ((BitVec.ofInt k.bits a^^^BitVec.ofInt k.bits b).toNat)) λz=>K (.v (.int k z))
def C2v:IT:= λk a b K=>fI (k.wrap ((BitVec.ofInt k.bits a&&& ~~~BitVec.ofInt k.bits b).toNat)) λz=>K (.v (.int k z))
def C2u:IT:= λ_ a b K=>bB (ieq a b) K
def C2o:IT:= λ_ a b K=>bB (!ieq a b) K
def C2q:IT:= λ_ a b K=>bB (!oR b a) K
def C2r:IT:= λ_ a b K=>bB (oR a b) K
def C2s:IT:= λ_ a b K=>bB (!oR a b) K
def C2t:IT:= λ_ a b K=>bB (oR b a) K
def C2l:IT:= λk a b K=>ck (oR 0 b) (Og k (a*2^(min b.toNat k.bits)) λz=>K (.v (.int k z)))
def C2k:IT:= λk a b K=>ck (oR 0 b) (fI (a.fdiv (2^(min b.toNat k.bits))) λz=>K (.v (.int k z)))
def A3T (op:BinOp):IT:=match op with
 | .add=>B4o| .sub=>C2j| .mul=>C2p| .quo=>C2n| .rem=>C2m| .and=>B4n| .or=>iOr| .xor=>B4m| .andNot=>C2v
 | .eql=>C2u| .neq=>C2o| .lss=>C2q| .leq=>C2r| .gtr=>C2s| .geq=>C2t| .shl=>C2l| .shr=>C2k
def yU {k:IntKind} {a b:Int} (h:A3T op k a b K=some r):∃v,K (.v v)=some r/\(if IV op then kB op k a b=some v else nQ op k a b=some v):=by
 have hq:∀{x:Af},ck (!ieq b 0) x=some r->b≠0/\x=some r:= λh=>by
  obtain⟨h1,h2⟩:=B3 h;refine⟨λe=> ?_,h2⟩;subst e;simp[Q8] at h1
 have c:∀{x:Af},ck (oR 0 b) x=some r->0<=b/\x=some r:= λh=>by
  obtain⟨h1,h2⟩:=B3 h;rw[Lw] at h1;exact⟨by simpa using h1,h2⟩
 cases op<;>simp only[A3T,B4o,C2j,C2p,C2n,C2m,B4n,iOr,B4m,C2v,C2u,C2o,C2q,C2r,C2s,C2t,C2l,C2k,IQ,UZ,OC] at h<;>try (cases h;done)
 case add=>exact⟨_,h,rfl⟩
 case sub=>exact⟨_,h,rfl⟩
 case mul=>exact⟨_,h,rfl⟩
 case quo=>
  obtain⟨h1,h2⟩:=hq h;exact⟨_,h2,by simp[IV,nQ,h1]⟩
 case rem=>
  obtain⟨h1,h2⟩:=hq h;exact⟨_,h2,by simp[IV,nQ,h1]⟩
 case and=>exact⟨_,h,rfl⟩
 case or=>exact⟨_,h,rfl⟩
 case xor=>exact⟨_,h,rfl⟩
 case andNot=>exact⟨_,h,rfl⟩
 case shl=>
  obtain⟨h1,h2⟩:=c h;exact⟨_,h2,by simp only[IV,if_true,kB];rw[C4 (by omega)]⟩
 case shr=>
  obtain⟨h1,h2⟩:=c h;exact⟨_,h2,by simp only[IV,if_true,kB];rw[C4 (by omega)]⟩
 case eql=>exact⟨_,h,by simp only[IV,nQ,Q8];rw[show(a==b)=decide (a=b) from by by_cases e:a=b<;>simp[e]];simp⟩
 case neq=>exact⟨_,h,by simp only[IV,nQ,Q8,bne];rw[show(a==b)=decide (a=b) from by by_cases e:a=b<;>simp[e]];simp⟩
 case lss=>exact⟨_,h,by simp only[IV,nQ,Lw];rw[show(!decide (b<=a))=decide (a<b) from by rw[tG];simp];simp⟩
 case leq=>exact⟨_,h,by simp[IV,nQ,Lw]⟩
 case gtr=>exact⟨_,h,by simp only[IV,nQ,Lw];rw[show(!decide (a<=b))=decide (a>b) from by rw[tG];simp];simp⟩
 case geq=>exact⟨_,h,by simp[IV,nQ,Lw]⟩
def Y? (a:List UInt8):List UInt8->Bool:=
 @List.rec UInt8 (λ_=>List UInt8->Bool) (λb=>@List.rec UInt8 (λ_=>Bool) true (λ_ _ _=>false) b)
  (λx _ ih b=>@List.rec UInt8 (λ_=>Bool) false (λy l _=>@Bool.rec (λ_=>Bool) false (ih l) (Nat.beq x.toNat y.toNat)) b) a
def QA (a:List UInt8):∀b,Y? a b=(a==b):=by
 induction a with
 |nil=>intro b;cases b<;>rfl
 |cons x a ih=>
  intro b;cases b with
  |nil=>rfl
  |cons y b=>
   have e:Y? (x::a) (y::b)=@Bool.rec (λ_=>Bool) false (Y? a b) (Nat.beq x.toNat y.toNat):=rfl;rw[e,ih];cases h:Nat.beq x.toNat y.toNat
   ·have:x≠y:= λe=>by rw[e,mK] at h;cases h
    simp[this]
   ·have:x=y:=UInt8.toNat_inj.1 (YM h);simp[this]
def ltB (a:List UInt8):List UInt8->Bool:=
 @List.rec UInt8 (λ_=>List UInt8->Bool) (λb=>@List.rec UInt8 (λ_=>Bool) false (λ_ _ _=>true) b)
  (λx _ ih b=>@List.rec UInt8 (λ_=>Bool) false (λy l _=>@Bool.rec (λ_=>Bool) (@Bool.rec (λ_=>Bool) false (ih l) (Nat.beq x.toNat y.toNat)) true (Nat.blt x.toNat y.toNat)) b) a
def J? (a:List UInt8):∀b,ltB a b=Op.bytesLess a b:=by
 induction a with
 |nil=>intro b;cases b<;>rfl
 |cons x a ih=>
  intro b;cases b with
  |nil=>rfl
  |cons y b=>
   have e:ltB (x::a) (y::b)=@Bool.rec (λ_=>Bool) (@Bool.rec (λ_=>Bool) false (ltB a b) (Nat.beq x.toNat y.toNat)) true (Nat.blt x.toNat y.toNat):=rfl;rw[e,ih,Op.bytesLess];have h1:(Nat.blt x.toNat y.toNat)=decide (x<y):=by
    rw[tG];simp[Wj,UInt8.lt_iff_toNat_lt]
   have h2:(Nat.beq x.toNat y.toNat)=(x==y):=by
    rw[tG];simp[pO,UInt8.toNat_inj]
   rw[h1,h2];cases decide (x<y)
   ·cases (x==y)<;>rfl
   ·rfl
def B9H (op:BinOp) (a b:ByteArray) (K:AV->Af):Af:=
 match op with
 | .add=>Ym a.data.toList b.data.toList λl=>ck (Nat.blt l.length 9223372036854775808) (K (.v (.string ⟨⟨l⟩⟩)))
 | .eql=>bB (Y? a.data.toList b.data.toList) K
 | .neq=>bB (!Y? a.data.toList b.data.toList) K
 | .lss=>bB (ltB a.data.toList b.data.toList) K
 | .leq=>bB (ltB a.data.toList b.data.toList||Y? a.data.toList b.data.toList) K
 | .gtr=>bB (!(ltB a.data.toList b.data.toList||Y? a.data.toList b.data.toList)) K
 | .geq=>bB (!ltB a.data.toList b.data.toList) K
 |_=>none
def Xv (a:ByteArray):a.toList=a.data.toList:=ByteArray.toList_eq a
def A74 {a b:ByteArray} (h:B9H op a b K=some r):∃v,K (.v v)=some r/\A6u op a b=some v:=by
 cases op<;>simp only[B9H,OC,MD,QA,J?] at h<;>try (cases h;done)
 case add=>
  obtain⟨h1,h2⟩:=B3 h;refine⟨_,h2,?_⟩;rw[Wj] at h1;have c:IntKind.i64.max=9223372036854775807:=by decide
  have d:a.size+b.size=(a.data.toList++b.data.toList).length:=by rw[EY];rfl
  simp only[A6u];rw[C4 (by rw[c];omega)]
  congr 2
 all_goals exact⟨_,h,by simp[A6u,Xv]⟩
def Ap (i:TI) (op:BinOp) (a b:AV) (K:AV->Af):Af:=
 match a,b with
 | .v (.int k m),.v (.int c n)=>@Bool.rec (λ_=>Af) (ck (decide (k=c)) (A3T op k m n K)) (A3T op k m n K) (IV op)
 | .v (.string s),.v (.string u)=>B9H op s u K
 | .v (.bool p),.v (.bool q)=>match i.d,op with
  | .bool,.eql=>bB (p==q) K
  | .bool,.neq=>bB (!(p==q)) K
  |_,_=>none
 |a,b=>match A0T i.d a b,op with
  |some q,.eql=>bB q K
  |some q,.neq=>bB (!q) K
  |_,_=>none
def yY {ty:TypeId} {a b:AV} (j:T ty=some i) (h:Ap i op a b K=some r):∃v,K v=some r/\qP T op ty a b (λu=>u=v):=by
 unfold Ap at h;split at h
 ·rename_i k m w n;cases g:IV op
  ·rw[g] at h;obtain⟨h1,h2⟩:=B3 h;obtain⟨v,e,c⟩:=yU h2;rw[g] at c;exact⟨_,e,by simp only[qP,g,xY,if_false];exact⟨by simpa using h1,by simp only[xY,if_false] at c;rw[c];rfl⟩⟩
  ·rw[g] at h;obtain⟨v,e,c⟩:=yU h;rw[g] at c;exact⟨_,e,by simp only[qP,g,if_true];simp only[if_true] at c;rw[c];rfl⟩
 ·obtain⟨v,e,c⟩:=A74 h;exact⟨_,e,by simp only[qP];rw[c];rfl⟩
 ·rename_i p q;split at h
  ·rename_i s;rw[OC] at h;exact⟨_,h,by simp only[qP];exact⟨⟨i,j,s⟩,trivial⟩⟩
  ·rename_i s;rw[OC] at h;exact⟨_,h,by simp only[qP];exact⟨⟨i,j,s⟩,trivial⟩⟩
  ·cases h
 ·rename_i h1 h2 e;have t:∀Kp:AV->Prop,(∃q,A0T i.d a b=some q/\((op= .eql/\Kp (.v (.bool q)))\/(op= .neq/\Kp (.v (.bool (!q))))))->qP T op ty a b Kp:= λKp f=>by
   obtain⟨q,hq,f⟩:=f;unfold qP;split
   ·exact(h1 _ _ _ _ rfl rfl).elim
   ·exact(h2 _ _ rfl rfl).elim
   ·exact(e _ _ rfl rfl).elim
   ·rw[j];simp only[hq];rcases f with⟨rfl,f⟩|⟨rfl,f⟩<;>exact f
  cases hq:A0T i.d a b with
  |none=>rw[hq] at h;cases h
  |some q=>
   rw[hq] at h;cases op<;>first|(cases h;done)|skip
   ·simp only[OC] at h;exact⟨_,h,t _ ⟨q,hq,.inl ⟨rfl,rfl⟩⟩⟩
   ·simp only[OC] at h;exact⟨_,h,t _ ⟨q,hq,.inr ⟨rfl,rfl⟩⟩⟩
def Mg (op:UnOp) (a:AV) (K:AV->Af):Af:=
 match op,a with
 | .neg,.v (.int k n)=>Og k (Int.sub 0 n) λz=>K (.v (.int k z))
 | .xor,.v (.int k n)=>fI (k.wrap ((BitVec.ofInt k.bits (if k.signed then-1 else k.max)^^^BitVec.ofInt k.bits n).toNat)) λz=>K (.v (.int k z))
 | .not,.v (.bool b)=>bB (!b) K
 |_,_=>none
def B0U {op:UnOp} (h:Mg op a K=some r):∃v,K v=some r/\xun op a (λb=>b=v):=by
 unfold Mg at h;split at h
 ·rw[IQ] at h;exact⟨_,h,rfl⟩
 ·rw[UZ] at h;exact⟨_,h,rfl⟩
 ·rw[OC] at h;exact⟨_,h,rfl⟩
 ·cases h
def Jc (i j:TI) (a:AV) (K:AV->Af):Af:=
 match j.d,a with
 | .int k,.v (.int _ n)=>Og k n λz=>K (.v (.int k z))
 | .string,.v (.string s)=>match i.d with| .string=>K (.v (.string s))|_=>none
 |_,_=>none
def A3Y {s d:TypeId} {i j:TI} (c:T s=some i) (e:T d=some j) (h:Jc i j a K=some r):∃v,K v=some r/\xF T s d a (λg=>g=v):=by
 unfold Jc at h;split at h
 ·rename_i b;rw[IQ] at h;exact⟨_,h,by simp only[xF,c,e,b]⟩
 ·rename_i b;split at h
  ·rename_i f;exact⟨_,h,by simp only[xF,c,e,b,f];exact⟨trivial,trivial⟩⟩
  ·cases h
 ·cases h
end
end
section
variable {a ix v x:AV} {K:AV->Af} {fs:List (Nat×Nat×TypeId)} {f ft off sz:Nat} {i j:TI}
section
variable {T:Ty} {H:Hp} {r:AV×Hp}
def CV (off:Nat) (v:AV) (K:AV->Af):Af:=
 match v with
 | .ptr s p k=>fN (Nat.add (Nat.add p k) off) λo=>K (.ptr s o 0)
 | .iptr cs=>K (.iptr (Di off cs))
 |_=>none
def B1b {ty:TypeId} (b:T ty=some i) (c:i.d= .struct fs) (e:fs[f]?=some (off,sz,ft)) (hz:sz≠0) (h:CV off v K=some r):∃u,K u=some r/\jB T ty v f (λg=>g=u):=by
 unfold CV at h;split at h
 ·rw[DT] at h;refine⟨_,h,?_⟩;simp only[jB,b,c,e];exact⟨hz,_,0,by simp[kX],rfl⟩
 ·rw[C6] at h;refine⟨_,h,?_⟩;simp only[jB,b,c,e];exact⟨hz,trivial⟩
 ·cases h
def B1a (off:Nat) (j:TI) (v:AV) (K:AV->Af):Af:=
 match v with
 | .agg cs=>mP j (Di off cs) K
 |_=>none
def A7b {ty:TypeId} (b:T ty=some i) (c:i.d= .struct fs) (e:fs[f]?=some (off,sz,ft)) (g:T ft=some j) (h:B1a off j v K=some r):∃u,K u=some r/\qL T ty v f (λk=>k=u):=by
 unfold B1a at h;split at h
 ·rw[C6] at h;obtain⟨u,h1,h2⟩:=Wx (T:=T) (ty:=ft) g h;exact⟨u,h1,by simp only[qL,b,c,e];exact h2⟩
 ·cases h
def L? (a:AV) (K:Int->Af):Af:=match a with| .v (.int _ n)=>K n|_=>none
def P0 {K:Int->Af} (h:L? a K=some r):∃k n,a= .v (.int k n)/\K n=some r:=by
 unfold L? at h;split at h
 ·exact⟨_,_,rfl,h⟩
 ·cases h
def Dw (i:TI) (x ix:AV) (K:AV->Af):Af:=
 L? ix λz=>iN z λn=>match i.d,x with
  | .slice _ b,.list m cs=>ck (Nat.blt n m) (SB b (Di (Nat.mul n b) cs) λc=>K (.iptr c))
  | .slice _ b,.sl _ s o m=>ck (Nat.blt n m) (fN (Nat.add o (Nat.mul n b)) λp=>K (.ptr s p 0))
  | .array m _ b,.ptr s p k=>ck (Nat.blt n m) (fN (Nat.add (Nat.add p k) (Nat.mul n b)) λq=>K (.ptr s q 0))
  | .array m _ b,.iptr cs=>ck (Nat.blt n m) (SB b (Di (Nat.mul n b) cs) λc=>K (.iptr c))
  |_,_=>none
def B15 {ty:TypeId} (d:T ty=some i) (h:Dw i x ix K=some r):∃u,K u=some r/\qK T ty x ix (λe=>e=u):=by
 unfold Dw at h;obtain⟨k,z,rfl,c⟩:=P0 h;clear h;obtain⟨n,rfl,h⟩:=Wm c;clear c;unfold qK;rw[d];simp only;split at h
 ·rename_i b;obtain⟨h1,h⟩:=B3 h;rw[Oh,C6] at h;rw[Wj] at h1;exact⟨_,h,by simp only[b,kV];exact⟨⟨by omega,by omega⟩,rfl⟩⟩
 ·rename_i b;obtain⟨h1,h⟩:=B3 h;rw[DT] at h;rw[Wj] at h1;exact⟨_,h,by simp only[b,kV];exact⟨⟨by omega,by omega⟩,rfl⟩⟩
 ·rename_i b;obtain⟨h1,h⟩:=B3 h;rw[DT] at h;rw[Wj] at h1;exact⟨_,h,by simp only[b,kV];exact⟨⟨by omega,by omega⟩,_,0,by simp[kX],rfl⟩⟩
 ·rename_i b;obtain⟨h1,h⟩:=B3 h;rw[Oh,C6] at h;rw[Wj] at h1;exact⟨_,h,by simp only[b,kV];exact⟨⟨by omega,by omega⟩,rfl⟩⟩
 ·cases h
def B60 (l:List UInt8) (K:AV->Af):Af:=@List.rec UInt8 (λ_=>Af) none (λb _ _=>fN b.toNat λn=>K (.v (.int .u8 (.ofNat n)))) l
def iA (i j:TI) (x ix:AV) (K:AV->Af):Af:=
 L? ix λz=>iN z λn=>match i.d,x with
  | .string,.v (.string s)=>B60 (Di n s.data.toList) K
  | .array m _ b,.agg cs=>ck (Nat.blt n m) (mP j (Di (Nat.mul n b) cs) K)
  |_,_=>none
def gY (i:TI):Option TypeId:=match i.d with| .array _ e _=>some e| .slice e _=>some e|_=>none
def A7a {ty:TypeId} (t:T ty=some i) (w:∀e,gY i=some e->T e=some j) (h:iA i j x ix K=some r):∃u,K u=some r/\qJ T ty x ix (λA=>A=u):=by
 unfold iA at h;obtain⟨k,z,rfl,g⟩:=P0 h;clear h;obtain⟨n,rfl,h⟩:=Wm g;clear g;unfold qJ;rw[t];simp only;split at h
 ·rename_i s c;rw[C6] at h;cases d:s.data.toList.drop n with
  |nil=>rw[d] at h;cases h
  |cons b l=>
   rw[d] at h;have h:(fN b.toNat λn=>K (.v (.int .u8 (.ofNat n))))=some r:=h;rw[DT] at h;have y:n<s.data.toList.length:=by
    have:=congrArg List.length d;simp at this;simp;omega
   have hb:s.data.toList[n]?=some b:=by
    have:=congrArg (λl=>l[0]?) d;simpa using this
   refine⟨_,h,?_⟩;simp only[c,kV];refine⟨⟨by omega,?_⟩,?_⟩
   ·have:s.size=s.data.toList.length:=rfl;omega
   ·rw[Vl,hb];rfl
 ·rename_i m e p cs c;obtain⟨h1,h⟩:=B3 h;rw[C6] at h;rw[Wj] at h1;obtain⟨u,h2,q⟩:=Wx (T:=T) (ty:=e) (w e (by simp[gY,c])) h;exact⟨u,h2,by simp only[c,kV];exact⟨⟨by omega,by omega⟩,q⟩⟩
 ·cases h
def Xh (x:Option AV) (d:Nat) (K:Nat->Af):Af:=
 match x with
 |none=>fN d K
 |some a=>L? a λz=>iN z K
def Jo {x:Option AV} {d:Nat} {K:Nat->Af} (h:Xh x d K=some r):∃n:Nat,Za x d=some (n:Int)/\K n=some r:=by
 unfold Xh at h;split at h
 ·rw[DT] at h;exact⟨d,rfl,h⟩
 ·obtain⟨k,z,rfl,h1⟩:=P0 h;obtain⟨n,rfl,h2⟩:=Wm h1;exact⟨n,rfl,h2⟩
def Ee (i:TI) (x:AV) (k g mx:Option AV) (K:AV->Af):Af:=
 match i.d,x with
 | .string,.v (.string s)=>ck mx.isNone (Xh k 0 λl=>HI s.data.toList 0 λm=>Xh g m λh=>ck (Nat.ble l h&&Nat.ble h m) (SB (Nat.sub h l) (Di l s.data.toList) λb=>K (.v (.string ⟨⟨b⟩⟩))))
 | .slice _ e,.list m cs=>Xh k 0 λl=>Xh g m λh=>Xh mx m λx=>ck ((mx.isNone||g.isSome)&&(Nat.ble l h&&(Nat.ble h x&&Nat.ble x m))) (fN (Nat.sub h l) λn=>SB (Nat.mul n e) (Di (Nat.mul l e) cs) λc=>K (.list n c))
 | .slice _ e,.sl sz s o m=>ck (Nat.beq e sz) (Xh k 0 λl=>Xh g m λh=>Xh mx m λx=>ck ((mx.isNone||g.isSome)&&(Nat.ble l h&&(Nat.ble h x&&Nat.ble x m))) (fN (Nat.add o (Nat.mul l e)) λp=>fN (Nat.sub h l) λn=>K (.sl sz s p n)))
 | .slice _ _,.v (.slice none 0 0)=>ck mx.isNone (Xh k 0 λl=>Xh g 0 λh=>ck (Nat.beq l 0&&Nat.beq h 0) (K (.v (.slice none 0 0))))
 |_,_=>none
def A1w {ty:TypeId} {t q mx:Option AV} (w:T ty=some i) (h:Ee i x t q mx K=some r):∃u,K u=some r/\qH T ty x t q mx (λA=>A=u):=by
 unfold Ee at h;unfold qH;rw[w];simp only;split at h
 ·rename_i s b;obtain⟨g,h⟩:=B3 h;obtain⟨l,c,h⟩:=Jo h;rw[Co] at h;obtain⟨n,hn,h⟩:=Jo h;obtain⟨h1,h⟩:=B3 h;rw[Oh,C6] at h;simp only[Kw,iS] at h1;have hz:0+s.data.toList.length=s.size:=JQ _;rw[hz] at hn h1;refine⟨_,h,?_⟩;simp only[b,c,hn,LL,kV];refine⟨g,⟨by omega,by omega,by omega⟩,?_⟩
  congr 2
  apply ByteArray.ext;apply oQ;simp only[ByteArray.data_extract,Array.toList_extract,List.extract];rfl
 ·rename_i e d m cs b;obtain⟨l,c,h⟩:=Jo h;obtain⟨n,hn,h⟩:=Jo h;obtain⟨y,p,h⟩:=Jo h;obtain⟨h1,h⟩:=B3 h;rw[DT,Oh,C6] at h;simp only[Kw,iS] at h1;refine⟨_,h,?_⟩;have k:((n:Int)-l).toNat=n-l:=by omega
  simp only[b,c,hn,p,LL,kV,k];refine⟨⟨by omega,by omega,by omega,by omega⟩,λhm=> ?_,rfl⟩;cases mx with
  |none=>simp at hm
  |some _=>simpa using h1.1
 ·rename_i e d sz s o m b;obtain⟨g,h⟩:=B3 h;obtain⟨l,c,h⟩:=Jo h;obtain⟨n,hn,h⟩:=Jo h;obtain⟨y,p,h⟩:=Jo h;obtain⟨h1,h⟩:=B3 h;rw[DT,DT] at h;simp only[Kw,iS] at h1;refine⟨_,h,?_⟩;have k:((n:Int)-l).toNat=n-l:=by omega
  simp only[b,c,hn,p,LL,kV,k];refine⟨YM g,⟨by omega,by omega,by omega,by omega⟩,λhm=> ?_,rfl⟩;cases mx with
  |none=>simp at hm
  |some _=>simpa using h1.1
 ·rename_i e d b;obtain⟨g,h⟩:=B3 h;obtain⟨l,c,h⟩:=Jo h;obtain⟨n,hn,h⟩:=Jo h;obtain⟨h1,h⟩:=B3 h;simp only[Kw,pO] at h1;refine⟨_,h,?_⟩;simp only[b,c,hn,LL];exact⟨g,⟨by omega,by omega⟩,trivial⟩
 ·cases h
def Cx (v:AV) (k:Nat) (K:AV->Af):Af:=match v with| .tup vs=>hdK (Di k vs) K|_=>none
def A7c {k:Nat} (h:Cx v k K=some r):∃vs u,v= .tup vs/\vs[k]?=some u/\K u=some r:=by
 unfold Cx at h;split at h
 ·rename_i vs;rw[C6] at h;obtain⟨a,l,b,h⟩:=A1c h;refine⟨vs,a,rfl,?_,h⟩;have:=congrArg (λl=>l[0]?) b;simpa using this
 ·cases h
def Bq (i:TI) (x:AV) (K:AV->Af):Af:=
 match i.d,x with
 | .string,.v (.string s)=>HI s.data.toList 0 λn=>K (.v (.int .i64 (.ofNat n)))
 | .slice _ _,.list n _=>K (.v (.int .i64 (.ofNat n)))
 | .slice _ _,.sl _ _ _ n=>K (.v (.int .i64 (.ofNat n)))
 | .slice _ _,.v (.slice none 0 0)=>K (.v (.int .i64 (.ofNat 0)))
 | .array n _ _,_=>K (.v (.int .i64 (.ofNat n)))
 |_,_=>none
def A79 {ty:TypeId} (c:T ty=some i) (h:Bq i x K=some r):∃u,K u=some r/\A80 T ty x (λd=>d=u):=by
 unfold Bq at h;unfold A80;rw[c];simp only;split at h
 ·rename_i s b;rw[Co] at h;refine⟨_,h,?_⟩;simp only[b];rw[JQ];rfl
 ·rename_i b;exact⟨_,h,by simp only[b];rfl⟩
 ·rename_i b;exact⟨_,h,by simp only[b];rfl⟩
 ·rename_i b;exact⟨_,h,by simp only[b];rfl⟩
 ·rename_i b;exact⟨_,h,by simp only[b];rfl⟩
 ·cases h
def eMM (c:Bool) (a b:AV) (K:AV->Af):Af:=
 match a,b with
 | .v (.int k x),.v (.int d y)=>ck (decide (k=d)) (@Bool.rec (λ_=>Af) (@Bool.rec (λ_=>Af) (K (.v (.int k y))) (K (.v (.int k x))) (oR y x)) (@Bool.rec (λ_=>Af) (K (.v (.int k y))) (K (.v (.int k x))) (oR x y)) c)
 | .v (.string s),.v (.string u)=>@Bool.rec (λ_=>Af) (K (.v (.string u))) (K (.v (.string s))) (@Bool.rec (λ_=>Bool) (!ltB s.data.toList u.data.toList) (ltB s.data.toList u.data.toList||Y? s.data.toList u.data.toList) c)
 |_,_=>none
def A1C {c:Bool} {a b:AV} (h:eMM c a b K=some r):∃u,K u=some r/\xmm c a b (λm=>m=u):=by
 unfold eMM at h;split at h
 ·rename_i k x g y;obtain⟨h1,h⟩:=B3 h;simp only[xmm];have e:k=g:=by simpa using h1
  cases c
  ·rw[Lw] at h;by_cases d:y<=x
   ·rw[Iu d] at h;exact⟨_,h,e,by rw[C4 (by simp),C4 (by omega)]⟩
   ·rw[IG d] at h;exact⟨_,h,e,by rw[C4 (by simp),Dj (by omega)]⟩
  ·rw[Lw x y] at h;by_cases d:x<=y
   ·rw[Iu d] at h;exact⟨_,h,e,by rw[Dj rfl,C4 (by omega)]⟩
   ·rw[IG d] at h;exact⟨_,h,e,by rw[Dj rfl,Dj (by omega)]⟩
 ·rename_i s u;simp only[xmm];cases c
  ·simp only[J?,Xv] at h⊢;cases hb:(!Op.bytesLess s.data.toList u.data.toList)<;>(rw[hb] at h;exact⟨_,h,rfl⟩)
  ·simp only[J?,QA,Xv] at h⊢;cases hb:(Op.bytesLess s.data.toList u.data.toList||s.data.toList==u.data.toList)<;>(rw[hb] at h;exact⟨_,h,rfl⟩)
 ·cases h
end
end
section
variable {r:AV×Hp} {tmps:Array Value} {fn:Func} {args:List AV} {ys:List Value} {i k m:Nat} {t:Tm} {wa:World}
def Ctx.delB (C:Ctx) (b:Nat):Ctx:={C with B:= λk=>C.B k/\k≠b}
section
variable {P:Program} {G:Gl} {w0:Base} {C:Ctx} {H:Hp} {w w':World} {b:Nat} {o o':Obj}
def R? (hb:w.heap[b]?=some o) (a:∀arr T fz,o≠.cells arr T fz) {v:Value} (h:w.cell? ⟨k,i,none⟩=some v):k≠b:=by
 intro e;subst e;simp only[World.cell?,hb] at h;cases o<;>simp at h
 exact a _ _ _ rfl
def SameObj.cell (c:SameObj w w' b o') (a:k≠b):w'.cell? ⟨k,i,none⟩=w.cell? ⟨k,i,none⟩:=l0t (c.others k a)
def VRel.shut (hb:w.heap[b]?=some (.deferred (some []))) (f:SameObj w w' b o') {a:AV} {y:Value} (h:VRel C w a y):VRel (C.delB b) w' a y:=by
 have p:∀arr T fz,(Obj.deferred (some []):Obj)≠.cells arr T fz:= λ_ _ _ h=>by cases h
 induction h with
 |v x=>exact .v x
 |ptr h=>exact .ptr h
 |iptr vs q hc _ ih=>exact .iptr vs q (λi c=>(f.cell (R? hb p (hc i c))).trans (hc i c)) (λi c=>ih i c hb f)
 |list0=>exact .list0
 |list h vs q hc _ ih=>exact .list h vs q (λi c=>(f.cell (R? hb p (hc i c))).trans (hc i c)) (λi c=>ih i c hb f)
 |sl h j d hsz=>exact .sl h j ((f.others _ (λe=>by subst e;rw[hb] at d;cases d)).trans d) hsz
 |slz hr=>exact .slz hr
 |fn ys F g s _ _ u A=>exact .fn ys F g s (λi c=>u i c hb f) (λi c=>A i c hb f)
 |agg ys g _ ih=>exact .agg ys g (λi c=>ih i c hb f)
 |tup ys g _ ih=>exact .tup ys g (λi c=>ih i c hb f)
 |mp h=>exact .mp h
 |@imap C w J b2 clock ms B d g D hn hc _ ih=>
  have n:b2≠b:= λe=>by subst e;rw[hb] at d;cases d
  exact .imap ms ⟨B,n⟩ ((f.others _ n).trans d) g D hn hc (λi c=>ih i c hb f)
 |yl h=>exact .yl h
 |it h=>exact .it h
 |dk y=>exact .dk y
theorem CG.shut (hb:w.heap[b]?=some (.deferred (some []))) (e:SameObj w w' b o') {c:List AV} (h:CG C w c ys):CG (C.delB b) w' c ys:=
 ⟨h.1,λi a d=>let⟨y,f,hv⟩:=h.2 i a d;⟨y,f,hv.shut hb e⟩⟩
theorem LB.shut (hb:w.heap[b]?=some (.deferred (some []))) (d:SameObj w w' b o') {es:List (Value×AV)} {ms:List MapEntry} (h:LB C w es ms):LB (C.delB b) w' es ms:=
 ⟨h.1,λi p c=>let⟨m,hm,a,hv⟩:=h.2 i p c;⟨m,hm,a,hv.shut hb d⟩⟩
theorem dS.shut (hb:w.heap[b]?=some (.deferred (some []))) (d:SameObj w w' b o') {ms:Array MapEntry} {seen:Array Nat}:∀{x:Option (Value×AV)},dS C w ms seen x->dS (C.delB b) w' ms seen x
 |none,_=>trivial
 |some _,⟨m,h1,h2,a,c⟩=>⟨m,h1,h2,a,c.shut hb d⟩
theorem WM.shut (hb:w.heap[b]?=some (.deferred (some []))) (a:SameObj w w' b o') (h:WM C w t tmps):WM (C.delB b) w' t tmps:= λi=>(h i).shut hb a
def A0t (q:Bool):(C.delB b).sel q=(C.sel q).delB b:=by cases q<;>rfl
theorem SR.shut (hb:w.heap[b]?=some (.deferred (some []))) (a:SameObj w w' b o') {r:Nat} {x:Row} (h:SR C w r x):SR (C.delB b) w' r x:=by
 have ne:∀{k:Nat} {q:Obj},w.heap[k]?=some q->(∀l,q≠.deferred l)->k≠b:= λn hq e=>by
  subst e;rw[hb] at n;injection n with n;exact hq _ n.symm
 cases x with
 |cells q T cs=>
  rcases h with⟨h1,h2⟩|⟨k,f,arr,fz,h⟩
  ·exact .inl ⟨h1,h2⟩
  ·refine .inr ⟨k,f,arr,fz,h.at_,(a.others k (ne h.block (λ_ e=>by cases e))).trans h.block,h.free,h.fits,?_,h.exact⟩;rw[A0t];exact h.vals.shut hb a
 |map q M L=>
  obtain⟨k,ms,clock,h1,c,g,d,j⟩:=h;refine⟨k,ms,clock,h1,(a.others k (ne c (λ_ e=>by cases e))).trans c,g,?_,j⟩;rw[A0t];exact d.shut hb a
 |loop N t ps J K u=>
  obtain⟨k,l,h1,h2,c,g,d,j,p,s,B⟩:=h;exact⟨k,l,h1,(a.others k (ne h2 (λ_ e=>by cases e))).trans h2,c,g,d,j,p,s,B.shut hb a⟩
 |iter left D=>
  obtain⟨k,F,since,seen,last,h1,h2,c⟩:=h;refine⟨k,F,since,seen,last,h1,(a.others k (ne h2 (λ_ e=>by cases e))).trans h2,?_⟩;rcases c with c|⟨m,ms,clock,v,y,A,g,d,j,p,s⟩
  ·exact .inl c
  ·have hm:=ne d (λ_ e=>by cases e);exact .inr ⟨m,ms,clock,v,y,A,⟨g,hm⟩,(a.others m hm).trans d,j,p.shut (C:=C.bare) hb a,s.shut (C:=C.bare) hb a⟩
 |gone=>trivial
theorem Rel.shut (h:Rel G w0 C H w) (hb:w.heap[b]?=some (.deferred (some []))) (n:w0.own b) (a:SameObj w w' b o'):Rel G w0 (C.delB b) H w':=by
 have d:∀arr T fz,(Obj.deferred (some []):Obj)≠.cells arr T fz:= λ_ _ _ h=>by cases h
 refine⟨λg cs j i v hv=> ?_,h.below.same_obj a n,h.lt,λr x e=>(h.rows r x e).shut hb a,λr x k o e p=> ?_,h.sep,λk i f=>a.size▸h.fin k i f,λk c=>a.size▸h.finB k c.1,h.nx⟩
 ·have:=h.glob g cs j i v hv;exact⟨this.1,(a.cell (R? hb d this.2)).trans this.2⟩
 ·have:=h.own r x k o e p;exact⟨this.1,this.2.1,λc=>this.2.2 c.1⟩
def A5O (E:XE) (t:Tm) (H:Hp) (rs:List ResultVar):(List AV->Af)->Af:=
 @List.rec ResultVar (λ_=>(List AV->Af)->Af) (λK=>K [])
  (λr _ ih K=>match r with
   | .tmp i=>gtm t i λv=>ih λvs=>K (v::vs)
   | .cell a ty=>gtm t a λp=>E.ty.getK ty λi=>AF i p H λv=>ih λvs=>K (v::vs)) rs
def oX (vs:List AV) (K:AV->Af):Af:=
 @List.rec AV (λ_=>Af) (K (.tup [])) (λv l _=>@List.rec AV (λ_=>Af) (K v) (λu a _=>K (.tup (v::u::a))) l) vs
def A8Q:List AV->AV
 |[v]=>v
 |vs=> .tup vs
def A2d (vs:List AV) (K:AV->Af):oX vs K=K (A8Q vs):=by
 match vs with
 |[]=>rfl
 |[v]=>rfl
 |v::u::l=>rfl
def XE.T (E:XE):Ty:= λty=>E.ty.get ty
def Bc {α:Type} {b:BT α} {K:α->Af} (h:b.getK i K=some r):∃v,b.get i=some v/\K v=some r:=by
 rw[BT.getK_eq] at h;split at h
 ·exact⟨_,by assumption,h⟩
 ·cases h
def A8W (tmps:Array Value):ResultVar->Sem Value
 | .tmp t=>pure (tmps.getD t undef)
 | .cell x t=>do loadVar t (<-asAddr (tmps.getD x undef))
def A5N {E:XE} {T:Ty} (y:iP P T) (s:∀ty i,E.ty.get ty=some i->T ty=some i) (hr:Rel G w0 C H w) (f:WM C w t tmps):∀(rs:List ResultVar) (K:List AV->Af),A5O E t H rs K=some r->
 ∃vs ys,(rs.mapM (A8W tmps)).run P w= .ok ys w/\CG C w vs ys/\K vs=some r:=by
 intro rs
 induction rs with
 |nil=>intro K h;exact⟨[],[],rfl,.nil,h⟩
 |cons x rs ih=>
  intro K h;cases x with
  |tmp i=>
   have h:(gtm t i λv=>A5O E t H rs λvs=>K (v::vs))=some r:=h;rw[Wo] at h;obtain⟨vs,ys,h1,h2,d⟩:=ih _ h;refine⟨_,_::ys,?_,.cons (f i) h2,d⟩;rw[List.mapM_cons];simp only[A8W,Dk,kW,FU,h1]
  |cell x ty=>
   have h:(gtm t x λp=>E.ty.getK ty λi=>AF i p H λv=>A5O E t H rs λvs=>K (v::vs))=some r:=h;rw[Wo] at h;obtain⟨i,A,h⟩:=Bc h;obtain⟨u,h,B⟩:=A1H (T:=T) (s _ _ A) h;obtain⟨v,z,h1,h2,d⟩:=mD y hr (f x) B;subst d;obtain⟨vs,ys,g,j,n⟩:=ih _ h;refine⟨v::vs,z::ys,?_,.cons h2 j,n⟩;rw[List.mapM_cons];have c:(do loadVar ty (<-asAddr (tmps.getD x undef)):Sem Value).run P w= .ok z w:=by
    generalize tmps.getD x undef=q at*;cases q<;>simp only[Instr.loadAt,Instr.sureAddr,Dk,run_stuck,Result.andThen_halt] at h1<;>try (cases h1;done)
    rename_i e;cases e with
    |none=>simp at h1
    |some e=>simpa [asAddr] using h1
   have a:(A8W tmps (.cell x ty)).run P w= .ok z w:=c;rw[Dk,a];simp only[FU,Dk,g,kW]
def D?:List Value->Value
 |[y]=>y
 |ys=> .tuple ys.toArray
def A0y (h:(fn.results.toList.mapM (A8W tmps)).run P w= .ok ys w):
 (results fn tmps).run P w= .ok (D? ys) w:=by
 have e:results fn tmps=(do
  let vs<-fn.results.mapM (A8W tmps)
  pure (if h:vs.size=1 then vs[0] else .tuple vs)):=by
  unfold results
  congr 1
 rw[e,Dk,Array.mapM_eq_mapM_toList,Sem.run_map,h];simp only[FU,kW]
 congr 1
 match ys with
 |[]=>rfl
 |[y]=>rfl
 |y::z::ys=>simp[D?]
def A2U {vs:List AV} (h:CG C w vs ys):VRel C w (A8Q vs) (D? ys):=by
 match vs,ys,h with
 |[],[],h=>exact DC.2 ⟨[],rfl,h⟩
 |[v],[y],h=>exact h.get 0 (by simp)
 |v::u::vs,y::z::ys,h=>exact DC.2 ⟨_,rfl,h⟩
 |[],_::_,h=>exact absurd h.1 (by simp)
 |[v],[],h=>exact absurd h.1 (by simp)
 |[v],_::_::_,h=>exact absurd h.1 (by simp)
 |_::_::_,[],h=>exact absurd h.1 (by simp)
 |_::_::_,[_],h=>exact absurd h.1 (by simp)
def numbered:Nat->List AV->Tm
 |_,[]=>[]
 |k,a::c=>(k,a)::numbered (k+1) c
def vP:∀(c:List AV) (k i:Nat),HZ (numbered k c) i=if k<=i/\i<k+c.length then c.getD (i-k) .dk else .dk:=by
 intro c
 induction c with
 |nil=>intro k i;simp[numbered,HZ]
 |cons a c ih=>
  intro k i;simp only[numbered,HZ];by_cases d:i=k
  ·subst d;simp
  ·rw[C4 d,ih];by_cases h:k<=i/\i<k+(a::c).length
   ·simp only[LP] at h;rw[Dj (by omega),Dj (by simp only[LP];omega)];have:i-k=(i-(k+1))+1:=by omega
    rw[this];simp
   ·simp only[LP] at h;rw[C4 (by omega),C4 (by simp only[LP];omega)]
def B4A (c:List AV):Nat->(Tm->Af)->Af:=
 (λ(_:Unit)=>@List.rec AV (λ_=>Nat->(Tm->Af)->Af) (λ_ K=>K []) (λa _ ih k K=>fNS (Nat.succ k) λd=>ih d λt=>K ((k,a)::t)) c) Iq
def B4z (c:List AV):∀(k:Nat) (K:Tm->Af),B4A c k K=K (numbered k c):=by
 induction c with
 |nil=>intro k K;rfl
 |cons a c ih=>
  intro k K;have:B4A (a::c) k K=fNS (Nat.succ k) λd=>B4A c d λt=>K ((k,a)::t):=rfl;rw[this,B0M,ih];rfl
theorem WM.numbered {n:Nat} (d:CG C w args ys):WM C w (numbered 0 args) (ys.toArray++Array.replicate n undef):=by
 intro i;rw[vP];have c:=d.1;split
 ·rename_i e;have a:i<args.length:=by omega
  have:=d.get i a;simp only[Nat.sub_zero,Vl,K9 a,l1q,dV];rw[Array.getElem?_append_left (by simp;omega)];simp[c,a];exact this
 ·exact .dk _
theorem Frm.delB {O:Nat->Prop} {C0:Ctx} (h:Frm m O C0 wa C w) (a:∀k,C0.B k->k<wa.heap.size) (f:∀k i,C0.F k i->k<wa.heap.size) (hb:wa.heap.size<=b) (g:w.heap[b]?=some (.deferred (some []))) (d:SameObj w w' b o'):Frm m O C0 wa (C.delB b) w':=
 ⟨h.π,h.F,λk i j=>(d.cell (by have:=f k i j;omega)).trans (h.keep k i j),λk c=>⟨h.B k c,by have:=a k c;omega⟩,λk c=>(d.others k (by have:=a k c;omega)).trans (h.keepB k c),
  λk arr T fz n=>by
   obtain⟨a1,f1,h1,h2⟩:=h.size k arr T fz n;exact⟨a1,f1,(d.others k (λe=>by subst e;rw[g] at h1;cases h1)).trans h1,h2⟩,
  h.new,λk c=>h.newB k c.1,by rw[d.size];exact h.grow⟩
def K! {R:Ending->World->Prop} {m s0:Nat} {C0:Ctx} (d:∀k,C0.B k->k<wa.heap.size) (n:∀k i,C0.F k i->k<wa.heap.size) (K:wa.heap.size<=s0)
 (g:∀C w,Rel G w0 C H w->WM C w t tmps->Frm m w0.own C0 wa C w->∃v,(results fn tmps).run P w= .ok v w/\R (.returned v) w):
 ∀(a:List Nat) (C:Ctx) (w:World),a.Nodup->(∀b∈a,s0<=b/\w0.own b/\C.B b/\w.heap[b]?=some (.deferred (some [])))->Rel G w0 C H w->WM C w t tmps->Frm m w0.own C0 wa C w->
  LeavesInM (Fe none) 0 P fn tmps R (a.map J') .returning w:=by
 intro a
 induction a with
 |nil=>
  intro C w _ _ hr u j;exact g C w hr u j
 |cons b a ih=>
  intro C w hn hb hr u j;obtain⟨h1,h2,L,c⟩:=hb b (by simp);obtain⟨q,s⟩:=List.nodup_cons.1 hn;have p:=(l1v.1 c).1;have h:SameObj w (w.putObj b (.deferred none)) b (.deferred none):=SameObj.putObj p _;refine⟨by simp,.inl ⟨b,_,rfl,run_takeDeferred c,ih (C.delB b) _ s (λk x=> ?_) (hr.shut c h2 h) (u.shut c h) (j.delB d n (by omega) c h)⟩⟩;obtain⟨y,A,D,J⟩:=hb k (by simp[x]);have f:k≠b:= λe=>q (e▸x);exact⟨y,A,⟨D,f⟩,(h.others k f).trans J⟩
def C0A (E:XE) (rs:List ResultVar) (K:KV):Exit->Tm->Hp->Af:= λe t H=>
 match e with
 | .normal=>A5O E t H rs λvs=>oX vs λv=>K v H
 | .ret=>A5O E t H rs λvs=>oX vs λv=>K v H
 |_=>none
def A7y {E:XE} {T:Ty} (N:iP P T) (L:∀ty i,E.ty.get ty=some i->T ty=some i) {f:FuncId} {c:Code} {K:KV} (O:P.funcs[f]?=some fn) (hb:fn.body=some c)
 (h:Tc P G none (Ao H) (args.length+(fn.ntmps-args.length)) c (λe t a=>C0A E fn.results.toList K e t a=some r) (numbered 0 args) H):QF P G f args H (λv a=>K v a=some r):=by
 intro w0 C w ys p A;refine callsIn_wide.1 (callsIn_of_wp_marks (n:=0) O hb trivial ?_);have g:=A.1;have M:St G w0 w.heap.size C (args.length+(fn.ntmps-args.length)) (numbered 0 args) H {tmps:=ys.toArray++Array.replicate (fn.ntmps-ys.toArray.size) undef,defers:=[]} w:=⟨p,by simp[g],.numbered A,.nil,Mb _⟩
 have Q:=h w0 w.heap.size C _ w M;have j:Fe none=Fence.wide:=rfl;rw[<-j];refine wpIn_mono Q λe u w' ⟨d,B,a,s,V,q⟩=> ?_;have fin:(A5O E B a fn.results.toList λvs=>oX vs λv=>K v a)=some r->LeavesInM (Fe none) 0 P fn u.tmps (λe w'=>∃v y d a,e= .returned y/\Rel G w0 d a w'/\VRel d w' v y/\Frm (Ao H) w0.own C w d w'/\K v a=some r) u.defers .returning w':=by
  intro q;obtain⟨F,d1,d2,J⟩:=s.defers;rw[d2];refine K! (H:=a) (t:=B) (C0:=C) (wa:=w) (m:=Ao H) (s0:=w.heap.size) p.finB p.fin (Mb _) (λD w1 r1 R f1=> ?_) F d w' d1 J s.rel s.tmps V;obtain⟨vs,X,h1,h2,x⟩:=A5N N L r1 R _ _ q;rw[A2d] at x;exact⟨_,A0y h1,_,_,D,a,rfl,r1,A2U h2,f1,x⟩
 cases e with
 |normal=>exact fin q
 |ret=>exact fin q
 |_=>cases q
end
end
section
variable {f:AV->(Bool->AV->Af)->Af} {q q':Bool}
def IB (f:AV->(Bool->AV->Af)->Af) (l:List AV):(Bool->List AV->Af)->Af:=
 @List.rec AV (λ_=>(Bool->List AV->Af)->Af) (λK=>K false [])
  (λa _ ih K=>f a λq c=>ih λq' d=>K (@Bool.rec (λ_=>Bool) q' true q) (c::d)) l
def QH (f:AV->(Bool->AV->Af)->Af) (l:List (Value×AV)):(Bool->List (Value×AV)->Af)->Af:=
 @List.rec (Value×AV) (λ_=>(Bool->List (Value×AV)->Af)->Af) (λK=>K false [])
  (λp _ ih K=>f p.2 λq a=>ih λq' c=>K (@Bool.rec (λ_=>Bool) q' true q) ((p.1,a)::c)) l
def oM (x:Row) (K:List (Value×AV)->Af):Af:=match x with| .map false a _=>K a|_=>none
def A15 (b:Bool) (a:AV) (K:Bool->AV->Af):Af:=
 match a with
 | .v x=>K false (.v x)
 | .list n cs=>ck b (K false (.list n cs))
 | .iptr cs=>ck b (K false (.iptr cs))
 | .imap c=>ck b (K false (.imap c))
 |_=>none
def A14 (b:Bool) (H:Hp) (ih:AV->(Bool->AV->Af)->Af) (a:AV) (K:Bool->AV->Af):Af:=
 match a with
 | .v x=>K false (.v x)
 | .list n cs=>ck b (K false (.list n cs))
 | .iptr cs=>ck b (K false (.iptr cs))
 | .imap g=>ck b (K false (.imap g))
 | .agg cs=>IB ih cs λq d=>K q (.agg d)
 | .tup cs=>IB ih cs λq d=>K q (.tup d)
 | .fn f j cs=>IB ih j λq i=>IB ih cs λq' d=>K (@Bool.rec (λ_=>Bool) q' true q) (.fn f i d)
 | .sl sz r o n=>IJ H r λx=>JV x λ_ cs=>E8 (Nat.mul n sz) (Di o cs) λc=>IB ih c λ_ e=>K true (.list n e)
 | .ptr r p k=>IJ H r λx=>JV x λ_ cs=>IB ih (Di (Nat.add p k) cs) λ_ e=>K true (.iptr e)
 | .mp r=>IJ H r λx=>oM x λg=>QH ih g λ_ h=>K true (.imap h)
 |_=>none
def HP (b:Bool) (H:Hp) (D:Nat):AV->(Bool->AV->Af)->Af:=@Nat.rec (λ_=>AV->(Bool->AV->Af)->Af) (A15 b) (λ_ ih=>A14 b H ih) D
def UY (b q:Bool) (C:Ctx) (H:Hp):Ctx:=
 {π:= λ_=>none
  F:= λk i=>(b=true/\C.F k i)\/(q=true/\∃r x o,Aj H r=some x/\C.π r=some (some (k,o)))
  B:= λk=>(b=true/\C.B k)\/(q=true/\∃r x o,Aj H r=some x/\C.π r=some (some (k,o)))}
def yM (b q:Bool) (C:Ctx) (H:Hp):(UY b q C H).bare=UY b q C H:=rfl
def Oj {b q q':Bool} {C:Ctx} {H:Hp} {w:World} (h:q=true->q'=true):Ext (λ_=>True) (UY b q C H) w (UY b q' C H) w:=
 ⟨λ_ _=>rfl,λ_ _ c=>c.imp id (λ⟨h1,h2⟩=>⟨h h1,h2⟩),λ_ _ _=>rfl,λ_ c=>c.imp id (λ⟨h1,h2⟩=>⟨h h1,h2⟩),λ_ _=>rfl,λ_ a _ f h=>⟨a,f,h,rfl⟩,λ_ _ _=> .inr trivial,λ_ _=> .inr trivial,Mb _⟩
def lY:q=true->(@Bool.rec (λ_=>Bool) q' true q)=true:= λh=>by subst h;rfl
def dM:q'=true->(@Bool.rec (λ_=>Bool) q' true q)=true:= λh=>by subst h;cases q<;>rfl
section
variable {G:Gl} {w0:Base} {C:Ctx} {H:Hp} {w:World} {b:Bool} {r:AV×Hp}
def mJ (n:∀a y K,VRel C w a y->f a K=some r->∃q c,VRel (UY b q C H) w c y/\K q c=some r):
 ∀(l:List AV) (ys:List Value) (K:Bool->List AV->Af),CG C w l ys->IB f l K=some r->∃q d,CG (UY b q C H) w d ys/\K q d=some r:=by
 intro l
 induction l with
 |nil=>intro ys K e h;exact⟨false,[],by rw[e.nil_inv];exact .nil,h⟩
 |cons a l ih=>
  intro ys K e h;obtain⟨y,g,rfl,h1,h2⟩:=e.cons_inv;have h:(f a λq c=>IB f l λq' d=>K (@Bool.rec (λ_=>Bool) q' true q) (c::d))=some r:=h;obtain⟨q,c,i,j⟩:=n a y _ h1 h;obtain⟨q',d,k,m⟩:=ih g _ h2 j;exact⟨_,_,.cons (i.mono (Oj lY)) (k.mono (Oj dM)),m⟩
def A13 (A:∀a y K,VRel C w a y->f a K=some r->∃q d,VRel (UY b q C H) w d y/\K q d=some r):
 ∀(l:List (Value×AV)) (ms:List MapEntry) (K:Bool->List (Value×AV)->Af),LB C w l ms->QH f l K=some r->∃q g,LB (UY b q C H) w g ms/\K q g=some r:=by
 intro l
 induction l with
 |nil=>intro ms K c h;exact⟨false,[],⟨c.1,λi p D=>by simp at D⟩,h⟩
 |cons p l ih=>
  intro ms K c h;cases ms with
  |nil=>exact absurd c.1 (by simp)
  |cons m ms=>
   obtain⟨J,hm,B,hv⟩:=c.2 0 p rfl;simp at hm;subst hm;have h:(f p.2 λq d=>QH f l λq' g=>K (@Bool.rec (λ_=>Bool) q' true q) ((p.1,d)::g))=some r:=h;obtain⟨q,d,t,u⟩:=A _ _ _ hv h;obtain⟨q',g,j,v⟩:=ih ms _ ⟨by simpa using c.1,λi x e=>by simpa using c.2 (i+1) x (by simpa using e)⟩ u;refine⟨_,_,⟨by simpa using j.1,λi x e=> ?_⟩,v⟩;cases i with
   |zero=>simp at e;subst e;exact⟨m,rfl,B,t.mono (Oj lY)⟩
   |succ i=>
    obtain⟨F,k,n,s⟩:=j.2 i x (by simpa using e);exact⟨F,by simpa using k,n,s.mono (Oj dM)⟩
def UV {a:AV} {y:Value} (hb:b=true) (hc:iF 0 a=true) (h:VRel C w a y):VRel (UY b false C H) w a y:=
 VRel.down (by subst hb;funext k i;simp[UY]) (by subst hb;funext k;simp[UY]) 0 a y hc h
def tF (hr:Rel G w0 C H w):∀(D:Nat) (a:AV) (y:Value) (K:Bool->AV->Af),VRel C w a y->HP b H D a K=some r->∃q a',VRel (UY b q C H) w a' y/\K q a'=some r:=by
 intro D
 induction D with
 |zero=>
  intro a y K hv h;change A15 b a K=some r at h;unfold A15 at h;split at h
  ·exact⟨false,_,by rw[AL.1 hv];exact .v _,h⟩
  ·obtain⟨h1,h⟩:=B3 h;exact⟨false,_,UV h1 rfl hv,h⟩
  ·obtain⟨h1,h⟩:=B3 h;exact⟨false,_,UV h1 rfl hv,h⟩
  ·obtain⟨h1,h⟩:=B3 h;exact⟨false,_,UV h1 rfl hv,h⟩
  ·cases h
 |succ D ih=>
  intro a y K hv h;have V:= λl N K=>mJ (f:=HP b H D) (b:=b) (H:=H) (C:=C) (w:=w) (r:=r) ih l N K;have hX:= λl N K=>A13 (f:=HP b H D) (b:=b) (H:=H) (C:=C) (w:=w) (r:=r) ih l N K;change A14 b H (HP b H D) a K=some r at h;unfold A14 at h;split at h
  ·exact⟨false,_,by rw[AL.1 hv];exact .v _,h⟩
  ·obtain⟨h1,h⟩:=B3 h;exact⟨false,_,UV h1 rfl hv,h⟩
  ·obtain⟨h1,h⟩:=B3 h;exact⟨false,_,UV h1 rfl hv,h⟩
  ·obtain⟨h1,h⟩:=B3 h;exact⟨false,_,UV h1 rfl hv,h⟩
  ·obtain⟨N,rfl,hl⟩:=EM.1 hv;obtain⟨q,L,h1,h2⟩:=V _ _ _ hl h;exact⟨q,_,EM.2 ⟨N,rfl,h1⟩,h2⟩
  ·obtain⟨N,rfl,hl⟩:=DC.1 hv;obtain⟨q,L,h1,h2⟩:=V _ _ _ hl h;exact⟨q,_,DC.2 ⟨N,rfl,h1⟩,h2⟩
  ·obtain⟨N,zs,rfl,hl,ac⟩:=Jr.1 hv;obtain⟨q,L,h1,h2⟩:=V _ _ _ hl h;obtain⟨q',ai,g,P⟩:=V _ _ _ ac h2;exact⟨_,_,Jr.2 ⟨N,zs,rfl,h1.mono (Oj lY),g.mono (Oj dM)⟩,P⟩
  ·rename_i sz s o n;obtain⟨q0,e,cs,F,h1⟩:=Kz h;obtain⟨B,h2⟩:=Nm _ _ _ _ h1;rw[C6] at B h2;cases hv with
   |slz ah=>
    have h2:IB (HP b H D) ((cs.drop o).take (0*sz)) (λ_ c'=>K true (.list 0 c'))=some r:=h2;rw[Nat.zero_mul,List.take_zero] at h2;exact⟨true,_,.list0,h2⟩
   |@sl _ _ _ _ _ _ bk O cap arr T fz J Z ag ae=>
    rcases hr.rows s _ F with⟨_,h6⟩|⟨b',c,u,aa,M⟩
    ·rw[h6] at J;cases J
    ·have A:=M.at_.symm.trans J;injection A with A;injection A with A;injection A with X Y;subst X Y
     have d:CG C w ((cs.drop o).take (n*sz)) ((((u.toList.drop c).take cs.length).drop o).take (n*sz)):=(M.vals.unsel.drop o).take _;obtain⟨q,L,g,P⟩:=V _ _ _ d h2;have g:=g.mono (Oj (q':=true) (λ_=>rfl));have ad:L.length=n*sz:=by
      rw[<-g.1,d.1,l0h];have:n*sz<=(cs.drop o).length:=B;omega
     refine⟨true,_,.list Z (λi=>((((u.toList.drop c).take cs.length).drop o).take (n*sz)).getD i undef) (λi t=> .inr ⟨rfl,s,_,_,F,J⟩) (λi t=> ?_) (λi t=> ?_),P⟩
     ·have ab:i<n*sz:=by omega
      have Q:o+i<cs.length:=by have:n*sz<=(cs.drop o).length:=B;simp at this;omega
      rw[kX,M.cell];rw[Vl,X?,Dj ab,tH,X?,Dj Q,tH,l27];have hf:=M.fits;rw[l1p (by omega)];rfl
     ·have:=g.get i t;rw[yM,Vl,K9 (by rw[g.1];exact t)];exact this
  ·rename_i s p k;obtain⟨q0,e,cs,F,h2⟩:=Kz h;rw[C6] at h2;cases hv with
   |@ptr _ _ _ _ _ bk O J=>
    rcases hr.rows s _ F with⟨_,h6⟩|⟨b',c,u,aa,M⟩
    ·rw[h6] at J;cases J
    ·have A:=M.at_.symm.trans J;injection A with A;injection A with A;injection A with X Y;subst X Y
     have d:CG C w (cs.drop (p+k)) (((u.toList.drop c).take cs.length).drop (p+k)):=M.vals.unsel.drop _;obtain⟨q,L,g,P⟩:=V _ _ _ d h2;have g:=g.mono (Oj (q':=true) (λ_=>rfl));have ad:L.length=cs.length-(p+k):=by rw[<-g.1,d.1,l0u]
     refine⟨true,_,.iptr (λi=>(((u.toList.drop c).take cs.length).drop (p+k)).getD i undef) (λi t=> .inr ⟨rfl,s,_,_,F,J⟩) (λi t=> ?_) (λi t=> ?_),P⟩
     ·have Q:p+k+i<cs.length:=by omega
      rw[kX,M.cell];rw[Vl,tH,X?,Dj Q,tH,l27];have hf:=M.fits;rw[l1p (by omega)];rfl
     ·have:=g.get i t;rw[yM,Vl,K9 (by rw[g.1];exact t)];exact this
  ·rename_i s;obtain⟨x,F,h2⟩:=Iw rfl h;unfold oM at h2;split at h2
   ·rename_i es _bo;cases hv with
    |@mp _ _ _ bk O J=>
     obtain⟨af,ms,clock,g1,g2,g3,g4,_⟩:=hr.rows s _ F;have A:=g1.symm.trans J;injection A with A;injection A with A;injection A with X Y;subst X Y
     obtain⟨q,L,g,P⟩:=hX _ _ _ g4 h2;have g:=g.mono (Oj (q':=true) (λ_=>rfl));have B:ms.size=L.length:=by have:=g.1;simpa using this
     have get:∀i (t:i<L.length),(ms.getD i default).key=L[i].1/\VRel (UY b true C H) w L[i].2 (ms.getD i default).val:= λi t=>by
      obtain⟨m,k1,k2,k3⟩:=g.2 i _ (K9 t);have:ms.getD i default=m:=by
       rw[l27] at k1;simp[dV,k1]
      rw[this];exact⟨k2,k3⟩
     refine⟨true,_,.imap ms (.inr ⟨rfl,s,_,_,F,J⟩) g2 B (λi t=>(get i t).1) (λi j R hj=> ?_) (λi t=> ?_) (λi t=>(get i t).2),P⟩
     ·have:=l26.1 g3.born i j (by simpa using Nat.lt_trans R hj) (by simpa using hj) R;simpa [dV,hj,Nat.lt_trans R hj] using this
     ·have:=g3.lt ms[i] (by simp);simpa [dV,t] using this
   ·cases h2
  ·cases h
end
end
section
variable {ag:Bool} {d:Nat} {t:TypeId}
def LK.fit:LK->Value->Bool
 | .int k,.int a _=>decide (a=k)
 | .str,.string _=>true
 | .bool,.bool _=>true
 |_,_=>false
def fits:List LK->List Value->Bool
 |[],[]=>true
 |k::ks,v::vs=>k.fit v&&fits ks vs
 |_,_=>false
def Uu (ag:Bool) (vs:List Value):Value:=match ag with|true=> .agg vs.toArray|false=>vs.headD undef
def MB (P:Program) (rec:TypeId->Option (Bool×List LK)):Nat->List Field->Option (List LK)
 |_,[]=>some []
 |off,f::a=>match rec f.type with
  |some (_,ks)=>if f.name != "_" &&(Nat.beq f.offset off&&(Nat.beq (P.cellsOf f.type) ks.length&& !Nat.beq ks.length 0)) then(MB P rec (off+ks.length) a).map (ks++ ·) else none
  |none=>none
def leaves (P:Program):Nat->TypeId->Option (Bool×List LK)
 |0,_=>none
 |d+1,t=>match P.underlying t with
  |some (.int k)=>some (false,[.int k])
  |some .string=>some (false,[.str])
  |some .bool=>some (false,[.bool])
  |some (.struct a)=>if P.stoodInHeld t then none else(MB P (leaves P d) 0 a.toList).map λks=>(true,ks)
  |some (.array n e)=>match leaves P d e with
   |some (_,ks)=>if Nat.beq (P.cellsOf e) ks.length&& !Nat.beq ks.length 0 then some (true,(List.replicate n ks).flatten) else none
   |none=>none
  |_=>none
def Ep:∀{ks:List LK} {vs:List Value},fits ks vs=true->vs.length=ks.length:=by
 intro ks
 induction ks with
 |nil=>intro vs h;cases vs<;>simp[fits] at h;rfl
 |cons k ks ih=>
  intro vs h;cases vs with
  |nil=>simp[fits] at h
  |cons v vs=>simp only[fits,Kw] at h;simp[ih h.2]
def Nn:∀{ks ls:List LK} {vs:List Value},fits (ks++ls) vs=true->fits ks (vs.take ks.length)=true/\fits ls (vs.drop ks.length)=true:=by
 intro ks
 induction ks with
 |nil=>intro ls vs h;exact⟨by simp[fits],by simpa using h⟩
 |cons k ks ih=>
  intro ls vs h;cases vs with
  |nil=>simp[fits] at h
  |cons v vs=>
   simp only[List.cons_append,fits,Kw] at h;obtain⟨h1,h2⟩:=ih h.2;exact⟨by simp[fits,h.1,h1],by simpa using h2⟩
def eO {α:Type} [DecidableEq α] (n:Nat) (xs ys:List α):decide (xs=ys)=(decide (xs.take n=ys.take n)&&decide (xs.drop n=ys.drop n)):=by
 rw[tG];simp only[decide_eq_true_eq,Kw];constructor
 ·rintro rfl;exact⟨rfl,rfl⟩
 ·rintro⟨h1,h2⟩;rw[<-l3a n xs,<-l3a n ys,h1,h2]
instance:DecidableEq Value:=Classical.typeDecidableEq Value
section
variable {P:Program}
def K? {ks:List LK} (h:leaves P d t=some (ag,ks)) (w:World):(isAgg t).run P w= .ok ag w:=by
 cases d with
 |zero=>simp[leaves] at h
 |succ d=>
  unfold leaves at h;split at h
  ·rename_i a;injection h with h;injection h with h1 h2;subst h1;unfold isAgg;rw[Dk,run_underlying a w];rfl
  ·rename_i a;injection h with h;injection h with h1 h2;subst h1;unfold isAgg;rw[Dk,run_underlying a w];rfl
  ·rename_i a;injection h with h;injection h with h1 h2;subst h1;unfold isAgg;rw[Dk,run_underlying a w];rfl
  ·rename_i c a;split at h
   ·cases h
   ·cases b:MB P (leaves P d) 0 c.toList with
    |none=>rw[b] at h;simp at h
    |some l=>
     rw[b] at h;simp only[xZ,l0z,Prod.mk.injEq] at h;obtain⟨h1,h2⟩:=h;subst h1;unfold isAgg;rw[Dk,run_underlying a w];rfl
  ·rename_i n e a;split at h
   ·split at h
    ·injection h with h;injection h with h1 h2;subst h1;unfold isAgg;rw[Dk,run_underlying a w];rfl
    ·cases h
   ·cases h
  ·cases h
def Nj {ks:List LK} (h:leaves P d t=some (ag,ks)) (hc:P.cellsOf t=ks.length) (b:ks.length≠0) (xs:List Value) (off:Nat) (e:off+ks.length<=xs.length) (w:World):
 (part t xs.toArray off).run P w= .ok (Uu ag ((xs.drop off).take ks.length)) w:=by
 unfold part;rw[Dk,K? h w];simp only[FU];cases ag with
 |true=>
  simp only[if_true];rw[Dk,BU w (by rw[hc];exact b)];simp only[FU,kW,Uu,hc]
  congr 2
  apply oQ;simp[List.take_drop]
 |false=>
  simp only[xY,if_false];have a:off<xs.length:=by omega
  rw[l15,K9 a];simp only[kW,Uu]
  congr 1
  rw[vA a];cases c:ks.length with
  |zero=>exact absurd c b
  |succ n=>rfl
def B1V (P:Program) (d:Nat) (t:TypeId):Prop:=
 ∀ag ks,leaves P d t=some (ag,ks)->∀(m:Nat) (xs a:List Value),fits ks xs=true->fits ks a=true->∀w,(Op.equalIn (m+d) t (Uu ag xs) (Uu ag a)).run P w= .ok (decide (xs=a)) w
def oS (j:∀t,B1V P d t) (m:Nat):∀(a:List Field) (off:Nat) (ks:List LK),MB P (leaves P d) off a=some ks->∀(xs ys:List Value),fits ks (xs.drop off)=true->fits ks (ys.drop off)=true->
 off<=xs.length->off<=ys.length->∀w,(Op.eqFields (m+d) xs.toArray ys.toArray a).run P w= .ok (decide (xs.drop off=ys.drop off)) w:=by
 intro a
 induction a with
 |nil=>
  intro off ks h xs ys b c _ _ w;simp only[MB,l0z] at h;subst h;have h1:=Ep b;have h2:=Ep c;simp only[QJ,List.length_eq_zero_iff] at h1 h2;rw[h1,h2];simp[Op.eqFields]
 |cons f a ih=>
  intro off ks h xs ys b c r s w;unfold MB at h;split at h
  ·rename_i ag k1 g;split at h
   ·rename_i hc;simp only[Kw,pO,X!,bne_iff_ne,ne_eq] at hc;obtain⟨c1,c2,c3,c4⟩:=hc;have c4:k1.length≠0:= λe=>by rw[e] at c4;simp at c4
    cases hr:MB P (leaves P d) (off+k1.length) a with
    |none=>rw[hr] at h;simp at h
    |some q=>
     rw[hr] at h;simp only[xZ,l0z] at h;subst h;obtain⟨p,i⟩:=Nn b;obtain⟨y1,y2⟩:=Nn c;rw[l1a] at i y2;have k:=Ep b;have n:=Ep c;simp only[l0u,EY] at k n;simp only[Op.eqFields];rw[Dj c1,Dk,c2,Nj g c3 c4 xs off (by omega) w];simp only[FU];rw[Dk,Nj g c3 c4 ys off (by omega) w];simp only[FU];rw[Dk,j f.type ag k1 g m _ _ p y1 w];simp only[FU];rw[eO k1.length (xs.drop off) (ys.drop off),l1a,l1a];cases hq:decide (List.take k1.length (List.drop off xs)=List.take k1.length (List.drop off ys))
     ·simp
     ·simp only[Bool.not_true,xY,if_false,X'];exact ih _ _ hr xs ys i y2 (by omega) (by omega) w
   ·cases h
  ·cases h
def tW {e:TypeId} (j:B1V P d e) (m:Nat) {ks:List LK} (f:leaves P d e=some (ag,ks)) (hc:P.cellsOf e=ks.length) (a:ks.length≠0):∀(n i:Nat) (xs ys:List Value),fits (List.replicate n ks).flatten (xs.drop (i*ks.length))=true->fits (List.replicate n ks).flatten (ys.drop (i*ks.length))=true->
 i*ks.length<=xs.length->i*ks.length<=ys.length->∀w,(Op.eqItems (m+d) e (P.cellsOf e) xs.toArray ys.toArray (List.range' i n)).run P w= .ok (decide (xs.drop (i*ks.length)=ys.drop (i*ks.length))) w:=by
 intro n
 induction n with
 |zero=>
  intro i xs ys b c _ _ w;have h1:=Ep b;have h2:=Ep c;simp only[List.replicate_zero,List.flatten_nil,QJ,List.length_eq_zero_iff] at h1 h2;rw[h1,h2];simp[Op.eqItems]
 |succ n ih=>
  intro i xs ys b c r s w;rw[l1c,l1d] at b c;obtain⟨q,g⟩:=Nn b;obtain⟨y1,y2⟩:=Nn c;rw[l1a] at g y2;have k:=Ep b;have p:=Ep c;simp only[l0u,EY] at k p;have h:i*ks.length+ks.length=(i+1)*ks.length:=by rw[W_];omega
  rw[List.range'_succ];simp only[Op.eqItems];rw[Dk,hc,Nj f hc a xs (i*ks.length) (by omega) w];simp only[FU];rw[Dk,Nj f hc a ys (i*ks.length) (by omega) w];simp only[FU];rw[Dk,j ag ks f m _ _ q y1 w];simp only[FU];rw[eO ks.length (xs.drop (i*ks.length)) (ys.drop (i*ks.length)),l1a,l1a,h];rw[h] at g y2;cases hq:decide (List.take ks.length (List.drop (i*ks.length) xs)=List.take ks.length (List.drop (i*ks.length) ys))
  ·simp
  ·simp only[Bool.not_true,xY,if_false,X'];have:=ih (i+1) xs ys g y2 (by omega) (by omega) w;rw[hc] at this;exact this
def tU:∀(d:Nat) (t:TypeId),B1V P d t:=by
 intro d
 induction d with
 |zero=>intro t ag ks h;simp[leaves] at h
 |succ d r=>
  intro t ag ks h m xs u a b w;rw[<-kX];unfold leaves at h;split at h
  ·rename_i k c;injection h with h;injection h with h1 h2;subst h1 h2
   obtain⟨x,rfl⟩:=l1f.1 (Ep a);obtain⟨y,rfl⟩:=l1f.1 (Ep b)
   ·
    simp only[fits,l1g] at a b;cases x<;>simp[LK.fit] at a
    cases y<;>simp[LK.fit] at b
    subst a b;simp only[Uu,List.headD];rw[run_equalIn_int w (m+d) t _ _ _ _ c]
    congr 1
    rw[tG];simp
  ·rename_i c;injection h with h;injection h with h1 h2;subst h1 h2
   obtain⟨x,rfl⟩:=l1f.1 (Ep a);obtain⟨y,rfl⟩:=l1f.1 (Ep b)
   ·
    simp only[fits,l1g] at a b;cases x<;>simp[LK.fit] at a
    cases y<;>simp[LK.fit] at b
    simp only[Uu,List.headD];rw[run_equalIn_string w (m+d) t _ _ c]
    congr 1
    rw[<-beq_toListBytes,tG,MapKept.bytes_beq];simp
  ·rename_i c;injection h with h;injection h with h1 h2;subst h1 h2
   obtain⟨x,rfl⟩:=l1f.1 (Ep a);obtain⟨y,rfl⟩:=l1f.1 (Ep b)
   ·
    simp only[fits,l1g] at a b;cases x<;>simp[LK.fit] at a
    cases y<;>simp[LK.fit] at b
    simp only[Uu,List.headD];rw[run_equalIn_bool' w (m+d) t _ _ c]
    congr 1
    rw[tG];simp
  ·rename_i j c;split at h
   ·cases h
   ·rename_i q;cases f:MB P (leaves P d) 0 j.toList with
    |none=>rw[f] at h;simp at h
    |some l=>
     rw[f] at h;simp only[xZ,l0z,Prod.mk.injEq] at h;obtain⟨h1,h2⟩:=h;subst h1 h2;have s:P.fieldsOf t=j:=by simp[Program.fieldsOf,c]
     simp only[Uu];rw[run_equalIn_struct w (m+d) t _ _ (by rw[s];exact c) (by simpa using q),s];exact oS r m j.toList 0 l f xs u a b (W? _) (W? _) w
  ·rename_i n e c;split at h
   ·rename_i v k1 f;split at h
    ·rename_i hc;simp only[Kw,pO,X!] at hc;have g:k1.length≠0:= λA=>by have:=hc.2;rw[A] at this;simp at this
     injection h with h;injection h with h1 h2;subst h1 h2
     simp only[Uu];obtain⟨i,B⟩:∃i,P.info? e=some i:=by
      cases p:P.info? e with
      |none=>exfalso;exact g (by rw[<-hc.1];simp[Program.cellsOf,p])
      |some i=>exact⟨i,rfl⟩
     rw[run_equalIn_array w (m+d) _ _ c B,List.range_eq_range'];have:=tW (r e) m f hc.1 g n 0 xs u (by simpa using a) (by simpa using b) (by simp) (by simp) w;simpa using this
    ·cases h
   ·cases h
  ·cases h
structure EqFlat (P:Program) (t:TypeId) (ks:List LK):Prop where
 leaves:leaves P 6 t=some (true,ks)
 guard:P.eqGuardType P.depth t=false
theorem EqFlat.equal {ks:List LK} (h:EqFlat P t ks) {xs ys:List Value} (a:fits ks xs=true) (b:fits ks ys=true) (w:World):(Op.equal t (.agg xs.toArray) (.agg ys.toArray)).run P w= .ok (decide (xs=ys)) w:=
 tU 6 t true ks h.leaves 9994 xs ys a b w
def oW:∀(d:Nat) (t:TypeId) (ag:Bool) (ks:List LK),leaves P d t=some (ag,ks)->∀(m:Nat) (em:Bool) (xs:List Value),fits ks xs=true->∀w,(Instr.checkKey em (m+d) t (Uu ag xs)).run P w= .ok () w:=by
 intro d
 induction d with
 |zero=>intro t ag ks h;simp[leaves] at h
 |succ d A=>
  intro t ag ks h m em xs b w;rw[<-kX];unfold Instr.checkKey;unfold leaves at h;split at h
  ·rename_i k a;rw[Dk,run_underlying a w];rfl
  ·rename_i a;rw[Dk,run_underlying a w];rfl
  ·rename_i a;rw[Dk,run_underlying a w];rfl
  ·rename_i B a;split at h
   ·cases h
   ·rename_i F;cases g:MB P (leaves P d) 0 B.toList with
    |none=>rw[g] at h;simp at h
    |some l=>
     rw[g] at h;simp only[xZ,l0z,Prod.mk.injEq] at h;obtain⟨h1,h2⟩:=h;subst h1 h2;rw[Dk,run_underlying a w];simp only[FU,Uu];rw[<-Array.forIn_toList];generalize B.toList=c at g;have key:∀(c:List Field) (off:Nat) (l:List LK),MB P (leaves P d) off c=some l->fits l (xs.drop off)=true->off<=xs.length->
      (forIn c PUnit.unit (λf (_:PUnit)=>(if f.name≠ "_" then(do let y<-part f.type xs.toArray f.offset;Instr.checkKey em (m+d) f.type y;pure (ForInStep.yield PUnit.unit)) else pure (ForInStep.yield PUnit.unit):Sem (ForInStep PUnit)))).run P w= .ok PUnit.unit w:=by
      intro c
      induction c with
      |nil=>intro off l _ _ _;simp
      |cons f c ih=>
       intro off l h b H;unfold MB at h;split at h
       ·rename_i ag k1 r;split at h
        ·rename_i hc;simp only[Kw,pO,X!,bne_iff_ne,ne_eq] at hc;obtain⟨c1,c2,c3,c4⟩:=hc;have c4:k1.length≠0:= λe=>by rw[e] at c4;simp at c4
         cases hr:MB P (leaves P d) (off+k1.length) c with
         |none=>rw[hr] at h;simp at h
         |some J=>
          rw[hr] at h;simp only[xZ,l0z] at h;subst h;obtain⟨x,p⟩:=Nn b;rw[l1a] at p;have v:=Ep b;simp only[l0u,EY] at v;rw[List.forIn_cons,Dj c1,Dk,Dk,c2,Nj r c3 c4 xs off (by omega) w];simp only[FU];rw[Dk,A f.type ag k1 r m em _ x w];simp only[FU,kW];exact ih _ _ hr p (by omega)
        ·cases h
       ·cases h
     have:=key c 0 l g (by simpa using b) (W? _);rw[Dk];refine(congrArg (λq=>Result.andThen q _) this).trans ?_;rfl
  ·rename_i n e a;split at h
   ·rename_i u k1 g;split at h
    ·rename_i hc;simp only[Kw,pO,X!] at hc;have s:k1.length≠0:= λC=>by have:=hc.2;rw[C] at this;simp at this
     injection h with h;injection h with h1 h2;subst h1 h2
     have hsz:(sizeOf e).run P w= .ok (P.cellsOf e) w:=BU w (by rw[hc.1];exact s);rw[Dk,run_underlying a w];simp only[FU,Uu];simp only[Std.Legacy.Range.forIn_eq_forIn_range',Std.Legacy.Range.size,Nat.sub_zero,Nat.add_one_sub_one,Nat.div_one];have key:∀(n i:Nat),fits (List.replicate n k1).flatten (xs.drop (i*k1.length))=true->i*k1.length<=xs.length->
      (forIn (List.range' i n) PUnit.unit (λj (_:PUnit)=>(do let z<-sizeOf e;let y<-part e xs.toArray (j*z);Instr.checkKey em (m+d) e y;pure (ForInStep.yield PUnit.unit):Sem (ForInStep PUnit)))).run P w= .ok PUnit.unit w:=by
      intro n
      induction n with
      |zero=>intro i _ _;simp
      |succ n ih=>
       intro i b H;rw[l1c,l1d] at b;obtain⟨x,p⟩:=Nn b;rw[l1a] at p;have v:=Ep b;simp only[l0u,EY] at v;have D:i*k1.length+k1.length=(i+1)*k1.length:=by rw[W_];omega
       rw[D] at p;rw[List.range'_succ,List.forIn_cons,Dk,Dk,hsz];simp only[FU];rw[Dk,hc.1,Nj g hc.1 s xs (i*k1.length) (by omega) w];simp only[FU];rw[Dk,A e u k1 g m em _ x w];simp only[FU,kW];exact ih (i+1) p (by omega)
     have:=key n 0 (by simpa using b) (by simp);rw[Dk];refine(congrArg (λq=>Result.andThen q _) this).trans ?_;rfl
    ·cases h
   ·cases h
  ·cases h
def iR (P:Program) (f:FuncId):Prop:=∀(x:Value) (w:World),(callFunc f #[x]).run P w= .ok (.value x) w
def EqFlat.check {ks:List LK} (h:EqFlat P t ks) {xs:List Value} (a:fits ks xs=true) (em:Bool) (w:World):(Instr.checkKey em 10000 t (.agg xs.toArray)).run P w= .ok () w:=
 oW 6 t true ks h.leaves 9994 em xs a w
end
end
section
variable {K:AV->Af} {w0:Base} {b:Bool} {C:Ctx} {w:World} {x:XFn}
abbrev KQ:=Exit->Tm->Hp->Af
abbrev U_:=Cf->Code->Tm->Hp->KQ->Af
structure Rt where
 call:B1W
 run:U_
def unV:AV->Value
 | .v x=>x
 |_=>undef
def isV:AV->Bool
 | .v _=>true
 |_=>false
def XE.G (E:XE):Gl:= λg=>(E.gl.get g).map λcs=>cs.map unV
def SJ (D:Nat->List Oper->Bool):Code->Bool
 | .region id a true=>D id a.toList
 | .seq x y=>SJ D x&&SJ D y
 | .cond _ x y=>SJ D x&&SJ D y
 | .block _ x=>SJ D x
 | .loop x=>SJ D x
 | .scope x=>SJ D x
 |_=>true
structure XE.Ok (D:XE->Cf->Nat->List Oper->Bool) (E:XE) (P:Program):Prop where
 ty:iP P E.T
 pos:∀t i e esz,E.T t=some i->(i.d= .slice e esz\/∃n,i.d= .array n e esz)->esz≠0
 mix:P.follows .mixedOrders=true
 gl:∀g cs,E.gl.get g=some cs->cs.all isV=true
 fn:∀f x,E.ft.get f=some x->∃fn,P.funcs[f]?=some fn/\fn.body=some x.c/\fn.ntmps=x.n/\fn.results.toList=x.rs/\(fn.name== "runtime.NumGoroutine")=false/\SJ (D E ⟨false,x.lv,x.fz,x.n,x.rc⟩) x.c=true
 eq:∀t ks,E.eqt.get t=some ks->EqFlat P t ks
 lie:∀e n o u,(e,n,o,u)∈E.lie->liesAt P P.depth e (n/P.cellsOf e) o u 1=true/\(P.info? u).isSome=true
 up:E.lie.isEmpty=false->P.underlying E.up=some .unsafePointer
 ne:∀f,E.ne f=true->iR P f
def XE.env (E:XE) (P:Program):Env:={P:=P,G:=E.G,T:=E.T}
theorem XE.Ok.env {D:XE->Cf->Nat->List Oper->Bool} {E:XE} {P:Program} (h:XE.Ok D E P):(E.env P).Ok:=⟨h.ty,h.pos,h.mix⟩
def Zw (P:Program) (f:Nat):Prop:=∃fn,P.funcs[f]?=some fn/\fn.body.isNone=false/\(fn.name== "runtime.NumGoroutine")=false
def iQ (D:XE->Cf->Nat->List Oper->Bool) (E:XE) (P:Program) (R:U_):Prop:=
 ∀(ro:Option Nat) (a:Cf) (c:Code) (t:Tm) (H:Hp) (K:KQ) (r:AV×Hp) (m:Nat),(ro≠none->a.b=true)->(a.b=false->SJ (D E a) c=true)->R a c t H K=some r->Tc P E.G ro m a.n c (λe g d=>K e g d=some r) t H
structure RSound (D:XE->Cf->Nat->List Oper->Bool) (E:XE) (P:Program) (R:Rt):Prop where
 run:iQ D E P R.run
 call:∀(f:Nat) (args:List AV) (H:Hp) (K:KV) (r:AV×Hp),R.call f args H K=some r->Zw P f/\QF P E.G f args H (λv H'=>K v H'=some r)
def zgo (E:XE) (R:U_) (x:XFn) (args:List AV) (H:Hp) (K:KV):Af:=
 A5k args 0 λk=>ckS (Nat.ble k x.n) (B4A args 0 λt=>R ⟨false,x.lv,x.fz,x.n,x.rc⟩ x.c t H (C0A E x.rs K))
def zfn (E:XE) (R:U_) (f:Nat) (args:List AV) (H:Hp) (K:KV):Af:=E.ft.getK f λx=>zgo E R x args H K
def depth:Nat:=12
def Aq (a:Af) (K:AV->Af):Af:=match a with|some (v,_)=>K v|none=>none
def An (R:Rt) (f:Nat) (args:List AV) (H:Hp) (K:AV->Af):Af:=
 IB (HP true H depth) args λq a=>Aq (R.call f a [] λv c=>HP (!q) c depth v λ_ d=>some (d,[])) K
section
variable {D:XE->Cf->Nat->List Oper->Bool} {E:XE} {P:Program} {R:Rt} {f:Nat} {args:List AV} {H:Hp} {r:AV×Hp}
def C2L (c:XE.Ok D E P) (d:E.ft.get f=some x):Zw P f:=by
 obtain⟨fn,h1,h2,e,g,a,h⟩:=c.fn f x d;exact⟨fn,h1,by rw[h2];rfl,a⟩
def A5Q (d:XE.Ok D E P) {a:U_} (q:iQ D E P a) (s:E.ft.get f=some x) {K:KV} (h:zgo E a x args H K=some r):QF P E.G f args H (λv g=>K v g=some r):=by
 unfold zgo at h;rw[B0z] at h;obtain⟨e,h⟩:=L9 h;rw[B4z] at h;obtain⟨fn,h1,h2,j,k,t,m⟩:=d.fn f x s;refine A7y (E:=E) (T:=E.T) d.ty (λty i h=>h) h1 h2 ?_;have e:args.length<=x.n:=by rw[iS] at e;omega
 have p:args.length+(fn.ntmps-args.length)=x.n:=by rw[j];omega
 rw[p,k];exact q none ⟨false,x.lv,x.fz,x.n,x.rc⟩ x.c _ H _ r (Ao H) (λh=>absurd rfl h) (λ_=>m) h
def xD (c:XE.Ok D E P) {a:U_} (g:iQ D E P a) {K:KV} (h:zfn E a f args H K=some r):Zw P f/\QF P E.G f args H (λv e=>K v e=some r):=by
 obtain⟨x,d,h⟩:=Bc h;exact⟨C2L c d,A5Q c g d h⟩
def Keep.toBelow {w w':World} (h:Keep ⟨w,λ_=>False⟩ w'):Below w.heap.size w w':=⟨h.os,h.tape,h.output,h.size,λb hb=>h.block b hb id⟩
def A1n {G:Gl} {b q:Bool} (h:Rel G w0 C H w):(∀k i,(UY b q C H).F k i->k<w.heap.size)/\∀k,(UY b q C H).B k->k<w.heap.size:=by
 refine⟨λk i d=> ?_,λk c=> ?_⟩
 ·rcases d with⟨_,d⟩|⟨_,s,x,o,a,e⟩
  ·exact h.fin k i d
  ·exact(h.rows s x a).block (E3 a) e
 ·rcases c with⟨_,c⟩|⟨_,s,x,o,a,e⟩
  ·exact h.finB k c
  ·exact(h.rows s x a).block (E3 a) e
def A3r {G:Gl} (hr:Rel G w0 C H w) (args:List AV) (ys:List Value) (K:Bool->List AV->Af) (d:CG C w args ys) (h:IB (HP true H depth) args K=some r):∃q c,CG (UY true q C H) w c ys/\K q c=some r:=
 mJ (f:=HP true H depth) (b:=true) (λa y K hv h=>tF hr depth a y K hv h) args ys K d h
def Su:∀(f:AV->(Bool->AV->Af)->Af) (d:∀a K,f a K=some r->∃q c,K q c=some r) (l:List AV) (K:Bool->List AV->Af),IB f l K=some r->∃q e,K q e=some r:=by
 intro f d l
 induction l with
 |nil=>intro K h;exact⟨_,_,h⟩
 |cons a l ih=>
  intro K h;obtain⟨q,c,h⟩:=d a _ h;obtain⟨g,e,h⟩:=ih _ h;exact⟨_,_,h⟩
def B09:∀(f:AV->(Bool->AV->Af)->Af) (d:∀a K,f a K=some r->∃q c,K q c=some r) (l:List (Value×AV)) (K:Bool->List (Value×AV)->Af),QH f l K=some r->∃q e,K q e=some r:=by
 intro f d l
 induction l with
 |nil=>intro K h;exact⟨_,_,h⟩
 |cons a l ih=>
  intro K h;obtain⟨q,c,h⟩:=d a.2 _ h;obtain⟨g,e,h⟩:=ih _ h;exact⟨_,_,h⟩
def B4a:∀(n:Nat) (a:AV) (K:Bool->AV->Af),HP b H n a K=some r->∃q c,K q c=some r:=by
 intro n
 induction n with
 |zero=>
  intro a K h;change A15 b a K=some r at h;unfold A15 at h;split at h
  ·exact⟨_,_,h⟩
  ·exact⟨_,_,(B3 h).2⟩
  ·exact⟨_,_,(B3 h).2⟩
  ·exact⟨_,_,(B3 h).2⟩
  ·cases h
 |succ n ih=>
  intro a K h;change A14 b H (HP b H n) a K=some r at h;unfold A14 at h;split at h
  ·exact⟨_,_,h⟩
  ·exact⟨_,_,(B3 h).2⟩
  ·exact⟨_,_,(B3 h).2⟩
  ·exact⟨_,_,(B3 h).2⟩
  ·obtain⟨q,l,h⟩:=Su _ ih _ _ h;exact⟨_,_,h⟩
  ·obtain⟨q,l,h⟩:=Su _ ih _ _ h;exact⟨_,_,h⟩
  ·obtain⟨q,l,h⟩:=Su _ ih _ _ h;obtain⟨q,l,h⟩:=Su _ ih _ _ h;exact⟨_,_,h⟩
  ·obtain⟨q0,e,cs,_,h⟩:=Kz h;obtain⟨_,h⟩:=Nm _ _ _ _ h;obtain⟨q,l,h⟩:=Su _ ih _ _ h;exact⟨_,_,h⟩
  ·obtain⟨q0,e,cs,_,h⟩:=Kz h;obtain⟨q,l,h⟩:=Su _ ih _ _ h;exact⟨_,_,h⟩
  ·obtain⟨x,_,h⟩:=Iw rfl h;unfold oM at h;split at h
   ·obtain⟨q,l,h⟩:=B09 _ ih _ _ h;exact⟨_,_,h⟩
   ·cases h
  ·cases h
def Rp {a:Af} (h:Aq a K=some r):∃v c,a=some (v,c)/\K v=some r:=by
 unfold Aq at h;split at h
 ·exact⟨_,_,rfl,h⟩
 ·cases h
def Yy (hR:RSound D E P R) (h:An R f args H K=some r):Zw P f/\QF P E.G f args H (λv L=>L=H/\K v=some r):=by
 unfold An at h;refine⟨?_,?_⟩
 ·obtain⟨q,l',h⟩:=Su _ (λa K h=>B4a depth a K h) _ _ h;obtain⟨v,L,h1,_⟩:=Rp h;exact(hR.call _ _ _ _ _ h1).1
 intro w0 C w ys hr ha;obtain⟨q,X,aa,u⟩:=A3r hr args ys _ ha h;obtain⟨v0,H0,u,Y⟩:=Rp u;have hc:=(hR.call _ _ _ _ _ u).2;have J:=A1n (b:=true) (q:=q) hr;have Z:Rel E.G ⟨w,λ_=>False⟩ (UY true q C H) [] w:=
  ⟨λg cs hg i v hv=>⟨.inl ⟨rfl,(hr.glob g cs hg i v hv).1⟩,(hr.glob g cs hg i v hv).2⟩,.refl _ _,λ_ _ h=>by simp[Aj] at h,λ_ _ h=>by simp[Aj] at h,λ_ _ _ _ h=>by simp[Aj] at h,λ_ _ _ _ _ _ _ h=>by simp[Aj] at h,J.1,J.2,λ_ _=>rfl⟩
 refine(hc _ _ w ys Z aa).mono ?_;rintro e O ⟨v,y,V,L,rfl,t,hv,hx,j⟩;obtain⟨q2,v',ab,M⟩:=tF t depth v y _ hv j;injection M with M
 injection M with M ad
 subst M;have hb:Below w.heap.size w O:=t.below.toBelow;have m:∀k,Base.own ⟨w,λ_=>False⟩ k->w.heap.size<=k:= λk h=>h.elim id (λh=>h.elim)
 let Q:Ctx:={π:=C.π,F:= λk i=>C.F k i\/(w.heap.size<=k/\(UY (!q) q2 V L).F k i),B:= λk=>C.B k\/(w.heap.size<=k/\(UY (!q) q2 V L).B k)}
 have n:=A1n (b:= !q) (q:=q2) t;have e:Ext w0.own C w Q O:=⟨λ_ _=>rfl,λ_ _ h=> .inl h,λk i h=>hb.cell (p:=⟨k,i,none⟩) (hr.fin k i h),λ_ h=> .inl h,λk h=>hb.block k (hr.finB k h),
  λk arr T fz h=>⟨arr,fz,(hb.block k (l1v.1 h).1).trans h,rfl⟩,λk i h=>h.imp id (λh=> .inl (Z7 hr.below.size h.1)),λk h=>h.imp id (λh=> .inl (Z7 hr.below.size h.1)),hb.size⟩
 have N:Rel E.G w0 Q H O:=by
  refine⟨hr.glob.mono e,hr.below.below hb,hr.lt,λs x j=>(hr.rows s x j).mono e (λk ac A=>hb.block k ((hr.rows s x j).block (E3 j) A)),λs x k o j A=> ?_,hr.sep,λk i d=> ?_,λk c=> ?_,hr.nx⟩
  ·have h1:=hr.own s x k o j A;have h2:=(hr.rows s x j).block (E3 j) A;refine⟨h1.1,λi d=> ?_,λc=> ?_⟩
   ·rcases d with d|d
    ·exact h1.2.1 i d
    ·have:=d.1;omega
   ·rcases c with c|c
    ·exact h1.2.2 c
    ·have:=c.1;omega
  ·rcases d with d|d
   ·exact l2s (hr.fin k i d) hb.size
   ·exact n.1 k i d.2
  ·rcases c with c|c
   ·exact l2s (hr.finB k c) hb.size
   ·exact n.2 k c.2
 have e2:Ext (λ_=>True) (UY (!q) q2 V L) O Q O:=by
  refine⟨λs h=>absurd rfl h,λk i d=> ?_,λ_ _ _=>rfl,λk c=> ?_,λ_ _=>rfl,λ_ a _ f h=>⟨a,f,h,rfl⟩,λ_ _ _=> .inr trivial,λ_ _=> .inr trivial,Mb _⟩
  ·rcases d with⟨hq,d⟩|⟨hq,s,x,o,j,A⟩
   ·rcases hx.new k i d with h1|h1
    ·rcases h1 with⟨_,h1⟩|⟨h1,_⟩
     ·exact .inl h1
     ·rw[h1] at hq;cases hq
    ·exact .inr ⟨m k h1,.inl ⟨hq,d⟩⟩
   ·exact .inr ⟨m k (t.own s x k o j A).1,.inr ⟨hq,s,x,o,j,A⟩⟩
  ·rcases c with⟨hq,c⟩|⟨hq,s,x,o,j,A⟩
   ·rcases hx.newB k c with h1|h1
    ·rcases h1 with⟨_,h1⟩|⟨h1,_⟩
     ·exact .inl h1
     ·rw[h1] at hq;cases hq
    ·exact .inr ⟨m k h1,.inl ⟨hq,c⟩⟩
   ·exact .inr ⟨m k (t.own s x k o j A).1,.inr ⟨hq,s,x,o,j,A⟩⟩
 exact⟨v',y,Q,H,rfl,N,ab.mono e2,e.frm,rfl,Y⟩
end
end
section
variable {x:AV} {esz n:Nat} {i ie:TI}
def Yh (n:Nat) (cs:List AV):(List AV->Af)->Af:=
 @Nat.rec (λ_=>(List AV->Af)->Af) (λK=>K []) (λ_ ih K=>ih λl=>Ym cs l K) n
def Yg (n:Nat) (cs:List AV):∀K,Yh n cs K=K (Xz n cs):=by
 induction n with
 |zero=>intro K;rfl
 |succ n ih=>
  intro K;have e:Yh (n+1) cs K=Yh n cs λl=>Ym cs l K:=rfl;rw[e,ih,MD];rfl
def Hf (e:TypeId) (esz:Nat) (ie:TI) (n:Nat) (l:List (Nat×Nat×AV)) (H:Hp) (K:KV):Af:=
 GW ie.zero λz=>HI z 0 λk=>ck (Nat.beq k esz&&(!Nat.beq esz 0&&Nat.ble (Nat.mul n esz) 16777216)) (Yh n z λcs=>dI l cs λa=>Ig H λs=>K (.sl esz s 0 n) ((s,.cells false e a)::H))
def Yr (esz:Nat) (ie:TI) (n:Nat) (l:List (Nat×Nat×AV)) (K:AV->Af):Af:=
 GW ie.zero λz=>HI z 0 λk=>ck (Nat.beq k esz&&(!Nat.beq esz 0&&Nat.ble (Nat.mul n esz) 16777216)) (Yh n z λcs=>dI l cs λa=>ck (a.all (iF 2)) (K (.list n a)))
def dJ (l:List UInt8):(List AV->Af)->Af:=@List.rec UInt8 (λ_=>(List AV->Af)->Af) (λK=>K []) (λb _ ih K=>fN b.toNat λn=>ih λl=>K (.v (.int .u8 (.ofNat n))::l)) l
def YQ (l:List UInt8):∀K:List AV->Af,dJ l K=K (l.map λb=> .v (.int .u8 b.toNat)):=by
 induction l with
 |nil=>intro K;rfl
 |cons b l ih=>
  intro K;have e:dJ (b::l) K=fN b.toNat λn=>dJ l λl=>K (.v (.int .u8 (.ofNat n))::l):=rfl;rw[e,DT,ih];rfl
def Zz:TD->Bool
 | .slice .. =>true
 | .string=>true
 |_=>false
def Tf (esz:Nat):AV->Bool
 | .v (.string _)=>Nat.beq esz 1
 |_=>true
def A2Q (h:Tf esz x=true):(match(generalizing:=false) x with| .v (.string _)=>esz=1|_=>True):=by
 split
 ·exact YM h
 ·trivial
def Ta (H:Hp) (x:AV) (K:Nat->List AV->Af):Af:=
 match x with
 | .list m cs=>K m cs
 | .sl sz r o m=>IJ H r λx=>JV x λ_ cs=>E8 (Nat.mul m sz) (Di o cs) λc=>K m c
 | .v (.slice none 0 0)=>K 0 []
 | .v (.string s)=>HI s.data.toList 0 λm=>dJ s.data.toList λl=>K m l
 |_=>none
def fu8 (cs:List AV):(List UInt8->Af)->Af:=
 @List.rec AV (λ_=>(List UInt8->Af)->Af) (λK=>K []) (λa _ ih K=>match a with| .v (.int .u8 z)=>iN z λn=>ih λl=>K (UInt8.ofNat n::l)|_=>none) cs
def A1i {r:AV×Hp}:∀(cs:List AV) (K:List UInt8->Af),fu8 cs K=some r->∃b:List Nat,cs=b.map (λn=> .v (.int .u8 (n:Int)))/\K (b.map UInt8.ofNat)=some r:=by
 intro cs
 induction cs with
 |nil=>intro K h;exact⟨[],rfl,h⟩
 |cons a cs ih=>
  intro K h;have h:(match(generalizing:=false) a with| .v (.int .u8 z)=>iN z λn=>fu8 cs λl=>K (UInt8.ofNat n::l)|_=>none)=some r:=h;split at h
  ·obtain⟨n,c,h2⟩:=Wm h;obtain⟨b,d,e⟩:=ih _ h2;exact⟨n::b,by rw[c,d];rfl,e⟩
  ·cases h
def wY (a:AV) (H:Hp) (K:AV->Af):Af:=
 match a with
 | .v (.string _)=>none
 |a=>Ta H a λm cs=>HI cs 0 λk=>ck (Nat.beq k m) (fu8 cs λl=>K (.v (.string ⟨⟨l⟩⟩)))
section
variable {T:Ty} {H:Hp} {r:AV×Hp}
def B1g {ty e:TypeId} {l:List (Nat×Nat×AV)} {ps:List (Nat×AV)} {K:KV} (m:T ty=some i) (s:i.d= .slice e esz) (b:T e=some ie) (he:(ps.map λp=>(some (p.1*esz,esz)).map λq=>(q.1,q.2,p.2))=l.map some) (h:Hf e esz ie n l H K=some r):
 ∃v c,K v c=some r/\eE T ty n ps H (Ao H) (λt a=>t=v/\a=c):=by
 rw[Hf,CI,Co] at h;obtain⟨h1,h⟩:=B3 h;rw[Yg] at h;obtain⟨f,h2,k⟩:=Yi (place:= λj=>some (j*esz,esz)) l ps _ _ he h;rw[BV] at h2;simp only[Kw,pO,X!,iS] at h1;refine⟨_,_,h2,?_⟩;unfold eE;simp only[m,s,b];refine⟨λg=> ?_,by omega,?_,by rw[k];simp[LL]⟩
 ·have:=h1.2.1;rw[g] at this;simp at this
 ·have:=h1.2.2;exact this
def YS {K:Nat->List AV->Af} (h:Ta H x K=some r):∃m cs q,A1U H x=some (m,cs,q)/\K m cs=some r:=by
 unfold Ta at h;split at h
 ·exact⟨_,_,_,rfl,h⟩
 ·obtain⟨q0,e,cs,h1,h2⟩:=Kz h;obtain⟨b,a⟩:=Nm _ _ _ _ h2;rw[C6] at a;exact⟨_,_,_,by simp only[A1U,h1];rfl,a⟩
 ·exact⟨_,_,_,rfl,h⟩
 ·rename_i s;rw[Co] at h;rw[YQ] at h;exact⟨_,_,_,rfl,by rw[JQ] at h;exact h⟩
 ·cases h
def A38:∀(a:List Nat) (acc:List UInt8),(a.map λn:Nat=>(n:Int)).foldl (λ(r:ByteArray) n=>r.push (UInt8.ofNat n.toNat)) ⟨⟨acc⟩⟩=⟨⟨acc++a.map UInt8.ofNat⟩⟩:=by
 intro a
 induction a with
 |nil=>intro acc;simp
 |cons n a ih=>
  intro acc;simp only[WR,List.foldl_cons,kV];have:(⟨⟨acc⟩⟩:ByteArray).push (UInt8.ofNat n)=⟨⟨acc++[UInt8.ofNat n]⟩⟩:=by simp[ByteArray.push]
  rw[this,ih];simp
def A41 {P:Program} {G:Gl} {w0:Base} {C:Ctx} {w:World} {a:AV} {y:Value} {K:AV->Af} (hr:Rel G w0 C H w) (hv:VRel C w a y) (h:wY a H K=some r):(∀s,y≠.string s)/\∃l:List UInt8,K (.v (.string ⟨⟨l⟩⟩))=some r/\(Conv.bytesToString y).run P w= .ok (.string ⟨⟨l⟩⟩) w:=by
 unfold wY at h;split at h
 ·cases h
 ·rename_i u;obtain⟨m,cs,q,j,h⟩:=YS h;rw[Co] at h;obtain⟨J,h⟩:=B3 h;have J:cs.length=m:=by have:=YM J;omega
  obtain⟨p,D,B⟩:=A1i _ _ h;subst D;obtain⟨d,vs,A,b⟩:=WL (P:=P) (esz:=1) hr hv j (by omega) (λs L=>absurd L (u s));have b:=b w (λ_ _=>rfl);have k:vs=p.map λn:Nat=>Value.int .u8 (n:Int):=by
   apply l0p;intro i;cases f:(p.map λn:Nat=>AV.v (.int .u8 (n:Int)))[i]? with
   |none=>
    have h1:p.length<=i:=by simpa using List.getElem?_eq_none_iff.1 f
    rw[l1j (by rw[A.1];simpa using h1),l1j (by simpa using h1)]
   |some c=>
    obtain⟨N,M,F⟩:=A.2 i c f;rw[M];rw[wR] at f⊢;cases hn:p[i]? with
    |none=>rw[hn] at f;cases f
    |some n=>
     rw[hn] at f;injection f with f
     subst f;have:=AL.1 F.unsel;rw[this];rfl
  have g:∀s,y≠.string s:=by
   intro s e;subst e;cases hv with
   |v=>exact u s rfl
   |dk=>simp[A1U] at j
  refine⟨g,_,B,?_⟩;cases y with
  |slice t n cap=>
   have hn:n=m:=by
    simp only[Builtin.lenOf,kW] at d;injection d
   subst hn;cases t with
   |none=>
    simp only[Builtin.firstCells,kW] at b;injection b with b
    have:vs=[]:=by
     have:=congrArg Array.toList b;simpa using this.symm
    rw[k] at this;have:p=[]:=by simpa using this
    subst this;rfl
   |some t=>
    have e:(Builtin.firstCells 1 n (.slice (some t) n cap))=loadCells t (n*1):=rfl;rw[e,pL,k] at b;have:=run_bytesToString w t n cap (p.map λn:Nat=>(n:Int)) (by rw[b];simp[l1y]);rw[this];have:=A38 p [];rw[show(ByteArray.empty:ByteArray)=⟨⟨[]⟩⟩ from rfl,this];rfl
  |string s=>exact absurd rfl (g s)
  |_=>simp[Builtin.lenOf] at d
def Ve (e:TypeId) (esz:Nat) (ie i2:TI) (s x:AV) (H:Hp) (K:KV):Af:=
 Ta H x λm a=>HI a 0 λk=>GW ie.zero λz=>HI z 0 λf=>
  ck (Nat.beq k (Nat.mul m esz)&&(Nu a&&(!Nat.beq esz 0&&(Nat.beq f esz&&(Zz i2.d&&Tf esz x)))))
   (match s with
   | .v (.slice none 0 0)=>ck (Nat.ble (Nat.mul m ie.bytes) 70368744177664&&Nat.ble m 70368744177664) (@Bool.rec (λ_=>Af) (Ig H λr=>K (.sl esz r 0 m) ((r,.cells false e a)::H)) (K (.v (.slice none 0 0)) H) (Nat.beq m 0))
   | .sl sz r1 o n=>IJ H r1 λx=>JV x λE cs=>HI cs 0 λcl=>
    ck (Nat.beq E e&&(Nat.beq sz esz&&(Nat.beq (Nat.add o (Nat.mul n esz)) cl&&(Nat.ble (Nat.mul (Nat.add n m) ie.bytes) 70368744177664&&Nat.ble (Nat.add n m) 70368744177664))))
     (Ym (Di o cs) a λb=>LC H r1 .gone λc=>Ig H λr=>fN (Nat.add n m) λnm=>K (.sl esz r 0 nm) ((r,.cells false e b)::c))
   |_=>none)
def zA {t1 t2 e:TypeId} {i1 i2 ie:TI} {s x:AV} {K:KV} (h1:T t1=some i1) (h2:T t2=some i2) (t:i1.d= .slice e esz) (g:T e=some ie) (h:Ve e esz ie i2 s x H K=some r):
 ∃v j,K v j=some r/\Y0 T t1 t2 s x H (Ao H) (λy b=>y=v/\b=j):=by
 unfold Ve at h;obtain⟨m,A,q,a,h⟩:=YS h;rw[Co,CI,Co] at h;obtain⟨hc,h⟩:=B3 h;simp only[Kw,pO,FI,X!] at hc;obtain⟨c1,c2,c3,c4,c5,c6⟩:=hc;have p1:esz≠0:= λc=>by rw[c] at c3;simp at c3
 have p2:(Bv ie.zero).length=esz:=by omega
 unfold Y0;simp only[h1,h2,t,g,a,LL];have pre:=And.intro p1 (And.intro p2 (And.intro (show(match i2.d with| .slice .. =>True| .string=>True|_=>False) from by cases f:i2.d<;>rw[f] at c5<;>first|trivial|cases c5) (A2Q c6)));split at h
 ·obtain⟨hb,h⟩:=B3 h;simp only[Kw,iS] at hb;by_cases hm:m=0
  ·subst hm;exact⟨_,_,h,pre,⟨by simpa using c1,c2⟩,by simpa using hb,rfl,rfl⟩
  ·have c:Nat.beq m 0=false:=by
    cases m with
    |zero=>exact absurd rfl hm
    |succ m=>rfl
   rw[c] at h;simp only[BV] at h;simp only[C4 hm];exact⟨_,_,h,pre,⟨by simpa using c1,c2⟩,by simpa using hb,rfl,rfl⟩
 ·rename_i sz r1 o n;obtain⟨q0,E,cs,u,h⟩:=Kz h;rw[Co] at h;obtain⟨hb,h⟩:=B3 h;rw[MD,Dh,BV,DT,C6] at h;simp only[Kw,pO,iS] at hb;obtain⟨b1,b2,k,b4,p⟩:=hb;refine⟨_,_,h,pre,⟨by simpa using c1,c2⟩,?_⟩;simp only[u];exact⟨⟨b1,b2,by simpa using k,b4,p⟩,rfl,rfl⟩
 ·cases h
variable {P:Program} {G:Gl} {w0:Base} {C:Ctx} {w w':World}
def Ctx.addF (C:Ctx) (b:Nat):Ctx:={C with F:= λk i=>C.F k i\/k=b}
def Rel.new_fixed (h:Rel G w0 C H w) (hb:Below w.heap.size w w') (j:w.heap.size<w'.heap.size):Rel G w0 (C.addF w.heap.size) H w'/\Ext w0.own C w (C.addF w.heap.size) w':=by
 have e:Ext w0.own C w (C.addF w.heap.size) w':=⟨λ_ _=>rfl,λ_ _ h=> .inl h,λk i a=>hb.cell (p:=⟨k,i,none⟩) (h.fin k i a),λ_ h=>h,λk a=>hb.block k (h.finB k a),
  λk arr T fz a=>⟨arr,fz,(hb.block k (l1v.1 a).1).trans a,rfl⟩,λk i a=>a.imp id (λe=> .inl (by rw[e];exact h.below.size)),λk a=> .inl a,hb.size⟩
 refine⟨⟨h.glob.mono e,h.below.below hb,h.lt,λs x c=>(h.rows s x c).mono e (λk f d=>hb.block k ((h.rows s x c).block (E3 c) d)),λs x k o c d=> ?_,h.sep,λk i b=> ?_,λk g=>l2s (h.finB k g) hb.size,h.nx⟩,e⟩
 ·have h1:=h.own s x k o c d;have h2:=(h.rows s x c).block (E3 c) d;refine⟨h1.1,λi b=> ?_,h1.2.2⟩;rcases b with b|b
  ·exact h1.2.1 i b
  ·omega
 ·rcases b with b|b
  ·exact l2s (h.fin k i b) hb.size
  ·omega
def A7e (Z:iP P T) {ty e:TypeId} {l:List (Nat×Nat×AV)} {ps:List (Nat×AV)} {D:List (Nat×Value)} {K:AV->Af} (f:T ty=some i) (hd:i.d= .slice e esz) (O:T e=some ie) (he:(ps.map λp=>(some (p.1*esz,esz)).map λq=>(q.1,q.2,p.2))=l.map some)
 (h:Yr esz ie n l K=some r) (m:ps.length=D.length) (hq:∀(j:Nat) (p:Nat×AV),ps[j]?=some p->∃z,D[j]?=some (p.1,z)/\VRel C w p.2 z) (hr:Rel G w0 C H w):
 ∃v y F w',K v=some r/\(Instr.buildSlice ty n D.toArray).run P w= .ok y w'/\VRel F w' v y/\Rel G w0 F H w'/\Ext w0.own C w F w':=by
 rw[Yr,CI,Co] at h;obtain⟨h1,h⟩:=B3 h;rw[Yg] at h;obtain⟨k,h2,hf⟩:=Yi (place:= λj=>some (j*esz,esz)) l ps _ _ he h;obtain⟨N,hK⟩:=B3 h2;simp only[Kw,pO,X!,iS] at h1;have s:esz≠0:= λe0=>by have:=h1.2.1;rw[e0] at this;simp at this
 have R:(Bv ie.zero).length=esz:=by omega
 have aa:n*esz<=2^24:=h1.2.2;have ok:=Z ty i f;obtain⟨hu,hc⟩:=ok.elem_slice hd;have Y:=Z e ie O;obtain⟨z,hz,ez⟩:=Y.run_zero (P:=P) w;have hsz:(sizeOf e).run P w= .ok esz w:=by rw[<-hc];exact BU w (by rw[hc];exact s)
 have A:CG C w (Bv ie.zero) z.cells.toList:=OU (t:=e) ez;have V:z.cells.size=esz:=by have:=A.1;simp at this;omega
 have X:CG C w (Xz n (Bv ie.zero)) ((List.range n).flatMap λ_=>z.cells.toList):=by rw[eT];exact YL A n
 obtain⟨b,J,B⟩:=gQ (C:=C) (w:=w) ps D _ _ k m hq X hf;have c:¬(n*esz>2^24):=by omega
 have ab:b.length=n*esz:=by rw[B.1,iL _ _ _ hf,Xy,R]
 have M:=dO w (.cells b.toArray e);obtain⟨u,a⟩:=hr.new_fixed M (by simp);refine⟨_,.slice (some ⟨w.heap.size,0,none⟩) n n,_,_,hK,?_,?_,u,a⟩
 ·unfold Instr.buildSlice;rw[Dk,run_underlying hu w];simp only[FU];rw[Dk,hsz];simp only[FU,C4 c,pure_bind];by_cases L:n*esz=0
  ·have Q:n=0:=by rcases Nat.mul_eq_zero.1 L with h|h;exact h;exact absurd h s
   subst Q;rw[Dj L];simp only[List.range_zero,List.flatMap_nil] at J;rw[show(Array.map (λx=>(#[]:Array Value)[x%(#[]:Array Value).size]!) (Array.range (0*esz)))= #[] from by rw[Nat.zero_mul];apply oQ;simp,J];simp[newRow]
  ·rw[C4 L,Dk,hz];simp only[FU];have:=dY z.cells n;rw[V] at this⊢;rw[this,J];simp[newRow]
 ·have g3:CG (C.addF w.heap.size).bare {w with heap:=w.heap.push (.cells b.toArray e)} k b:=CG.mono (C:=C.bare) (CG.down 2 N B rfl rfl) a.bare;refine .list (Mb _) (λi=>b.getD i undef) (λi f=> .inr rfl) (λi f=> ?_) (λi f=> ?_)
  ·have g:i<b.length:=by rw[B.1];exact f
   rw[cell_of_row _ w.heap.size (0+i) b.toArray e (0,0) (by simp)];simp[Vl,g]
  ·have g:i<b.length:=by rw[B.1];exact f
   rw[Vl,K9 g];exact g3.get i f
end
end
end Go.Abs
end
