import Derived.Shelf.Strings.OnBuilder
import Derived.Shelf.Strings.Repeat
import Derived.Shelf.Sort.Plain
import Derived.Shelf.Slices.In.SortNone
import Derived.Shelf.GgSortFunc.InsertionK
import Derived.Test.YthffkeagibaidaaGreatDoorP06
set_option linter.all false
set_option maxHeartbeats 0
noncomputable section
namespace Go.Abs
open Go.RowKit
section
variable{f:Nat}{P:Program}
def Un:Is->Option (List Ha)
 |[]=>some []
 |.v (.string s)::cs=>(Un cs).map (s.data.toList:: ·)
 |_=>none
def iO:∀{cs:Is}{xs:List Ha},Un cs=some xs->cs=xs.map λl=>.v (.string ⟨⟨l⟩⟩):=by
 intro cs
 induction cs with
 |nil=>intro xs h;simp[Un]at h;subst h;rfl
 |cons a cs ih=>
  intro xs h;unfold Un at h;split at h
  ·rename_i he;cases he
  ·rename_i s d he;injection he with h1 h2
   subst h1 h2;cases c:Un cs with
   |none=>rw[c]at h;cases h
   |some e=>
    rw[c]at h;injection h with h
    subst h;rw[ih c];obtain⟨⟨l⟩⟩:=s;rfl
  ·cases h
def A5K:OF:=λargs H K alt=>match args with
 |[.list n cs,.v (.string s)]=>(match Un cs with
  |some xs=>@Bool.rec (λ_=>Af) alt (WJ (Lib.join xs s.data.toList) [] λl=>K (.v (.string ⟨⟨l⟩⟩)) H) (Nat.beq n xs.length&&(Nat.ble xs.length 140737488355328&&Nat.ble (Lib.join xs s.data.toList).length 140737488355328))
  |none=>alt)
 |_=>alt
def A5J{E:XE}(X:TY P f)(Q:∀(a:Option Addr)(c:Nat)(sep:ByteArray)(w:World),Calls P f #[.slice a 0 c,.string sep] w λe i=>e=.returned (.string ⟨#[]⟩)/\i=w)(h1:∀(u o c:Nat)(xs:List ByteArray)(sep:ByteArray)(w:World)(p:∀(j:Nat)x,xs[j]?=some x->w.cell? ⟨u,o+j,none⟩=some (.string x))(V:u<w.heap.size)(hN:xs.length<=140737488355328)(k:xs.length<=c)(J:(Lib.join (xs.map (·.data.toList)) sep.data.toList).length<=140737488355328),
  Calls P f #[.slice (some ⟨u,o,none⟩) xs.length c,.string sep] w λe i=>e=.returned (.string ⟨(Lib.join (xs.map (·.data.toList)) sep.data.toList).toArray⟩)/\Below w.heap.size w i):mH E P f A5K:=by
 intro args H K alt r h;unfold A5K at h;split at h
 ·rename_i n cs s;split at h
  ·rename_i xs B;cases q:(Nat.beq n xs.length&&(Nat.ble xs.length 140737488355328&&Nat.ble (Lib.join xs s.data.toList).length 140737488355328))
   ·rw[q]at h;exact .inl h
   ·rw[q]at h;simp only[I0,eY,Zl]at q;obtain⟨F,N,O⟩:=q;refine .inr ⟨X,WQ (x:=.string ⟨⟨Lib.join xs s.data.toList⟩⟩) ?_ λw0 C w ys hr d=>?_⟩
    ·rw[LB,fV]at h;exact h
    ·have m:=iO B
     match ys,d with
     |[y1,y2],d=>
      have y:VRel C w (.list n cs) y1:=d.get 0 (by simp);have A:VRel C w (.v (.string s)) y2:=d.get 1 (by simp);obtain rfl:=A6.1 A;have nil:∀a cap,n=0->Calls P f #[.slice a n cap,.string s] w λe i=>e=.returned (.string ⟨⟨Lib.join xs s.data.toList⟩⟩)/\Below w.heap.size w i:=λa cap hn=>by
       subst hn;have:xs=[]:=tC F.symm;subst this;refine(Q a cap s w).mono λe i ⟨he,Z⟩=>⟨?_,Z▸Below.refl _ _⟩
       rw[he];rfl
      cases y with
      |list0=>exact nil _ _ rfl
      |@list _ _ _ cap _ b o k vs R hc hv=>
       by_cases hn:n=0
       ·exact nil _ _ hn
       ·have hl:cs.length=xs.length:=by rw[m];simp
        have:=h1 b o cap (xs.map λl=>⟨⟨l⟩⟩) s w (λj x g=>?_) (hr.fin b (o+0) (R 0 (by omega))) (by simpa using N) (by simp;omega) (by simpa [List.map_map,l1t] using O)
        ·simp only[WV,List.map_map,l1t,List.map_id']at this;rw[<-F]at this;exact this
        ·rw[pS]at g;cases t:xs[j]? with
         |none=>rw[t]at g;cases g
         |some l=>
          rw[t]at g;injection g with g
          subst g;have Y:j<xs.length:=(pR.1 t).1;have L:=hc j (by omega);have D:=hv j (by omega);have M:cs[j]'(by omega)=.v (.string ⟨⟨l⟩⟩):=by
           have:cs[j]?=some (.v (.string ⟨⟨l⟩⟩)):=by rw[m,pS,t];rfl
           exact(pR.1 this).2
          rw[M]at D;rw[L,A6.1 D]
     |[],d=>exact absurd d.1 (by simp)
     |[_],d=>exact absurd d.1 (by simp)
     |_::_::_::_,d=>exact absurd d.1 (by simp)
  ·exact .inl h
 ·exact .inl h
def sC:OF:=λargs H K alt=>match args with
 |[.v (.string s),.v (.int .i64 (.ofNat c))]=>@Bool.rec (λ_=>Af) alt (WJ (Lib.repeatL s.data.toList c) [] λl=>K (.v (.string ⟨⟨l⟩⟩)) H) (Nat.ble c 9223372036854775807&&Nat.ble (s.data.toList.length*c) 140737488355328)
 |_=>alt
def O?{E:XE}(k:TY P f)(h1:∀(s:ByteArray)(c:Nat)(w:World)(hc:c<=9223372036854775807)(j:s.size*c<=140737488355328),Calls P f #[.string s,.int .i64 c] w λe m=>e=.returned (.string ⟨(Lib.repeatL s.data.toList c).toArray⟩)/\Below w.heap.size w m):mH E P f sC:=by
 intro args H K alt r h;unfold sC at h;split at h
 ·rename_i s c;cases d:(Nat.ble c 9223372036854775807&&Nat.ble (s.data.toList.length*c) 140737488355328)
  ·rw[d]at h;exact .inl h
  ·rw[d]at h;simp only[I0,Zl]at d;refine .inr ⟨k,WQ (x:=.string ⟨⟨Lib.repeatL s.data.toList c⟩⟩) ?_ λw0 C w n hr a=>?_⟩
   ·rw[LB,fV]at h;exact h
   ·match n,a with
    |[y1,y2],a=>
     have g:VRel C w (.v (.string s)) y1:=a.get 0 (by simp);have i:VRel C w (.v (.int .i64 (.ofNat c))) y2:=a.get 1 (by simp);obtain rfl:=A6.1 g;obtain rfl:=A6.1 i;exact h1 s c w d.1 (by have:=d.2;simpa using this)
    |[],a=>exact absurd a.1 (by simp)
    |[_],a=>exact absurd a.1 (by simp)
    |_::_::_::_,a=>exact absurd a.1 (by simp)
 ·exact .inl h
end
open Go.RowKit Go.Sort Go.Proofs
abbrev Oe:=Ha
def ins(x:Oe):List Oe->List Oe
 |[]=>[x]
 |y::l=>if x<=y then x::y::l else y::ins x l
def G9:List Oe->List Oe
 |[]=>[]
 |x::l=>ins x (G9 l)
theorem kP(x:Oe):∀l,(ins x l).Perm (x::l)
 |[]=>.refl _
 |y::l=>by
  unfold ins;split
  ·exact .refl _
  ·exact((kP x l).cons y).trans (.swap x y l)
theorem D0:∀l,(G9 l).Perm l
 |[]=>.refl _
 |x::l=>(kP x _).trans ((D0 l).cons x)
def RE(a b:Oe):a<=b\/b<=a:=List.le_total a b
def Vq{a b c:Oe}(h:a<=b)(k:b<=c):a<=c:=List.le_trans h k
def Xo{a b:Oe}(h:a<=b)(k:b<=a):a=b:=List.le_antisymm h k
theorem kO(x:Oe):∀l,l.Pairwise (· <= ·)->(ins x l).Pairwise (· <= ·)
 |[],_=>by simp[ins]
 |y::l,h=>by
  have c:=l2k.1 h;unfold ins;split
  ·rename_i a;refine l2k.2 ⟨λz hz=>?_,h⟩;rcases Rx.1 hz with rfl|hz
   ·exact a
   ·exact Vq a (c.1 z hz)
  ·rename_i a;have d:y<=x:=(RE x y).resolve_left a;refine l2k.2 ⟨λz hz=>?_,kO x l c.2⟩;rcases Rx.1 ((kP x l).mem_iff.1 hz) with rfl|hz
   ·exact d
   ·exact c.1 z hz
theorem L8:∀l,(G9 l).Pairwise (· <= ·)
 |[]=>.nil
 |x::l=>kO x _ (L8 l)
def VY:∀{l m:List Oe},l.Perm m->l.Pairwise (· <= ·)->m.Pairwise (· <= ·)->l=m:=by
 intro l
 induction l with
 |nil=>intro m h _ _;exact(List.nil_perm.1 h).symm
 |cons a l ih=>
  intro m h i hm;cases m with
  |nil=>exact absurd h.symm (by simp)
  |cons b m=>
   have c:=l2k.1 i;have d:=l2k.1 hm;have g:a=b:=by
    rcases Rx.1 (h.mem_iff.1 List.mem_cons_self) with e|e
    ·exact e
    ·rcases Rx.1 (h.mem_iff.2 List.mem_cons_self) with f|f
     ·exact f.symm
     ·exact Xo (c.1 _ f) (d.1 _ e)
   subst g;rw[ih ((List.perm_cons a).1 h) c.2 d.2]
def xU(l:List Oe):l.mergeSort (λx y=>decide (x<=y))=G9 l:=by
 refine VY ((List.mergeSort_perm l _).trans (D0 l).symm) ?_ (L8 l);have:=List.pairwise_mergeSort (le:=λx y:Oe=>decide (x<=y)) (λa b c h k=>by simp only[decide_eq_true_eq]at h k⊢;exact Vq h k) (λa b=>by simpa using RE a b) l;exact this.imp (λh=>by simpa using h)
def Xq:OF:=λargs H K alt=>match args with
 |[.sl 1 s o n]=>(match Ao H s with
  |some (.cells q e cs)=>(match Un ((cs.drop o).take n) with
   |some xs=>@Bool.rec (λ_=>Af) alt (D8 o ((G9 xs).map λl=>.v (.string ⟨⟨l⟩⟩)) cs λa=>XA5 H s (.cells q e a) λc=>K (.tup []) c) (Nat.beq n xs.length&&(Nat.blt n 4611686018427387904&&Nat.blt 0 n))
   |none=>alt)
  |_=>alt)
 |_=>alt
def Tz{α:Type}[Inhabited α](enc:α->Value)(off:Nat)(d:List α)(arr:Array Value)(h:off+d.length<=arr.size):putCells enc off d.toArray arr=(splice arr.toList off (d.map enc)).toArray:=by
 apply Array.ext_getElem?;intro k;simp only[putCells,Array.getElem?_mapIdx,l10];rw[Mo (by simpa using h)];by_cases hk:k<arr.size
 ·rw[l1k hk,oH,WV];by_cases h1:k<off
  ·rw[CJ h1,Co (by simp;omega)];simp[hk]
  ·rw[Co h1];by_cases h2:k<off+d.length
   ·rw[CJ h2,CJ (by simp;omega),pS];have:k-off<d.length:=by omega
    simp[this]
   ·rw[Co h2,Co (by simp;omega)];simp[hk]
 ·rw[Array.getElem?_eq_none (by omega),Option.map_none];have h1:¬k<off:=by omega
  have h2:¬k<off+(d.map enc).length:=by simp;omega
  rw[Co h1,Co h2,l1e (by simp;omega)]
def A4j{E:XE}{P:Program}{f:Nat}(hf:TY P f)(h1:∀(Ub off cap:Nat)(V:List Ha)(w:World)(hH:Holds encStr w Ub off V.toArray)(ad:Ub<w.heap.size)(hsz:V.length<4611686018427387904),
  Calls P f #[.slice (some ⟨Ub,off,none⟩) V.length cap] w λe w'=>e=.returned (.tuple #[])/\∃n os,w'=grow (putRow encStr (Sort.ahead w n) Ub off (V.mergeSort λx y=>decide (x<=y)).toArray) os):mH E P f Xq:=by
 intro args H K alt r h;unfold Xq at h;split at h
 ·rename_i s o n;split at h
  ·rename_i q e cs hl;split at h
   ·rename_i xs ac;cases N:(Nat.beq n xs.length&&(Nat.blt n 4611686018427387904&&Nat.blt 0 n))
    ·rw[N]at h;exact .inl h
    ·rw[N]at h;simp only[I0,eY,Ua]at N;obtain⟨g1,g2,g3⟩:=N;refine .inr ⟨hf,?_⟩;obtain⟨af,h2⟩:=J5 _ _ _ _ _ h;rw[CX]at h2;have A:=iO ac;have Z:=(D0 xs).length_eq;intro w0 C w ys hr g
     match ys,g with
     |[y1],g=>
      have X:VRel C w (.sl 1 s o n) y1:=g.get 0 (by simp);obtain⟨b,c,arr,fz,cap,rfl,ae,t,hsz⟩:=rV hr hl X (by omega);have L:xs.length=n:=g1.symm;have Y:o+n<=cs.length:=by
       have:=congrArg List.length A;simp at this;omega
      have ag:=t.fits;have cellAt:∀j,j<n->∃l,xs[j]?=some l/\w.cell? ⟨b,c+o+j,none⟩=some (.string ⟨⟨l⟩⟩):=λj B=>by
       have D:j<xs.length:=by omega
       obtain⟨v,aa,J⟩:=t.get (o+j) (by omega);have M:((cs.drop o).take n)[j]?=some (cs[o+j]'(by omega)):=by
        rw[oI,CJ B,fX,II]
       rw[A,pS,II D]at M;injection M with M
       rw[<-M]at J;refine⟨xs[j],II D,?_⟩;rw[WE,aa,A6.1 J]
      have hH:Holds encStr w b (c+o) xs.toArray:=λj B=>by
       have B:j<n:=by simpa [L] using B
       obtain⟨l,k1,k2⟩:=cellAt j B;refine⟨?_,t.frozen _ (by omega)⟩;rw[k2];have:xs.toArray[j]! =l:=by
        have:=(pR.1 k1)
        obtain⟨k3,k4⟩:=this;simp[k3,k4]
       rw[this]
      have hc:=h1 b (c+o) cap xs w hH t.lt (by omega);rw[L]at hc;refine hc.mono λe' w' Q=>?_;obtain⟨he,k,os,Q⟩:=Q;rw[xU]at Q
      let w1:=putRow encStr (Sort.ahead w k) b (c+o) (G9 xs).toArray
      have p:SameBut w w1 b e (splice arr.toList (c+o) ((G9 xs).map encStr)).toArray fz:=by
       refine⟨rfl,rfl,rfl,by simp[w1,Sort.ahead],?_,λR m=>?_⟩
       ·show((w.heap.modify b (onCells (putCells encStr (c+o) (G9 xs).toArray))))[b]?=_;rw[l0r,CJ rfl,t.block];simp only[oH,onCells];rw[Tz _ _ _ _ (by omega)]
       ·show((w.heap.modify b (onCells (putCells encStr (c+o) (G9 xs).toArray))))[R]?=_;rw[l0r,Co (Ne.symm m)]
      have hv:BU (C.sel q) w ((G9 xs).map λl=>AV.v (.string ⟨⟨l⟩⟩)) ((G9 xs).map encStr):=by
       refine⟨by simp,λi a d=>?_⟩;rw[pS]at d⊢;cases hx:(G9 xs)[i]? with
       |none=>rw[hx]at d;cases d
       |some l=>
        rw[hx]at d;injection d with d
        subst d;exact⟨encStr l,rfl,.v _⟩
      obtain⟨F,ab⟩:=hr.store (O:=w0.own) hl t (by simpa [Z] using(by omega:o+xs.length<=cs.length)) hv p;have u:Below w1.heap.size w1 w':=by
       rw[Q];exact⟨rfl,rfl,rfl,(show w1.heap.size<=(w1.heap++os).size by simp),λR m=>(show(w1.heap++os)[R]?=w1.heap[R]? by rw[Array.getElem?_append_left m])⟩
      exact⟨.tup [],.tuple #[],C,_,he,F.of_below u,.tup #[] rfl (λi d=>absurd d (by simp)),(ab.trans (F.ext_below u)).frm,h2⟩
     |[],g=>exact absurd g.1 (by simp)
     |_::_::_,g=>exact absurd g.1 (by simp)
   ·exact .inl h
  ·exact .inl h
 ·exact .inl h
def A5Q(T:TypeId):OF:=λargs H K alt=>match args with
 |[.v (.slice none 0 0),.v (.int .i64 (.ofNat c))]=>@Bool.rec (λ_=>Af) (@Bool.rec (λ_=>Af) alt (K (.v (.slice none 0 0)) H) (Nat.beq c 0)) (GP H λr=>K (.sl 1 r 0 0) ((r,.cells false T [])::H)) (Nat.blt 0 c&&Nat.ble c 1000000)
 |_=>alt
def A5P{E:XE}{P:Program}{f T:Nat}(t:TY P f)(y:∀(w:World),Calls P f #[.slice none 0 0,.int .i64 0] w λe j=>e=.returned (.slice none 0 0)/\j=w)(h1:∀(n:Nat)(w:World),0<n->n<=1000000->Calls P f #[.slice none 0 0,.int .i64 n] w λe j=>∃(arr:Array Value)(fz:Nat×Nat)(cap:Nat),cap<=arr.size/\e=.returned (.slice (some ⟨w.heap.size,0,none⟩) 0 cap)/\Below w.heap.size w j/\j.heap[w.heap.size]?=some (.cells arr T fz)/\∀i,i<arr.size->¬(fz.1<=i/\i<fz.2)):
 mH E P f (A5Q T):=by
 intro args H K alt r h;unfold A5Q at h;split at h
 ·rename_i c;cases k:(Nat.blt 0 c&&Nat.ble c 1000000)
  ·rw[k]at h;cases hz:Nat.beq c 0
   ·rw[hz]at h;exact .inl h
   ·rw[hz]at h;have m:=VQ hz;subst m;refine .inr ⟨t,WQ h λw0 C w p hr a=>?_⟩
    match p,a with
    |[y1,y2],a=>
     have d:VRel C w (.v (.slice none 0 0)) y1:=a.get 0 (by simp);have g:VRel C w (.v (.int .i64 (.ofNat 0))) y2:=a.get 1 (by simp);obtain rfl:=A6.1 d;obtain rfl:=A6.1 g;exact(y w).mono λe j ⟨he,A⟩=>⟨he,by subst A;exact Below.refl _ _⟩
    |[],a=>exact absurd a.1 (by simp)
    |[_],a=>exact absurd a.1 (by simp)
    |_::_::_::_,a=>exact absurd a.1 (by simp)
  ·rw[k]at h;simp only[I0,Ua,Zl]at k;obtain⟨u,x⟩:=k;refine .inr ⟨t,λw0 C w p hr a=>?_⟩;change GP H (λr=>K (.sl 1 r 0 0) ((r,.cells false T [])::H))=some r at h;rw[BQ]at h
   match p,a with
   |[y1,y2],a=>
    have d:VRel C w (.v (.slice none 0 0)) y1:=a.get 0 (by simp);have g:VRel C w (.v (.int .i64 (.ofNat c))) y2:=a.get 1 (by simp);obtain rfl:=A6.1 d;obtain rfl:=A6.1 g;refine(h1 c w u x).mono λe j ⟨arr,fz,cap,s,he,hb,hk,Od⟩=>?_;exact⟨.sl 1 (Ay H) 0 0,_,C.put (Ay H) (some (w.heap.size,0)),_,he,hr.new (q:=false) (cs:=[]) hb hk Od (xQ _) .nil (λh=>by cases h),.sl (C.put_n _ _) (xQ _) hk (by omega),(hr.new_ext (O:=w0.own) hb).frm,h⟩
   |[],a=>exact absurd a.1 (by simp)
   |[_],a=>exact absurd a.1 (by simp)
   |_::_::_::_,a=>exact absurd a.1 (by simp)
 ·exact .inl h
abbrev Ld:=Oe×Oe
def VD(x:Ld):Hx:=[.string ⟨⟨x.1⟩⟩,.string ⟨⟨x.2⟩⟩]
def Sg(x:Ld):Is:=[.v (.string ⟨⟨x.1⟩⟩),.v (.string ⟨⟨x.2⟩⟩)]
def Mu(x y:Ld):Prop:=x.1<y.1\/x.1=y.1/\x.2<=y.2
instance (x y:Ld):Decidable (Mu x y):=by unfold Mu;infer_instance
def cfP(x y:Ld):Int:=if x.1<y.1 then-1 else if y.1<x.1 then 1 else if x.2<y.2 then-1 else if y.2<x.2 then 1 else 0
def Y'(x:Ld):List Ld->List Ld
 |[]=>[x]
 |y::l=>if Mu x y then x::y::l else y::Y' x l
def Hj:List Ld->List Ld
 |[]=>[]
 |x::l=>Y' x (Hj l)
def MU{a b:Oe}:¬a<b↔b<=a:=List.not_lt
def De(a:Oe):¬a<a:=λh=>MU.2 (List.le_refl a) h
def Sq{a b:Oe}(h:a<b):a<=b:=(RE a b).resolve_right λk=>MU.2 k h
def Mn{a b:Oe}(h:a<=b)(k:a≠b):a<b:=l2x λn=>k (Xo h (MU.1 n))
def Lg{a b c:Oe}(h:a<b)(k:b<c):a<c:=by
 refine Mn (Vq (Sq h) (Sq k)) λe=>?_;subst e;exact MU.2 (Sq h) k
def jN(x y:Ld):Mu x y\/Mu y x:=by
 unfold Mu;by_cases h:x.1=y.1
 ·rcases RE x.2 y.2 with k|k
  ·exact .inl (.inr ⟨h,k⟩)
  ·exact .inr (.inr ⟨h.symm,k⟩)
 ·rcases RE x.1 y.1 with k|k
  ·exact .inl (.inl (Mn k h))
  ·exact .inr (.inl (Mn k (Ne.symm h)))
def X0{x y z:Ld}(h:Mu x y)(k:Mu y z):Mu x z:=by
 unfold Mu at*;rcases h with h|⟨h,a⟩
 ·rcases k with k|⟨k,_⟩
  ·exact .inl (Lg h k)
  ·exact .inl (k▸h)
 ·rcases k with k|⟨k,c⟩
  ·exact .inl (h.symm▸k)
  ·exact .inr ⟨h.trans k,Vq a c⟩
def A14{x y:Ld}(h:Mu x y)(k:Mu y x):x=y:=by
 unfold Mu at*;obtain⟨a,b⟩:=x;obtain⟨c,d⟩:=y;rcases h with h|⟨h,f⟩
 ·rcases k with k|⟨k,_⟩
  ·exact absurd (Lg h k) (De _)
  ·exact absurd (k▸h) (De _)
 ·rcases k with k|⟨k,g⟩
  ·exact absurd (h▸k) (De _)
  ·have e:=Xo f g;simp only at h e;rw[h,e]
theorem Zp(x:Ld):∀l,(Y' x l).Perm (x::l)
 |[]=>.refl _
 |y::l=>by
  unfold Y';split
  ·exact .refl _
  ·exact((Zp x l).cons y).trans (.swap x y l)
theorem HV:∀l,(Hj l).Perm l
 |[]=>.refl _
 |x::l=>(Zp x _).trans ((HV l).cons x)
theorem ZY(x:Ld):∀l,l.Pairwise Mu->(Y' x l).Pairwise Mu
 |[],_=>by simp[Y']
 |y::l,h=>by
  have c:=l2k.1 h;unfold Y';split
  ·rename_i a;refine l2k.2 ⟨λz hz=>?_,h⟩;rcases Rx.1 hz with rfl|hz
   ·exact a
   ·exact X0 a (c.1 z hz)
  ·rename_i a;have d:Mu y x:=(jN x y).resolve_left a;refine l2k.2 ⟨λz hz=>?_,ZY x l c.2⟩;rcases Rx.1 ((Zp x l).mem_iff.1 hz) with rfl|hz
   ·exact d
   ·exact c.1 z hz
theorem Re:∀l,(Hj l).Pairwise Mu
 |[]=>.nil
 |x::l=>ZY x _ (Re l)
def iQ:∀{l m:List Ld},l.Perm m->l.Pairwise Mu->m.Pairwise Mu->l=m:=by
 intro l
 induction l with
 |nil=>intro m h _ _;exact(List.nil_perm.1 h).symm
 |cons a l ih=>
  intro m h i hm;cases m with
  |nil=>exact absurd h.symm (by simp)
  |cons b m=>
   have c:=l2k.1 i;have d:=l2k.1 hm;have g:a=b:=by
    rcases Rx.1 (h.mem_iff.1 List.mem_cons_self) with e|e
    ·exact e
    ·rcases Rx.1 (h.mem_iff.2 List.mem_cons_self) with f|f
     ·exact f.symm
     ·exact A14 (c.1 _ f) (d.1 _ e)
   subst g;rw[ih ((List.perm_cons a).1 h) c.2 d.2]
def A6I{x y:Ld}:cfP x y<0↔¬Mu y x:=by
 unfold cfP Mu;by_cases h1:x.1<y.1
 ·rw[CJ h1];refine⟨λ_ h=>?_,λ_=>by decide⟩;rcases h with h|⟨h,_⟩
  ·exact De _ (Lg h h1)
  ·exact De _ (h▸h1)
 ·rw[Co h1];by_cases h2:y.1<x.1
  ·rw[CJ h2];exact⟨λh=>absurd h (by decide),λh=>absurd (.inl h2) h⟩
  ·rw[Co h2];have e:x.1=y.1:=Xo (MU.1 h2) (MU.1 h1);by_cases a:x.2<y.2
   ·rw[CJ a];refine⟨λ_ h=>?_,λ_=>by decide⟩;rcases h with h|⟨_,h⟩
    ·exact h2 h
    ·exact MU.2 h a
   ·rw[Co a];have:¬((if y.2<x.2 then(1:Int) else 0)<0):=by split<;>decide
    exact⟨λh=>absurd h this,λh=>absurd (.inr ⟨e.symm,MU.1 a⟩) h⟩
def sI(x y:Ld):Bool:=decide (cfP x y<0)
def ltP{x y:Ld}:sI x y= !decide (Mu y x):=by
 unfold sI;by_cases h:Mu y x
 ·have:¬cfP x y<0:=λk=>A6I.1 k h;simp[h,this]
 ·have:cfP x y<0:=A6I.2 h;simp[h,this]
def B9a:SWO sI:=by
 refine⟨λx=>?_,λx y z h k=>?_,λx y z h k=>?_⟩
 ·rw[ltP];simp[Mu,List.le_refl]
 ·rw[ltP] at*;simp only[tD,decide_eq_false_iff_not] at*;intro n;exact h (X0 ((jN y z).resolve_right k) n)
 ·rw[ltP] at*;simp only[Bool.not_eq_false',decide_eq_true_eq] at*;exact X0 k h
def B99(x y:Ld)(h:sI x y=false)(k:sI y x=false):x=y:=by
 rw[ltP] at*;simp only[Bool.not_eq_false',decide_eq_true_eq] at*;exact A14 k h
def tF(l:List Ld):(l.mergeSort λx y=>!sI y x)=Hj l:=by
 refine iQ ((List.mergeSort_perm l _).trans (HV l).symm) ?_ (Re l);have:=List.pairwise_mergeSort (le:=λx y:Ld=>!sI y x)
  (λa b c h k=>by simp only[ltP,Bool.not_not,decide_eq_true_eq]at h k⊢;exact X0 h k)
  (λa b=>by simp only[ltP,Bool.not_not,l1d,decide_eq_true_eq];exact jN a b) l
 exact this.imp (λh=>by simpa [ltP] using h)
def p2O:Is->Option (List Ld)
 |[]=>some []
 |.v (.string a):: .v (.string b)::cs=>(p2O cs).map ((a.data.toList,b.data.toList):: ·)
 |_=>none
def A5j:∀{cs:Is}{xs:List Ld},p2O cs=some xs->cs=xs.flatMap Sg:=by
 intro cs
 induction cs using p2O.induct with
 |case1=>intro xs h;simp[p2O]at h;subst h;rfl
 |case2 a b cs ih=>
  intro xs h;rw[p2O]at h;cases he:p2O cs with
  |none=>rw[he]at h;cases h
  |some l=>
   rw[he]at h;injection h with h
   subst h;rw[kL,<-ih he];rfl
 |case3 cs h1 h2=>
  intro xs h;rw[p2O]at h
  ·cases h
  ·exact h1
  ·exact h2
def B44(xs:List Ld):p2O (xs.flatMap Sg)=some xs:=by
 induction xs with
 |nil=>rfl
 |cons x xs ih=>
  show(p2O (xs.flatMap Sg)).map _=_;rw[ih];rfl
def YK(g:Nat):OF:=λargs H K alt=>match args with
 |[.v (.slice _ 0 _),.fn (.func _) [] []]=>K (.tup []) H
 |[.sl 2 s o n,.fn (.func d) [] []]=>(match Ao H s with
  |some (.cells q e cs)=>(match p2O ((cs.drop o).take (n*2)) with
   |some xs=>@Bool.rec (λ_=>Af) alt (D8 o ((Hj xs).flatMap Sg) cs λa=>XA5 H s (.cells q e a) λc=>K (.tup []) c) (Nat.beq g d&&(Nat.beq n xs.length&&(Nat.blt n 4611686018427387904&&Nat.blt 0 n)))
   |none=>alt)
  |_=>alt)
 |_=>alt
def sJ(f:Ld->Is)(c:∀x,(f x).length=2):∀l:List Ld,(l.flatMap f).length=l.length*2:=by
 intro l
 induction l with
 |nil=>rfl
 |cons a l ih=>rw[kL,E6,c,ih,Kg];omega
def gD(l:List Ld):(flatK VD 2 l.toArray)=(l.flatMap VD).toArray:=by
 have e:(l.flatMap VD).length=l.length*2:=by
  induction l with
  |nil=>rfl
  |cons a l ih=>rw[kL,E6,ih,Kg];simp[VD];omega
 have key:∀(l:List Ld)(j:Nat),j<l.length*2->(l.flatMap VD)[j]! =(VD l.toArray[j/2]!)[j%2]! :=by
  intro l
  induction l with
  |nil=>intro j h;simp at h
  |cons a l ih=>
   intro j h;rw[kL]
   match j,h with
   |0,_=>rfl
   |1,_=>rfl
   |j+2,h=>
    have:=ih j (by simp at h;omega);rw[show(j+2)/2=j/2+1 by omega,show(j+2)%2=j%2 by omega];have d:(VD a++l.flatMap VD)[j+2]! =(l.flatMap VD)[j]! :=rfl;rw[d,this];simp
 refine ext_get! (by simp[e]) λt f=>?_;have c:t<l.toArray.size*2:=by simpa using f
 rw[get_flatK _ _ _ _ c,<-key l t (by simpa using c)];simp
def B0C:∀(l:List Ld)(j:Nat),(l.flatMap Sg)[j]?=((l.flatMap VD)[j]?).map AV.v:=by
 intro l
 induction l with
 |nil=>intro j;rfl
 |cons a l ih=>
  intro j
  match j with
  |0=>rfl
  |1=>rfl
  |j+2=>exact ih j
def A2d{E:XE}{P:Program}{f g:Nat}(hf:TY P f)(h0:∀(p:Option Addr)(cap:Nat)(fv:Value)(w:World),Calls P f #[.slice p 0 cap,fv] w λe M=>e=.returned (.tuple #[])/\M=w)(h1:∀(Ub off cap:Nat)(d:List Ld)(w:World),HoldsK VD 2 w Ub off d.toArray->Ub<w.heap.size->d.length<4611686018427387904->
  Calls P f #[.slice (some ⟨Ub,off,none⟩) d.length cap,.func (.func g) #[] #[]] w λe M=>e=.returned (.tuple #[])/\∃n os,M=sortWorldK VD 2 w Ub off n (d.mergeSort λx y=>!sI y x).toArray os):mH E P f (YK g):=by
 intro args H K alt r h;unfold YK at h;split at h
 ·rename_i pa pc _;refine .inr ⟨hf,?_⟩;intro w0 C w ys hr m
  match ys,m with
  |[y1,y2],m=>
   have D:VRel C w (.v (.slice pa 0 pc)) y1:=m.get 0 (by simp);obtain rfl:=A6.1 D;refine(h0 pa pc y2 w).mono λe' M R=>?_;obtain⟨he,rfl⟩:=R;exact⟨.tup [],.tuple #[],C,_,he,hr,.tup #[] rfl (λi t=>absurd t (by simp)),(Ext.refl _ C M).frm,h⟩
  |[],m=>exact absurd m.1 (by simp)
  |[_],m=>exact absurd m.1 (by simp)
  |_::_::_::_,m=>exact absurd m.1 (by simp)
 ·rename_i s o n g';split at h
  ·rename_i q e cs hl;split at h
   ·rename_i xs ah;cases hg:(Nat.beq g g'&&(Nat.beq n xs.length&&(Nat.blt n 4611686018427387904&&Nat.blt 0 n)))
    ·rw[hg]at h;exact .inl h
    ·rw[hg]at h;simp only[I0,eY,Ua]at hg;obtain⟨gg,g1,g2,g3⟩:=hg;subst gg;refine .inr ⟨hf,?_⟩;obtain⟨aj,h2⟩:=J5 _ _ _ _ _ h;rw[CX]at h2;have Y:=A5j ah;have aa:=(HV xs).length_eq;have Z:((Hj xs).flatMap Sg).length=n*2:=by rw[sJ Sg (λ_=>rfl),aa,g1]
     intro w0 C w ys hr m
     match ys,m with
     |[y1,y2],m=>
      have D:VRel C w (.sl 2 s o n) y1:=m.get 0 (by simp);have ad:VRel C w (.fn (.func g) [] []) y2:=m.get 1 (by simp);obtain⟨b,c,arr,fz,cap,rfl,ai,N,hsz⟩:=rV hr hl D (by omega);obtain rfl:y2=.func (.func g) #[] #[]:=by
       cases ad with
       |fn ys zs k1 k2=>
        have A:=Array.eq_empty_of_size_eq_zero k1;have e2:=Array.eq_empty_of_size_eq_zero k2;rw[A,e2]
      have B:xs.length=n:=g1.symm;have F:o+n*2<=cs.length:=by
       have:=congrArg List.length Y;rw[sJ Sg (λ_=>rfl)]at this;simp at this;omega
      have ak:=N.fits;have cellAt:∀j,j<n*2->w.cell? ⟨b,c+o+j,none⟩=(xs.flatMap VD)[j]?:=λj Q=>by
       obtain⟨v,ae,ac⟩:=N.get (o+j) (by omega);have A:((cs.drop o).take (n*2))[j]?=some (cs[o+j]'(by omega)):=by
        rw[oI,CJ Q,fX,II]
       rw[Y,B0C]at A;cases hq:(xs.flatMap VD)[j]? with
       |none=>rw[hq]at A;cases A
       |some u=>
        rw[hq]at A;injection A with A
        rw[<-A]at ac;rw[WE,ae,A6.1 ac]
      have hH:HoldsK VD 2 w b (c+o) xs.toArray:=λj Q=>by
       have Q:j<n*2:=by simpa [B] using Q
       refine⟨?_,N.frozen _ (by omega)⟩;rw[cellAt j Q,gD];have:j<(xs.flatMap VD).length:=by
        have:=congrArg Array.size (gD xs);simp[B]at this;simp[<-this,Q]
       simp only[id,List.getElem!_toArray,List.getElem!_eq_getElem?_getD];rw[II this];rfl
      have hc:=h1 b (c+o) cap xs w hH N.lt (by omega);rw[B]at hc;refine hc.mono λe' M R=>?_;obtain⟨he,k,os,R⟩:=R;rw[tF]at R
      let w1:=putRowK VD 2 (Sort.ahead w k) b (c+o) (Hj xs).toArray
      have af:w1=putRow id (Sort.ahead w k) b (c+o) ((Hj xs).flatMap VD).toArray:=by
       show putRow id _ _ _ (flatK VD 2 _)=_;rw[gD]
      have X:((Hj xs).flatMap VD).length=n*2:=by
       have:=congrArg Array.size (gD (Hj xs));simp[aa,B]at this;simp[<-this]
      have L:SameBut w w1 b e (splice arr.toList (c+o) ((Hj xs).flatMap VD)).toArray fz:=by
       rw[af];refine⟨rfl,rfl,rfl,by simp[Sort.ahead],?_,λk' J=>?_⟩
       ·show((w.heap.modify b (onCells (putCells id (c+o) ((Hj xs).flatMap VD).toArray))))[b]?=_;rw[l0r,CJ rfl,N.block];simp only[oH,onCells];rw[Tz _ _ _ _ (by rw[X];omega),List.map_id]
       ·show((w.heap.modify b (onCells (putCells id (c+o) ((Hj xs).flatMap VD).toArray))))[k']?=_;rw[l0r,Co (Ne.symm J)]
      have hv:BU (C.sel q) w ((Hj xs).flatMap Sg) ((Hj xs).flatMap VD):=by
       refine⟨by rw[Z,X],λi a t=>?_⟩;rw[B0C]at t;cases hx:((Hj xs).flatMap VD)[i]? with
       |none=>rw[hx]at t;cases t
       |some u=>
        rw[hx]at t;injection t with t
        subst t;exact⟨u,rfl,.v _⟩
      obtain⟨ab,ag⟩:=hr.store (O:=w0.own) hl N (by rw[Z];exact F) hv L;have V:Below w1.heap.size w1 M:=by
       rw[R];exact⟨rfl,rfl,rfl,(show w1.heap.size<=(w1.heap++os).size by simp),λk' J=>(show(w1.heap++os)[k']?=w1.heap[k']? by rw[Array.getElem?_append_left J])⟩
      exact⟨.tup [],.tuple #[],C,_,he,ab.of_below V,.tup #[] rfl (λi t=>absurd t (by simp)),(ag.trans (ab.ext_below V)).frm,h2⟩
     |[],m=>exact absurd m.1 (by simp)
     |[_],m=>exact absurd m.1 (by simp)
     |_::_::_::_,m=>exact absurd m.1 (by simp)
   ·exact .inl h
  ·exact .inl h
 ·exact .inl h
end Go.Abs
end
