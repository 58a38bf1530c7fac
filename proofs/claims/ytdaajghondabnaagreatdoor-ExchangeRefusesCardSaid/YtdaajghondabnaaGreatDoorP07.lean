import Derived.Shelf.Strings.OnBuilder
import Derived.Shelf.Strings.Repeat
import Derived.Shelf.Sort.Plain
import Derived.Shelf.Slices.In.SortNone
import Derived.Test.YtdaajghondabnaaGreatDoorP04
set_option linter.all false
set_option maxHeartbeats 100000000
noncomputable section
namespace Go.Abs
open Go.RowKit
section
variable{f:Nat}{P:Program}
def Vi:Is->Option (List Ha)
 |[]=>some []
 |.v (.string s)::cs=>(Vi cs).map (s.data.toList:: ·)
 |_=>none
def sV:∀{cs:Is}{xs:List Ha},Vi cs=some xs->cs=xs.map λl=>.v (.string ⟨⟨l⟩⟩):=by
 intro cs
 induction cs with
 |nil=>intro xs h;simp[Vi]at h;subst h;rfl
 |cons a cs ih=>
  intro xs h;unfold Vi at h;split at h
  ·rename_i he;cases he
  ·rename_i s c he;injection he with h1 h2
   subst h1 h2;cases b:Vi cs with
   |none=>rw[b]at h;cases h
   |some d=>
    rw[b]at h;injection h with h
    subst h;rw[ih b];obtain⟨⟨l⟩⟩:=s;rfl
  ·cases h
def B0X:OF:=λargs H K alt=>match args with
 |[.list n cs,.v (.string s)]=>(match Vi cs with
  |some xs=>@Bool.rec (λ_=>Af) alt (Za (Lib.join xs s.data.toList) [] λl=>K (.v (.string ⟨⟨l⟩⟩)) H) (Nat.beq n xs.length&&(Nat.ble xs.length 140737488355328&&Nat.ble (Lib.join xs s.data.toList).length 140737488355328))
  |none=>alt)
 |_=>alt
def B0W{E:XE}(X:dF P f)(Q:∀(a:Option Addr)(c:Nat)(sep:ByteArray)(w:World),Calls P f #[.slice a 0 c,.string sep] w λe i=>e=.returned (.string ⟨#[]⟩)/\i=w)(h1:∀(u o c:Nat)(xs:List ByteArray)(sep:ByteArray)(w:World)(p:∀(j:Nat)x,xs[j]?=some x->w.cell? ⟨u,o+j,none⟩=some (.string x))(V:u<w.heap.size)(hN:xs.length<=140737488355328)(k:xs.length<=c)(J:(Lib.join (xs.map (·.data.toList)) sep.data.toList).length<=140737488355328),
  Calls P f #[.slice (some ⟨u,o,none⟩) xs.length c,.string sep] w λe i=>e=.returned (.string ⟨(Lib.join (xs.map (·.data.toList)) sep.data.toList).toArray⟩)/\Below w.heap.size w i):G_ E P f B0X:=by
 intro args H K alt r h;unfold B0X at h;split at h
 ·rename_i n cs s;split at h
  ·rename_i xs B;cases q:(Nat.beq n xs.length&&(Nat.ble xs.length 140737488355328&&Nat.ble (Lib.join xs s.data.toList).length 140737488355328))
   ·rw[q]at h;exact .inl h
   ·rw[q]at h;simp only[KF,rC,kC]at q;obtain⟨F,N,O⟩:=q;refine .inr ⟨X,fJ (x:=.string ⟨⟨Lib.join xs s.data.toList⟩⟩) ?_ λw0 C w ys hr d=>?_⟩
    ·rw[MX,V0]at h;exact h
    ·have m:=sV B
     match ys,d with
     |[y1,y2],d=>
      have y:VRel C w (.list n cs) y1:=d.get 0 (by simp);have A:VRel C w (.v (.string s)) y2:=d.get 1 (by simp);obtain rfl:=AN.1 A;have nil:∀a cap,n=0->Calls P f #[.slice a n cap,.string s] w λe i=>e=.returned (.string ⟨⟨Lib.join xs s.data.toList⟩⟩)/\Below w.heap.size w i:=λa cap hn=>by
       subst hn;have:xs=[]:=mH F.symm;subst this;refine(Q a cap s w).mono λe i ⟨he,Z⟩=>⟨?_,Z▸Below.refl _ _⟩
       rw[he];rfl
      cases y with
      |list0=>exact nil _ _ rfl
      |@list _ _ _ cap _ b o k vs R hc hv=>
       by_cases hn:n=0
       ·exact nil _ _ hn
       ·have hl:cs.length=xs.length:=by rw[m];simp
        have:=h1 b o cap (xs.map λl=>⟨⟨l⟩⟩) s w (λj x g=>?_) (hr.fin b (o+0) (R 0 (by omega))) (by simpa using N) (by simp;omega) (by simpa [List.map_map,l1y] using O)
        ·simp only[UH,List.map_map,l1y,List.map_id']at this;rw[<-F]at this;exact this
        ·rw[yH]at g;cases t:xs[j]? with
         |none=>rw[t]at g;cases g
         |some l=>
          rw[t]at g;injection g with g
          subst g;have Y:j<xs.length:=(zT.1 t).1;have L:=hc j (by omega);have D:=hv j (by omega);have M:cs[j]'(by omega)=.v (.string ⟨⟨l⟩⟩):=by
           have:cs[j]?=some (.v (.string ⟨⟨l⟩⟩)):=by rw[m,yH,t];rfl
           exact(zT.1 this).2
          rw[M]at D;rw[L,AN.1 D]
     |[],d=>exact absurd d.1 (by simp)
     |[_],d=>exact absurd d.1 (by simp)
     |_::_::_::_,d=>exact absurd d.1 (by simp)
  ·exact .inl h
 ·exact .inl h
def N?:OF:=λargs H K alt=>match args with
 |[.v (.string s),.v (.int .i64 (.ofNat c))]=>@Bool.rec (λ_=>Af) alt (Za (Lib.repeatL s.data.toList c) [] λl=>K (.v (.string ⟨⟨l⟩⟩)) H) (Nat.ble c 9223372036854775807&&Nat.ble (s.data.toList.length*c) 140737488355328)
 |_=>alt
def A3E{E:XE}(j:dF P f)(h1:∀(s:ByteArray)(c:Nat)(w:World)(hc:c<=9223372036854775807)(i:s.size*c<=140737488355328),Calls P f #[.string s,.int .i64 c] w λe k=>e=.returned (.string ⟨(Lib.repeatL s.data.toList c).toArray⟩)/\Below w.heap.size w k):G_ E P f N?:=by
 intro args H K alt r h;unfold N? at h;split at h
 ·rename_i s c;cases b:(Nat.ble c 9223372036854775807&&Nat.ble (s.data.toList.length*c) 140737488355328)
  ·rw[b]at h;exact .inl h
  ·rw[b]at h;simp only[KF,kC]at b;refine .inr ⟨j,fJ (x:=.string ⟨⟨Lib.repeatL s.data.toList c⟩⟩) ?_ λw0 C w m hr a=>?_⟩
   ·rw[MX,V0]at h;exact h
   ·match m,a with
    |[y1,y2],a=>
     have d:VRel C w (.v (.string s)) y1:=a.get 0 (by simp);have g:VRel C w (.v (.int .i64 (.ofNat c))) y2:=a.get 1 (by simp);obtain rfl:=AN.1 d;obtain rfl:=AN.1 g;exact h1 s c w b.1 (by have:=b.2;simpa using this)
    |[],a=>exact absurd a.1 (by simp)
    |[_],a=>exact absurd a.1 (by simp)
    |_::_::_::_,a=>exact absurd a.1 (by simp)
 ·exact .inl h
end
open Go.RowKit Go.Sort Go.Proofs
abbrev Str:=Ha
def ins(x:Str):List Str->List Str
 |[]=>[x]
 |y::l=>if x<=y then x::y::l else y::ins x l
def Et:List Str->List Str
 |[]=>[]
 |x::l=>ins x (Et l)
theorem vE(x:Str):∀l,(ins x l).Perm (x::l)
 |[]=>.refl _
 |y::l=>by
  unfold ins;split
  ·exact .refl _
  ·exact((vE x l).cons y).trans (.swap x y l)
theorem Bq:∀l,(Et l).Perm l
 |[]=>.refl _
 |x::l=>(vE x _).trans ((Bq l).cons x)
def XA6(a b:Str):a<=b\/b<=a:=List.le_total a b
def kQ{a b c:Str}(h:a<=b)(k:b<=c):a<=c:=List.le_trans h k
def sW{a b:Str}(h:a<=b)(k:b<=a):a=b:=List.le_antisymm h k
theorem vD(x:Str):∀l,l.Pairwise (· <= ·)->(ins x l).Pairwise (· <= ·)
 |[],_=>by simp[ins]
 |y::l,h=>by
  have b:=l2p.1 h;unfold ins;split
  ·rename_i a;refine l2p.2 ⟨λz hz=>?_,h⟩;rcases Xh.1 hz with rfl|hz
   ·exact a
   ·exact kQ a (b.1 z hz)
  ·rename_i a;have c:y<=x:=(XA6 x y).resolve_left a;refine l2p.2 ⟨λz hz=>?_,vD x l b.2⟩;rcases Xh.1 ((vE x l).mem_iff.1 hz) with rfl|hz
   ·exact c
   ·exact b.1 z hz
theorem DR:∀l,(Et l).Pairwise (· <= ·)
 |[]=>.nil
 |x::l=>vD x _ (DR l)
def IF:∀{l m:List Str},l.Perm m->l.Pairwise (· <= ·)->m.Pairwise (· <= ·)->l=m:=by
 intro l
 induction l with
 |nil=>intro m h _ _;exact(List.nil_perm.1 h).symm
 |cons a l ih=>
  intro m h i hm;cases m with
  |nil=>exact absurd h.symm (by simp)
  |cons b m=>
   have c:=l2p.1 i;have d:=l2p.1 hm;have g:a=b:=by
    rcases Xh.1 (h.mem_iff.1 List.mem_cons_self) with e|e
    ·exact e
    ·rcases Xh.1 (h.mem_iff.2 List.mem_cons_self) with f|f
     ·exact f.symm
     ·exact sW (c.1 _ f) (d.1 _ e)
   subst g;rw[ih ((List.perm_cons a).1 h) c.2 d.2]
def A1N(l:List Str):l.mergeSort (λx y=>decide (x<=y))=Et l:=by
 refine IF ((List.mergeSort_perm l _).trans (Bq l).symm) ?_ (DR l);have:=List.pairwise_mergeSort (le:=λx y:Str=>decide (x<=y)) (λa b c h k=>by simp only[decide_eq_true_eq]at h k⊢;exact kQ h k) (λa b=>by simpa using XA6 a b) l;exact this.imp (λh=>by simpa using h)
def T7:OF:=λargs H K alt=>match args with
 |[.sl 1 s o n]=>(match Ai H s with
  |some (.cells q e cs)=>(match Vi ((cs.drop o).take n) with
   |some xs=>@Bool.rec (λ_=>Af) alt (Ey o ((Et xs).map λl=>.v (.string ⟨⟨l⟩⟩)) cs λa=>XA4 H s (.cells q e a) λb=>K (.tup []) b) (Nat.beq n xs.length&&(Nat.blt n 4611686018427387904&&Nat.blt 0 n))
   |none=>alt)
  |_=>alt)
 |_=>alt
def pK{α:Type}[Inhabited α](enc:α->Value)(off:Nat)(d:List α)(arr:Array Value)(h:off+d.length<=arr.size):putCells enc off d.toArray arr=(splice arr.toList off (d.map enc)).toArray:=by
 apply Array.ext_getElem?;intro k;simp only[putCells,Array.getElem?_mapIdx,l15];rw[Py (by simpa using h)];by_cases a:k<arr.size
 ·rw[l1p a,zQ,UH];by_cases h1:k<off
  ·rw[Dq h1,CF (by simp;omega)];simp[a]
  ·rw[CF h1];by_cases h2:k<off+d.length
   ·rw[Dq h2,Dq (by simp;omega),yH];have:k-off<d.length:=by omega
    simp[this]
   ·rw[CF h2,CF (by simp;omega)];simp[a]
 ·rw[Array.getElem?_eq_none (by omega),Option.map_none];have h1:¬k<off:=by omega
  have h2:¬k<off+(d.map enc).length:=by simp;omega
  rw[CF h1,CF h2,l1j (by simp;omega)]
def A9o{E:XE}{P:Program}{f:Nat}(hf:dF P f)(h1:∀(blk off cap:Nat)(ss:List Ha)(w:World)(hH:Holds encStr w blk off ss.toArray)(ac:blk<w.heap.size)(hsz:ss.length<4611686018427387904),
  Calls P f #[.slice (some ⟨blk,off,none⟩) ss.length cap] w λe w'=>e=.returned (.tuple #[])/\∃n os,w'=grow (putRow encStr (Sort.ahead w n) blk off (ss.mergeSort λx y=>decide (x<=y)).toArray) os):G_ E P f T7:=by
 intro args H K alt r h;unfold T7 at h;split at h
 ·rename_i s o n;split at h
  ·rename_i q e cs hl;split at h
   ·rename_i xs ab;cases N:(Nat.beq n xs.length&&(Nat.blt n 4611686018427387904&&Nat.blt 0 n))
    ·rw[N]at h;exact .inl h
    ·rw[N]at h;simp only[KF,rC,Xi]at N;obtain⟨g1,g2,g3⟩:=N;refine .inr ⟨hf,?_⟩;obtain⟨ae,h2⟩:=OK _ _ _ _ _ h;rw[Dg]at h2;have A:=sV ab;have Y:=(Bq xs).length_eq;intro w0 C w ys hr g
     match ys,g with
     |[y1],g=>
      have V:VRel C w (.sl 1 s o n) y1:=g.get 0 (by simp);obtain⟨b,c,arr,fz,cap,rfl,ad,t,hsz⟩:=A3x hr hl V (by omega);have L:xs.length=n:=g1.symm;have X:o+n<=cs.length:=by
       have:=congrArg List.length A;simp at this;omega
      have af:=t.fits;have cellAt:∀j,j<n->∃l,xs[j]?=some l/\w.cell? ⟨b,c+o+j,none⟩=some (.string ⟨⟨l⟩⟩):=λj B=>by
       have D:j<xs.length:=by omega
       obtain⟨v,Z,J⟩:=t.get (o+j) (by omega);have M:((cs.drop o).take n)[j]?=some (cs[o+j]'(by omega)):=by
        rw[zR,Dq B,qH,KL]
       rw[A,yH,KL D]at M;injection M with M
       rw[<-M]at J;refine⟨xs[j],KL D,?_⟩;rw[kD,Z,AN.1 J]
      have hH:Holds encStr w b (c+o) xs.toArray:=λj B=>by
       have B:j<n:=by simpa [L] using B
       obtain⟨l,k1,k2⟩:=cellAt j B;refine⟨?_,t.frozen _ (by omega)⟩;rw[k2];have:xs.toArray[j]! =l:=by
        have:=(zT.1 k1)
        obtain⟨k3,k4⟩:=this;simp[k3,k4]
       rw[this]
      have hc:=h1 b (c+o) cap xs w hH t.lt (by omega);rw[L]at hc;refine hc.mono λe' w' Q=>?_;obtain⟨he,k,os,Q⟩:=Q;rw[A1N]at Q
      let w1:=putRow encStr (Sort.ahead w k) b (c+o) (Et xs).toArray
      have p:SameBut w w1 b e (splice arr.toList (c+o) ((Et xs).map encStr)).toArray fz:=by
       refine⟨rfl,rfl,rfl,by simp[w1,Sort.ahead],?_,λR m=>?_⟩
       ·show((w.heap.modify b (onCells (putCells encStr (c+o) (Et xs).toArray))))[b]?=_;rw[l0s,Dq rfl,t.block];simp only[zQ,onCells];rw[pK _ _ _ _ (by omega)]
       ·show((w.heap.modify b (onCells (putCells encStr (c+o) (Et xs).toArray))))[R]?=_;rw[l0s,CF (Ne.symm m)]
      have hv:CG (C.sel q) w ((Et xs).map λl=>AV.v (.string ⟨⟨l⟩⟩)) ((Et xs).map encStr):=by
       refine⟨by simp,λi a d=>?_⟩;rw[yH]at d⊢;cases hx:(Et xs)[i]? with
       |none=>rw[hx]at d;cases d
       |some l=>
        rw[hx]at d;injection d with d
        subst d;exact⟨encStr l,rfl,.v _⟩
      obtain⟨F,aa⟩:=hr.store (O:=w0.own) hl t (by simpa [Y] using(by omega:o+xs.length<=cs.length)) hv p;have u:Below w1.heap.size w1 w':=by
       rw[Q];exact⟨rfl,rfl,rfl,(show w1.heap.size<=(w1.heap++os).size by simp),λR m=>(show(w1.heap++os)[R]?=w1.heap[R]? by rw[Array.getElem?_append_left m])⟩
      exact⟨.tup [],.tuple #[],C,_,he,F.of_below u,.tup #[] rfl (λi d=>absurd d (by simp)),(aa.trans (F.ext_below u)).frm,h2⟩
     |[],g=>exact absurd g.1 (by simp)
     |_::_::_,g=>exact absurd g.1 (by simp)
   ·exact .inl h
  ·exact .inl h
 ·exact .inl h
def A1Q(T:TypeId):OF:=λargs H K alt=>match args with
 |[.v (.slice none 0 0),.v (.int .i64 (.ofNat c))]=>@Bool.rec (λ_=>Af) (@Bool.rec (λ_=>Af) alt (K (.v (.slice none 0 0)) H) (Nat.beq c 0)) (Io H λr=>K (.sl 1 r 0 0) ((r,.cells false T [])::H)) (Nat.blt 0 c&&Nat.ble c 1000000)
 |_=>alt
def B14{E:XE}{P:Program}{f T:Nat}(s:dF P f)(y:∀(w:World),Calls P f #[.slice none 0 0,.int .i64 0] w λe g=>e=.returned (.slice none 0 0)/\g=w)(h1:∀(n:Nat)(w:World),0<n->n<=1000000->Calls P f #[.slice none 0 0,.int .i64 n] w λe g=>∃(arr:Array Value)(fz:Nat×Nat)(cap:Nat),cap<=arr.size/\e=.returned (.slice (some ⟨w.heap.size,0,none⟩) 0 cap)/\Below w.heap.size w g/\g.heap[w.heap.size]?=some (.cells arr T fz)/\∀i,i<arr.size->¬(fz.1<=i/\i<fz.2)):
 G_ E P f (A1Q T):=by
 intro args H K alt r h;unfold A1Q at h;split at h
 ·rename_i c;cases j:(Nat.blt 0 c&&Nat.ble c 1000000)
  ·rw[j]at h;cases hz:Nat.beq c 0
   ·rw[hz]at h;exact .inl h
   ·rw[hz]at h;have k:=Z5 hz;subst k;refine .inr ⟨s,fJ h λw0 C w m hr a=>?_⟩
    match m,a with
    |[y1,y2],a=>
     have b:VRel C w (.v (.slice none 0 0)) y1:=a.get 0 (by simp);have d:VRel C w (.v (.int .i64 (.ofNat 0))) y2:=a.get 1 (by simp);obtain rfl:=AN.1 b;obtain rfl:=AN.1 d;exact(y w).mono λe g ⟨he,A⟩=>⟨he,by subst A;exact Below.refl _ _⟩
    |[],a=>exact absurd a.1 (by simp)
    |[_],a=>exact absurd a.1 (by simp)
    |_::_::_::_,a=>exact absurd a.1 (by simp)
  ·rw[j]at h;simp only[KF,Xi,kC]at j;obtain⟨u,x⟩:=j;refine .inr ⟨s,λw0 C w m hr a=>?_⟩;change Io H (λr=>K (.sl 1 r 0 0) ((r,.cells false T [])::H))=some r at h;rw[Ca]at h
   match m,a with
   |[y1,y2],a=>
    have b:VRel C w (.v (.slice none 0 0)) y1:=a.get 0 (by simp);have d:VRel C w (.v (.int .i64 (.ofNat c))) y2:=a.get 1 (by simp);obtain rfl:=AN.1 b;obtain rfl:=AN.1 d;refine(h1 c w u x).mono λe g ⟨arr,fz,cap,p,he,hb,t,Rf⟩=>?_;exact⟨.sl 1 (As H) 0 0,_,C.put (As H) (some (w.heap.size,0)),_,he,hr.new (q:=false) (cs:=[]) hb t Rf (l1h _) .nil (λh=>by cases h),.sl (C.put_n _ _) (l1h _) t (by omega),(hr.new_ext (O:=w0.own) hb).frm,h⟩
   |[],a=>exact absurd a.1 (by simp)
   |[_],a=>exact absurd a.1 (by simp)
   |_::_::_::_,a=>exact absurd a.1 (by simp)
 ·exact .inl h
end Go.Abs
end
