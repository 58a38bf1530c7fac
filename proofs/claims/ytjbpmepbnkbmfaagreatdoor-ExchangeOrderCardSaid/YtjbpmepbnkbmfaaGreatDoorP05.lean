import Derived.Shelf.Strings.OnBuilder
import Derived.Shelf.Strings.Repeat
import Derived.Shelf.Sort.Plain
import Derived.Shelf.Slices.In.SortNone
import Derived.Test.YtjbpmepbnkbmfaaGreatDoorP02
set_option linter.all false
set_option maxHeartbeats 0
noncomputable section
namespace Go.Abs
open Go.RowKit
section
variable{f:Nat}{P:Program}
def V0:Is->Option (List Ha)
 |[]=>some []
 |.v (.string s)::cs=>(V0 cs).map (s.data.toList:: ·)
 |_=>none
def tL:∀{cs:Is}{xs:List Ha},V0 cs=some xs->cs=xs.map λl=>.v (.string ⟨⟨l⟩⟩):=by
 intro cs
 induction cs with
 |nil=>intro xs h;simp[V0]at h;subst h;rfl
 |cons a cs ih=>
  intro xs h;unfold V0 at h;split at h
  ·rename_i he;cases he
  ·rename_i s c he;injection he with h1 h2
   subst h1 h2;cases b:V0 cs with
   |none=>rw[b]at h;cases h
   |some d=>
    rw[b]at h;injection h with h
    subst h;rw[ih b];have⟨⟨l⟩⟩:=s;rfl
  ·cases h
def B1A:OF:=λargs H K alt=>match args with
 |[.list n cs,.v (.string s)]=>(match V0 cs with
  |some xs=>@Bool.rec (λ_=>Af) alt (Zu (Lib.join xs s.data.toList) [] λl=>K (.v (.string ⟨⟨l⟩⟩)) H) (Nat.beq n xs.length&&(Nat.ble xs.length 140737488355328&&Nat.ble (Lib.join xs s.data.toList).length 140737488355328))
  |none=>alt)
 |_=>alt
def B1z{E:XE}(X:eC P f)(Q:∀(a:Option Addr)(c:Nat)(sep:ByteArray)(w:World),Calls P f #[.slice a 0 c,.string sep] w λe i=>e=.returned (.string ⟨#[]⟩)/\i=w)(h1:∀(u o c:Nat)(xs:List ByteArray)(sep:ByteArray)(w:World)(p:∀(j:Nat)x,xs[j]?=some x->w.cell? ⟨u,o+j,none⟩=some (.string x))(V:u<w.heap.size)(hN:xs.length<=140737488355328)(k:xs.length<=c)(J:(Lib.join (xs.map (·.data.toList)) sep.data.toList).length<=140737488355328),
  Calls P f #[.slice (some ⟨u,o,none⟩) xs.length c,.string sep] w λe i=>e=.returned (.string ⟨(Lib.join (xs.map (·.data.toList)) sep.data.toList).toArray⟩)/\Below w.heap.size w i):N_ E P f B1A:=by
 intro args H K alt r h;unfold B1A at h;split at h
 ·rename_i n cs s;split at h
  ·rename_i xs B;cases q:(Nat.beq n xs.length&&(Nat.ble xs.length 140737488355328&&Nat.ble (Lib.join xs s.data.toList).length 140737488355328))
   ·rw[q]at h;exact .inl h
   ·rw[q]at h;simp only[KW,rU,kZ]at q;have⟨F,N,O⟩:=q;refine .inr ⟨X,gH (x:=.string ⟨⟨Lib.join xs s.data.toList⟩⟩) ?_ λw0 C w ys hr d=>?_⟩
    ·rw[Ni,Vq]at h;exact h
    ·have m:=tL B
     match ys,d with
     |[y1,y2],d=>
      have y:VRel C w (.list n cs) y1:=d.get 0 (by simp);have A:VRel C w (.v (.string s)) y2:=d.get 1 (by simp);obtain rfl:=AQ.1 A;have nil:∀a cap,n=0->Calls P f #[.slice a n cap,.string s] w λe i=>e=.returned (.string ⟨⟨Lib.join xs s.data.toList⟩⟩)/\Below w.heap.size w i:=λa cap hn=>by
       subst hn;have:xs=[]:=gM F.symm;subst this;refine(Q a cap s w).mono λe i ⟨he,Z⟩=>⟨?_,Z▸Below.refl _ _⟩
       rw[he];rfl
      cases y with
      |list0=>exact nil _ _ rfl
      |@list _ _ _ cap _ b o k vs R hc hv=>
       by_cases hn:n=0
       ·exact nil _ _ hn
       ·have hl:cs.length=xs.length:=by rw[m];simp
        have:=h1 b o cap (xs.map λl=>⟨⟨l⟩⟩) s w (λj x g=>?_) (hr.fin b (o+0) (R 0 (by omega))) (by simpa using N) (by simp;omega) (by simpa [List.map_map,l1y] using O)
        ·simp only[QK,List.map_map,l1y,List.map_id']at this;rw[<-F]at this;exact this
        ·rw[yY]at g;cases t:xs[j]? with
         |none=>rw[t]at g;cases g
         |some l=>
          rw[t]at g;injection g with g
          subst g;have Y:j<xs.length:=(E'.1 t).1;have L:=hc j (by omega);have D:=hv j (by omega);have M:cs[j]'(by omega)=.v (.string ⟨⟨l⟩⟩):=by
           have:cs[j]?=some (.v (.string ⟨⟨l⟩⟩)):=by rw[m,yY,t];rfl
           exact(E'.1 this).2
          rw[M]at D;rw[L,AQ.1 D]
     |[],d=>exact absurd d.1 (by simp)
     |[_],d=>exact absurd d.1 (by simp)
     |_::_::_::_,d=>exact absurd d.1 (by simp)
  ·exact .inl h
 ·exact .inl h
def U?:OF:=λargs H K alt=>match args with
 |[.v (.string s),.v (.int .i64 (.ofNat c))]=>@Bool.rec (λ_=>Af) alt (Zu (Lib.repeatL s.data.toList c) [] λl=>K (.v (.string ⟨⟨l⟩⟩)) H) (Nat.ble c 9223372036854775807&&Nat.ble (s.data.toList.length*c) 140737488355328)
 |_=>alt
def A44{E:XE}(j:eC P f)(h1:∀(s:ByteArray)(c:Nat)(w:World)(hc:c<=9223372036854775807)(i:s.size*c<=140737488355328),Calls P f #[.string s,.int .i64 c] w λe k=>e=.returned (.string ⟨(Lib.repeatL s.data.toList c).toArray⟩)/\Below w.heap.size w k):N_ E P f U?:=by
 intro args H K alt r h;unfold U? at h;split at h
 ·rename_i s c;cases b:(Nat.ble c 9223372036854775807&&Nat.ble (s.data.toList.length*c) 140737488355328)
  ·rw[b]at h;exact .inl h
  ·rw[b]at h;simp only[KW,kZ]at b;refine .inr ⟨j,gH (x:=.string ⟨⟨Lib.repeatL s.data.toList c⟩⟩) ?_ λw0 C w m hr a=>?_⟩
   ·rw[Ni,Vq]at h;exact h
   ·match m,a with
    |[y1,y2],a=>
     have d:VRel C w (.v (.string s)) y1:=a.get 0 (by simp);have g:VRel C w (.v (.int .i64 (.ofNat c))) y2:=a.get 1 (by simp);obtain rfl:=AQ.1 d;obtain rfl:=AQ.1 g;exact h1 s c w b.1 (by have:=b.2;simpa using this)
    |[],a=>exact absurd a.1 (by simp)
    |[_],a=>exact absurd a.1 (by simp)
    |_::_::_::_,a=>exact absurd a.1 (by simp)
 ·exact .inl h
end
open Go.RowKit Go.Sort Go.Proofs
abbrev Str:=Ha
def ins(x:Str):List Str->List Str
 |[]=>[x]
 |y::l=>if x<=y then x::y::l else y::ins x l
def Eu:List Str->List Str
 |[]=>[]
 |x::l=>ins x (Eu l)
def vU(x:Str):∀l,(ins x l).Perm (x::l)
 |[]=>.refl _
 |y::l=>by
  unfold ins;split
  ·exact .refl _
  ·exact((vU x l).cons y).trans (.swap x y l)
def Bb:∀l,(Eu l).Perm l
 |[]=>.refl _
 |x::l=>(vU x _).trans ((Bb l).cons x)
def NP(a b:Str):a<=b\/b<=a:=List.le_total a b
def lO{a b c:Str}(h:a<=b)(k:b<=c):a<=c:=List.le_trans h k
def tM{a b:Str}(h:a<=b)(k:b<=a):a=b:=List.le_antisymm h k
def vT(x:Str):∀l,l.Pairwise (· <= ·)->(ins x l).Pairwise (· <= ·)
 |[],_=>by simp[ins]
 |y::l,h=>by
  have b:=l2p.1 h;unfold ins;split
  ·rename_i a;refine l2p.2 ⟨λz hz=>?_,h⟩;rcases Vp.1 hz with rfl|hz
   ·exact a
   ·exact lO a (b.1 z hz)
  ·rename_i a;have c:y<=x:=(NP x y).resolve_left a;refine l2p.2 ⟨λz hz=>?_,vT x l b.2⟩;rcases Vp.1 ((vU x l).mem_iff.1 hz) with rfl|hz
   ·exact c
   ·exact b.1 z hz
def Da:∀l,(Eu l).Pairwise (· <= ·)
 |[]=>.nil
 |x::l=>vT x _ (Da l)
def FZ:∀{l m:List Str},l.Perm m->l.Pairwise (· <= ·)->m.Pairwise (· <= ·)->l=m:=by
 intro l
 induction l with
 |nil=>intro m h _ _;exact(List.nil_perm.1 h).symm
 |cons a l ih=>
  intro m h i hm;cases m with
  |nil=>exact absurd h.symm (by simp)
  |cons b m=>
   have c:=l2p.1 i;have d:=l2p.1 hm;have g:a=b:=by
    rcases Vp.1 (h.mem_iff.1 List.mem_cons_self) with e|e
    ·exact e
    ·rcases Vp.1 (h.mem_iff.2 List.mem_cons_self) with f|f
     ·exact f.symm
     ·exact tM (c.1 _ f) (d.1 _ e)
   subst g;rw[ih ((List.perm_cons a).1 h) c.2 d.2]
def A2c(l:List Str):l.mergeSort (λx y=>decide (x<=y))=Eu l:=by
 refine FZ ((List.mergeSort_perm l _).trans (Bb l).symm) ?_ (Da l);have:=List.pairwise_mergeSort (le:=λx y:Str=>decide (x<=y)) (λa b c h k=>by simp only[decide_eq_true_eq]at h k⊢;exact lO h k) (λa b=>by simpa using NP a b) l;exact this.imp (λh=>by simpa using h)
def TR:OF:=λargs H K alt=>match args with
 |[.sl 1 s o n]=>(match Ah H s with
  |some (.cells q e cs)=>(match V0 ((cs.drop o).take n) with
   |some xs=>@Bool.rec (λ_=>Af) alt (Ey o ((Eu xs).map λl=>.v (.string ⟨⟨l⟩⟩)) cs λa=>LJ H s (.cells q e a) λb=>K (.tup []) b) (Nat.beq n xs.length&&(Nat.blt n 4611686018427387904&&Nat.blt 0 n))
   |none=>alt)
  |_=>alt)
 |_=>alt
def pZ{α:Type}[Inhabited α](enc:α->Value)(off:Nat)(d:List α)(arr:Array Value)(h:off+d.length<=arr.size):putCells enc off d.toArray arr=(splice arr.toList off (d.map enc)).toArray:=by
 apply Array.ext_getElem?;intro k;simp only[putCells,Array.getElem?_mapIdx,l15];rw[PM (by simpa using h)];by_cases a:k<arr.size
 ·rw[l1p a,D?,QK];by_cases h1:k<off
  ·rw[Dv h1,CL (by simp;omega)];simp[a]
  ·rw[CL h1];by_cases h2:k<off+d.length
   ·rw[Dv h2,Dv (by simp;omega),yY];have:k-off<d.length:=by omega
    simp[this]
   ·rw[CL h2,CL (by simp;omega)];simp[a]
 ·rw[Array.getElem?_eq_none (by omega),Option.map_none];have h1:¬k<off:=by omega
  have h2:¬k<off+(d.map enc).length:=by simp;omega
  rw[CL h1,CL h2,l1j (by simp;omega)]
def B02{E:XE}{P:Program}{f:Nat}(hf:eC P f)(h1:∀(blk off cap:Nat)(ss:List Ha)(w:World)(hH:Holds encStr w blk off ss.toArray)(ab:blk<w.heap.size)(hsz:ss.length<4611686018427387904),
  Calls P f #[.slice (some ⟨blk,off,none⟩) ss.length cap] w λe w'=>e=.returned (.tuple #[])/\∃n os,w'=grow (putRow encStr (Sort.ahead w n) blk off (ss.mergeSort λx y=>decide (x<=y)).toArray) os):N_ E P f TR:=by
 intro args H K alt r h;unfold TR at h;split at h
 ·rename_i s o n;split at h
  ·rename_i q e cs hl;split at h
   ·rename_i xs aa;cases M:(Nat.beq n xs.length&&(Nat.blt n 4611686018427387904&&Nat.blt 0 n))
    ·rw[M]at h;exact .inl h
    ·rw[M]at h;simp only[KW,rU,Wg]at M;have⟨g1,g2,g3⟩:=M;refine .inr ⟨hf,?_⟩;have⟨ad,h2⟩:=OZ _ _ _ _ _ h;rw[Dh]at h2;have u:=tL aa;have X:=(Bb xs).length_eq;intro w0 C w ys hr d
     match ys,d with
     |[y1],d=>
      have R:VRel C w (.sl 1 s o n) y1:=d.get 0 (by simp);obtain⟨b,c,arr,fz,cap,rfl,ac,p,hsz⟩:=A3X hr hl R (by omega);have J:xs.length=n:=g1.symm;have V:o+n<=cs.length:=by
       have:=congrArg List.length u;simp at this;omega
      have ae:=p.fits;have cellAt:∀j,j<n->∃l,xs[j]?=some l/\w.cell? ⟨b,c+o+j,none⟩=some (.string ⟨⟨l⟩⟩):=λj A=>by
       have B:j<xs.length:=by omega
       have⟨v,Y,F⟩:=p.get (o+j) (by omega);have L:((cs.drop o).take n)[j]?=some (cs[o+j]'(by omega)):=by
        rw[D_,Dv A,qX,KJ]
       rw[u,yY,KJ B]at L;injection L with L
       rw[<-L]at F;refine⟨xs[j],KJ B,?_⟩;rw[lB,Y,AQ.1 F]
      have hH:Holds encStr w b (c+o) xs.toArray:=λj A=>by
       have A:j<n:=by simpa [J] using A
       have⟨l,k1,k2⟩:=cellAt j A;refine⟨?_,p.frozen _ (by omega)⟩;rw[k2];have:xs.toArray[j]! =l:=by
        have:=(E'.1 k1)
        have⟨k3,k4⟩:=this;simp[k3,k4]
       rw[this]
      have hc:=h1 b (c+o) cap xs w hH p.lt (by omega);rw[J]at hc;refine hc.mono λe' w' N=>?_;have⟨he,k,os,N⟩:=N;rw[A2c]at N
      let w1:=putRow encStr (Sort.ahead w k) b (c+o) (Eu xs).toArray
      have m:SameBut w w1 b e (splice arr.toList (c+o) ((Eu xs).map encStr)).toArray fz:=by
       refine⟨rfl,rfl,rfl,by simp[w1,Sort.ahead],?_,λQ g=>?_⟩
       ·show((w.heap.modify b (onCells (putCells encStr (c+o) (Eu xs).toArray))))[b]?=_;rw[l0s,Dv rfl,p.block];simp only[D?,onCells];rw[pZ _ _ _ _ (by omega)]
       ·show((w.heap.modify b (onCells (putCells encStr (c+o) (Eu xs).toArray))))[Q]?=_;rw[l0s,CL (Ne.symm g)]
      have hv:CJ (C.sel q) w ((Eu xs).map λl=>AV.v (.string ⟨⟨l⟩⟩)) ((Eu xs).map encStr):=by
       refine⟨by simp,λi a hi=>?_⟩;rw[yY]at hi⊢;cases hx:(Eu xs)[i]? with
       |none=>rw[hx]at hi;cases hi
       |some l=>
        rw[hx]at hi;injection hi with hi
        subst hi;exact⟨encStr l,rfl,.v _⟩
      have⟨D,Z⟩:=hr.store (O:=w0.own) hl p (by simpa [X] using(by omega:o+xs.length<=cs.length)) hv m;have t:Below w1.heap.size w1 w':=by
       rw[N];exact⟨rfl,rfl,rfl,(show w1.heap.size<=(w1.heap++os).size by simp),λQ g=>(show(w1.heap++os)[Q]?=w1.heap[Q]? by rw[Array.getElem?_append_left g])⟩
      exact⟨.tup [],.tuple #[],C,_,he,D.of_below t,.tup #[] rfl (λi hi=>absurd hi (by simp)),(Z.trans (D.ext_below t)).frm,h2⟩
     |[],d=>exact absurd d.1 (by simp)
     |_::_::_,d=>exact absurd d.1 (by simp)
   ·exact .inl h
  ·exact .inl h
 ·exact .inl h
def A2f(T:TypeId):OF:=λargs H K alt=>match args with
 |[.v (.slice none 0 0),.v (.int .i64 (.ofNat c))]=>@Bool.rec (λ_=>Af) (@Bool.rec (λ_=>Af) alt (K (.v (.slice none 0 0)) H) (Nat.beq c 0)) (HE H λr=>K (.sl 1 r 0 0) ((r,.cells false T [])::H)) (Nat.blt 0 c&&Nat.ble c 1000000)
 |_=>alt
def B1H{E:XE}{P:Program}{f T:Nat}(s:eC P f)(y:∀(w:World),Calls P f #[.slice none 0 0,.int .i64 0] w λe g=>e=.returned (.slice none 0 0)/\g=w)(h1:∀(n:Nat)(w:World),0<n->n<=1000000->Calls P f #[.slice none 0 0,.int .i64 n] w λe g=>∃(arr:Array Value)(fz:Nat×Nat)(cap:Nat),cap<=arr.size/\e=.returned (.slice (some ⟨w.heap.size,0,none⟩) 0 cap)/\Below w.heap.size w g/\g.heap[w.heap.size]?=some (.cells arr T fz)/\∀i,i<arr.size->¬(fz.1<=i/\i<fz.2)):
 N_ E P f (A2f T):=by
 intro args H K alt r h;unfold A2f at h;split at h
 ·rename_i c;cases j:(Nat.blt 0 c&&Nat.ble c 1000000)
  ·rw[j]at h;cases hz:Nat.beq c 0
   ·rw[hz]at h;exact .inl h
   ·rw[hz]at h;have k:=ZR hz;subst k;refine .inr ⟨s,gH h λw0 C w m hr a=>?_⟩
    match m,a with
    |[y1,y2],a=>
     have b:VRel C w (.v (.slice none 0 0)) y1:=a.get 0 (by simp);have d:VRel C w (.v (.int .i64 (.ofNat 0))) y2:=a.get 1 (by simp);obtain rfl:=AQ.1 b;obtain rfl:=AQ.1 d;exact(y w).mono λe g ⟨he,A⟩=>⟨he,by subst A;exact Below.refl _ _⟩
    |[],a=>exact absurd a.1 (by simp)
    |[_],a=>exact absurd a.1 (by simp)
    |_::_::_::_,a=>exact absurd a.1 (by simp)
  ·rw[j]at h;simp only[KW,Wg,kZ]at j;have⟨u,x⟩:=j;refine .inr ⟨s,λw0 C w m hr a=>?_⟩;change HE H (λr=>K (.sl 1 r 0 0) ((r,.cells false T [])::H))=some r at h;rw[BS]at h
   match m,a with
   |[y1,y2],a=>
    have b:VRel C w (.v (.slice none 0 0)) y1:=a.get 0 (by simp);have d:VRel C w (.v (.int .i64 (.ofNat c))) y2:=a.get 1 (by simp);obtain rfl:=AQ.1 b;obtain rfl:=AQ.1 d;refine(h1 c w u x).mono λe g ⟨arr,fz,cap,p,he,hb,t,Rw⟩=>?_;exact⟨.sl 1 (Ar H) 0 0,_,C.put (Ar H) (some (w.heap.size,0)),_,he,hr.new (q:=false) (cs:=[]) hb t Rw (l1h _) .nil (λh=>by cases h),.sl (C.put_n _ _) (l1h _) t (by omega),(hr.new_ext (O:=w0.own) hb).frm,h⟩
   |[],a=>exact absurd a.1 (by simp)
   |[_],a=>exact absurd a.1 (by simp)
   |_::_::_::_,a=>exact absurd a.1 (by simp)
 ·exact .inl h
end Go.Abs
end
