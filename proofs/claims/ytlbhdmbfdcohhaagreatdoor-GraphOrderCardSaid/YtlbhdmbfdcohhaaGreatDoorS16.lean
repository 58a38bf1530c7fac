import Derived.Shelf.Strings.OnBuilder
import Derived.Shelf.Strings.Repeat
import Derived.Shelf.Sort.Plain
import Derived.Shelf.Slices.In.SortNone
import Derived.Test.YtlbhdmbfdcohhaaGreatDoorS10
import Derived.Test.YtlbhdmbfdcohhaaGreatDoorS15
set_option linter.all false
set_option maxHeartbeats 100000000
noncomputable section
namespace Go.Abs
open Go.RowKit
def Ug:List AV→Option (List (List UInt8))
 |[]=>some []
 | .v (.string s)::cs=>(Ug cs).map (s.data.toList:: ·)
 |_=>none
theorem A12:∀{cs:List AV} {xs:List (List UInt8)},Ug cs=some xs→cs=xs.map λl=> .v (.string ⟨⟨l⟩⟩):=by
 intro cs
 induction cs with
 |nil=>intro xs h;simp[Ug] at h;subst h;rfl
 |cons a cs ih=>
  intro xs h
  unfold Ug at h
  split at h
  ·rename_i he;cases he
  ·rename_i s cs' he
   injection he with h1 h2
   subst h1 h2
   cases hx:Ug cs with
   |none=>rw[hx] at h;cases h
   |some ys=>
    rw[hx] at h
    injection h with h
    subst h
    rw[ih hx]
    obtain⟨⟨l⟩⟩:=s
    rfl
  ·cases h
def B4w:OF:= λargs H K alt=>match args with
 |[.list n cs,.v (.string s)]=>(match Ug cs with
  |some xs=>@Bool.rec (λ_=>Aj) alt (UT (Lib.join xs s.data.toList) [] λl=>K (.v (.string ⟨⟨l⟩⟩)) H) (Nat.beq n xs.length&&(Nat.ble xs.length 140737488355328&&Nat.ble (Lib.join xs s.data.toList).length 140737488355328))
  |none=>alt)
 |_=>alt
theorem B4v {E:XE} {P:Program} {f:Nat} (hf:A0e P f)
 (h0:∀(a:Option Addr) (c:Nat) (sep:ByteArray) (w:World),Calls P f #[.slice a 0 c,.string sep] w λe w'=>e= .returned (.string ⟨#[]⟩)∧w'=w)
 (h1:∀(bk o c:Nat) (xs:List ByteArray) (sep:ByteArray) (w:World) (hcells:∀(j:Nat) x,xs[j]?=some x→w.cell? ⟨bk,o+j,none⟩=some (.string x)) (hbk:bk<w.heap.size) (hN:xs.length≤140737488355328) (hcap:xs.length≤c) (hlen:(Lib.join (xs.map (·.data.toList)) sep.data.toList).length≤140737488355328),
  Calls P f #[.slice (some ⟨bk,o,none⟩) xs.length c,.string sep] w λe w'=>e= .returned (.string ⟨(Lib.join (xs.map (·.data.toList)) sep.data.toList).toArray⟩)∧Below w.heap.size w w'):A7A E P f B4w:=by
 intro args H K alt r h
 unfold B4w at h
 split at h
 ·rename_i n cs s
  split at h
  ·rename_i xs hxs
   cases hg:(Nat.beq n xs.length&&(Nat.ble xs.length 140737488355328&&Nat.ble (Lib.join xs s.data.toList).length 140737488355328))
   ·rw[hg] at h;exact .inl h
   ·rw[hg] at h
    simp only[Jm,l13,XQ] at hg
    obtain⟨g1,g2,g3⟩:=hg
    refine .inr ⟨hf,A2w (x:= .string ⟨⟨Lib.join xs s.data.toList⟩⟩) ?_ λw0 C w ys hr ha=> ?_⟩
    ·rw[Lb,XR] at h;exact h
    ·have hcs:=A12 hxs
     match ys,ha with
     |[y1,y2],ha=>
      have ha1:VRel C w (.list n cs) y1:=ha.get 0 (by simp)
      have ha2:VRel C w (.v (.string s)) y2:=ha.get 1 (by simp)
      obtain rfl:=AI.1 ha2
      have nil:∀a cap,n=0→Calls P f #[.slice a n cap,.string s] w λe w'=>e= .returned (.string ⟨⟨Lib.join xs s.data.toList⟩⟩)∧Below w.heap.size w w':= λa cap hn=>by
       subst hn
       have:xs=[]:=l1s g1.symm
       subst this
       refine(h0 a cap s w).mono λe w' ⟨he,hw⟩=>⟨?_,hw▸Below.refl _ _⟩
       rw[he];rfl
      cases ha1 with
      |list0=>exact nil _ _ rfl
      |@list _ _ _ cap _ b o hcap vs hF hc hv=>
       by_cases hn:n=0
       ·exact nil _ _ hn
       ·have hl:cs.length=xs.length:=by rw[hcs];simp
        have:=h1 b o cap (xs.map λl=>⟨⟨l⟩⟩) s w (λj x hj=> ?_) (hr.fin b (o+0) (hF 0 (by omega))) (by simpa using g2) (by simp;omega) (by simpa [List.map_map,l1t] using g3)
        ·simp only[Wv,List.map_map,l1t,List.map_id'] at this
         rw[←g1] at this
         exact this
        ·rw[l0a] at hj
         cases hx:xs[j]? with
         |none=>rw[hx] at hj;cases hj
         |some l=>
          rw[hx] at hj
          injection hj with hj
          subst hj
          have hj':j<xs.length:=(l0j.1 hx).1
          have e1:=hc j (by omega)
          have e2:=hv j (by omega)
          have e3:cs[j]'(by omega)= .v (.string ⟨⟨l⟩⟩):=by
           have:cs[j]?=some (.v (.string ⟨⟨l⟩⟩)):=by rw[hcs,l0a,hx];rfl
           exact(l0j.1 this).2
          rw[e3] at e2
          rw[e1,AI.1 e2]
     |[],ha=>exact absurd ha.1 (by simp)
     |[_],ha=>exact absurd ha.1 (by simp)
     |_::_::_::_,ha=>exact absurd ha.1 (by simp)
  ·exact .inl h
 ·exact .inl h
def A4A:OF:= λargs H K alt=>match args with
 |[.v (.string s),.v (.int .i64 (.ofNat c))]=>@Bool.rec (λ_=>Aj) alt (UT (Lib.repeatL s.data.toList c) [] λl=>K (.v (.string ⟨⟨l⟩⟩)) H) (Nat.ble c 9223372036854775807&&Nat.ble (s.data.toList.length*c) 140737488355328)
 |_=>alt
theorem A8q {E:XE} {P:Program} {f:Nat} (hf:A0e P f)
 (h1:∀(s:ByteArray) (c:Nat) (w:World) (hc:c≤9223372036854775807) (hlen:s.size*c≤140737488355328),Calls P f #[.string s,.int .i64 c] w λe w'=>e= .returned (.string ⟨(Lib.repeatL s.data.toList c).toArray⟩)∧Below w.heap.size w w'):A7A E P f A4A:=by
 intro args H K alt r h
 unfold A4A at h
 split at h
 ·rename_i s c
  cases hg:(Nat.ble c 9223372036854775807&&Nat.ble (s.data.toList.length*c) 140737488355328)
  ·rw[hg] at h;exact .inl h
  ·rw[hg] at h
   simp only[Jm,XQ] at hg
   refine .inr ⟨hf,A2w (x:= .string ⟨⟨Lib.repeatL s.data.toList c⟩⟩) ?_ λw0 C w ys hr ha=> ?_⟩
   ·rw[Lb,XR] at h;exact h
   ·match ys,ha with
    |[y1,y2],ha=>
     have ha1:VRel C w (.v (.string s)) y1:=ha.get 0 (by simp)
     have ha2:VRel C w (.v (.int .i64 (.ofNat c))) y2:=ha.get 1 (by simp)
     obtain rfl:=AI.1 ha1
     obtain rfl:=AI.1 ha2
     exact h1 s c w hg.1 (by have:=hg.2;simpa using this)
    |[],ha=>exact absurd ha.1 (by simp)
    |[_],ha=>exact absurd ha.1 (by simp)
    |_::_::_::_,ha=>exact absurd ha.1 (by simp)
 ·exact .inl h
open Go.RowKit Go.Sort Go.Proofs
abbrev Str:=List UInt8
def ins (x:Str):List Str→List Str
 |[]=>[x]
 |y::l=>if x≤y then x::y::l else y::ins x l
def I9:List Str→List Str
 |[]=>[]
 |x::l=>ins x (I9 l)
theorem A1X (x:Str):∀l,(ins x l).Perm (x::l)
 |[]=> .refl _
 |y::l=>by
  unfold ins
  split
  ·exact .refl _
  ·exact((A1X x l).cons y).trans (.swap x y l)
theorem CD:∀l,(I9 l).Perm l
 |[]=> .refl _
 |x::l=>(A1X x _).trans ((CD l).cons x)
theorem L4 (a b:Str):a≤b∨b≤a:=List.le_total a b
theorem Yf {a b c:Str} (h:a≤b) (k:b≤c):a≤c:=List.le_trans h k
theorem A13 {a b:Str} (h:a≤b) (k:b≤a):a=b:=List.le_antisymm h k
theorem A1W (x:Str):∀l,l.Pairwise (· ≤ ·)→(ins x l).Pairwise (· ≤ ·)
 |[],_=>by simp[ins]
 |y::l,h=>by
  have h':=l2k.1 h
  unfold ins
  split
  ·rename_i hxy
   refine l2k.2 ⟨λz hz=> ?_,h⟩
   rcases UJ.1 hz with rfl|hz
   ·exact hxy
   ·exact Yf hxy (h'.1 z hz)
  ·rename_i hxy
   have hyx:y≤x:=(L4 x y).resolve_left hxy
   refine l2k.2 ⟨λz hz=> ?_,A1W x l h'.2⟩
   rcases UJ.1 ((A1X x l).mem_iff.1 hz) with rfl|hz
   ·exact hyx
   ·exact h'.1 z hz
theorem IW:∀l,(I9 l).Pairwise (· ≤ ·)
 |[]=> .nil
 |x::l=>A1W x _ (IW l)
theorem QU:∀{l m:List Str},l.Perm m→l.Pairwise (· ≤ ·)→m.Pairwise (· ≤ ·)→l=m:=by
 intro l
 induction l with
 |nil=>intro m h _ _;exact(List.nil_perm.1 h).symm
 |cons a l ih=>
  intro m h hl hm
  cases m with
  |nil=>exact absurd h.symm (by simp)
  |cons b m=>
   have hl':=l2k.1 hl
   have hm':=l2k.1 hm
   have hab:a=b:=by
    rcases UJ.1 (h.mem_iff.1 List.mem_cons_self) with e|e
    ·exact e
    ·rcases UJ.1 (h.mem_iff.2 List.mem_cons_self) with e2|e2
     ·exact e2.symm
     ·exact A13 (hl'.1 _ e2) (hm'.1 _ e)
   subst hab
   rw[ih ((List.perm_cons a).1 h) hl'.2 hm'.2]
theorem A6T (l:List Str):l.mergeSort (λx y=>decide (x≤y))=I9 l:=by
 refine QU ((List.mergeSort_perm l _).trans (CD l).symm) ?_ (IW l)
 have:=List.pairwise_mergeSort (le:= λx y:Str=>decide (x≤y)) (λa b c h k=>by simp only[decide_eq_true_eq] at h k⊢;exact Yf h k) (λa b=>by simpa using L4 a b) l
 exact this.imp (λh=>by simpa using h)
def WM:OF:= λargs H K alt=>match args with
 |[.sl 1 s o n]=>(match Aq H s with
  |some (.cells q e cs)=>(match Ug ((cs.drop o).take n) with
   |some xs=>@Bool.rec (λ_=>Aj) alt (E8 o ((I9 xs).map λl=> .v (.string ⟨⟨l⟩⟩)) cs λcs'=>LL H s (.cells q e cs') λH'=>K (.tup []) H') (Nat.beq n xs.length&&(Nat.blt n 4611686018427387904&&Nat.blt 0 n))
   |none=>alt)
  |_=>alt)
 |_=>alt
theorem ZL {α:Type} [Inhabited α] (enc:α→Value) (off:Nat) (d:List α) (arr:Array Value) (h:off+d.length≤arr.size):putCells enc off d.toArray arr=(splice arr.toList off (d.map enc)).toArray:=by
 apply Array.ext_getElem?
 intro k
 simp only[putCells,Array.getElem?_mapIdx,l10]
 rw[Nk (by simpa using h)]
 by_cases hk:k<arr.size
 ·rw[l1k hk,l0x,Wv]
  by_cases h1:k<off
  ·rw[if_pos h1,if_neg (by simp;omega)];simp[hk]
  ·rw[if_neg h1]
   by_cases h2:k<off+d.length
   ·rw[if_pos h2,if_pos (by simp;omega),l0a]
    have:k-off<d.length:=by omega
    simp[this]
   ·rw[if_neg h2,if_neg (by simp;omega)];simp[hk]
 ·rw[Array.getElem?_eq_none (by omega),Option.map_none]
  have h1:¬k<off:=by omega
  have h2:¬k<off+(d.map enc).length:=by simp;omega
  rw[if_neg h1,if_neg h2,l1e (by simp;omega)]
theorem B34 {E:XE} {P:Program} {f:Nat} (hf:A0e P f)
 (h1:∀(blk off cap:Nat) (ss:List (List UInt8)) (w:World) (hH:Holds encStr w blk off ss.toArray) (hblk:blk<w.heap.size) (hsz:ss.length<4611686018427387904),
  Calls P f #[.slice (some ⟨blk,off,none⟩) ss.length cap] w λe w'=>e= .returned (.tuple #[])∧∃n os,w'=grow (putRow encStr (Sort.ahead w n) blk off (ss.mergeSort λx y=>decide (x≤y)).toArray) os):A7A E P f WM:=by
 intro args H K alt r h
 unfold WM at h
 split at h
 ·rename_i s o n
  split at h
  ·rename_i q e cs hl
   split at h
   ·rename_i xs hxs
    cases hg:(Nat.beq n xs.length&&(Nat.blt n 4611686018427387904&&Nat.blt 0 n))
    ·rw[hg] at h;exact .inl h
    ·rw[hg] at h
     simp only[Jm,l13,UK] at hg
     obtain⟨g1,g2,g3⟩:=hg
     refine .inr ⟨hf,?_⟩
     obtain⟨hfit,h2⟩:=ME _ _ _ _ _ h
     rw[Dm] at h2
     have hcs:=A12 hxs
     have hpl:=(CD xs).length_eq
     intro w0 C w ys hr ha
     match ys,ha with
     |[y1],ha=>
      have ha1:VRel C w (.sl 1 s o n) y1:=ha.get 0 (by simp)
      obtain⟨b,base,arr,fz,cap,rfl,hcap,hd,hsz⟩:=A8k hr hl ha1 (by omega)
      have hxl:xs.length=n:=g1.symm
      have hfit':o+n≤cs.length:=by
       have:=congrArg List.length hcs
       simp at this
       omega
      have hdf:=hd.fits
      have cellAt:∀j,j<n→∃l,xs[j]?=some l∧w.cell? ⟨b,base+o+j,none⟩=some (.string ⟨⟨l⟩⟩):= λj hj=>by
       have hjx:j<xs.length:=by omega
       obtain⟨v,hv1,hv2⟩:=hd.get (o+j) (by omega)
       have e1:((cs.drop o).take n)[j]?=some (cs[o+j]'(by omega)):=by
        rw[l0m,if_pos hj,l0d,Kq]
       rw[hcs,l0a,Kq hjx] at e1
       injection e1 with e1
       rw[←e1] at hv2
       refine⟨xs[j],Kq hjx,?_⟩
       rw[Xk,hv1,AI.1 hv2]
      have hH:Holds encStr w b (base+o) xs.toArray:= λj hj=>by
       have hj:j<n:=by simpa [hxl] using hj
       obtain⟨l,k1,k2⟩:=cellAt j hj
       refine⟨?_,hd.frozen _ (by omega)⟩
       rw[k2]
       have:xs.toArray[j]! =l:=by
        have:=(l0j.1 k1)
        obtain⟨k3,k4⟩:=this
        simp[k3,k4]
       rw[this]
      have hc:=h1 b (base+o) cap xs w hH hd.lt (by omega)
      rw[hxl] at hc
      refine hc.mono λe' w' hw=> ?_
      obtain⟨he,k,os,hw⟩:=hw
      rw[A6T] at hw
      let w1:=putRow encStr (Sort.ahead w k) b (base+o) (I9 xs).toArray
      have hsame:SameBut w w1 b e (splice arr.toList (base+o) ((I9 xs).map encStr)).toArray fz:=by
       refine⟨rfl,rfl,rfl,by simp[w1,Sort.ahead],?_,λk' hk'=> ?_⟩
       ·show((w.heap.modify b (onCells (putCells encStr (base+o) (I9 xs).toArray))))[b]?=_
        rw[l0r,if_pos rfl,hd.block]
        simp only[l0x,onCells]
        rw[ZL _ _ _ _ (by omega)]
       ·show((w.heap.modify b (onCells (putCells encStr (base+o) (I9 xs).toArray))))[k']?=_
        rw[l0r,if_neg (Ne.symm hk')]
      have hv:Cj (C.sel q) w ((I9 xs).map λl=>AV.v (.string ⟨⟨l⟩⟩)) ((I9 xs).map encStr):=by
       refine⟨by simp,λi a hi=> ?_⟩
       rw[l0a] at hi⊢
       cases hx:(I9 xs)[i]? with
       |none=>rw[hx] at hi;cases hi
       |some l=>
        rw[hx] at hi
        injection hi with hi
        subst hi
        exact⟨encStr l,rfl,.v _⟩
      obtain⟨hr1,hx1⟩:=hr.store (O:=w0.own) hl hd (by simpa [hpl] using(by omega:o+xs.length≤cs.length)) hv hsame
      have hbl:Below w1.heap.size w1 w':=by
       rw[hw]
       exact⟨rfl,rfl,rfl,(show w1.heap.size≤(w1.heap++os).size by simp),λk' hk'=>(show(w1.heap++os)[k']?=w1.heap[k']? by rw[Array.getElem?_append_left hk'])⟩
      exact⟨.tup [],.tuple #[],C,_,he,hr1.of_below hbl,.tup #[] rfl (λi hi=>absurd hi (by simp)),(hx1.trans (hr1.ext_below hbl)).frm,h2⟩
     |[],ha=>exact absurd ha.1 (by simp)
     |_::_::_,ha=>exact absurd ha.1 (by simp)
   ·exact .inl h
  ·exact .inl h
 ·exact .inl h
end Go.Abs
end
