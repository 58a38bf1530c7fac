import Derived.Laws.BytesString
import Derived.Laws.MakeOwn
import Derived.Laws.IdiomRangeMap
import Derived.Test.YtlbhdmbfdcohhaaGreatDoorS05
set_option linter.all false
set_option maxHeartbeats 100000000
noncomputable section
namespace Go.Abs
open Go.RowKit
def UQ (n:Nat) (cs:List AV):(List AV→Aj)→Aj:=
 @Nat.rec (λ_=>(List AV→Aj)→Aj) (λK=>K []) (λ_ ih K=>ih λl=>UT cs l K) n
theorem UP (n:Nat) (cs:List AV):∀K,UQ n cs K=K (Uk n cs):=by
 induction n with
 |zero=>intro K;rfl
 |succ n ih=>
  intro K
  have e:UQ (n+1) cs K=UQ n cs λl=>UT cs l K:=rfl
  rw[e,ih,Lb];rfl
def F3 (e:TypeId) (esz:Nat) (ie:TI) (n:Nat) (l:List (Nat×Nat×AV)) (H:Hp) (K:KV):Aj:=
 Hi ie.zero λz=>GP z 0 λk=>ck (Nat.beq k esz&&(!Nat.beq esz 0&&Nat.ble (Nat.mul n esz) 16777216)) (UQ n z λcs=>Wm l cs λcs'=>XA3 H λs=>K (.sl esz s 0 n) ((s,.cells false e cs')::H))
def Sm (esz:Nat) (ie:TI) (n:Nat) (l:List (Nat×Nat×AV)) (K:AV→Aj):Aj:=
 Hi ie.zero λz=>GP z 0 λk=>ck (Nat.beq k esz&&(!Nat.beq esz 0&&Nat.ble (Nat.mul n esz) 16777216)) (UQ n z λcs=>Wm l cs λcs'=>ck (cs'.all (cl0 2)) (K (.list n cs')))
def Wn (l:List UInt8):(List AV→Aj)→Aj:=@List.rec UInt8 (λ_=>(List AV→Aj)→Aj) (λK=>K []) (λb _ ih K=>fN b.toNat λn=>ih λl=>K (.v (.int .u8 (.ofNat n))::l)) l
theorem Vu (l:List UInt8):∀K:List AV→Aj,Wn l K=K (l.map λb=> .v (.int .u8 b.toNat)):=by
 induction l with
 |nil=>intro K;rfl
 |cons b l ih=>
  intro K
  have e:Wn (b::l) K=fN b.toNat λn=>Wn l λl=>K (.v (.int .u8 (.ofNat n))::l):=rfl
  rw[e,Di,ih];rfl
def A14:TD→Bool
 | .slice .. =>true
 | .string=>true
 |_=>false
def Uh (esz:Nat):AV→Bool
 | .v (.string _)=>Nat.beq esz 1
 |_=>true
theorem A8h {esz:Nat} {x:AV} (h:Uh esz x=true):(match(generalizing:=false) x with| .v (.string _)=>esz=1|_=>True):=by
 split
 ·exact VC h
 ·trivial
def UV (H:Hp) (x:AV) (K:Nat→List AV→Aj):Aj:=
 match x with
 | .list m cs=>K m cs
 | .sl sz r o m=>JL H r λx=>Ky x λ_ cs=>Gs (Nat.mul m sz) (Dv o cs) λc=>K m c
 | .v (.slice none 0 0)=>K 0 []
 | .v (.string s)=>GP s.data.toList 0 λm=>Wn s.data.toList λl=>K m l
 |_=>none
def fu8 (cs:List AV):(List UInt8→Aj)→Aj:=
 @List.rec AV (λ_=>(List UInt8→Aj)→Aj) (λK=>K []) (λa _ ih K=>match a with| .v (.int .u8 z)=>iN z λn=>ih λl=>K (UInt8.ofNat n::l)|_=>none) cs
theorem A6Y {r:AV×Hp}:∀(cs:List AV) (K:List UInt8→Aj),fu8 cs K=some r→∃ns:List Nat,cs=ns.map (λn=> .v (.int .u8 (n:Int)))∧K (ns.map UInt8.ofNat)=some r:=by
 intro cs
 induction cs with
 |nil=>intro K h;exact⟨[],rfl,h⟩
 |cons a cs ih=>
  intro K h
  have h:(match(generalizing:=false) a with| .v (.int .u8 z)=>iN z λn=>fu8 cs λl=>K (UInt8.ofNat n::l)|_=>none)=some r:=h
  split at h
  ·obtain⟨n,e1,h2⟩:=Th h
   obtain⟨ns,e2,h3⟩:=ih _ h2
   exact⟨n::ns,by rw[e1,e2];rfl,h3⟩
  ·cases h
def A2j (a:AV) (H:Hp) (K:AV→Aj):Aj:=
 match a with
 | .v (.string _)=>none
 |a=>UV H a λm cs=>GP cs 0 λk=>ck (Nat.beq k m) (fu8 cs λl=>K (.v (.string ⟨⟨l⟩⟩)))
section
variable {T:Ty} {H:Hp} {r:AV×Hp}
theorem B5c {ty e:TypeId} {esz:Nat} {i ie:TI} {n:Nat} {l:List (Nat×Nat×AV)} {ps:List (Nat×AV)} {K:KV} (hT:T ty=some i) (hd:i.d= .slice e esz) (hie:T e=some ie) (he:(ps.map λp=>(some (p.1*esz,esz)).map λq=>(q.1,q.2,p.2))=l.map some) (h:F3 e esz ie n l H K=some r):
 ∃v H',K v H'=some r∧WB T ty n ps H (A2 H) (λv' H''=>v'=v∧H''=H'):=by
 rw[F3,CQ,Co] at h
 obtain⟨h1,h⟩:=Bw h
 rw[UP] at h
 obtain⟨cs',h2,h3⟩:=UR (place:= λj=>some (j*esz,esz)) l ps _ _ he h
 rw[BZ] at h2
 simp only[Jm,l13,l14,XQ] at h1
 refine⟨_,_,h2,?_⟩
 unfold WB
 simp only[hT,hd,hie]
 refine⟨λe0=> ?_,by omega,?_,by rw[h3];simp[Kn]⟩
 ·have:=h1.2.1;rw[e0] at this;simp at this
 ·have:=h1.2.2;exact this
theorem YQ {x:AV} {K:Nat→List AV→Aj} (h:UV H x K=some r):∃m cs q,A9v H x=some (m,cs,q)∧K m cs=some r:=by
 unfold UV at h
 split at h
 ·exact⟨_,_,_,rfl,h⟩
 ·obtain⟨q0,e,cs,h1,h2⟩:=JT h
  obtain⟨h3,h4⟩:=Oq _ _ _ _ h2
  rw[CE] at h4
  exact⟨_,_,_,by simp only[A9v,h1];rfl,h4⟩
 ·exact⟨_,_,_,rfl,h⟩
 ·rename_i s
  rw[Co] at h
  rw[Vu] at h
  exact⟨_,_,_,rfl,by rw[KF] at h;exact h⟩
 ·cases h
theorem A8y:∀(ns:List Nat) (acc:List UInt8),(ns.map λn:Nat=>(n:Int)).foldl (λ(r:ByteArray) n=>r.push (UInt8.ofNat n.toNat)) ⟨⟨acc⟩⟩=⟨⟨acc++ns.map UInt8.ofNat⟩⟩:=by
 intro ns
 induction ns with
 |nil=>intro acc;simp
 |cons n ns ih=>
  intro acc
  simp only[XS,List.foldl_cons,XP]
  have:(⟨⟨acc⟩⟩:ByteArray).push (UInt8.ofNat n)=⟨⟨acc++[UInt8.ofNat n]⟩⟩:=by simp[ByteArray.push]
  rw[this,ih];simp
theorem A9i {P:Program} {G:Gl} {w0:Base} {C:Ctx} {w:World} {a:AV} {y:Value} {K:AV→Aj} (hr:Rel G w0 C H w) (hv:VRel C w a y) (h:A2j a H K=some r):(∀s,y≠.string s)∧∃l:List UInt8,K (.v (.string ⟨⟨l⟩⟩))=some r∧(Conv.bytesToString y).run P w= .ok (.string ⟨⟨l⟩⟩) w:=by
 unfold A2j at h
 split at h
 ·cases h
 ·rename_i hns
  obtain⟨m,cs,q,hsrc,h⟩:=YQ h
  rw[Co] at h
  obtain⟨hk,h⟩:=Bw h
  have hk:cs.length=m:=by have:=VC hk;omega
  obtain⟨ns,hcs,hKf⟩:=A6Y _ _ h
  subst hcs
  obtain⟨hlen,vs,hvs,hrun⟩:=Wr (P:=P) (esz:=1) hr hv hsrc (by omega) (λs hs=>absurd hs (hns s))
  have hrun:=hrun w (λ_ _=>rfl)
  have hvs':vs=ns.map λn:Nat=>Value.int .u8 (n:Int):=by
   apply l0o
   intro i
   cases hi:(ns.map λn:Nat=>AV.v (.int .u8 (n:Int)))[i]? with
   |none=>
    have h1:ns.length≤i:=by simpa using List.getElem?_eq_none_iff.1 hi
    rw[l1e (by rw[hvs.1];simpa using h1),l1e (by simpa using h1)]
   |some c=>
    obtain⟨y',hy,hyv⟩:=hvs.2 i c hi
    rw[hy]
    rw[l0a] at hi⊢
    cases hn:ns[i]? with
    |none=>rw[hn] at hi;cases hi
    |some n=>
     rw[hn] at hi
     injection hi with hi
     subst hi
     have:=AI.1 hyv.unsel
     rw[this];rfl
  have hns2:∀s,y≠.string s:=by
   intro s e
   subst e
   cases hv with
   |v=>exact hns s rfl
   |dk=>simp[A9v] at hsrc
  refine⟨hns2,_,hKf,?_⟩
  cases y with
  |slice ad n cap=>
   have hn:n=m:=by
    simp only[Builtin.lenOf,Y9] at hlen
    injection hlen
   subst hn
   cases ad with
   |none=>
    simp only[Builtin.firstCells,Y9] at hrun
    injection hrun with hrun
    have:vs=[]:=by
     have:=congrArg Array.toList hrun
     simpa using this.symm
    rw[hvs'] at this
    have:ns=[]:=by simpa using this
    subst this
    rfl
   |some ad=>
    have e:(Builtin.firstCells 1 n (.slice (some ad) n cap))=loadCells ad (n*1):=rfl
    rw[e,l28,hvs'] at hrun
    have:=run_bytesToString w ad n cap (ns.map λn:Nat=>(n:Int)) (by rw[hrun];simp[l1t])
    rw[this]
    have:=A8y ns []
    rw[show(ByteArray.empty:ByteArray)=⟨⟨[]⟩⟩ from rfl,this];rfl
  |string s=>exact absurd rfl (hns2 s)
  |_=>simp[Builtin.lenOf] at hlen
def TR (e:TypeId) (esz:Nat) (ie i2:TI) (s x:AV) (H:Hp) (K:KV):Aj:=
 UV H x λm ys=>GP ys 0 λk=>Hi ie.zero λz=>GP z 0 λzl=>
  ck (Nat.beq k (Nat.mul m esz)&&(PZ ys&&(!Nat.beq esz 0&&(Nat.beq zl esz&&(A14 i2.d&&Uh esz x)))))
   (match s with
   | .v (.slice none 0 0)=>ck (Nat.ble (Nat.mul m ie.bytes) 70368744177664&&Nat.ble m 70368744177664) (XA3 H λr=>K (.sl esz r 0 m) ((r,.cells false e ys)::H))
   | .sl sz r1 o n=>JL H r1 λx=>Ky x λE cs=>GP cs 0 λcl=>
    ck (Nat.beq E e&&(Nat.beq sz esz&&(Nat.beq (Nat.add o (Nat.mul n esz)) cl&&(Nat.ble (Nat.mul (Nat.add n m) ie.bytes) 70368744177664&&Nat.ble (Nat.add n m) 70368744177664))))
     (UT (Dv o cs) ys λcs'=>LL H r1 .gone λH'=>XA3 H λr=>fN (Nat.add n m) λnm=>K (.sl esz r 0 nm) ((r,.cells false e cs')::H'))
   |_=>none)
theorem B21 {t1 t2 e:TypeId} {esz:Nat} {i1 i2 ie:TI} {s x:AV} {K:KV} (h1:T t1=some i1) (h2:T t2=some i2) (hd:i1.d= .slice e esz) (hie:T e=some ie) (h:TR e esz ie i2 s x H K=some r):
 ∃v H',K v H'=some r∧WC T t1 t2 s x H (A2 H) (λv' H''=>v'=v∧H''=H'):=by
 unfold TR at h
 obtain⟨m,ys,q,hsrc,h⟩:=YQ h
 rw[Co,CQ,Co] at h
 obtain⟨hc,h⟩:=Bw h
 simp only[Jm,l13,Gg,l14] at hc
 obtain⟨c1,c2,c3,c4,c5,c6⟩:=hc
 have p1:esz≠0:= λe0=>by rw[e0] at c3;simp at c3
 have p2:(B8 ie.zero).length=esz:=by omega
 unfold WC
 simp only[h1,h2,hd,hie,hsrc,Kn]
 have pre:=And.intro p1 (And.intro p2 (And.intro (show(match i2.d with| .slice .. =>True| .string=>True|_=>False) from by cases hd2:i2.d<;>rw[hd2] at c5<;>first|trivial|cases c5) (A8h c6)))
 split at h
 ·obtain⟨hb,h⟩:=Bw h
  rw[BZ] at h
  simp only[Jm,XQ] at hb
  exact⟨_,_,h,pre,⟨by simpa using c1,c2⟩,by simpa using hb,rfl,rfl⟩
 ·rename_i sz r1 o n
  obtain⟨q0,E,cs,hl,h⟩:=JT h
  rw[Co] at h
  obtain⟨hb,h⟩:=Bw h
  rw[Lb,Dm,BZ,Di,CE] at h
  simp only[Jm,l13,XQ] at hb
  obtain⟨b1,b2,b3,b4,b5⟩:=hb
  refine⟨_,_,h,pre,⟨by simpa using c1,c2⟩,?_⟩
  simp only[hl]
  exact⟨⟨b1,b2,by simpa using b3,b4,b5⟩,rfl,rfl⟩
 ·cases h
variable {P:Program} {G:Gl} {w0:Base} {C:Ctx} {w w':World}
def Ctx.addF (C:Ctx) (b:Nat):Ctx:={C with F:= λk i=>C.F k i∨k=b}
theorem Rel.new_fixed (h:Rel G w0 C H w) (hb:Below w.heap.size w w') (hlt:w.heap.size<w'.heap.size):Rel G w0 (C.addF w.heap.size) H w'∧Ext w0.own C w (C.addF w.heap.size) w':=by
 have e:Ext w0.own C w (C.addF w.heap.size) w':=⟨λ_ _=>rfl,λ_ _ h=> .inl h,λk i h'=>hb.cell (p:=⟨k,i,none⟩) (h.fin k i h'),λ_ h=>h,λk h'=>hb.block k (h.finB k h'),
  λk arr T fz h'=>⟨arr,fz,(hb.block k (l1q.1 h').1).trans h',rfl⟩,λk i h'=>h'.imp id (λe=> .inl (by rw[e];exact h.below.size)),λk h'=> .inl h',hb.size⟩
 refine⟨⟨h.glob.mono e,h.below.below hb,h.lt,λs x hl=>(h.rows s x hl).mono e (λk base hp=>hb.block k ((h.rows s x hl).block (Fa hl) hp)),λs x k o hl hp=> ?_,h.sep,λk i hF=> ?_,λk hB=>l2m (h.finB k hB) hb.size,h.nx⟩,e⟩
 ·have h1:=h.own s x k o hl hp
  have h2:=(h.rows s x hl).block (Fa hl) hp
  refine⟨h1.1,λi hF=> ?_,h1.2.2⟩
  rcases hF with hF|hF
  ·exact h1.2.1 i hF
  ·omega
 ·rcases hF with hF|hF
  ·exact l2m (h.fin k i hF) hb.size
  ·omega
theorem B20 (hT:XT P T) {ty e:TypeId} {esz:Nat} {i ie:TI} {n:Nat} {l:List (Nat×Nat×AV)} {ps:List (Nat×AV)} {qs:List (Nat×Value)} {K:AV→Aj} (hi:T ty=some i) (hd:i.d= .slice e esz) (hie:T e=some ie) (he:(ps.map λp=>(some (p.1*esz,esz)).map λq=>(q.1,q.2,p.2))=l.map some)
 (h:Sm esz ie n l K=some r) (hlen:ps.length=qs.length) (hq:∀(j:Nat) (p:Nat×AV),ps[j]?=some p→∃z,qs[j]?=some (p.1,z)∧VRel C w p.2 z) (hr:Rel G w0 C H w):
 ∃v y C' w',K v=some r∧(Instr.buildSlice ty n qs.toArray).run P w= .ok y w'∧VRel C' w' v y∧Rel G w0 C' H w'∧Ext w0.own C w C' w':=by
 rw[Sm,CQ,Co] at h
 obtain⟨h1,h⟩:=Bw h
 rw[UP] at h
 obtain⟨cs',h2,hf⟩:=UR (place:= λj=>some (j*esz,esz)) l ps _ _ he h
 obtain⟨hcl,hK⟩:=Bw h2
 simp only[Jm,l13,l14,XQ] at h1
 have hne:esz≠0:= λe0=>by have:=h1.2.1;rw[e0] at this;simp at this
 have hzl:(B8 ie.zero).length=esz:=by omega
 have hbig:n*esz≤2^24:=h1.2.2
 have ok:=hT ty i hi
 obtain⟨hu,hc⟩:=ok.elem_slice hd
 have oke:=hT e ie hie
 obtain⟨z,hz,ez⟩:=oke.run_zero (P:=P) w
 have hsz:(sizeOf e).run P w= .ok esz w:=by rw[←hc];exact BF w (by rw[hc];exact hne)
 have hz0:Cj C w (B8 ie.zero) z.cells.toList:=Nh (t:=e) ez
 have hzs:z.cells.size=esz:=by have:=hz0.1;simp at this;omega
 have hzz:Cj C w (Uk n (B8 ie.zero)) ((List.range n).flatMap λ_=>z.cells.toList):=by rw[XA9];exact Vs hz0 n
 obtain⟨zs,g1,g2⟩:=Xv (C:=C) (w:=w) ps qs _ _ cs' hlen hq hzz hf
 have hbig':¬(n*esz>2^24):=by omega
 have hrl:zs.length=n*esz:=by rw[g2.1,XK _ _ _ hf,Uj,hzl]
 have hbl:=Wq w (.cells zs.toArray e)
 obtain⟨hrel,hext⟩:=hr.new_fixed hbl (by simp)
 refine⟨_,.slice (some ⟨w.heap.size,0,none⟩) n n,_,_,hK,?_,?_,hrel,hext⟩
 ·unfold Instr.buildSlice
  rw[CI,run_underlying hu w]
  simp only[EO]
  rw[CI,hsz]
  simp only[EO,if_neg hbig',pure_bind]
  by_cases h0:n*esz=0
  ·have hn0:n=0:=by rcases Nat.mul_eq_zero.1 h0 with h|h;exact h;exact absurd h hne
   subst hn0
   rw[if_pos h0]
   simp only[List.range_zero,List.flatMap_nil] at g1
   rw[show(Array.map (λx=>(#[]:Array Value)[x%(#[]:Array Value).size]!) (Array.range (0*esz)))= #[] from by rw[Nat.zero_mul];apply l0c;simp,g1]
   simp[newRow]
  ·rw[if_neg h0,CI,hz]
   simp only[EO]
   have:=Wz z.cells n
   rw[hzs] at this⊢
   rw[this,g1]
   simp[newRow]
 ·have g3:Cj (C.addF w.heap.size).bare {w with heap:=w.heap.push (.cells zs.toArray e)} cs' zs:=Cj.mono (C:=C.bare) (Cj.down 2 hcl g2 rfl rfl) hext.bare
  refine .list (OV _) (λi=>zs.getD i undef) (λi hi=> .inr rfl) (λi hi=> ?_) (λi hi=> ?_)
  ·have hi':i<zs.length:=by rw[g2.1];exact hi
   rw[cell_of_row _ w.heap.size (0+i) zs.toArray e (0,0) (by simp)]
   simp[TW,hi']
  ·have hi':i<zs.length:=by rw[g2.1];exact hi
   rw[TW,Kq hi']
   exact g3.get i hi
end
def eMk (e:TypeId) (esz:Nat) (ie:TI) (len cap:AV) (H:Hp) (K:KV):Aj:=
 A57 len λl=>iN l λn=>A57 cap λc=>iN c λm=>Hi ie.zero λz=>GP z 0 λk=>
  ck (Nat.beq k esz&&(!Nat.beq esz 0&&(Nat.beq ie.size esz&&(Nat.ble n m&&(Nat.ble (Nat.mul ie.bytes m) 281474976710656&&Nat.ble m 281474976710656)))))
   (UQ n z λcs=>XA3 H λs=>K (.sl esz s 0 n) ((s,.cells false e cs)::H))
section
variable {T:Ty} {H:Hp} {r:AV×Hp} {P:Program} {G:Gl} {w0:Base} {C:Ctx} {w:World}
theorem B1S (hT:XT P T) {ty e:TypeId} {esz:Nat} {i ie:TI} {len cap:AV} {y1 y2:Value} {K:KV} (hi:T ty=some i) (hd:i.d= .slice e esz) (hie:T e=some ie) (h1:VRel C w len y1) (h2:VRel C w cap y2) (hr:Rel G w0 C H w) (h:eMk e esz ie len cap H K=some r):
 ∃v H' y C' w',K v H'=some r∧(Instr.makeSlice ty y1 y2).run P w= .ok y w'∧J9 G w0 C w v H' y C' w':=by
 unfold eMk at h
 obtain⟨k1,l,d1,g1⟩:=N9 h
 obtain⟨n,e1,g2⟩:=Th g1
 obtain⟨k2,c,d2,g3⟩:=N9 g2
 obtain⟨m,e2,g4⟩:=Th g3
 rw[CQ,Co] at g4
 obtain⟨hb,g5⟩:=Bw g4
 rw[UP,BZ] at g5
 simp only[Jm,l13,l14,XQ] at hb
 obtain⟨b1,b2,b3,b4,b5,b6⟩:=hb
 subst e1 e2 d1 d2
 have y1e:=AI.1 h1
 have y2e:=AI.1 h2
 subst y1e y2e
 obtain⟨hu,hc⟩:=(hT ty i hi).elem_slice hd
 obtain⟨inf,z,hinf,hs1,hs2,hz,hez⟩:=(hT e ie hie).info
 have hz0:Cj C w (B8 ie.zero) z.cells.toList:=Nh (t:=e) hez
 have hzs:z.cells.size=esz:=by have:=hz0.1;simp at this;omega
 have hb5:ie.bytes*m≤281474976710656:=b5
 have hb6:(inf.bytes:Int)*(m:Int)≤281474976710656:=by
  have:((ie.bytes*m:Nat):Int)≤281474976710656:=by omega
  rw[Int.natCast_mul] at this
  rw[hs2];exact this
 have hrun:=run_make (P:=P) w ty e inf z hu hinf hz k1 k2 n m (by omega) (by omega) hb6 (by omega)
 have hzz:Cj C w (Uk n (B8 ie.zero)) ((List.range n).flatMap λ_=>z.cells.toList):=by rw[XA9];exact Vs hz0 n
 have hlen:(Uk n (B8 ie.zero)).length=n*esz:=by rw[Uj];congr 1;omega
 have harr:(madeCells z.cells (m*esz)).toList.take (n*esz)=(List.range n).flatMap λ_=>z.cells.toList:=by
  have e1:=congrArg Array.toList (Wz z.cells n)
  rw[hzs] at e1
  simp only[Array.toList_map,Array.toList_range] at e1
  rw[←e1]
  simp only[madeCells,Array.toList_map,Array.toList_range,hzs]
  rw[←List.map_take]
  congr 1
  rw[List.take_range,l1x (l22 _ b4)]
 have key:=Vr hr (LD w (.cells (madeCells z.cells (m*esz)) e)) e (cs:=Uk n (B8 ie.zero)) (arr:=madeCells z.cells (m*esz)) (fz:=(0,0)) (World.alloc_heap_new w _) (λi _=>by omega) esz n m b4 (by rw[size_madeCells];exact OV _) (by rw[size_madeCells,hlen];exact l22 _ b4) (by rw[hlen,harr];exact hzz)
 refine⟨_,_,_,_,_,g5,?_,key⟩
 rw[hrun]
 simp only[XP,hs1,b3]
end
def B1Q (e:TypeId) (a:AV) (H:Hp) (K:KV):Aj:=
 match a with
 | .v (.string s)=>GP s.data.toList 0 λn=>Wn s.data.toList λcs=>XA3 H λr=>K (.sl 1 r 0 n) ((r,.cells false e cs)::H)
 |_=>none
section
variable {H:Hp} {r:AV×Hp} {P:Program} {G:Gl} {w0:Base} {C:Ctx} {w:World}
theorem B72 (w:World) (e:TypeId) (s:ByteArray):∃(cap:Nat) (arr:Array Value) (w':World),s.size≤cap∧(Conv.stringToBytes e s).run P w= .ok (.slice (some ⟨w.heap.size,0,none⟩) s.size cap) w'∧Below w.heap.size w w'∧
 w'.heap[w.heap.size]?=some (.cells arr e (cap,cap+1))∧arr.size=cap∧arr.toList.take s.size=s.data.toList.map λb=>Value.int .u8 b.toNat:=by
 let q:Question:= .appendCap s.size 0 e
 let c:=q.cut (w.tape w.drawn q)
 have hc:s.size≤c:=by show s.size≤s.size+_;omega
 have hsz:(s.data.map λb=>Value.int .u8 b.toNat).size=s.size:=by rw[Array.size_map];rfl
 have hsl:(s.data.map λb=>Value.int .u8 b.toNat).toList.length=s.size:=by rw[Array.length_toList];exact hsz
 let arr:Array Value:=(s.data.map λb=>Value.int .u8 b.toNat)++Array.replicate (c-s.size) (.int .u8 0)
 have harr:arr.size=c:=by
  show((s.data.map λb=>Value.int .u8 b.toNat)++Array.replicate (c-s.size) (Value.int .u8 0)).size=c
  rw[Array.size_append,hsz,Array.size_replicate];omega
 refine⟨c,arr,{w with drawn:=w.drawn+1,heap:=w.heap.push (.cells arr e (c,c+1))},hc,?_,?_,by simp,harr,?_⟩
 ·unfold Conv.stringToBytes
  rw[CI,run_choose,if_neg (by simp[Question.forced])]
  simp only[EO]
  simp only[newRow,CI,run_newObj,EO,Y9,markStringish]
  have hsh:World.shape? {heap:=w.heap.push (Obj.cells arr e),tape:=w.tape,drawn:=w.drawn+1,os:=w.os,output:=w.output} w.heap.size=some (e,c):=by
   simp only[World.shape?,Array.getElem?_push_size]
   rw[harr]
  have hfr:World.freeze {heap:=w.heap.push (Obj.cells arr e),tape:=w.tape,drawn:=w.drawn+1,os:=w.os,output:=w.output} {block:=w.heap.size,off:=c} 1={heap:=w.heap.push (Obj.cells arr e (c,c+1)),tape:=w.tape,drawn:=w.drawn+1,os:=w.os,output:=w.output}:=by
   unfold World.freeze
   rw[if_neg (by omega)]
   congr 1
   apply Array.ext_getElem?
   intro j
   rw[l0r]
   by_cases hj:w.heap.size=j
   ·subst hj
    rw[if_pos rfl,Array.getElem?_push_size,Array.getElem?_push_size]
    rfl
   ·rw[if_neg hj,l27,l27,if_neg (λh=>hj h.symm),if_neg (λh=>hj h.symm)]
  rw[run_shape]
  have hsh':=hsh
  show(((Result.ok (World.shape? {heap:=w.heap.push (Obj.cells arr e),tape:=w.tape,drawn:=w.drawn+1,os:=w.os,output:=w.output} w.heap.size) _).andThen _).andThen _)=_
  rw[hsh]
  simp only[EO,run_freeze]
  exact congrArg (Result.ok _) hfr
 ·exact⟨rfl,rfl,rfl,by simp,λk hk=>by simp[l27,Nat.ne_of_lt hk]⟩
 ·show((s.data.map λb=>Value.int .u8 b.toNat)++Array.replicate (c-s.size) (Value.int .u8 0)).toList.take s.size=_
  rw[Array.toList_append,List.take_append_of_le_length (Nat.le_of_eq hsl.symm)]
  rw[l1z (Nat.le_of_eq hsl),Array.toList_map]
theorem A97 {e:TypeId} {a:AV} {y:Value} {K:KV} (hr:Rel G w0 C H w) (hv:VRel C w a y) (h:B1Q e a H K=some r):
 ∃s,y= .string s∧∃v H' y' C' w',K v H'=some r∧(Conv.stringToBytes e s).run P w= .ok y' w'∧J9 G w0 C w v H' y' C' w':=by
 unfold B1Q at h
 split at h
 ·rename_i s
  have hy:=AI.1 hv
  refine⟨s,hy,?_⟩
  rw[Co,Vu,BZ,KF] at h
  obtain⟨cap,arr,w',h1,h2,h3,h4,h5,h6⟩:=B72 (P:=P) w e s
  have hl:(s.data.toList.map λb=>AV.v (.int .u8 b.toNat)).length=s.size:=by rw[Wv];rfl
  have key:=Vr hr h3 e (cs:=s.data.toList.map λb=>AV.v (.int .u8 b.toNat)) h4 (λi hi=>by omega) 1 s.size cap h1 (by omega) (by rw[hl];omega) (by
   rw[hl,h6]
   have:=Tg (C:=C.sel false) (w:=w) (s.data.toList.map λb=>Value.int .u8 b.toNat)
   simpa [l1t] using this)
  exact⟨_,_,_,_,_,h,h2,key⟩
 ·cases h
end
def Xn:Value→Value→Option Bool
 | .string a,.string b=>some (eqB a.data.toList b.data.toList)
 | .int k a,.int k' b=>match decide (k=k') with|true=>some (ieq a b)|false=>none
 | .bool a,.bool b=>some (a==b)
 |_,_=>none
def Ve (xs:List Value):List Value→Option Bool:=
 @List.rec Value (λ_=>List Value→Option Bool) (λys=>match ys with|[]=>some true|_=>none)
  (λx _ ih ys=>match ys with
   |[]=>none
   |y::ys=>match Xn x y with
    |some b=>(match ih ys with|some c=>some (b&&c)|none=>none)
    |none=>none) xs
def keq:Value→Value→Option Bool
 | .agg xs,.agg ys=>Ve xs.toList ys.toList
 |a,b=>Xn a b
def Xl (k:Value) (es:List (Value×AV)):Nat→Option (Option (Nat×AV)):=
 @List.rec (Value×AV) (λ_=>Nat→Option (Option (Nat×AV))) (λ_=>some none)
  (λp _ ih i=>match keq k p.1 with|some true=>some (some (i,p.2))|some false=>ih (Nat.succ i)|none=>none) es
theorem Wk (k:Value) (p:Value×AV) (es:List (Value×AV)) (i:Nat):Xl k (p::es) i=(match keq k p.1 with|some true=>some (some (i,p.2))|some false=>Xl k es (i+1)|none=>none):=rfl
def Ny (k:Value) (es:List (Value×AV)) (K:Option (Nat×AV)→Aj):Aj:=match Xl k es 0 with|some x=>K x|none=>none
def Zm (cs:List AV):(List Value→Aj)→Aj:=
 @List.rec AV (λ_=>(List Value→Aj)→Aj) (λK=>K []) (λa _ ih K=>match a with| .v x=>ih λl=>K (x::l)|_=>none) cs
def IV (a:AV) (K:Value→Aj):Aj:=match a with| .v (.string s)=>K (.string s)|_=>none
def A6R (q:IntKind) (a:AV) (K:Value→Aj):Aj:=match a with| .v (.int q' n)=>ck (decide (q'=q)) (K (.int q' n))|_=>none
def B1w (ks:List LK) (a:AV) (K:Value→Aj):Aj:=match a with| .agg cs=>Zm cs λvs=>ck (fits ks vs) (K (.agg vs.toArray))|_=>none
def OS (P:Program) (kt:TypeId) (k:Value):Prop:=
 (P.underlying kt=some .string∧∃s,k= .string s)∨(∃q n,P.underlying kt=some (.int q)∧k= .int q n)∨(∃ks xs,EqFlat P kt ks∧fits ks xs=true∧k= .agg xs.toArray)
theorem A3M {a b:Value} {q:Bool} (h:Xn a b=some q):(q=true↔a=b)∧∀lk:LK,lk.fit a=true→lk.fit b=true:=by
 cases a<;>cases b<;>simp[Xn] at h
 ·subst h;exact⟨by simp,λlk hl=>by cases lk<;>simp[LK.fit] at hl⊢⟩
 ·split at h
  ·rename_i hk
   injection h with h
   have hk:_=_:=of_decide_eq_true hk
   subst hk
   refine⟨by rw[←h,OM];simp,λlk hl=> ?_⟩
   cases lk<;>simp[LK.fit] at hl⊢
   exact hl
  ·cases h
 ·rw[OQ] at h
  refine⟨?_,λlk hl=>by cases lk<;>simp[LK.fit] at hl⊢⟩
  rename_i x y
  obtain⟨⟨x⟩⟩:=x
  obtain⟨⟨y⟩⟩:=y
  rw[←h];simp
theorem B2e (x:Value) (xs:List Value) (ys:List Value):Ve (x::xs) ys=(match ys with|[]=>none|y::ys=>(match Xn x y with|some b=>(match Ve xs ys with|some c=>some (b&&c)|none=>none)|none=>none)):=rfl
theorem Sq:∀{xs ys:List Value} {q:Bool},Ve xs ys=some q→(q=true↔xs=ys)∧∀ks,fits ks xs=true→fits ks ys=true:=by
 intro xs
 induction xs with
 |nil=>
  intro ys q h
  cases ys with
  |nil=>injection h with h;subst h;exact⟨by simp,λ_ h=>h⟩
  |cons y ys=>cases h
 |cons x xs ih=>
  intro ys q h
  rw[B2e] at h
  cases ys with
  |nil=>cases h
  |cons y ys=>
   simp only at h
   cases h1:Xn x y with
   |none=>rw[h1] at h;cases h
   |some b=>
    rw[h1] at h
    simp only at h
    cases h2:Ve xs ys with
    |none=>rw[h2] at h;cases h
    |some c=>
     rw[h2] at h
     injection h with h
     obtain⟨e1,f1⟩:=A3M h1
     obtain⟨e2,f2⟩:=ih h2
     refine⟨by rw[←h,Jm,e1,e2,List.cons.injEq],λks hk=> ?_⟩
     cases ks with
     |nil=>simp[fits] at hk
     |cons k ks=>
      simp only[fits,Jm] at hk⊢
      exact⟨f1 k hk.1,f2 ks hk.2⟩
theorem A6S {a b:Value} {q:Bool} (h:keq a b=some q):q=true↔a=b:=by
 unfold keq at h
 split at h
 ·rename_i xs ys
  rw[(Sq h).1]
  constructor
  ·intro e;rw[Array.toList_inj.1 e]
  ·intro e;injection e with e;rw[e]
 ·exact(A3M h).1
section
variable {P:Program}
theorem Wl {r:AV×Hp}:∀(cs:List AV) (K:List Value→Aj),Zm cs K=some r→∃vs:List Value,cs=vs.map AV.v∧K vs=some r:=by
 intro cs
 induction cs with
 |nil=>intro K h;exact⟨[],rfl,h⟩
 |cons a cs ih=>
  intro K h
  have h:(match(generalizing:=false) a with| .v x=>Zm cs λl=>K (x::l)|_=>none)=some r:=h
  split at h
  ·obtain⟨vs,e,h2⟩:=ih _ h
   exact⟨_::vs,by rw[e];rfl,h2⟩
  ·cases h
theorem A0U {C:Ctx} {w:World} {vs:List Value} {y:Value} (h:VRel C w (.agg (vs.map AV.v)) y):y= .agg vs.toArray:=by
 obtain⟨ys,rfl,hl⟩:=ER.1 h
 congr 1
 congr 1
 apply l0o
 intro i
 cases hi:vs[i]? with
 |none=>
  have:=hl.1
  simp only[Wv] at this
  have h1:vs.length≤i:=by simpa using List.getElem?_eq_none_iff.1 hi
  exact l1e (by omega)
 |some v=>
  obtain⟨y,hy,hv⟩:=hl.2 i (.v v) (by rw[l0a,hi];rfl)
  rw[hy,AI.1 hv]
theorem A2P:∀{ks:List LK} {xs:List Value} (n:Nat),fits ks xs=true→((xs.zip xs).all λp=>Instr.sameBits n p.1 p.2)=true:=by
 intro ks
 induction ks with
 |nil=>intro xs n h;cases xs<;>simp[fits] at h;rfl
 |cons k ks ih=>
  intro xs n h
  cases xs with
  |nil=>simp[fits] at h
  |cons x xs=>
   simp only[fits,Jm] at h
   simp only[List.zip_cons_cons,l2j,Jm]
   refine⟨?_,ih n h.2⟩
   have h1:=h.1
   cases k<;>cases x<;>simp[LK.fit] at h1<;>simp[Instr.sameBits,MapKept.bytes_beq]
theorem OS.stays {kt:TypeId} {k:Value} (h:OS P kt k) (w:World):(Instr.keyThatStays k k).run P w= .ok k w:=by
 have:Instr.sameBits 10000 k k=true:=by
  rcases h with⟨_,s,rfl⟩|⟨q,n,_,rfl⟩|⟨ks,xs,_,h,rfl⟩
  ·simp[Instr.sameBits,MapKept.bytes_beq]
  ·simp[Instr.sameBits]
  ·have:=A2P 9999 h
   show(xs.toArray.size==xs.toArray.size&&(xs.toArray.toList.zip xs.toArray.toList).all λ(x,y)=>Instr.sameBits 9999 x y)=true
   simp only[beq_self_eq_true,l16]
   exact this
 simp[Instr.keyThatStays,this]
theorem OS.check {kt:TypeId} {k:Value} (h:OS P kt k) (em:Bool) (w:World):(Instr.checkKey em 10000 kt k).run P w= .ok () w:=by
 rcases h with⟨hu,s,rfl⟩|⟨q,n,hu,rfl⟩|⟨ks,xs,he,h,rfl⟩
 ·exact MapKept.run_checkKey hu (d:= .string) (by simp[MapKept.IsKey]) em 9999
 ·exact MapKept.run_checkKey hu (d:= .int q) (by simp[MapKept.IsKey]) em 9999
 ·exact he.check h em w
def A2x (k:Value) (es:List (Value×AV)) (ms:List MapEntry) (i0:Nat):Option (Nat×AV)→Option (Nat×Value)→Prop
 |none,r=>r=none∧∀p∈es,p.1≠k
 |some (i,v),r=>∃(j:Nat) (m:MapEntry),i=i0+j∧es[j]?=some (k,v)∧ms[j]?=some m∧m.key=k∧r=some (i,m.val)
theorem Kg.cons_inv {C:Ctx} {w:World} {p:Value×AV} {es:List (Value×AV)} {ms:List MapEntry} (h:Kg C w (p::es) ms):∃m ms',ms=m::ms'∧m.key=p.1∧VRel C w p.2 m.val∧Kg C w es ms':=by
 cases ms with
 |nil=>exact absurd h.1 (by simp)
 |cons m ms=>
  obtain⟨m',h1,h2,h3⟩:=h.2 0 p rfl
  simp at h1
  subst h1
  exact⟨m,ms,rfl,h2,h3,by simpa using h.1,λi x hx=>by simpa using h.2 (i+1) x (by simpa using hx)⟩
theorem Kg.nil_inv {C:Ctx} {w:World} {ms:List MapEntry} (h:Kg C w [] ms):ms=[]:=l1s (by simpa using h.1)
theorem A2x.step {k:Value} {p:Value×AV} {es:List (Value×AV)} {m:MapEntry} {ms:List MapEntry} {i0:Nat} (hne:p.1≠k):∀{x:Option (Nat×AV)} {r:Option (Nat×Value)},A2x k es ms (i0+1) x r→A2x k (p::es) (m::ms) i0 x r
 |none,r,⟨h1,h2⟩=>⟨h1,λq hq=>by
  rcases UJ.1 hq with rfl|hq
  ·exact hne
  ·exact h2 q hq⟩
 |some (i,v),r,⟨j,m',h1,h2,h3,h4,h5⟩=>⟨j+1,m',by omega,by simpa using h2,by simpa using h3,h4,h5⟩
theorem VL {d:TypeDesc} {k:Value} (hd:∀v q,keq k v=some q→Instr.sameNow d k v=some q) {C:Ctx} {w:World}:∀(es:List (Value×AV)) (ms:List MapEntry) (i:Nat) (x:Option (Nat×AV)),Kg C w es ms→Xl k es i=some x→∃r,Instr.findNow d k ms i=some r∧A2x k es ms i x r:=by
 intro es
 induction es with
 |nil=>
  intro ms i x he h
  injection h with h
  subst h
  rw[he.nil_inv]
  exact⟨none,rfl,rfl,by simp⟩
 |cons p es ih=>
  intro ms i x he h
  obtain⟨m,ms',rfl,hk,hv,he'⟩:=he.cons_inv
  rw[Wk] at h
  cases hq:keq k p.1 with
  |none=>rw[hq] at h;cases h
  |some q=>
   rw[hq] at h
   have hs:=hd _ _ hq
   have hiff:=A6S hq
   cases q with
   |true=>
    injection h with h
    subst h
    have:k=p.1:=hiff.1 rfl
    refine⟨some (i,m.val),by simp[Instr.findNow,hk,hs],0,m,rfl,by rw[this];rfl,rfl,by rw[hk,this],rfl⟩
   |false=>
    obtain⟨r,h1,h2⟩:=ih ms' (i+1) x he' h
    have hne:p.1≠k:= λe=>by have:=hiff.2 e.symm;cases this
    exact⟨r,by simp[Instr.findNow,hk,hs,h1],h2.step hne⟩
theorem YM {kt:TypeId} {ks:List LK} (hf:EqFlat P kt ks) {xs:List Value} (hx:fits ks xs=true) {C:Ctx} {w:World}:∀(es:List (Value×AV)) (ms:List MapEntry) (i:Nat) (x:Option (Nat×AV)),Kg C w es ms→Xl (.agg xs.toArray) es i=some x→
 ∃r,(Instr.findAsking kt (.agg xs.toArray) ms i).run P w= .ok r w∧A2x (.agg xs.toArray) es ms i x r:=by
 intro es
 induction es with
 |nil=>
  intro ms i x he h
  injection h with h
  subst h
  rw[he.nil_inv]
  exact⟨none,rfl,rfl,by simp⟩
 |cons p es ih=>
  intro ms i x he h
  obtain⟨m,ms',rfl,hk,hv,he'⟩:=he.cons_inv
  rw[Wk] at h
  cases hq:keq (.agg xs.toArray) p.1 with
  |none=>rw[hq] at h;cases h
  |some q=>
   rw[hq] at h
   have hiff:=A6S hq
   have heq:(Op.equal kt (.agg xs.toArray) m.key).run P w= .ok q w:=by
    rw[hk]
    unfold keq at hq
    split at hq
    ·rename_i xs' ys e1 e2
     injection e1 with e1
     subst e1
     have hfy:=(Sq hq).2 ks (by simpa using hx)
     have:=hf.equal hx hfy w
     rw[e2]
     have e3:ys.toList.toArray=ys:=by simp
     rw[e3] at this
     rw[this]
     congr 1
     rw[l0w,(Sq hq).1]
     simp
    ·rename_i h1
     cases hp:p.1 with
     |agg ys=>exact absurd hp (h1 _ _ rfl)
     |_=>rw[hp] at hq;simp[Xn] at hq
   cases q with
   |true=>
    injection h with h
    subst h
    have:_=p.1:=hiff.1 rfl
    refine⟨some (i,m.val),by simp[Instr.findAsking,heq],0,m,rfl,by rw[this];rfl,rfl,by rw[hk,this],rfl⟩
   |false=>
    obtain⟨r,h1,h2⟩:=ih ms' (i+1) x he' h
    have hne:p.1≠_:= λe=>by have:=hiff.2 e.symm;cases this
    exact⟨r,by simp[Instr.findAsking,heq,h1],h2.step hne⟩
theorem OS.find {kt:TypeId} {k:Value} (hk:OS P kt k) {C:Ctx} {w:World} {es:List (Value×AV)} {ms:List MapEntry} {x:Option (Nat×AV)} (he:Kg C w es ms) (h:Xl k es 0=some x):∃r,(Instr.findKey kt k ms).run P w= .ok r w∧A2x k es ms 0 x r:=by
 rcases hk with⟨hu,s,rfl⟩|⟨q,n,hu,rfl⟩|⟨ks,xs,hf,hx,rfl⟩
 ·obtain⟨r,h1,h2⟩:=VL (d:= .string) (λv q hq=>by
   cases v<;>simp[keq,Xn] at hq
   rename_i u
   simp only[Instr.sameNow]
   rw[←hq,OQ]
   congr 1
   obtain⟨⟨s⟩⟩:=s
   obtain⟨⟨u⟩⟩:=u
   rw[l0w,MapKept.bytes_beq]
   simp) es ms 0 x he h
  exact⟨r,MapKept.run_findKey hu h1,h2⟩
 ·obtain⟨r,h1,h2⟩:=VL (d:= .int q) (λv q' hq=>by
   cases v<;>simp[keq,Xn] at hq
   rename_i k' m
   by_cases e:q=k'
   ·subst e
    simp at hq
    simp only[Instr.sameNow,if_pos]
    rw[←hq,OM]
    congr 1
   ·simp[e] at hq) es ms 0 x he h
  exact⟨r,MapKept.run_findKey hu h1,h2⟩
 ·obtain⟨r,h1,h2⟩:=YM hf hx es ms 0 x he h
  refine⟨r,?_,h2⟩
  have hu:∃u,P.underlying kt=some u∧(∀b,Instr.sameNow u (.agg xs.toArray) b=none):=by
   have hl:=hf.leaves
   unfold leaves at hl
   split at hl
   ·simp at hl
   ·simp at hl
   ·simp at hl
   ·rename_i hu;exact⟨_,hu,λb=>by cases b<;>rfl⟩
   ·rename_i hu;exact⟨_,hu,λb=>by cases b<;>rfl⟩
   ·cases hl
  obtain⟨u,hu,hs⟩:=hu
  unfold Instr.findKey
  rw[CI,run_underlying hu w]
  simp only[EO]
  cases ms with
  |nil=>
   have:=he.1
   have e:es=[]:=l1s (by simpa using this.symm)
   obtain⟨h3,_⟩:r=none∧True:=by
    subst e
    have hx:x=none:=(l26 h).symm
    subst hx
    exact⟨h2.1,trivial⟩
   rw[h3]
   rfl
  |cons m ms=>
   have:Instr.findNow u (.agg xs.toArray) (m::ms) 0=none:=by simp[Instr.findNow,hs]
   rw[this]
   exact h1
end
def A49:Option (List Nat×Nat)→Option (List Nat×Nat)
 |some (bs,c)=>some (bs++[c],c+1)
 |none=>none
def C6d:Option (List Nat×Nat)→Nat→Option (List Nat×Nat)
 |some (bs,c),i=>some (bs.eraseIdx i,c)
 |none,_=>none
def A4S:TD→Option (List Nat×Nat)
 | .int _=>some ([],0)
 | .slice _ _=>some ([],0)
 |_=>none
def A1N (x:Row) (K:List (Value×AV)→Option (List Nat×Nat)→Aj):Aj:=match x with| .map false es bo=>K es bo|_=>none
def MQ (ie:TI) (H:Hp) (K:KV):Aj:=XA3 H λs=>K (.mp s) ((s,.map false [] (A4S ie.d))::H)
def Qx (m:AV) (k:Value) (v:AV) (H:Hp) (K:Hp→Aj):Aj:=
 match m with
 | .mp r=>JL H r λx=>A1N x λes bo=>Ny k es λf=>match f with
  |none=>LL H r (.map false (es++[(k,v)]) (A49 bo)) K
  |some (i,_)=>LL H r (.map false (es.set i (k,v)) bo) K
 |_=>none
def A91 (m:AV) (H:Hp) (K:List (Value×AV)→Aj):Aj:=
 match m with
 | .mp r=>JL H r λx=>A1N x λes _=>K es
 | .imap es=>K es
 | .v (.map none)=>K []
 |_=>none
def TB (ie:TI) (ok:Bool) (m:AV) (k:Value) (H:Hp) (K:AV→Aj):Aj:=
 A91 m H λes=>Ny k es λf=>match f,ok with
  |none,true=>K (.tup [ie.zero,.v (.bool false)])
  |none,false=>K ie.zero
  |some (_,v),true=>K (.tup [v,.v (.bool true)])
  |some (_,v),false=>K v
def B52 (m:AV) (k:Value) (H:Hp) (K:Hp→Aj):Aj:=
 match m with
 | .mp r=>JL H r λx=>A1N x λes bo=>Ny k es λf=>match f with
  |none=>K H
  |some (i,_)=>LL H r (.map false (es.eraseIdx i) (C6d bo i)) K
 |_=>none
def A7g (m:AV) (H:Hp) (K:AV→Aj):Aj:=A91 m H λes=>GP es 0 λn=>K (.v (.int .i64 (.ofNat n)))
def B0s (ie:TI) (m:AV) (k:Value) (H:Hp) (K:KV):Aj:=
 match m with
 | .mp r=>JL H r λx=>A1N x λes bo=>match bo with
  |some (bs,c)=>Ny k es λf=>match f with
   |none=>LL H r (.map false (es++[(k,ie.zero)]) (some (bs++[c],c+1))) λH'=>K (.tup [ie.zero,.v (.int .i64 (.ofNat c))]) H'
   |some (i,v)=>(match bs[i]? with|some b=>K (.tup [v,.v (.int .i64 (.ofNat b))]) H|none=>none)
  |none=>none
 |_=>none
def B0r (m st v:AV) (H:Hp) (K:Hp→Aj):Aj:=
 match m with
 | .mp r=>JL H r λx=>A1N x λes bo=>A57 st λz=>match bo with
  |some (bs,c)=>(match bs.findIdx? (λb=>ieq (.ofNat b) z) with
   |some i=>(match es[i]? with|some p=>LL H r (.map false (es.set i (p.1,v)) (some (bs,c))) K|none=>none)
   |none=>none)
  |none=>none
 |_=>none
section
variable {P:Program} {G:Gl} {w0:Base} {C:Ctx} {H:Hp} {w:World} {r:AV×Hp}
theorem Px {x:Row} {K:List (Value×AV)→Option (List Nat×Nat)→Aj} (h:A1N x K=some r):∃es bo,x= .map false es bo∧K es bo=some r:=by
 unfold A1N at h
 split at h
 ·exact⟨_,_,rfl,h⟩
 ·cases h
theorem QN {k:Value} {es:List (Value×AV)} {K:Option (Nat×AV)→Aj} (h:Ny k es K=some r):∃x,Xl k es 0=some x∧K x=some r:=by
 unfold Ny at h
 split at h
 ·exact⟨_,by assumption,h⟩
 ·cases h
theorem Kg.append {es es':List (Value×AV)} {ms ms':List MapEntry} (h:Kg C w es ms) (k:Kg C w es' ms'):Kg C w (es++es') (ms++ms'):=
 ⟨by simp[h.1,k.1],λi p hp=>by
  rw[List.getElem?_append] at hp⊢
  rw[h.1]
  split at hp
  ·rename_i hi;rw[if_pos hi];exact h.2 i p hp
  ·rename_i hi;rw[if_neg hi];exact k.2 _ p hp⟩
theorem Kg.one {k:Value} {v:AV} {m:MapEntry} (hk:m.key=k) (hv:VRel C w v m.val):Kg C w [(k,v)] [m]:=
 ⟨rfl,λi p hp=>by
  cases i with
  |zero=>simp at hp;subst hp;exact⟨m,rfl,hk,hv⟩
  |succ i=>simp at hp⟩
theorem Kg.modify {es:List (Value×AV)} {ms:List MapEntry} (h:Kg C w es ms) (i:Nat) {k:Value} {v:AV} {f:MapEntry→MapEntry} (hk:∀m,ms[i]?=some m→(f m).key=k) (hv:∀m,ms[i]?=some m→VRel C w v (f m).val):Kg C w (es.set i (k,v)) (ms.modify i f):=
 ⟨by simp[h.1],λj p hp=>by
  rw[List.getElem?_set] at hp
  rw[List.getElem?_modify]
  split at hp
  ·rename_i e
   subst e
   split at hp
   ·rename_i hl
    injection hp with hp
    subst hp
    have hl':i<ms.length:=by rw[h.1];exact hl
    have hm:=Kq hl'
    exact⟨f ms[i],by rw[hm];simp,hk _ hm,hv _ hm⟩
   ·cases hp
  ·rename_i e
   obtain⟨m,h1,h2,h3⟩:=h.2 j p hp
   exact⟨m,by rw[h1];simp[e],h2,h3⟩⟩
theorem Kg.eraseIdx {es:List (Value×AV)} {ms:List MapEntry} (h:Kg C w es ms) (i:Nat):Kg C w (es.eraseIdx i) (ms.eraseIdx i):=
 ⟨by rw[List.length_eraseIdx,List.length_eraseIdx,h.1],λj p hp=>by
  rw[List.getElem?_eraseIdx] at hp⊢
  split at hp
  ·rename_i hi;rw[if_pos hi];exact h.2 j p hp
  ·rename_i hi;rw[if_neg hi];exact h.2 _ p hp⟩
theorem MOk.push {ms:Array MapEntry} {clock:Nat} (h:MOk ms clock) (k v:Value):MOk (ms.push {key:=k,val:=v,born:=clock}) (clock+1):=
 ⟨by
  rw[l2n,List.pairwise_append]
  refine⟨h.born,by simp,λa ha b hb=> ?_⟩
  simp at hb
  subst hb
  have:=h.lt a ha
  show a.born≠clock
  omega,λm hm=>by
  rw[l2n,Zi] at hm
  rcases hm with hm|hm
  ·have:=h.lt m hm;omega
  ·simp at hm;subst hm;exact Nat.lt_succ_self _⟩
theorem Vd {ms:List MapEntry} {i:Nat} {f:MapEntry→MapEntry} (hf:∀m,(f m).born=m.born):(ms.modify i f).map (·.born)=ms.map (·.born):=by
 apply l0o
 intro j
 rw[l0a,l0a,List.getElem?_modify]
 cases ms[j]? with
 |none=>rfl
 |some m=>by_cases e:i=j<;>simp[e,hf]
theorem B08 {ms:Array MapEntry} {clock:Nat}:MOk ms clock↔(ms.toList.map (·.born)).Pairwise (λa b=>a≠b)∧∀b∈ms.toList.map (·.born),b<clock:=by
 constructor
 ·intro h
  exact⟨by rw[List.pairwise_map];exact h.born,λb hb=>by obtain⟨m,hm,rfl⟩:=l2a.1 hb;exact h.lt m hm⟩
 ·rintro⟨h1,h2⟩
  exact⟨by rw[List.pairwise_map] at h1;exact h1,λm hm=>h2 _ (l2a.2 ⟨m,hm,rfl⟩)⟩
theorem MOk.modify {ms:Array MapEntry} {clock:Nat} (h:MOk ms clock) (i:Nat) {f:MapEntry→MapEntry} (hf:∀m,(f m).born=m.born):MOk (ms.modify i f) clock:=by
 rw[B08,l2o,Vd hf]
 exact B08.1 h
theorem Po (ms:Array MapEntry) (i:Nat):(ms.eraseIdxIfInBounds i).toList=ms.toList.eraseIdx i:=by
 unfold Array.eraseIdxIfInBounds
 split
 ·simp only[Array.toList_eraseIdx]
 ·rename_i h;rw[List.eraseIdx_of_length_le (by simpa using h)]
theorem Xh {α β:Type} (f:α→β):∀(l:List α) (i:Nat),(l.eraseIdx i).map f=(l.map f).eraseIdx i
 |[],_=>rfl
 |_::_,0=>rfl
 |a::l,i+1=>by simp[Xh f l i]
theorem MOk.erase {ms:Array MapEntry} {clock:Nat} (h:MOk ms clock) (i:Nat):MOk (ms.eraseIdxIfInBounds i) clock:=
 ⟨by rw[Po];exact h.born.sublist (List.eraseIdx_sublist _ _),λm hm=>by rw[Po] at hm;exact h.lt m ((List.eraseIdx_sublist _ _).subset hm)⟩
theorem Vi {r:Nat} {es es':List (Value×AV)} {bo bo':Option (List Nat×Nat)} {b:Nat} {ms ms':Array MapEntry} {clock clock':Nat} {O:Nat→Prop} (hr:Rel G w0 C H w) (hl:Aq H r=some (.map false es bo)) (hp:C.π r=some (some (b,0))) (hb:w.heap[b]?=some (.map ms clock))
 (he:Kg C w es' ms'.toList) (hm:MOk ms' clock') (ho:BOk bo' ms' clock'):(setObj b (.map ms' clock')).run P w= .ok () {w with heap:=w.heap.setIfInBounds b (.map ms' clock')}∧
  Rel G w0 C (upd H r (.map false es' bo')) {w with heap:=w.heap.setIfInBounds b (.map ms' clock')}∧Ext O C w C {w with heap:=w.heap.setIfInBounds b (.map ms' clock')}:=by
 obtain⟨h1,h2⟩:=MapKept.heap_set (w:=w) (o':= .map ms' clock') hb
 have hs:SameObj w {w with heap:=w.heap.setIfInBounds b (.map ms' clock')} b (.map ms' clock'):=⟨rfl,rfl,rfl,by simp,h1,h2⟩
 refine⟨MapKept.run_setObj_map _ hb,hr.set_obj (O:=O) hl hp hs (λarr T fz hc=>by rw[hb] at hc;cases hc) (λe=>⟨b,ms',clock',hp,h1,hm,he.mono e,ho⟩)⟩
theorem Y6 {r:Nat} {es:List (Value×AV)} {bo:Option (List Nat×Nat)} {y:Value} (hr:Rel G w0 C H w) (hl:Aq H r=some (.map false es bo)) (hv:VRel C w (.mp r) y):
 ∃b ms clock,y= .map (some b)∧C.π r=some (some (b,0))∧w.heap[b]?=some (.map ms clock)∧MOk ms clock∧Kg C w es ms.toList∧BOk bo ms clock:=by
 cases hv with
 |@mp _ _ _ b base hp=>
  obtain⟨b',ms,clock,g1,g2,g3,g4,g5⟩:=hr.rows r _ hl
  have e':=g1.symm.trans hp
  injection e' with e';injection e' with e';injection e' with e1 e2;subst e1 e2
  exact⟨b',ms,clock,rfl,hp,g2,g3,g4,g5⟩
theorem A7d {ie:TI} {ty:TypeId} {K:KV} (hr:Rel G w0 C H w) (h:MQ ie H K=some r):∃v H' y C' w',K v H'=some r∧(Instr.makeMap ty none).run P w= .ok y w'∧J9 G w0 C w v H' y C' w':=by
 unfold MQ at h
 rw[BZ] at h
 have hb:=LD w (.map #[] 0)
 refine⟨_,_,.map (some w.heap.size),_,w.alloc (.map #[] 0),h,rfl,.mp (C.put_n _ _),hr.new_row hb ⟨w.heap.size,#[],0,C.put_n _ _,World.alloc_heap_new _ _,⟨by simp,by simp⟩,⟨rfl,λi p hp=>by simp at hp⟩,?_⟩,hr.new_ext hb⟩
 unfold A4S
 split
 ·exact⟨rfl,rfl⟩
 ·exact⟨rfl,rfl⟩
 ·trivial
theorem A2f {mt kt et:TypeId} {m v:AV} {k ym yv:Value} {K:Hp→Aj} (hu:P.underlying mt=some (.map kt et)) (hk:OS P kt k) (hr:Rel G w0 C H w) (hm:VRel C w m ym) (hv:VRel C w v yv) (h:Qx m k v H K=some r):
 ∃H' w',K H'=some r∧(Instr.mapUpdate mt ym k yv).run P w= .ok () w'∧Rel G w0 C H' w'∧Ext w0.own C w C w':=by
 unfold Qx at h
 split at h
 ·rename_i s
  obtain⟨x,hl,h1⟩:=Hd rfl h
  obtain⟨es,bo,rfl,h2⟩:=Px h1
  obtain⟨f,hf,h3⟩:=QN h2
  obtain⟨b,ms,clock,rfl,hp,hb,hok,he,ho⟩:=Y6 hr hl hm
  obtain⟨q,hq,hfd⟩:=hk.find he hf
  clear h h1 h2
  cases f with
  |none=>
   simp only at h3
   rw[Dm] at h3
   obtain⟨e1,_⟩:=hfd
   subst e1
   obtain⟨g1,g2,g3⟩:=Vi (P:=P) (O:=w0.own) (es':=es++[(k,v)]) (bo':=A49 bo) (ms':=ms.push {key:=k,val:=yv,born:=clock}) (clock':=clock+1) hr hl hp hb (by rw[l2n];exact he.append (.one rfl hv)) (hok.push _ _) (by
    cases bo with
    |none=>trivial
    |some p=>obtain⟨e1,e2⟩:=ho;exact⟨by rw[l2n,Zl,e1,e2];rfl,by rw[e2]⟩)
   refine⟨_,_,h3,?_,g2,g3⟩
   unfold Instr.mapUpdate
   rw[CI,run_underlying hu w]
   simp only[EO]
   rw[CI,l2l hb]
   simp only[EO]
   rw[CI,hk.check]
   simp only[EO]
   rw[CI,hq]
   simp only[EO]
   exact g1
  |some p=>
   obtain⟨i,v0⟩:=p
   simp only at h3
   rw[Dm] at h3
   obtain⟨j,m0,e0,hes,hms,hkey,hres⟩:=hfd
   have e0:i=j:=by omega
   subst e0
   subst hres
   have hms':ms[i]?=some m0:=by simpa using hms
   obtain⟨g1,g2,g3⟩:=Vi (P:=P) (O:=w0.own) (es':=es.set i (k,v)) (bo':=bo) (ms':=ms.modify i λe=>{e with key:=k,val:=yv}) (clock':=clock) hr hl hp hb (by rw[l2o];exact he.modify i (λ_ _=>rfl) (λ_ _=>hv)) (hok.modify i (λ_=>rfl)) (by
    cases bo with
    |none=>trivial
    |some p=>obtain⟨e1,e2⟩:=ho;exact⟨by rw[l2o,Vd (f:= λe=>{e with key:=k,val:=yv}) (λ_=>rfl)];exact e1,e2⟩)
   refine⟨_,_,h3,?_,g2,g3⟩
   unfold Instr.mapUpdate
   rw[CI,run_underlying hu w]
   simp only[EO]
   rw[CI,l2l hb]
   simp only[EO]
   rw[CI,hk.check]
   simp only[EO]
   rw[CI,hq]
   simp only[EO,hms',l0x,l1l,hkey]
   rw[CI,hk.stays]
   simp only[EO]
   exact g1
 ·cases h
theorem A3V {m:AV} {ym:Value} {K:List (Value×AV)→Aj} (hr:Rel G w0 C H w) (hm:VRel C w m ym) (h:A91 m H K=some r):
 ∃es,K es=some r∧((ym= .map none∧es=[])∨∃b ms clock,ym= .map (some b)∧w.heap[b]?=some (.map ms clock)∧Kg C w es ms.toList):=by
 unfold A91 at h
 split at h
 ·obtain⟨x,hl,h1⟩:=Hd rfl h
  obtain⟨es,bo,rfl,h2⟩:=Px h1
  obtain⟨b,ms,clock,rfl,hp,hb,hok,he,ho⟩:=Y6 hr hl hm
  exact⟨es,h2,.inr ⟨b,ms,clock,rfl,hb,he⟩⟩
 ·rename_i es
  refine⟨es,h,?_⟩
  cases hm with
  |@imap _ _ _ b clock ms hB hb hl hk hn hc hv=>
   refine .inr ⟨b,ms,clock,rfl,hb,by simpa using hl,λi p hp=> ?_⟩
   obtain⟨hi,rfl⟩:=l0j.1 hp
   have hi':i<ms.size:=by omega
   refine⟨ms[i],by simp[hi'],?_,?_⟩
   ·have:=hk i hi;simpa [Zk,hi'] using this
   ·have:=hv i hi
    have e:(ms.getD i default)=ms[i]:=by simp[Zk,hi']
    rw[e] at this
    exact this.up rfl rfl
 ·exact⟨[],h,.inl ⟨AI.1 hm,rfl⟩⟩
 ·cases h
theorem B1T {mt kt et:TypeId} {ie:TI} {ok:Bool} {m:AV} {k ym:Value} {K:AV→Aj} (hu:P.underlying mt=some (.map kt et)) (hie:TOk1 P et ie) (hk:OS P kt k) (hr:Rel G w0 C H w) (hm:VRel C w m ym) (h:TB ie ok m k H K=some r):
 ∃v y,K v=some r∧(Instr.lookup mt ym k ok).run P w= .ok y w∧VRel C w v y:=by
 unfold TB at h
 obtain⟨es,h1,hes⟩:=A3V hr hm h
 obtain⟨f,hf,h2⟩:=QN h1
 obtain⟨z,hz,ez⟩:=hie.run_zero w
 have hzr:VRel C w ie.zero z:=by rw[←ez];exact WY z
 clear h h1
 have key:∀(ms:List MapEntry) (q:Option (Nat×Value)),A2x k es ms 0 f q→Kg C w es ms→
  ∃v y0 o,K (if ok=true then .tup [v,.v (.bool o)] else v)=some r∧VRel C w v y0∧((q=none∧y0=z∧o=false)∨∃i,q=some (i,y0)∧o=true):=by
  intro ms q hfd he
  cases f with
  |none=>
   obtain⟨e1,_⟩:=hfd
   subst e1
   exact⟨ie.zero,z,false,by cases ok<;>exact h2,hzr,.inl ⟨rfl,rfl,rfl⟩⟩
  |some p=>
   obtain⟨i,v0⟩:=p
   obtain⟨j,m0,e0,hej,hmj,hkey,hres⟩:=hfd
   have hvr:VRel C w v0 m0.val:=by
    obtain⟨m',g1,g2,g3⟩:=he.2 j _ hej
    rw[hmj] at g1;injection g1 with g1;subst g1;exact g3
   exact⟨v0,m0.val,true,by cases ok<;>exact h2,hvr,.inr ⟨i,hres,rfl⟩⟩
 have rel:∀{v:AV} {y0:Value} (o:Bool),VRel C w v y0→VRel C w (if ok=true then .tup [v,.v (.bool o)] else v) (if ok=true then .tuple #[y0,.bool o] else y0):=by
  intro v y0 o hv
  cases ok with
  |true=>exact DI.2 ⟨[y0,.bool o],rfl,.cons hv (.cons (.v _) .nil)⟩
  |false=>exact hv
 rcases hes with⟨rfl,rfl⟩|⟨b,ms,clock,rfl,hb,he⟩
 ·have he:Kg C w [] []:=⟨rfl,λi p hp=>by simp at hp⟩
  obtain⟨q,hq,hfd⟩:=hk.find he hf
  obtain⟨v,y0,o,g1,g2,g3⟩:=key [] q hfd he
  refine⟨_,_,g1,?_,rel o g2⟩
  rcases g3 with⟨rfl,rfl,rfl⟩|⟨i,rfl,rfl⟩
  ·simp[Instr.lookup,run_underlying hu,hk.check,hq,hz,Result.andThen]
  ·simp[Instr.lookup,run_underlying hu,hk.check,hq,Result.andThen]
 ·obtain⟨q,hq,hfd⟩:=hk.find he hf
  obtain⟨v,y0,o,g1,g2,g3⟩:=key _ q hfd he
  refine⟨_,_,g1,?_,rel o g2⟩
  rcases g3 with⟨rfl,rfl,rfl⟩|⟨i,rfl,rfl⟩
  ·simp[Instr.lookup,run_underlying hu,l2l hb,hk.check,hq,hz,Result.andThen]
  ·simp[Instr.lookup,run_underlying hu,l2l hb,hk.check,hq,Result.andThen]
theorem A7i {mt kt et:TypeId} {ts:Array TypeId} {ty:TypeId} {m:AV} {k ym:Value} {K:Hp→Aj} (hts:ts[0]?=some mt) (hu:P.underlying mt=some (.map kt et)) (hk:OS P kt k) (hr:Rel G w0 C H w) (hm:VRel C w m ym) (h:B52 m k H K=some r):
 ∃H' w',K H'=some r∧(Builtin.delete_ ts ty #[ym,k]).run P w= .ok (.tuple #[]) w'∧Rel G w0 C H' w'∧Ext w0.own C w C w':=by
 unfold B52 at h
 split at h
 ·rename_i s
  obtain⟨x,hl,h1⟩:=Hd rfl h
  obtain⟨es,bo,rfl,h2⟩:=Px h1
  obtain⟨f,hf,h3⟩:=QN h2
  obtain⟨b,ms,clock,rfl,hp,hb,hok,he,ho⟩:=Y6 hr hl hm
  obtain⟨q,hq,hfd⟩:=hk.find he hf
  clear h h1 h2
  have hrun:∀(w':World) (ms':Array MapEntry),(q=none∧ms'=ms∨∃i v,q=some (i,v)∧ms'=ms.eraseIdxIfInBounds i)→(setObj b (.map ms' clock)).run P w= .ok () w'→(Builtin.delete_ ts ty #[.map (some b),k]).run P w= .ok (.tuple #[]) w':=by
   intro w' ms' hq' hw
   rcases hq' with⟨rfl,rfl⟩|⟨i,v,rfl,rfl⟩
   ·simp[Builtin.delete_,hts,run_underlying hu,l2l hb,hk.check,hq,hw,Result.andThen]
   ·simp[Builtin.delete_,hts,run_underlying hu,l2l hb,hk.check,hq,hw,Result.andThen]
  cases f with
  |none=>
   obtain⟨e1,_⟩:=hfd
   subst e1
   obtain⟨g1,g2,g3⟩:=Vi (P:=P) (O:=w0.own) (es':=es) (bo':=bo) (ms':=ms) (clock':=clock) hr hl hp hb he hok ho
   have hw:({w with heap:=w.heap.setIfInBounds b (.map ms clock)}:World)=w:=by
    have:w.heap.setIfInBounds b (.map ms clock)=w.heap:=by
     apply Array.ext_getElem?
     intro j
     by_cases hj:b=j
     ·subst hj;rw[(MapKept.heap_set hb).1,hb]
     ·exact(MapKept.heap_set hb).2 j (λe=>hj e.symm)
    rw[this]
   rw[hw] at g1
   exact⟨H,w,h3,hrun w ms (.inl ⟨rfl,rfl⟩) g1,hr,.refl _ _ _⟩
  |some p=>
   obtain⟨i,v0⟩:=p
   simp only at h3
   rw[Dm] at h3
   obtain⟨j,m0,e0,hes,hms,hkey,hres⟩:=hfd
   have e0:i=j:=by omega
   subst e0
   subst hres
   obtain⟨g1,g2,g3⟩:=Vi (P:=P) (O:=w0.own) (es':=es.eraseIdx i) (bo':=C6d bo i) (ms':=ms.eraseIdxIfInBounds i) (clock':=clock) hr hl hp hb (by rw[Po];exact he.eraseIdx i) (hok.erase i) (by
    cases bo with
    |none=>trivial
    |some p=>obtain⟨e1,e2⟩:=ho;exact⟨by rw[Po,←e1,Xh],e2⟩)
   exact⟨_,_,h3,hrun _ _ (.inr ⟨i,_,rfl,rfl⟩) g1,g2,g3⟩
 ·cases h
theorem A7f {mt kt et:TypeId} {ts:Array TypeId} {ty:TypeId} {m:AV} {ym:Value} {K:AV→Aj} (hts:ts[0]?=some mt) (hu:P.underlying mt=some (.map kt et)) (hr:Rel G w0 C H w) (hm:VRel C w m ym) (h:A7g m H K=some r):
 ∃v y,K v=some r∧(Builtin.len_ ts ty #[ym]).run P w= .ok y w∧VRel C w v y:=by
 unfold A7g at h
 obtain⟨es,h1,hes⟩:=A3V hr hm h
 rw[Co,KF] at h1
 refine⟨_,.int .i64 es.length,h1,?_,.v _⟩
 rcases hes with⟨rfl,rfl⟩|⟨b,ms,clock,rfl,hb,he⟩
 ·simp[Builtin.len_,hts,run_underlying hu,goInt]
 ·have:=he.1
  simp only[Array.length_toList] at this
  simp[Builtin.len_,hts,run_underlying hu,l2l hb,goInt,this]
theorem A7h {mt kt et:TypeId} {ie:TI} {m:AV} {k ym:Value} {K:KV} (hu:P.underlying mt=some (.map kt et)) (hie:TOk1 P et ie) (hk:OS P kt k) (hr:Rel G w0 C H w) (hm:VRel C w m ym) (h:B0s ie m k H K=some r):
 ∃v H' y w',K v H'=some r∧(Instr.mapEntry mt ym k).run P w= .ok y w'∧J9 G w0 C w v H' y C w':=by
 unfold B0s at h
 split at h
 ·rename_i s
  obtain⟨x,hl,h1⟩:=Hd rfl h
  obtain⟨es,bo,rfl,h2⟩:=Px h1
  clear h h1
  split at h2
  ·rename_i bs c
   obtain⟨f,hf,h3⟩:=QN h2
   obtain⟨b,ms,clock,rfl,hp,hb,hok,he,ho⟩:=Y6 hr hl hm
   obtain⟨o1,o2⟩:=ho
   subst o2
   obtain⟨q,hq,hfd⟩:=hk.find he hf
   obtain⟨z,hz,ez⟩:=hie.run_zero w
   have hzr:VRel C w ie.zero z:=by rw[←ez];exact WY z
   clear h2
   have hpre:∀(g:Option (Nat×Value)→Sem Value) (res:Result Value),(g q).run P w=res→(do
    Instr.checkKey false 10000 kt k
    let x←Instr.findKey kt k ms.toList
    g x:Sem Value).run P w=res:=by
    intro g res hg
    rw[CI,hk.check]
    simp only[EO]
    rw[CI,hq]
    exact hg
   cases f with
   |none=>
    simp only at h3
    rw[Dm] at h3
    obtain⟨e1,_⟩:=hfd
    subst e1
    obtain⟨g1,g2,g3⟩:=Vi (P:=P) (O:=w0.own) (es':=es++[(k,ie.zero)]) (bo':=some (bs++[clock],clock+1)) (ms':=ms.push {key:=k,val:=z,born:=clock}) (clock':=clock+1) hr hl hp hb (by rw[l2n];exact he.append (.one rfl hzr)) (hok.push _ _) ⟨by rw[l2n,Zl,o1];rfl,rfl⟩
    refine⟨_,_,.tuple #[z,goInt clock],_,h3,?_,DI.2 ⟨[z,goInt clock],rfl,.cons (hzr.mono g3) (.cons (.v _) .nil)⟩,g2,g3⟩
    unfold Instr.mapEntry
    rw[CI,run_underlying hu w]
    simp only[EO]
    rw[CI,l2l hb]
    simp only[EO]
    rw[CI,hk.check]
    simp only[EO]
    rw[CI,hq]
    simp only[EO]
    rw[CI,hz]
    simp only[EO]
    rw[CI,g1]
    rfl
   |some p=>
    obtain⟨i,v0⟩:=p
    simp only at h3
    obtain⟨j,m0,e0,hes,hms,hkey,hres⟩:=hfd
    have e0:i=j:=by omega
    subst e0
    subst hres
    have hms':ms[i]?=some m0:=by simpa using hms
    have hbi:bs[i]?=some m0.born:=by rw[←o1,l0a,hms];rfl
    rw[hbi] at h3
    simp only at h3
    have hvr:VRel C w v0 m0.val:=by
     obtain⟨m',g1,g2,g3⟩:=he.2 i _ hes
     rw[hms] at g1;injection g1 with g1;subst g1;exact g3
    have hmod:ms.modify i (λe=>{e with key:=k})=ms:=by
     apply Array.ext_getElem?
     intro j
     rw[l0r]
     by_cases hj:i=j
     ·subst hj
      rw[hms']
      simp[←hkey]
     ·rw[if_neg hj]
    have hw:({w with heap:=w.heap.setIfInBounds b (.map ms clock)}:World)=w:=by
     have:w.heap.setIfInBounds b (.map ms clock)=w.heap:=by
      apply Array.ext_getElem?
      intro j
      by_cases hj:b=j
      ·subst hj;rw[(MapKept.heap_set hb).1,hb]
      ·exact(MapKept.heap_set hb).2 j (λe=>hj e.symm)
     rw[this]
    refine⟨_,H,.tuple #[m0.val,goInt m0.born],w,h3,?_,DI.2 ⟨[m0.val,goInt m0.born],rfl,.cons hvr (.cons (.v _) .nil)⟩,hr,.refl _ _ _⟩
    unfold Instr.mapEntry
    rw[CI,run_underlying hu w]
    simp only[EO]
    rw[CI,l2l hb]
    simp only[EO]
    rw[CI,hk.check]
    simp only[EO]
    rw[CI,hq]
    simp only[EO,hms',l0x,l1l,hkey]
    rw[CI,hk.stays]
    simp only[EO,hmod]
    rw[CI,MapKept.run_setObj_map _ hb,hw]
    rfl
  ·cases h2
 ·cases h
theorem A7c {mt:TypeId} {m st v:AV} {ym ys yv:Value} {K:Hp→Aj} (hr:Rel G w0 C H w) (hm:VRel C w m ym) (hs:VRel C w st ys) (hv:VRel C w v yv) (h:B0r m st v H K=some r):
 ∃H' w',K H'=some r∧(Instr.entryStore mt ym ys yv).run P w= .ok () w'∧Rel G w0 C H' w'∧Ext w0.own C w C w':=by
 unfold B0r at h
 split at h
 ·rename_i s
  obtain⟨x,hl,h1⟩:=Hd rfl h
  obtain⟨es,bo,rfl,h2⟩:=Px h1
  obtain⟨q,z,rfl,h3⟩:=N9 h2
  clear h h1 h2
  split at h3
  ·rename_i bs c
   split at h3
   ·rename_i i hi
    split at h3
    ·rename_i p hp
     rw[Dm] at h3
     obtain⟨b,ms,clock,rfl,hpi,hb,hok,he,ho⟩:=Y6 hr hl hm
     obtain⟨o1,o2⟩:=ho
     subst o2
     have hys:=AI.1 hs
     subst hys
     have hfi:ms.findIdx? (λe=>(e.born:Int)==z)=some i:=by
      have e9:∀p:MapEntry→Bool,ms.findIdx? p=ms.toList.findIdx? p:= λp=>by cases ms;simp
      rw[e9]
      rw[←o1,List.findIdx?_map] at hi
      rw[←hi]
      congr 1
      funext e
      simp only[Function.comp,OM]
      rw[l0w];simp
     obtain⟨m1,hm1,hk1,hv1⟩:=he.2 i p hp
     obtain⟨g1,g2,g3⟩:=Vi (P:=P) (O:=w0.own) (es':=es.set i (p.1,v)) (bo':=some (bs,clock)) (ms':=ms.modify i λe=>{e with val:=yv}) (clock':=clock) hr hl hpi hb (by
      rw[l2o]
      refine he.modify i (λm hm=> ?_) (λ_ _=>hv)
      rw[hm1] at hm;injection hm with hm;subst hm;exact hk1) (hok.modify i (λ_=>rfl)) ⟨by rw[l2o,Vd (f:= λe=>{e with val:=yv}) (λ_=>rfl)];exact o1,rfl⟩
     refine⟨_,_,h3,?_,g2,g3⟩
     unfold Instr.entryStore
     simp only
     rw[CI,l2l hb]
     simp only[EO]
     rw[CI]
     have ha:(asInt (.int q z)).run P w= .ok z w:=rfl
     rw[ha]
     simp only[EO,hfi]
     exact g1
    ·cases h3
   ·cases h3
  ·cases h3
 ·cases h
end
end Go.Abs
end
