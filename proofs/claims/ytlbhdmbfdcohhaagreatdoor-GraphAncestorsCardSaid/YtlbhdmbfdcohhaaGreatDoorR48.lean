import Derived.Test.YtlbhdmbfdcohhaaGreatDoorR23
import Derived.Test.YtlbhdmbfdcohhaaGreatDoorR45
import Derived.Test.YtlbhdmbfdcohhaaGreatDoorR47
set_option linter.all false
set_option maxHeartbeats 100000000
noncomputable section
namespace Go.Abs
open Go.RowKit Go.Proofs
set_option maxRecDepth 100000
section
variable {L n:Nat}
abbrev EO:=List UInt8
section
variable {gs:List Cd} {b:List (EO×Unit)} {p:EO} {ids:List EO}
theorem B0Z:∀b:List (EO×Unit),(IL b p ()).map Prod.fst=if p∈b.map Prod.fst then b.map Prod.fst else b.map Prod.fst++[p]:=by
 intro b
 induction b with
 |nil=>rfl
 |cons e b ih=>
  unfold IL
  by_cases h:e.1=p
  ·simp[h]
  ·rw[if_neg h,ZY,ih,ZY]
   have hm:(p∈e.1::b.map Prod.fst)↔p∈b.map Prod.fst:=by simp[Ne.symm h]
   by_cases h2:p∈b.map Prod.fst
   ·rw[if_pos h2,if_pos (hm.2 h2)]
   ·rw[if_neg h2,if_neg (λh3=>h2 (hm.1 h3))];rfl
theorem A9s {H:Hp} {K:AV→Al}:Ah (rt (L+20) (n+1)) Ji [gV gs,S p] H K=K (Bo (decide (p∈gs.map Cd.id))):=by
 refine Bc (λK hK=> ?_) (A2 B01 (A2 (q:=false) Ed Bt))
 rw[RA]
 unfold Je
 have ek:∀(F:Value→Al),Mp (S p) F=F (SV p):= λF=>id rfl
 rw[ek,QZ (f:=cA') (b:=gE gs) (λK=>id rfl)]
 by_cases h:p∈gs.map Cd.id
 ·obtain⟨c,hc⟩:∃c,KT (gE gs) p=some c:=by
   rcases B7J (gs:=gs) (s:=p) with⟨_,k,hk,h1,_⟩|⟨h1,_⟩
   ·exact⟨_,h1⟩
   ·exact absurd h h1
  rw[hc]
  simp only[]
  rw[CW,CV,Bf (cs:=BM) rfl,B7 (cs:=BM) (vs:=c.cs) (A1 (by simp)) Ct rfl JE]
  rw[decide_eq_true h] at hK⊢
  exact hK _ _ λb=>⟨false,Ed⟩
 ·rw[Uq (by rw[A1L];exact h)]
  simp only[]
  rw[CW,CV,Bf (cs:=BM) rfl,show(Ac.zero:AV)= .agg BM from rfl,B7 (cs:=BM) (vs:=BM) (A1 (by simp)) rfl rfl rfl]
  rw[decide_eq_false h] at hK⊢
  exact hK _ _ λb=>⟨false,Ed⟩
end
section
variable {gs:List Cd} {ids:List EO}
theorem C1D:∀l:List EO,pl 6 (DO l)=true:=by
 intro l
 cases l with
 |nil=>rfl
 |cons a l=>
  show(Bn (a::l)).all (pl 5)=true
  rw[Hl]
  intro y hy
  obtain⟨s,_,rfl⟩:=l2a.1 hy
  rfl
end
abbrev C6H (gs:List Cd):AV:= .fn (.func DR) [] [.iptr [gV gs]]
end
def J3 (gs:List Cd) (s:EO):List EO:=match KT (gE gs) s with
 |some c=>c.ps
 |none=>[]
inductive Anc (gs:List Cd) (s:EO):EO→Prop
 |one {x:EO}:x∈gs.map Cd.id→x∈J3 gs s→Anc gs s x
 |more {x y:EO}:Anc gs s y→x∈gs.map Cd.id→x∈J3 gs y→Anc gs s x
section
variable {gs:List Cd} {s x y p:EO}
theorem Anc.ids (h:Anc gs s x):x∈gs.map Cd.id:=by
 cases h with
 |one h _=>exact h
 |more _ h _=>exact h
theorem B1T:Anc gs s x↔(x∈gs.map Cd.id∧x∈J3 gs s)∨∃p∈J3 gs s,p∈gs.map Cd.id∧Anc gs p x:=by
 constructor
 ·intro h
  induction h with
  |one h1 h2=>exact .inl ⟨h1,h2⟩
  |@more x y h0 h1 h2 ih=>
   rcases ih with⟨h3,h4⟩|⟨p,h3,h4,h5⟩
   ·exact .inr ⟨y,h4,h3,.one h1 h2⟩
   ·exact .inr ⟨p,h3,h4,.more h5 h1 h2⟩
 ·rintro(⟨h1,h2⟩|⟨p,h1,h2,h3⟩)
  ·exact .one h1 h2
  ·induction h3 with
   |one h4 h5=>exact .more (.one h2 h1) h4 h5
   |more _ h4 h5 ih=>exact .more ih h4 h5
theorem B75 (h:s∉gs.map Cd.id):J3 gs s=[]:=by
 unfold J3
 rw[Uq (by rw[A1L];exact h)]
theorem A9h:Anc gs s x↔x∈gs.map Cd.id∧(x∈J3 gs s∨∃p∈J3 gs s,Anc gs p x):=by
 rw[B1T]
 constructor
 ·rintro(⟨h1,h2⟩|⟨p,h1,_,h3⟩)
  ·exact⟨h1,.inl h2⟩
  ·exact⟨h3.ids,.inr ⟨p,h1,h3⟩⟩
 ·rintro⟨h1,h2|⟨p,h2,h3⟩⟩
  ·exact .inl ⟨h1,h2⟩
  ·by_cases hp:p∈gs.map Cd.id
   ·exact .inr ⟨p,h2,hp,h3⟩
   ·have h0:=B75 hp
    exfalso
    clear h2
    induction h3 with
    |one _ h=>rw[h0] at h;cases h
    |more _ _ _ ih=>exact ih (Anc.ids ‹_›)
end
open Classical in
def Hz (gs:List Cd) (s:EO):List EO:=Mr ((gs.map Cd.id).filter λx=>decide (Anc gs s x))
section
variable {gs:List Cd} {s x p:EO}
theorem Mg:x∈Hz gs s↔Anc gs s x:=by
 rw[Hz,(G7 _).mem_iff,List.mem_filter,@decide_eq_true_iff _ (_)]
 exact⟨λh=>h.2,λh=>⟨h.ids,h⟩⟩
theorem A08 (h:(gs.map Cd.id).Nodup):(Hz gs s).Nodup:=(G7 _).symm.nodup (h.sublist List.filter_sublist)
theorem A5a:(Hz gs s).Pairwise (· ≤ ·):=O9 _
theorem B8b (h:(gs.map Cd.id).Nodup):(Hz gs s).Pairwise (· < ·):=by
 refine(A5a.and (A08 h)).imp λ{a b} ⟨h1,h2⟩=> ?_
 rcases Decidable.em (a<b) with h|h
 ·exact h
 ·exact absurd (A5O h1 h) h2
theorem RR:(Hz gs s).length≤gs.length:=by
 rw[Hz,(G7 _).length_eq]
 have:=List.length_filter_le (λx=>@decide (Anc gs s x) (Classical.propDecidable _)) (gs.map Cd.id)
 rw[l1u] at this
 exact this
structure An (gs:List Cd) (s:EO) (b ns:List EO):Prop where
 nd:b.Nodup
 an:∀q∈b,Anc gs s q
 nx:∀q∈ns,q∈J3 gs s∨∃y∈b,q∈J3 gs y
 cl:∀q∈gs.map Cd.id,(q∈J3 gs s∨∃y∈b,q∈J3 gs y)→q∈b∨q∈ns
theorem An.start:An gs s [] (J3 gs s):=⟨List.nodup_nil,by simp,λq h=> .inl h,λq _ h=>h.elim .inr λ⟨_,h,_⟩=>absurd h (by simp)⟩
theorem An.fin {b:List EO} (hn:(gs.map Cd.id).Nodup) (h:An gs s b []):b.Perm (Hz gs s):=by
 refine(List.perm_ext_iff_of_nodup h.nd (A08 hn)).2 λq=>⟨λhq=>Mg.2 (h.an q hq),λhq=> ?_⟩
 rw[Mg] at hq
 induction hq with
 |one h1 h2=>exact(h.cl _ h1 (.inl h2)).elim id λh=>absurd h (by simp)
 |more _ h1 h2 ih=>exact(h.cl _ h1 (.inr ⟨_,ih,h2⟩)).elim id λh=>absurd h (by simp)
theorem An.skip {b nx:List EO} (h:An gs s b (p::nx)) (hp:p∈b∨p∉gs.map Cd.id):An gs s b nx:=
 ⟨h.nd,h.an,λq hq=>h.nx q (by simp[hq]),λq hq hc=>by
  rcases h.cl q hq hc with h1|h1
  ·exact .inl h1
  ·rcases WG.1 h1 with rfl|h1
   ·exact hp.elim .inl λh2=>absurd hq h2
   ·exact .inr h1⟩
theorem An.step {b nx:List EO} (h:An gs s b (p::nx)) (hb:p∉b) (hp:p∈gs.map Cd.id):An gs s (b++[p]) (nx++J3 gs p):=by
 refine⟨List.nodup_append.2 ⟨h.nd,by simp,λa ha c hc=>by simp at hc;subst hc;exact λe=>hb (e▸ha)⟩,λq hq=> ?_,λq hq=> ?_,λq hq hc=> ?_⟩
 ·rcases l2e.1 hq with h1|h1
  ·exact h.an q h1
  ·rw[l2f] at h1
   subst h1
   rcases h.nx q (by simp) with h2|⟨y,h2,h3⟩
   ·exact .one hp h2
   ·exact .more (h.an y h2) hp h3
 ·rcases l2e.1 hq with h1|h1
  ·rcases h.nx q (by simp[h1]) with h2|⟨y,h2,h3⟩
   ·exact .inl h2
   ·exact .inr ⟨y,by simp[h2],h3⟩
  ·exact .inr ⟨p,by simp,h1⟩
 ·by_cases h0:q=p
  ·exact .inl (by simp[h0])
  ·have h1:(q∈J3 gs s∨∃y∈b,q∈J3 gs y)∨q∈J3 gs p:=by
    rcases hc with h1|⟨y,h1,h2⟩
    ·exact .inl (.inl h1)
    ·rcases l2e.1 h1 with h3|h3
     ·exact .inl (.inr ⟨y,h3,h2⟩)
     ·rw[l2f] at h3
      exact .inr (h3▸h2)
   rcases h1 with h1|h1
   ·rcases h.cl q hq h1 with h2|h2
    ·exact .inl (by simp[h2])
    ·rcases WG.1 h2 with h2|h2
     ·exact absurd h2 h0
     ·exact .inr (by simp[h2])
   ·exact .inr (by simp[h1])
def B2E (gs:List Cd) (b:List EO):Nat:=((gs.map Cd.id).filter λq=>decide (q∉b)).length
theorem B5V {b:List EO}:B2E gs b≤gs.length:=by
 have:=List.length_filter_le (λq=>decide (q∉b)) (gs.map Cd.id)
 rw[l1u] at this
 exact this
theorem B0M {b:List EO} (hb:p∉b) (hp:p∈gs.map Cd.id):B2E gs (b++[p])<B2E gs b:=by
 refine Yu (p:= λq=>decide (q∉b++[p])) (q:= λq=>decide (q∉b)) (λa _ h=> ?_) hp (by simp[hb]) (by simp)
 simp only[decide_eq_true_eq,l2e,not_or] at h⊢
 exact h.1
theorem A9G (hp:∀c∈gs,c.ps.length<100):(J3 gs p).length<100:=by
 unfold J3
 cases h:KT (gE gs) p with
 |none=>simp
 |some c=>exact hp c (B4d h).1
end
def T6 (H:Hp) (v:AV) (l:List EO):Prop:=(v=AO∧l=[])∨∃r o q cs,v= .sl 1 r o l.length∧Ax H r=some (.cells q A4 cs)∧cs.drop o=Bn l∧o+l.length=cs.length
section
variable {H:Hp} {v:AV} {l ps:List EO} {K:AV→Al} {p:EO}
theorem T6.len (h:T6 H v l):AP Ad v K=K (I l.length):=by
 rcases h with⟨rfl,rfl⟩|⟨r,o,q,cs,rfl,_⟩<;>exact _root_.id rfl
theorem B7U {r o m:Nat} (h:0<m):B0 Ad (.sl 1 r o m) (.v (.int .i64 0)) K=K (.ptr r o 0):=by
 have e1:B0 Ad (.sl 1 r o m) (I ((0:Nat):Int)) K=iN ((0:Nat):Int) λn=>ck (Nat.blt n m) (fN (Nat.add o (Nat.mul n 1)) λp=>K (.ptr r p 0)):=rfl
 show B0 Ad (.sl 1 r o m) (I ((0:Nat):Int)) K=_
 rw[e1,JW,DI]
 have h1:Nat.blt 0 m=true:=by rw[Uk];exact h
 rw[h1];rfl
theorem B7Q {r o m:Nat} (h:0<m):EW Ad (.sl 1 r o m) (some (.v (.int .i64 1))) none none K=K (.sl 1 r (o+1) (m-1)):=by
 have e1:EW Ad (.sl 1 r o m) (some (I ((1:Nat):Int))) none none K=ck (Nat.beq 1 1) (iN ((1:Nat):Int) λl=>fN m λh=>fN m λx=>ck ((true||false)&&(Nat.ble l h&&(Nat.ble h x&&Nat.ble x m))) (fN (Nat.add o (Nat.mul l 1)) λo'=>fN (Nat.sub h l) λn=>K (.sl 1 r o' n))):=rfl
 show EW Ad (.sl 1 r o m) (some (I ((1:Nat):Int))) none none K=_
 rw[e1,JW,DI,DI]
 have c:((true||false)&&(Nat.ble 1 m&&(Nat.ble m m&&Nat.ble m m)))=true:=by simp;omega
 rw[c]
 show fN (Nat.add o (Nat.mul 1 1)) (λo'=>fN (Nat.sub m 1) λn=>K (.sl 1 r o' n))=_
 rw[DI,DI];rfl
theorem T6.front (h:T6 H v (p::l)):∃r o v1,(∀K:AV→Al,B0 Ad v (.v (.int .i64 0)) K=K (.ptr r o 0))∧(∀K:AV→Al,Aq Ae (.ptr r o 0) H K=K (S p))∧
 (∀K:AV→Al,EW Ad v (some (.v (.int .i64 1))) none none K=K v1)∧T6 H v1 l∧∀u,AX v1 u→AX v u:=by
 rcases h with⟨_,h⟩|⟨r,o,q,cs,rfl,h1,h2,h3⟩
 ·cases h
 ·rw[Lj] at h3
  have ho:o<cs.length:=by omega
  rw[l11 ho] at h2
  injection h2 with h4 h5
  refine⟨r,o,.sl 1 r (o+1) l.length,λK=>B7U (by simp),λK=> ?_,λK=> ?_,.inr ⟨r,o+1,q,cs,rfl,h1,h5,by omega⟩,λu ⟨a,b,c,e⟩=> ?_⟩
  ·rw[AY (p:=o) rfl h1 ho]
   rw[Ul,JV ho,l1l,h4]
  ·rw[B7Q (by simp)];rfl
  ·injection e with _ e;subst e;exact⟨1,o,_,rfl⟩
theorem T6.lat {H':Hp} {P:Nat→Prop} (h:T6 H v l) (w:Wf H) (k:Lat H H' P) (hP:∀u,AX v u→¬P u):T6 H' v l:=by
 rcases h with h|⟨r,o,q,cs,h1,h2,h3⟩
 ·exact .inl h
 ·exact .inr ⟨r,o,q,cs,h1,k.keep w r _ h2 (hP r ⟨1,o,_,h1⟩),h3⟩
theorem T6.lt (h:T6 H v l) (w:Wf H) {u:Nat} (hu:AX v u):u<A6 H:=by
 obtain⟨a,b,c,rfl⟩:=hu
 rcases h with⟨h,_⟩|⟨r,o,q,cs,h1,h2,h3⟩
 ·cases h
 ·injection h1 with _ h1;subst h1;exact w.lt h2
theorem A6J {K:Nat→List AV→Al}:Uu H (DO ps) K=K ps.length (Bn ps):=by
 cases ps with
 |nil=>exact B4w
 |cons a l=>exact A3G
theorem A5N:(Bn ps).all AV.one=true:=by
 rw[Hl]
 intro y hy
 obtain⟨s,_,rfl⟩:=l2a.1 hy
 rfl
theorem A3j:(A0B Ad.d&&TH 1 (DO ps))=true:=by
 cases ps<;>rfl
theorem T6.app (h:T6 H v l) (hn:l.length+ps.length<1000000):∃v' H',(∀K:KV,DN A4 1 Ae Ad v (DO ps) H K=K v' H')∧T6 H' v' (l++ps)∧(∀u,AX v' u→u=A6 H)∧Lat H H' (AX v):=by
 have hb:(l.length+ps.length)*Ae.bytes≤70368744177664:=by
  have:Ae.bytes≤100000:=by decide
  exact l1m (Nat.mul_le_mul (show l.length+ps.length≤1000000 by omega) this) (by decide)
 rcases h with⟨rfl,rfl⟩|⟨r,o,q,cs,rfl,h1,h2,h3⟩
 ·obtain⟨v',H',g1,g2,g3,g4⟩:=apt (H:=H) (e:=A4) (sz:=1) (n:=0) (m:=ps.length) (ie:=Ae) (i2:=Ad) (v:=AO) (src:=DO ps) (cs:=[]) (ys:=Bn ps) (.inl ⟨rfl,rfl,rfl⟩) (λK=>A6J) (by rw[DJ];omega) A5N (by decide) rfl A3j (by simpa using hb) (by omega)
  refine⟨v',H',g1,?_,g3,g4⟩
  rcases g2 with⟨rfl,a,b⟩|⟨r,q,rfl,a,b⟩
  ·left
   refine⟨rfl,?_⟩
   have:ps.length=0:=by omega
   rw[List.nil_append];exact l1s this
  ·exact .inr ⟨r,0,q,_,by simp,a,by simp,by simp[DJ]⟩
 ·have hkey:∀K:KV,Xg A4 1 Ae Ad (.sl 1 r o l.length) (DO ps) H K=Kj H r λx=>KF x λE cs=>HJ cs 0 λcl=>
   ck (Nat.beq E A4&&(Nat.beq 1 1&&(Nat.beq (Nat.add o (Nat.mul l.length 1)) cl&&(Nat.ble (Nat.mul (Nat.add l.length ps.length) Ae.bytes) 70368744177664&&Nat.ble (Nat.add l.length ps.length) 70368744177664))))
    (Ur (Dp o cs) (Bn ps) λcs'=>Og H r .gone λH'=>HE H λr=>fN (Nat.add l.length ps.length) λnm=>K (.sl 1 r 0 nm) ((r,.cells false A4 cs')::H')):= λK=>by
   unfold Xg
   rw[A6J,Cw,Dc,Cw]
   have c:(Nat.beq (0+(Bn ps).length) (Nat.mul ps.length 1)&&(Qa (Bn ps)&&(!Nat.beq 1 0&&(Nat.beq (0+(B6 Ae.zero).length) 1&&(A0B Ad.d&&TH 1 (DO ps))))))=true:=by
    rw[Gc,A5N,A3j,DJ]
    have e1:Nat.beq (0+ps.length) (Nat.mul ps.length 1)=true:=by
     rw[Ln]
     show Nat.beq ps.length (ps.length*1)=true
     rw[l28];exact l29 _
    rw[e1];rfl
   rw[c];rfl
  refine⟨.sl 1 (A6 H) 0 (l.length+ps.length),(A6 H,.cells false A4 (Bn (l++ps)))::upd H r .gone,λK=> ?_,?_,λu ⟨a,b,c,hh⟩=>by injection hh with _ hh;exact hh.symm,?_⟩
  ·have e1:DN A4 1 Ae Ad (.sl 1 r o l.length) (DO ps) H K=Kj H r λx=>KF x λE cs=>HJ cs 0 λcl=>@Bool.rec (λ_=>Al) (Ti (Nat.add o (Nat.mul l.length 1)) cs λcs'=>Og H r (.cells false E cs') λH1=>Xg A4 1 Ae Ad (.sl 1 r o l.length) (DO ps) H1 K) (Xg A4 1 Ae Ad (.sl 1 r o l.length) (DO ps) H K) (Nat.beq (Nat.add o (Nat.mul l.length 1)) cl):=rfl
   rw[e1,Cl h1]
   have e2:∀F:TypeId→List AV→Al,KF (.cells q A4 cs) F=F A4 cs:= λ_=>rfl
   rw[e2,Cw]
   have c0:Nat.beq (Nat.add o (Nat.mul l.length 1)) (0+cs.length)=true:=by
    show Nat.beq (o+l.length*1) (0+cs.length)=true
    rw[l28,h3,Ln];exact l29 _
   rw[c0]
   show Xg A4 1 Ae Ad (.sl 1 r o l.length) (DO ps) H K=_
   rw[hkey K]
   rw[Cl h1,e2,Cw]
   have c:(Nat.beq A4 A4&&(Nat.beq 1 1&&(Nat.beq (Nat.add o (Nat.mul l.length 1)) (0+cs.length)&&(Nat.ble (Nat.mul (Nat.add l.length ps.length) Ae.bytes) 70368744177664&&Nat.ble (Nat.add l.length ps.length) 70368744177664))))=true:=by
    rw[c0,l29,l29]
    simp only[l16,Jp,Yf]
    exact⟨hb,show l.length+ps.length≤_ by omega⟩
   rw[c]
   show Ur (Dp o cs) (Bn ps) _=_
   rw[K4,D8,BX,DI,C8,h2]
   have e3:Bn l++Bn ps=Bn (l++ps):=by simp[Bn]
   rw[e3]
   rfl
  ·have h5:=A1 (H:=upd H r .gone) (x:= .cells false A4 (Bn (l++ps))) (by simp)
   rw[Ck] at h5
   exact .inr ⟨A6 H,0,false,_,by rw[FA],h5,rfl,by rw[DJ];omega⟩
  ·have h4:Lat H (upd H r .gone) (AX (.sl 1 r o l.length)):=Lat.upd H r .gone ⟨1,o,_,rfl⟩
   have h5:=Lat.cons (upd H r .gone) (.cells false A4 (Bn (l++ps))) (AX (.sl 1 r o l.length))
   rw[Ck] at h5
   exact h4.trans h5 (λ_ _ h=>h) (λ_ _ h=>h)
end
section
variable {L n:Nat}
section
variable {gs:List Cd} {s p:EO} {H:Hp} {K:KV} {x:Al} {ps:List EO}
theorem C54 (c:Cd) {K:AV→Al}:A50 31 Ad (.agg c.cs) K=K (DO c.ps):=by
 match c with
 | .re b u=>exact _root_.id rfl
 | .co b p ps none=>exact _root_.id rfl
 | .co b p ps (some (k,vd))=>exact _root_.id rfl
theorem B4z {K:AV→Al}:(Xu Ac false (gV gs) (SV s) H λv=>A50 31 Ad v K)=K (DO (J3 gs s)):=by
 rw[B7T (f:=cA') (b:=gE gs) (λK=>id rfl)]
 unfold J3
 cases hf:KT (gE gs) s with
 |none=>exact _root_.id rfl
 |some c=>exact C54 c
theorem C5m:Fh A4 1 Ae 0 [] H K=K (.sl 1 (A6 H) 0 0) ((A6 H,.cells false A4 [])::H):=by
 have e:Fh A4 1 Ae 0 [] H K=HE H (λs=>K (.sl 1 s 0 0) ((s,.cells false A4 [])::H)):=_root_.id rfl
 rw[e,BX]
theorem B5Q (wf:Wf H) (hn:ps.length<100) (hx:∀v H',T6 H' v ps→(∀u y,Ax H u=some y→Ax H' u=some y)→(∀u,AX v u→A6 H≤u)→Wf H'→K v H'=x):
 (rt (L+20) (n+1)).call EV [DO ps] H K=x:=by
 rw[Lh]
 unfold ET
 cases ps with
 |nil=>
  have e:∀{K:AV→Al},Go.Abs.Ak Ad .eql (DO []) (AV.v (.slice none 0 0)) K=K (Bo true):= λ{K}=>id rfl
  rw[e,Dn]
  exact hx AO H (.inl ⟨rfl,rfl⟩) (λu y h=>h) (λu ⟨_,_,_,h⟩=>by cases h) wf
 |cons a l=>
  have e:∀{K:AV→Al},Go.Abs.Ak Ad .eql (DO (a::l)) (AV.v (.slice none 0 0)) K=K (Bo false):= λ{K}=>id rfl
  rw[e,BD,C5m]
  have hb:=A1 (H:=H) (x:= .cells false A4 []) (by simp)
  have w1:=BE (x:= .cells false A4 []) wf
  obtain⟨v',H',g1,g2,g3,g4⟩:=T6.app (H:=(A6 H,.cells false A4 [])::H) (v:= .sl 1 (A6 H) 0 0) (l:=[]) (ps:=a::l) (.inr ⟨A6 H,0,false,[],rfl,hb,rfl,rfl⟩) (by simp at hn⊢;omega)
  rw[g1]
  refine hx v' H' g2 (λu y hu=> ?_) (λu hu=> ?_) (g4.wf w1)
  ·have hl:=wf.lt hu
   refine g4.keep w1 u y (Bj hl hu) λ⟨_,_,_,h⟩=> ?_
   injection h with _ h;omega
  ·have:=g3 u hu
   have h2:A6 ((A6 H,Row.cells false A4 [])::H)=A6 H+1:=rfl
   omega
structure As (m:Nat) (b:List (EO×Unit)) (v:AV) (nx:List EO) (H:Hp):Prop where
 mm:Ax H m=some (.map false (Oe uS b) none)
 sl:T6 H v nx
 nm:¬AX v m
 wf:Wf H
theorem C2J {m:Nat} {k16:AV→Hp→Al} (hg:GOk gs) (hp:∀c∈gs,c.ps.length<100) (hx:∀b v H,As m b v [] H→An gs s (b.map Prod.fst) []→k16 (.mp m) H=x):
 ∀(f:Nat) (b:List (EO×Unit)) (nx:List EO) (v:AV) (H:Hp),B2E gs (b.map Prod.fst)*100+nx.length<f→B2E gs (b.map Prod.fst)*100+nx.length<2000→As m b v nx H→An gs s (b.map Prod.fst) nx→
 I6 (L+20) (rt (L+20) (n+1)) K k16 f (gV gs) (.mp m) v H=x:=by
 intro f
 induction f with
 |zero=>intro b nx v H h;omega
 |succ f ih=>
  intro b nx v H hf hf2 ha hn
  have g:∀{K:AV→Al},Go.Abs.Ak Ab .gtr (I (nx.length:Int)) (.v (.int .i64 0)) K=K (Bo (decide (0<nx.length))):= λ{K}=>by
   rw[Ej]
   congr 3
   simp
  rw[Un]
  unfold KR Ba Ar CK
  rw[ha.sl.len,g]
  cases nx with
  |nil=>
   rw[decide_eq_false (by simp),BD]
   exact hx b v H ha hn
  |cons p nx=>
   obtain⟨r,o,v1,e1,e2,e3,s1,r1⟩:=ha.sl.front
   have ek:∀(F:Value→Al),Mp (S p) F=F (SV p):= λF=>id rfl
   rw[Lj] at hf hf2
   rw[decide_eq_true (by simp),Dn]
   simp only[Cp]
   rw[e1,e2,e3,ek,QZ (f:=uS) (b:=b) (λK=>SX ha.mm)]
   obtain⟨H2,e4,hc2,w2,k2⟩:=Er (e:=Lp) (zs:=[]) (vs:=[]) ha.wf rfl
   have hm2:=(k2 _ _ ha.mm).1
   have RE:Lat H H2 (λ_=>False):=⟨λ_=>w2,by rw[e4,Ck];exact l1p _,λ_ u y hu _=>(k2 u y hu).1⟩
   have s2:T6 H2 v1 nx:=s1.lat ha.wf RE (λ_ _ h=>h)
   have n1:¬AX v1 m:= λh=>ha.nm (r1 m h)
   have a2:As m b v1 nx H2:=⟨hm2,s2,n1,w2⟩
   have z0:(Cn.zero:AV)= .agg []:=rfl
   have ad:∀{F:AV→Hp→Al},(AK Lp Cn H λv35 H36=>Cq Cn v35 (.agg []) H36 λH37=>F v35 H37)=F (.ptr (A6 H) 0 0) H2:= λ{F}=>by
    rw[Bf (cs:=[]) rfl,B7 (cs:=[]) (vs:=[]) (A1 (by simp)) rfl rfl rfl,←e4]
   cases hfb:KT b p with
   |some w=>
    have hpb:p∈b.map Prod.fst:=l2a.2 ⟨_,XA9 hfb,rfl⟩
    simp only[]
    rw[CW,CV]
    show(AK Lp Cn H λv35 H36=>Cq Cn v35 (.agg []) H36 λH37=>_)=_
    rw[ad (F:= λ_ H37=>_)]
    rw[RK]
    simp only[Bool.not_true,gTF,gU,Co,Vk]
    rw[BD]
    exact ih b nx v1 H2 (by omega) (by omega) a2 (hn.skip (.inl hpb))
   |none=>
    have hpb:p∉b.map Prod.fst:= λh=>by
     obtain⟨e,he,rfl⟩:=l2a.1 h
     have:∀b:List (EO×Unit),e∈b→KT b e.1≠none:=by
      intro b
      induction b with
      |nil=>intro h;cases h
      |cons a b ih=>
       intro h
       unfold KT
       split
       ·simp
       ·rcases WG.1 h with h|h
        ·subst h;exact absurd rfl ‹_›
        ·exact ih h
     exact this b he hfb
    simp only[]
    rw[CW,CV,z0]
    rw[ad (F:= λ_ H37=>_)]
    rw[RK]
    by_cases hpi:p∈gs.map Cd.id
    ·simp only[Bool.not_false,gT,Co,A9s,decide_eq_true hpi,Wu]
     have eb:∀{K:AV→Al},Bk Cn [] K=K (.agg []):= λ{K}=>id rfl
     rw[Dn,eb,ek]
     show VL (.mp m) (SV p) (uS ()) H2 _=_
     rw[UQ (f:=uS) (v:=()) hm2,ek,B4z]
     have l3:Lat H2 (upd H2 m (.map false (Oe uS (IL b p ())) none)) (λu=>u=m):=Lat.upd _ _ _ rfl
     have s3:T6 (upd H2 m (.map false (Oe uS (IL b p ())) none)) v1 nx:=s2.lat w2 l3 (λu hu e=>n1 (e▸hu))
     have hm3:Ax (upd H2 m (.map false (Oe uS (IL b p ())) none)) m=some (.map false (Oe uS (IL b p ())) none):=(Ec hm2).trans rfl
     have w3:=l3.wf w2
     have hpl:=A9G (p:=p) hp
     obtain⟨v',H',g1,g2,g3,g4⟩:=s3.app (ps:=J3 gs p) (by omega)
     rw[g1]
     have hk:(IL b p ()).map Prod.fst=b.map Prod.fst++[p]:=by rw[B0Z,if_neg hpb]
     have hl:=B0M hpb hpi
     have hst:=hn.step hpb hpi
     rw[←hk] at hl hst
     have hm4:=g4.keep w3 _ _ hm3 n1
     exact ih (IL b p ()) (nx++J3 gs p) v' H' (by rw[FA];omega) (by rw[FA];omega) ⟨hm4,g2,λhu=>by have a1:=g3 m hu;have a2:=w3.lt hm3;omega,g4.wf w3⟩ hst
    ·simp only[Bool.not_false,gT,Co,A9s,decide_eq_false hpi,Wu]
     rw[BD]
     exact ih b nx v1 H2 (by omega) (by omega) a2 (hn.skip (.inr hpi))
theorem YB {a:AV} (hg:GOk gs) (hL:40000<L) (hp:∀c∈gs,c.ps.length<100) (ha:LA gs a):CS (rt (L+20) (n+80)) Cm [a,S s] (DO (Hz gs s)):=by
 intro K hK
 rw[Ke]
 unfold Hj
 have hfx:OM true depth [a] [a] [] false:=by rcases ha with rfl|⟨_,rfl⟩<;>exact λK=>by kernel_rfl
 have of:∀{K:AV→Al},Ah (rt (L+20) (n+79)) EN [a] [] K=K (.tup [gV gs,Bo true]):= λ{K}=>IK (λK hK=>B5G (n:=n+15) hg hL ha K hK) hfx
 have em:∀{K:KV},NR Cn [] K=K (.mp 0) [(0,.map false [] none)]:= λ{K}=>id rfl
 have ek:∀(F:Value→Al),Mp (S s) F=F (SV s):= λF=>id rfl
 rw[of,CW,CV,em,ek,B4z]
 simp only[Cp]
 have w1:Wf [(0,Row.map false [] none)]:=BE (H:=[]) Fv
 have hpl:=A9G (p:=s) hp
 have h8:=hg.len
 have hll:=B5V (gs:=gs) (b:=[])
 refine B5Q (n:=n+78) w1 hpl λv H' hs hk hr wf=> ?_
 have hm0:=hk 0 (.map false [] none) rfl
 refine C2J (n:=n+78) (s:=s) hg hp (λb v H ha hn=> ?_) (L+20) [] (J3 gs s) v H' (by simp;omega) (by simp;omega) ⟨hm0,hs,λhu=>absurd (hr 0 hu) (by decide),wf⟩ An.start
 have hpm:=hn.fin hg.ids
 have hbl:b.length<1000:=by
  have h1:=hpm.length_eq
  have h2:=RR (gs:=gs) (s:=s)
  rw[l1u] at h1
  omega
 refine A5A (n:=n+73) (A78 6 _ (C1D _)) (by omega) (by omega) ha.wf ha.mm hpm A5a λv H hv hv0=> ?_
 exact hK _ _ λbb=>by
  obtain⟨q,hq⟩:=A4P (D:=depth-1) (b:=bb) hv hv0
  exact⟨q,hq⟩
end
end
section
variable {L n:Nat}
section
variable {gs:List Cd} {s:List UInt8}
theorem C29 (gs:List Cd):(gr gs).length=gs.length:=by simp[gr]
theorem B7I (h:(gs.map Cd.id).Nodup) {i:Nat} (hi:i<gs.length):KT (gr gs) gs[i].id=some (cE gs[i]):=by
 induction gs generalizing i with
 |nil=>simp at hi
 |cons c gs ih=>
  rw[ZY,List.nodup_cons] at h
  show KT ((c.id,cE c)::gr gs) _=_
  unfold KT
  cases i with
  |zero=>rw[List.getElem_cons_zero,if_pos rfl]
  |succ i=>
   rw[List.getElem_cons_succ]
   have hi':i<gs.length:=by simpa using hi
   rw[if_neg (λe=>h.1 (l2a.2 ⟨_,QS hi',e.symm⟩))]
   exact ih h.2 hi'
theorem GOk.take (h:GOk gs) (m:Nat):GOk (gs.take m):=by
 have hm:∀c∈gs.take m,c∈gs:= λc hc=>l24 hc
 refine⟨λc hc=>h.ok c (hm c hc),λc hc=>h.nd c (hm c hc),?_,?_⟩
 ·rw[List.map_take]
  exact h.ids.sublist (List.take_sublist _ _)
 ·have:=h.len
  rw[l0g];omega
end
end
section
variable {L n:Nat}
theorem B4j {a:Int} {k:Nat} (h:K8 a) (hk:k<3):K8 (a.fdiv (2^(4*k))):=by
 unfold K8 at h⊢
 have e:a.fdiv (2^(4*k))=a/(2^(4*k)):=Int.fdiv_eq_ediv_of_nonneg _ (Int.le_of_lt (Int.pow_pos (by decide)))
 rw[e]
 obtain rfl|rfl|rfl:k=0∨k=1∨k=2:=by omega
 ·rw[show(2:Int)^(4*0)=1 by decide];omega
 ·rw[show(2:Int)^(4*1)=16 by decide];omega
 ·rw[show(2:Int)^(4*2)=256 by decide];omega
theorem C3E {j:TI} {K:AV→Al} {a:Int} {k:Nat} (hk:k≤64):Go.Abs.Ak j .shr (I a) (I k) K=K (I (a.fdiv (2^k))):=by
 have:Go.Abs.Ak j .shr (I a) (I k) K=ck (ZH 0 (k:Int)) (fI (a.fdiv (2^(min (k:Int).toNat 64))) λz=>K (.v (.int .i64 z))):=rfl
 rw[this,RJ,Xs,l1x hk]
 have h1:ZH 0 (k:Int)=true:=by rw[J7];simp
 rw[h1];rfl
theorem rd7 {H:Hp} {b:Nat} {y:Y7} (h:Ax H b=some (.cells true UF y.cs)):
 (∀{K},Aq Ab (.ptr b 0 0) H K=K (I y.y0))∧(∀{K},Aq Ab (.ptr b 1 0) H K=K (I y.y1))∧(∀{K},Aq Ab (.ptr b 2 0) H K=K (I y.y2))∧(∀{K},Aq Ab (.ptr b 3 0) H K=K (I y.y3))∧(∀{K},Aq Ab (.ptr b 4 0) H K=K (I y.y4))∧(∀{K},Aq Ab (.ptr b 5 0) H K=K (I y.y5))∧(∀{K},Aq Ab (.ptr b 6 0) H K=K (I y.y6)):=
 ⟨λ{K}=>AY (p:=0) rfl h (by simp[Y7.cs]),λ{K}=>AY (p:=1) rfl h (by simp[Y7.cs]),λ{K}=>AY (p:=2) rfl h (by simp[Y7.cs]),λ{K}=>AY (p:=3) rfl h (by simp[Y7.cs]),λ{K}=>AY (p:=4) rfl h (by simp[Y7.cs]),λ{K}=>AY (p:=5) rfl h (by simp[Y7.cs]),λ{K}=>AY (p:=6) rfl h (by simp[Y7.cs])⟩
theorem C4A {b:Nat} {K:AV→Al}:B0 BL (.ptr b 0 0) (.v (.int .i64 0)) K=K (.ptr b 0 0):=DC (z:=0) 0 rfl rfl (by decide)
theorem C6x {b:Nat} {K:AV→Al}:B0 BL (.ptr b 0 0) (.v (.int .i64 1)) K=K (.ptr b 1 0):=DC (z:=1) 1 rfl rfl (by decide)
theorem C6w {b:Nat} {K:AV→Al}:B0 BL (.ptr b 0 0) (.v (.int .i64 2)) K=K (.ptr b 2 0):=DC (z:=2) 2 rfl rfl (by decide)
theorem C6v {b:Nat} {K:AV→Al}:B0 BL (.ptr b 0 0) (.v (.int .i64 3)) K=K (.ptr b 3 0):=DC (z:=3) 3 rfl rfl (by decide)
theorem C6u {b:Nat} {K:AV→Al}:B0 BL (.ptr b 0 0) (.v (.int .i64 4)) K=K (.ptr b 4 0):=DC (z:=4) 4 rfl rfl (by decide)
theorem C6t {b:Nat} {K:AV→Al}:B0 BL (.ptr b 0 0) (.v (.int .i64 5)) K=K (.ptr b 5 0):=DC (z:=5) 5 rfl rfl (by decide)
theorem C4z {b:Nat} {K:AV→Al}:B0 BL (.ptr b 0 0) (.v (.int .i64 6)) K=K (.ptr b 6 0):=DC (z:=6) 6 rfl rfl (by decide)
structure Pa (H0:Hp) (ps:List (List UInt8)) (u:AV) (H:Hp):Prop where
 sl:B1 H A4 1 u ps.length (Bn ps)
 nl:ps=[]→u=AO
 fr:∀s,AX u s→A6 H0≤s
 wf:Wf H
 w0:Wf H0
 nx:A6 H0≤A6 H
 kp:∀s q,Ax H0 s=some q→Ax H s=some q
section
variable {K:KV} {x:Al} {H0 H H':Hp} {y:Y7} {ids:List (List UInt8)} {a0 lv iv kd:AV} {q7 i:Nat}
theorem C43 {k125:AV→AV→AV→AV→AV→AV→AV→AV→Hp→Al} (hL:100<L) (h6:K8 y.y6) (hq:Ax H0 q7=some (.cells true UF y.cs)) (hi:B1 H0 A4 1 iv ids.length (Bn ids)) (hb:ids.length<100)
 (hfin:∀u k H,Pa H0 (paM ids y.y6 3) u H→k125 a0 lv iv (I i) (.ptr q7 0 0) kd u k H=x):
 ∀(f k:Nat) (u:AV) (H:Hp),k≤3→3-k<f→Pa H0 (paM ids y.y6 k) u H→
 Ng (L+20) (rt (L+20) (n+64)) K k125 f a0 lv iv (I i) (.ptr q7 0 0) kd u (I k) H=x:=by
 intro f
 induction f with
 |zero=>intro k u H _ h;omega
 |succ f ih=>
  intro k u H hk hf hh
  rw[Zc]
  unfold Q8 Ba Ar CK
  have e3:(AV.v (.int .i64 3))=I ((3:Nat):Int):=rfl
  have hiH:=hi.kp λs q _=>hh.kp s q
  rw[e3]
  by_cases h:k<3
  ·rw[FW (by omega)]
   simp only[gT,Co,Js (t:=Ad) rfl hiH,Ej]
   by_cases h0:0<ids.length
   ·have hm:=Nat.mod_lt (pk (y.y6.fdiv (2^(4*k))) 16).toNat h0
    have pr:=E9 (c:=y.y6.fdiv (2^(4*k))) (n:=16) (by decide)
    obtain⟨-, -, -, -, -, -,d6⟩:=rd7 (hh.kp _ _ hq)
    have ml:∀{K:AV→Al},Go.Abs.Ak Ab .mul (.v (.int .i64 4)) (I (k:Int)) K=K (I ((4*k:Nat):Int)):= λ{K}=>by
     rw[NU,Cb (by omega) (by omega)];rw[show(4:Int)*(k:Int)=((4*k:Nat):Int) by omega]
    have hpk:∀{H K},Ah (rt (L+20) (n+64)) JP [I (y.y6.fdiv (2^(4*k))),.v (.int .i64 16)] H K=K (I (pk (y.y6.fdiv (2^(4*k))) 16)):= λ{H K}=>A6a (n:=n+63) (B4j h6 h) (by decide) (by decide) H K
    have ad:∀{K:AV→Al},Go.Abs.Ak Ab .add (I k) (.v (.int .i64 1)) K=K (I ((k+1:Nat):Int)):= λ{K}=>DS (by omega)
    rw[decide_eq_true (by omega),Wu,Dn]
    simp only[Cp]
    rw[C4z,d6,ml,C3E (by omega),hpk,Dy]
    have e1:paM ids y.y6 (k+1)=if 0<ids.length∧pk (y.y6.fdiv (2^(4*k))) 16<14 then paM ids y.y6 k++[ids.getD ((pk (y.y6.fdiv (2^(4*k))) 16).toNat%ids.length) []] else paM ids y.y6 k:=rfl
    by_cases h14:pk (y.y6.fdiv (2^(4*k))) 16<14
    ·rw[if_pos ⟨h0,h14⟩] at e1
     have hpl:PL H ids iv:= .inr hiH
     obtain⟨p,g1,g2⟩:=hpl.at2 hm
     have rm:∀{K:AV→Al},Go.Abs.Ak Ab .rem (I (pk (y.y6.fdiv (2^(4*k))) 16)) (I (ids.length:Int)) K=K (I (((pk (y.y6.fdiv (2^(4*k))) 16).toNat%ids.length:Nat):Int)):= λ{K}=>by
      rw[Ux (by omega),Int.tmod_eq_emod_of_nonneg pr.1]
      have:(pk (y.y6.fdiv (2^(4*k))) 16)=(((pk (y.y6.fdiv (2^(4*k))) 16).toNat:Nat):Int):=by omega
      rw[this,Xs];rfl
     have hln:=A9M (ids:=ids) (y6:=y.y6) k
     obtain⟨u',H',a1,a2,a3,a4,a5,a6⟩:=A59 (ie:=Ae) (i2:=Ad) (ys:=Bn [ids[(pk (y.y6.fdiv (2^(4*k))) 16).toNat%ids.length]]) hh.sl hh.wf rfl rfl (by decide) rfl (λ_=>rfl) (by show(_+1)*16≤_;omega) (by omega)
     have e2:ids.getD ((pk (y.y6.fdiv (2^(4*k))) 16).toNat%ids.length) []=ids[(pk (y.y6.fdiv (2^(4*k))) 16).toNat%ids.length]:=by simp[List.getD,JV hm]
     rw[e2] at e1
     have g0:=hh.nx
     rw[decide_eq_true h14,Dn,rm,g1,g2,Xk,a1,ad]
     refine ih (k+1) u' H' (by omega) (by omega) ⟨?_,λe=> ?_,λs hs=> ?_,a3,hh.w0,by omega,λs q hs=> ?_⟩
     ·rw[e1,FA]
      have:Bn (paM ids y.y6 k++[ids[(pk (y.y6.fdiv (2^(4*k))) 16).toNat%ids.length]])=Bn (paM ids y.y6 k)++Bn [ids[(pk (y.y6.fdiv (2^(4*k))) 16).toNat%ids.length]]:=by simp[Bn]
      rw[this]
      exact a2
     ·rw[e1] at e;simp at e
     ·have:=a6 s hs;omega
     ·exact a5 _ _ (hh.kp s q hs) λe=>by have:=hh.fr s e;have:=hh.w0.lt hs;omega
    ·rw[if_neg λhc=>h14 hc.2] at e1
     rw[decide_eq_false h14,BD,ad]
     exact ih (k+1) u H (by omega) (by omega) (by rw[e1];exact hh)
   ·rw[decide_eq_false (by omega),Wu,BD]
    have e0:∀k,paM ids y.y6 k=[]:=by
     intro k
     induction k with
     |zero=>rfl
     |succ k ihk=>unfold paM;rw[if_neg λhc=>h0 hc.1];exact ihk
    refine hfin u _ H ?_
    rw[e0] at hh⊢
    exact hh
  ·have:k=3:=by omega
   subst this
   rw[FX (by omega)]
   simp only[gTF,Co,Vk]
   rw[BD]
   exact hfin u _ H hh
end
end
section
variable {L n:Nat}
structure Gm (g:GV) (lv iv:AV) (H:Hp):Prop where
 gv:GvOk g H
 sl:B1 H Aj 68 lv g.length (gvC g)
 nl:g=[]→lv=AO
 si:B1 H A4 1 iv g.length (Bn ((g.map Prod.fst).map Cd.id))
 ni:g=[]→iv=AO
 dl:∀s,AX lv s→¬AX iv s∧∀p∈g,¬AX p.2 s
 di:∀s,AX iv s→∀p∈g,¬AX p.2 s
 wf:Wf H
section
variable {K:KV} {x:Al} {H0 H H':Hp} {g:GV} {lv iv a0:AV} {c:Cd} {v:AV}
theorem Gm.grow (h:Gm g lv iv H) (wf:Wf H') (kp:∀s q,Ax H s=some q→Ax H' s=some q):Gm g lv iv H':=
 ⟨⟨λp hp=>(h.gv.sl p hp).kp λs q _=>kp s q,h.gv.nl⟩,h.sl.kp λs q _=>kp s q,h.nl,h.si.kp λs q _=>kp s q,h.ni,h.dl,h.di,wf⟩
theorem Gm.lti (h:Gm g lv iv H) {s:Nat} (hs:AX iv s):s<A6 H:=h.si.lt h.wf hs
theorem Gm.ltl (h:Gm g lv iv H) {s:Nat} (hs:AX lv s):s<A6 H:=h.sl.lt h.wf hs
theorem Gm.ltp (h:Gm g lv iv H) {s:Nat} {p:Cd×AV} (hp:p∈g) (hs:AX p.2 s):s<A6 H:=(h.gv.sl p hp).lt h.wf hs
theorem C5o {cs:List AV} {H:Hp} {K:KV} (hl:cs.length=68) (h1:cs.all AV.one=true):Fh Aj 68 Ac 1 [(0,68,.agg cs)] H K=K (.sl 68 (A6 H) 0 1) ((A6 H,.cells false Aj cs)::H):=by
 have e1:Fh Aj 68 Ac 1 [(0,68,.agg cs)] H K=GU (.agg cs) λvs=>HJ vs 0 λn=>ck (Nat.beq n 68) (ck (Qa vs) (EG 0 vs BM λcs'=>HE H λs=>K (.sl 68 s 0 1) ((s,.cells false Aj cs')::H))):=_root_.id rfl
 have hc:B6 (.agg cs)=cs:=rfl
 rw[e1,Dc,hc,Cw,hl,Gc,h1]
 show EG 0 cs BM _=_
 rw[KS _ _ _ _ (by rw[hl];decide),Sg _ _ (by rw[hl];rfl),BX]
theorem Gm.add (h:Gm g lv iv H) (hv:B1 H A4 1 v c.ps.length (Bn c.ps)) (hn:c.ps=[]→v=AO) (hd:∀s,AX v s→¬AX lv s∧¬AX iv s) (hb:g.length<100):
 ∃lv' H1 iv' H2,(∀K:KV,(Fh Aj 68 Ac 1 [(0,68,.agg (c.csP v))] H λv1 H1=>DN Aj 68 Ac AR lv v1 H1 K)=K lv' H1)∧
  (∀K:KV,(Fh A4 1 Ae 1 [(0,1,S c.id)] H1 λv1 H2=>DN A4 1 Ae Ad iv v1 H2 K)=K iv' H2)∧Gm (g++[(c,v)]) lv' iv' H2:=by
 obtain⟨lv',H1,a1,a2,a3,a4,a5,a6⟩:=A59 (ie:=Ac) (i2:=AR) (ys:=c.csP v) h.sl h.wf (Tc c) (Xi c (B1.one hv)) (by decide) rfl (λ_=>rfl) (by show(_+1)*800≤_;omega) (by omega)
 have si1:B1 H1 A4 1 iv g.length (Bn ((g.map Prod.fst).map Cd.id)):=h.si.kp λs q hs hl=>a5 s q hl (λe=>(h.dl s e).1 hs)
 obtain⟨iv',H2,b1,b2,b3,b4,b5,b6⟩:=A59 (ie:=Ae) (i2:=Ad) (ys:=Bn [c.id]) si1 a3 rfl rfl (by decide) rfl (λ_=>rfl) (by show(_+1)*16≤_;omega) (by omega)
 have kp:∀s q,¬AX lv s→¬AX iv s→Ax H s=some q→Ax H2 s=some q:= λs q h1 h2 hs=>b5 _ _ (a5 _ _ hs h1) h2
 refine⟨lv',H1,iv',H2,λK=>by rw[C5o (Tc c) (Xi c (B1.one hv))];exact a1 K,λK=>by rw[Xk];exact b1 K,⟨λp hp=> ?_,λp hp=> ?_⟩,?_,λe=>by simp at e,?_,λe=>by simp at e,λs hs=>⟨λe=> ?_,λp hp e=> ?_⟩,λs hs p hp e=> ?_,b3⟩
 ·rcases l2e.1 hp with hp|hp
  ·exact(h.gv.sl p hp).kp λs q hs=>kp s q (λe=>(h.dl s e).2 p hp hs) (λe=>h.di s e p hp hs)
  ·rw[l2f] at hp;subst hp
   exact hv.kp λs q hs=>kp s q (hd s hs).1 (hd s hs).2
 ·rcases l2e.1 hp with hp|hp
  ·exact h.gv.nl p hp
  ·rw[l2f] at hp;subst hp;exact hn
 ·have e1:gvC (g++[(c,v)])=gvC g++c.csP v:=by simp[gvC]
  rw[e1,FA]
  exact B1.kp a2 λs q hs hl=>b5 s q hl λe=>by have:=a6 s hs;have:=h.lti e;omega
 ·have e1:Bn (((g++[(c,v)]).map Prod.fst).map Cd.id)=Bn ((g.map Prod.fst).map Cd.id)++Bn [c.id]:=by simp[Bn]
  rw[e1,FA]
  exact b2
 ·have:=b6 s e
  have:=B1.lt a2 a3 hs
  omega
 ·have:=a6 s hs
  rcases l2e.1 hp with hp|hp
  ·have:=h.ltp hp e;omega
  ·rw[l2f] at hp;subst hp
   have:=hv.lt h.wf e;omega
 ·have:=b6 s hs
  rcases l2e.1 hp with hp|hp
  ·have:=h.ltp hp e;omega
  ·rw[l2f] at hp;subst hp
   have:=hv.lt h.wf e;omega
def XA (xs:List Y7) (a:AV):Prop:=a= .list xs.length (xs.flatMap Y7.cs)∨(xs=[]∧a=AO)
theorem XA.len {xs:List Y7} {a:AV} {K:AV→Al} (h:XA xs a):AP Km a K=K (I xs.length):=by
 rcases h with rfl|⟨rfl,rfl⟩<;>exact _root_.id rfl
theorem XA.ia {xs:List Y7} {a:AV} {i:Nat} {K:AV→Al} (h:XA xs a) (hi:i<xs.length):B0 Km a (I i) K=K (.iptr xs[i].cs):=by
 rcases h with rfl|⟨rfl,rfl⟩
 ·exact A1Z (f:=Y7.cs) rfl (λ_=>rfl) hi
 ·simp at hi
end
end
section
variable {L n:Nat}
section
variable {K:KV} {x:Al} {xs:List Y7} {a0:AV}
theorem b6 {a b c d e f:Int} {K:AV→Al}:Bk Bl [(0,1,I a),(1,1,I b),(2,1,I c),(3,1,I d),(4,1,I e),(5,1,I f)] K=K (.agg [I a,I b,I c,I d,I e,I f]):=id rfl
theorem b4 {a b c d:Int} {K:AV→Al}:Bk Cg [(0,1,I a),(1,1,I b),(2,1,I c),(3,1,I d)] K=K (.agg [I a,I b,I c,I d]):=id rfl
theorem bs4 {a b c d:Int} {H:Hp} {K:KV}:Fh FC 4 Cg 1 [(0,4,.agg [I a,I b,I c,I d])] H K=K (.sl 4 (A6 H) 0 1) ((A6 H,.cells false FC [I a,I b,I c,I d])::H):=by
 have e:Fh FC 4 Cg 1 [(0,4,.agg [I a,I b,I c,I d])] H K=HE H (λs=>K (.sl 4 s 0 1) ((s,.cells false FC [I a,I b,I c,I d])::H)):=_root_.id rfl
 rw[e,BX]
theorem C4f {k4:AV→Hp→Al} (hL:40000<L) (hx:XA xs a0) (hok:∀y∈xs,y.Ok)
 (hfin:∀g lv iv H,g.map Prod.fst=NV xs (min 8 xs.length)→Gm g lv iv H→k4 lv H=x):
 ∀(f i:Nat) (g:GV) (lv iv:AV) (H:Hp) (d0 d1 d2 d3:AV),i≤min 8 xs.length→min 8 xs.length-i<f→g.map Prod.fst=NV xs i→Gm g lv iv H→
 Nh (L+20) (rt (L+20) (n+64)) K k4 f a0 lv iv (I i) d0 d1 d2 d3 H=x:=by
 intro f
 induction f with
 |zero=>intro i g lv iv H d0 d1 d2 d3 _ h;omega
 |succ f ih=>
  intro i g lv iv H d0 d1 d2 d3 hi hf hg hh
  rw[Zd]
  unfold Q9 Ba Ar CK
  have e8:(AV.v (.int .i64 8))=I ((8:Nat):Int):=rfl
  rw[hx.len,e8]
  by_cases h:i<min 8 xs.length
  ·have hlt:i<xs.length:=by omega
   obtain⟨y,hy⟩:∃y,xs[i]=y:=⟨_,rfl⟩
   have hyo:=hok _ (QS hlt)
   have hgd:xs.getD i ⟨0,0,0,0,0,0,0⟩=y:=by rw[←hy];simp[List.getD,JV hlt]
   rw[hy] at hyo
   obtain⟨o0,o1,o2,o3,o4,o5,o6⟩:=hyo
   rw[FW (by omega)]
   simp only[gT,Co]
   rw[FW (by omega),Co,Wu,Dn]
   refine KP λk23 h23=> ?_
   refine KP λk34 h34=> ?_
   have gsl:(NV xs i).length=g.length:=by rw[←hg,l1u]
   have g8:=(B4a xs i (by omega)).2
   have es:NV xs (i+1)=if(cM i y ((NV xs i).map Cd.id)).ps.Nodup∧(cM i y ((NV xs i).map Cd.id)).id∉(NV xs i).map Cd.id then NV xs i++[cM i y ((NV xs i).map Cd.id)] else NV xs i:=by
    have:NV xs (i+1)=if(cM i (xs.getD i ⟨0,0,0,0,0,0,0⟩) ((NV xs i).map Cd.id)).ps.Nodup∧(cM i (xs.getD i ⟨0,0,0,0,0,0,0⟩) ((NV xs i).map Cd.id)).id∉(NV xs i).map Cd.id
     then NV xs i++[cM i (xs.getD i ⟨0,0,0,0,0,0,0⟩) ((NV xs i).map Cd.id)] else NV xs i:=rfl
    rw[this,hgd]
   have hk34:∀g' lv' iv' q kd u k H',g'.map Prod.fst=NV xs (i+1)→Gm g' lv' iv' H'→k34 a0 lv' iv' (I i) q kd u k H'=x:=by
    intro g' lv' iv' q kd u k H' h1 h2
    have ad:∀{K:AV→Al},Go.Abs.Ak Ab .add (I i) (.v (.int .i64 1)) K=K (I ((i+1:Nat):Int)):= λ{K}=>DS (by omega)
    rw[h34,h23]
    simp only[ad]
    exact ih (i+1) g' lv' iv' H' q kd u k (by omega) (by omega) h1 h2
   clear h23 h34 ih hfin
   have l7:∀{H} {K:AV→Al},Aq BL (.iptr y.cs) H K=K (.agg y.cs):= λ{H K}=>_root_.id rfl
   obtain⟨H1,e1,m1,w1,kp1⟩:=Er (e:=UF) (zs:=[zI,zI,zI,zI,zI,zI,zI]) (vs:=y.cs) hh.wf rfl
   rw[hx.ia hlt,hy,l7,Bf (cs:=[zI,zI,zI,zI,zI,zI,zI]) rfl,B7 (cs:=[zI,zI,zI,zI,zI,zI,zI]) (vs:=y.cs) (A1 (by simp)) rfl rfl rfl,←e1]
   have h1:=hh.grow w1 λs q hs=>(kp1 s q hs).1
   generalize A6 H=q7 at m1
   clear e1 kp1 hh
   obtain⟨d0', -⟩:=rd7 m1
   rw[C4A,d0']
   refine KP λk52 h52=> ?_
   have hk52:k52 (I (kdM i y)) H1=x:=by
    rw[h52]
    clear h52
    refine KP λk55 h55=> ?_
    refine KP λk125 h125=> ?_
    have hsi:=h1.si
    rw[hg] at hsi
    have hil:((NV xs i).map Cd.id).length=g.length:=by rw[l1u,gsl]
    refine C43 (n:=n) (ids:=(NV xs i).map Cd.id) (by omega) o6 m1 (by rw[hil];exact hsi) (by rw[hil];omega) (λu k H2 hp=> ?_) (L+20) 0 AO H1 (by omega) (by omega) ⟨.inl ⟨rfl,rfl,rfl⟩,λ_=>rfl,(λs hs=>by obtain⟨_,_,_,h⟩:=hs;cases h),w1,w1,O8 _,λ_ _ h=>h⟩
    rw[h125,h55]
    clear h125 h55
    obtain⟨-,r1,r2,r3,r4,r5,r6⟩:=rd7 (hp.kp _ _ m1)
    simp only[C6x,C6w,C6v,C6u,C6t,C4z,r1,r2,r3,r4,r5,r6]
    rw[b6,b6,b4,bs4]
    obtain⟨H3,s3,e3,es3,m3,w3,kp3⟩:=push hp.wf (.cells false FC [I y.y3,I y.y4,I y.y5,I y.y6]) (by simp)
    rw[←es3,←e3]
    have hkd:K8 (kdM i y):=by
     unfold kdM
     split
     ·unfold K8;omega
     ·exact o0
    have hya:YA H3 (some (y.y3,y.y4,y.y5,y.y6)) (.sl 4 s3 0 1):= λH' kp=>⟨true,Vn (D:=depth-1) (q':=false) (kp _ _ m3) rfl (Kf (λz:Int=>Value.int .i64 z) [y.y3,y.y4,y.y5,y.y6])⟩
    have hpl:PL H3 (paM ((NV xs i).map Cd.id) y.y6 3) u:= .inr (hp.sl.kp λs q _ hs=>(kp3 _ _ hs).1)
    have h3:=h1.grow w3 λs q hs=>(kp3 _ _ (hp.kp s q hs)).1
    have hpm:=A9M (ids:=(NV xs i).map Cd.id) (y6:=y.y6) 3
    clear r1 r2 r3 r4 r5 r6 e3 es3 m3 h1
    have h32:∀s∈paM ((NV xs i).map Cd.id) y.y6 3,s.length=32:= λs hs=>by
     obtain⟨c,_,rfl⟩:=l2a.1 (A9L _ s hs)
     exact A96 c
    refine A10 (n:=n+20) (y:=some (y.y3,y.y4,y.y5,y.y6)) hL w3 hkd o1 o2 o3 o4 o5 o1 o2 o3 o4 o5 o6 hya ⟨o3,o4,o5,o6⟩ hpl (by omega) h32 ?_
    show∀v H',B1 H' A4 1 v (cM i y ((NV xs i).map Cd.id)).ps.length (Bn (cM i y ((NV xs i).map Cd.id)).ps)→((cM i y ((NV xs i).map Cd.id)).ps=[]→v=AO)→Wf H'→(∀s q,Ax H3 s=some q→Ax H' s=some q)→(∀s,AX v s→A6 H3≤s)→_
    intro v H4 sv nv w4 kp4 fr4
    have cok:(cM i y ((NV xs i).map Cd.id)).Ok:=B8Q
    have ec:cdM (kdM i y) y.y1 y.y2 y.y3 y.y4 y.y5 y.y1 y.y2 y.y3 y.y4 y.y5 y.y6 (some (y.y3,y.y4,y.y5,y.y6)) (paM ((NV xs i).map Cd.id) y.y6 3)=cM i y ((NV xs i).map Cd.id):=rfl
    rw[ec]
    generalize cM i y ((NV xs i).map Cd.id)=c at sv nv cok es⊢
    have h4:=h3.grow w4 kp4
    have hd:∀s,AX v s→¬AX lv s∧¬AX iv s:= λs hs=>⟨λe=>by have:=h3.ltl e;have:=fr4 s hs;omega,λe=>by have:=h3.lti e;have:=fr4 s hs;omega⟩
    obtain⟨H5,e5,m5,w5,kp5⟩:=Er (e:=Aj) (zs:=BM) (vs:=c.csP v) w4 (Tc c)
    rw[Bf (cs:=BM) rfl,B7 (cs:=BM) (vs:=c.csP v) (A1 (by simp)) (Tc c) rfl (Xi c (B1.one sv)),←e5]
    have h5:=h4.grow w5 λs q hs=>(kp5 s q hs).1
    have sv5:=B1.kp sv λs q _ hs=>(kp5 s q hs).1
    generalize A6 H4=r at m5
    have lc:∀{K},Aq Ac (.ptr r 0 0) H5 K=K (.agg (c.csP v)):= λ{K}=>Bm rfl (by rw[Tc];rfl) m5
    clear e5 kp5 h4 h3 sv kp4 fr4 m5
    have hlen:((NV xs i).map Cd.id).length<1000:=by rw[hil];omega
    have hne:([]:List UInt8)∉(NV xs i).map Cd.id:= λe=>by
     obtain⟨d,_,hd⟩:=l2a.1 e
     exact A26 d hd
    have has:∀{s:List UInt8} {K},Ah (rt (L+20) (n+64)) NM [iv,S s] H5 K=K (Ym s ((NV xs i).map Cd.id) 0):= λ{s K}=>by
     have si5:=h5.si
     rw[hg,←hil] at si5
     have ni5:(NV xs i).map Cd.id=[]→iv=AO:= λe=>h5.ni (by
      have:g.length=0:=by rw[←hil,e];rfl
      exact l1s this)
     obtain⟨q,hq⟩:=A4P (D:=depth-1) (b:=true) si5 ni5
     exact Bc (B8n (L:=L) (n:=n+63) (s:=s) (HV ((NV xs i).map Cd.id)) hlen (by omega)) (A2 hq (A2 (q:=false) Ed Bt))
    obtain⟨qc,hqc⟩:=A52 (D:=depth-2) sv5 nv
    by_cases hnd:c.ps.Nodup
    ·have hid:∀{K},Ah (rt (L+20) (n+64)) GB [.agg (c.csP v)] H5 K=K (S c.id):= λ{K}=>Bc (A95 (n:=n) hL cok hnd) (A2 (PE (D:=depth-1) hqc) Bt)
     rw[lc,hid,has]
     by_cases hm:c.id∈(NV xs i).map Cd.id
     ·obtain⟨k,hk, -, -,e⟩:=WL _ 0 hm
      rw[if_neg λhc=>hc.2 hm] at es
      rw[e,CW,CV,UR,decide_eq_false (A26 c),Bool.not_false]
      simp only[gT,Co,ntT,Wu]
      rw[BD]
      exact hk34 g lv iv _ _ _ _ H5 (by rw[es];exact hg) h5
     ·rw[if_pos ⟨hnd,hm⟩] at es
      obtain⟨lv',H6,iv',H7,b1,b2,b3⟩:=h5.add sv5 nv hd (by omega)
      rw[WM _ 0 hm,CW,CV,UR,decide_eq_false (A26 c),Bool.not_false]
      simp only[gT,Co,ntF,Wu]
      rw[Dn,lc,b1,b2]
      exact hk34 (g++[(c,v)]) lv' iv' _ _ _ _ H7 (by rw[es,l01,hg];rfl) b3
    ·have hid:∀{K},Ah (rt (L+20) (n+64)) GB [.agg (c.csP v)] H5 K=K (S []):= λ{K}=>Bc (B82 (n:=n) hL cok hnd) (A2 (PE (D:=depth-1) hqc) Bt)
     rw[if_neg λhc=>hnd hc.1] at es
     rw[lc,hid,has,WM _ 0 hne,CW,CV,UR,decide_eq_true rfl,Bool.not_true]
     simp only[gTF,Co,Vk]
     rw[BD]
     exact hk34 g lv iv _ _ _ _ H5 (by rw[es];exact hg) h5
   have e2:(AV.v (.int .i64 2))=I ((2:Nat):Int):=rfl
   rw[e2]
   by_cases hi2:i<2
   ·have hpk:∀{H K},Ah (rt (L+20) (n+64)) JP [I (y.y0.tdiv 3),.v (.int .i64 4)] H K=K (I (pk (y.y0.tdiv 3) 4)):= λ{H K}=>A6a (n:=n+63) (Lo o0 (by decide)) (by decide) (by decide) H K
    rw[FW (by omega)]
    simp only[gT,Co,C4A,d0',YF o0 (show(1:Int)≤3 by decide),hpk,Ej,Wu]
    by_cases h0:0<pk (y.y0.tdiv 3) 4
    ·rw[decide_eq_true h0,Dn]
     have e:kdM i y=0:=if_pos ⟨hi2,h0⟩
     rw[e] at hk52
     exact hk52
    ·rw[decide_eq_false h0,BD]
     have e:kdM i y=y.y0:=if_neg λhc=>h0 hc.2
     rw[e] at hk52
     exact hk52
   ·rw[FX (by omega)]
    simp only[gTF,Co,gU,Vk]
    rw[BD]
    have e:kdM i y=y.y0:=if_neg λhc=>hi2 hc.1
    rw[e] at hk52
    exact hk52
  ·have:i=min 8 xs.length:=by omega
   subst this
   by_cases h8:xs.length≤8
   ·rw[FX (by omega)]
    simp only[gTF,Co,Vk]
    rw[BD]
    exact hfin g lv iv H hg hh
   ·rw[FW (by omega)]
    simp only[gT,Co]
    rw[FX (by omega),Co,Wu,BD]
    exact hfin g lv iv H hg hh
theorem B3k (hL:40000<L) (hx:XA xs a0) (hok:∀y∈xs,y.Ok):CT (rt (L+20) (n+65)) SQ [a0] (B3N (NV xs (min 8 xs.length))):=by
 intro K hK
 rw[A17]
 unfold Sp Ar
 simp only[Cp]
 refine C4f hL hx hok (λg lv iv H hg hh=> ?_) (L+20) 0 [] AO AO [] _ _ _ _ (by omega) (by omega) rfl ⟨⟨(λp hp=>by cases hp),(λp hp=>by cases hp)⟩,.inl ⟨rfl,rfl,rfl⟩,λ_=>rfl,.inl ⟨rfl,rfl,rfl⟩,λ_=>rfl,(λs hs=>by obtain⟨_,_,_,h⟩:=hs;cases h),(λs hs=>by obtain⟨_,_,_,h⟩:=hs;cases h),Fv⟩
 refine hK _ _ ?_
 rw[←hg]
 exact C27 (D:=depth-2) hh.gv hh.sl hh.nl
end
end
end Go.Abs
end
