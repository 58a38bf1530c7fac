import Derived.Test.YtlbhdmbfdcohhaaGreatDoorS43
import Derived.Test.YtlbhdmbfdcohhaaGreatDoorS45
set_option linter.all false
set_option maxHeartbeats 100000000
noncomputable section
namespace Go.Abs
open Go.RowKit Go.Proofs
set_option maxRecDepth 100000
def MV (gs:List Cd) (s:Bt):List Bt:=match JM (gE gs) s with
 |some c=>c.ps
 |none=>[]
inductive Anc (gs:List Cd) (s:Bt):Bt→Prop
 |one {x:Bt}:x∈gs.map Cd.id→x∈MV gs s→Anc gs s x
 |more {x y:Bt}:Anc gs s y→x∈gs.map Cd.id→x∈MV gs y→Anc gs s x
section
variable {gs:List Cd} {s x y p:Bt}
theorem Anc.ids (h:Anc gs s x):x∈gs.map Cd.id:=by
 cases h with
 |one h _=>exact h
 |more _ h _=>exact h
end
open Classical in
def TU (gs:List Cd) (s:Bt):List Bt:=I9 ((gs.map Cd.id).filter λx=>decide (Anc gs s x))
section
variable {gs:List Cd} {s x p:Bt}
theorem XH:x∈TU gs s↔Anc gs s x:=by
 rw[TU,(CD _).mem_iff,List.mem_filter,@decide_eq_true_iff _ (_)]
 exact⟨λh=>h.2,λh=>⟨h.ids,h⟩⟩
theorem B8F (h:(gs.map Cd.id).Nodup):(TU gs s).Nodup:=(CD _).symm.nodup (h.sublist List.filter_sublist)
theorem C3i:(TU gs s).Pairwise (· ≤ ·):=IW _
theorem A7y:(TU gs s).length≤gs.length:=by
 rw[TU,(CD _).length_eq]
 have:=List.length_filter_le (λx=>@decide (Anc gs s x) (Classical.propDecidable _)) (gs.map Cd.id)
 rw[Wv] at this
 exact this
structure An (gs:List Cd) (s:Bt) (b ns:List Bt):Prop where
 nd:b.Nodup
 an:∀q∈b,Anc gs s q
 nx:∀q∈ns,q∈MV gs s∨∃y∈b,q∈MV gs y
 cl:∀q∈gs.map Cd.id,(q∈MV gs s∨∃y∈b,q∈MV gs y)→q∈b∨q∈ns
theorem An.start:An gs s [] (MV gs s):=⟨List.nodup_nil,by simp,λq h=> .inl h,λq _ h=>h.elim .inr λ⟨_,h,_⟩=>absurd h (by simp)⟩
theorem An.fin {b:List Bt} (hn:(gs.map Cd.id).Nodup) (h:An gs s b []):b.Perm (TU gs s):=by
 refine(List.perm_ext_iff_of_nodup h.nd (B8F hn)).2 λq=>⟨λhq=>XH.2 (h.an q hq),λhq=> ?_⟩
 rw[XH] at hq
 induction hq with
 |one h1 h2=>exact(h.cl _ h1 (.inl h2)).elim id λh=>absurd h (by simp)
 |more _ h1 h2 ih=>exact(h.cl _ h1 (.inr ⟨_,ih,h2⟩)).elim id λh=>absurd h (by simp)
theorem An.skip {b nx:List Bt} (h:An gs s b (p::nx)) (hp:p∈b∨p∉gs.map Cd.id):An gs s b nx:=
 ⟨h.nd,h.an,λq hq=>h.nx q (by simp[hq]),λq hq hc=>by
  rcases h.cl q hq hc with h1|h1
  ·exact .inl h1
  ·rcases UJ.1 h1 with rfl|h1
   ·exact hp.elim .inl λh2=>absurd hq h2
   ·exact .inr h1⟩
theorem An.step {b nx:List Bt} (h:An gs s b (p::nx)) (hb:p∉b) (hp:p∈gs.map Cd.id):An gs s (b++[p]) (nx++MV gs p):=by
 refine⟨List.nodup_append.2 ⟨h.nd,by simp,λa ha c hc=>by simp at hc;subst hc;exact λe=>hb (e▸ha)⟩,λq hq=> ?_,λq hq=> ?_,λq hq hc=> ?_⟩
 ·rcases Zi.1 hq with h1|h1
  ·exact h.an q h1
  ·rw[l2f] at h1
   subst h1
   rcases h.nx q (by simp) with h2|⟨y,h2,h3⟩
   ·exact .one hp h2
   ·exact .more (h.an y h2) hp h3
 ·rcases Zi.1 hq with h1|h1
  ·rcases h.nx q (by simp[h1]) with h2|⟨y,h2,h3⟩
   ·exact .inl h2
   ·exact .inr ⟨y,by simp[h2],h3⟩
  ·exact .inr ⟨p,by simp,h1⟩
 ·by_cases h0:q=p
  ·exact .inl (by simp[h0])
  ·have h1:(q∈MV gs s∨∃y∈b,q∈MV gs y)∨q∈MV gs p:=by
    rcases hc with h1|⟨y,h1,h2⟩
    ·exact .inl (.inl h1)
    ·rcases Zi.1 h1 with h3|h3
     ·exact .inl (.inr ⟨y,h3,h2⟩)
     ·rw[l2f] at h3
      exact .inr (h3▸h2)
   rcases h1 with h1|h1
   ·rcases h.cl q hq h1 with h2|h2
    ·exact .inl (by simp[h2])
    ·rcases UJ.1 h2 with h2|h2
     ·exact absurd h2 h0
     ·exact .inr (by simp[h2])
   ·exact .inr (by simp[h1])
def B2Y (gs:List Cd) (b:List Bt):Nat:=((gs.map Cd.id).filter λq=>decide (q∉b)).length
theorem B6t {b:List Bt}:B2Y gs b≤gs.length:=by
 have:=List.length_filter_le (λq=>decide (q∉b)) (gs.map Cd.id)
 rw[Wv] at this
 exact this
theorem B15 {b:List Bt} (hb:p∉b) (hp:p∈gs.map Cd.id):B2Y gs (b++[p])<B2Y gs b:=by
 refine Vt (p:= λq=>decide (q∉b++[p])) (q:= λq=>decide (q∉b)) (λa _ h=> ?_) hp (by simp[hb]) (by simp)
 simp only[decide_eq_true_eq,Zi,not_or] at h⊢
 exact h.1
theorem B00 (hp:∀c∈gs,c.ps.length<100):(MV gs p).length<100:=by
 unfold MV
 cases h:JM (gE gs) p with
 |none=>simp
 |some c=>exact hp c (B4G h).1
end
def TV (H:Hp) (v:AV) (l:List Bt):Prop:=(v=AA∧l=[])∨∃r o q cs,v= .sl 1 r o l.length∧Aq H r=some (.cells q Au cs)∧cs.drop o=AK l∧o+l.length=cs.length
section
variable {H:Hp} {v:AV} {l ps:List Bt} {K:AV→Aj} {p:Bt}
theorem TV.len (h:TV H v l):AQ Ac v K=K (I l.length):=by
 rcases h with⟨rfl,rfl⟩|⟨r,o,q,cs,rfl,_⟩<;>exact _root_.id rfl
theorem B8q {r o m:Nat} (h:0<m):B9 Ac (.sl 1 r o m) (.v (.int .i64 0)) K=K (.ptr r o 0):=by
 have e1:B9 Ac (.sl 1 r o m) (I ((0:Nat):Int)) K=iN ((0:Nat):Int) λn=>ck (Nat.blt n m) (fN (Nat.add o (Nat.mul n 1)) λp=>K (.ptr r p 0)):=rfl
 show B9 Ac (.sl 1 r o m) (I ((0:Nat):Int)) K=_
 rw[e1,Jn,Di]
 have h1:Nat.blt 0 m=true:=by rw[UK];exact h
 rw[h1];rfl
theorem B8o {r o m:Nat} (h:0<m):Dh Ac (.sl 1 r o m) (some (.v (.int .i64 1))) none none K=K (.sl 1 r (o+1) (m-1)):=by
 have e1:Dh Ac (.sl 1 r o m) (some (I ((1:Nat):Int))) none none K=ck (Nat.beq 1 1) (iN ((1:Nat):Int) λl=>fN m λh=>fN m λx=>ck ((true||false)&&(Nat.ble l h&&(Nat.ble h x&&Nat.ble x m))) (fN (Nat.add o (Nat.mul l 1)) λo'=>fN (Nat.sub h l) λn=>K (.sl 1 r o' n))):=rfl
 show Dh Ac (.sl 1 r o m) (some (I ((1:Nat):Int))) none none K=_
 rw[e1,Jn,Di,Di]
 have c:((true||false)&&(Nat.ble 1 m&&(Nat.ble m m&&Nat.ble m m)))=true:=by simp;omega
 rw[c]
 show fN (Nat.add o (Nat.mul 1 1)) (λo'=>fN (Nat.sub m 1) λn=>K (.sl 1 r o' n))=_
 rw[Di,Di];rfl
theorem TV.front (h:TV H v (p::l)):∃r o v1,(∀K:AV→Aj,B9 Ac v (.v (.int .i64 0)) K=K (.ptr r o 0))∧(∀K:AV→Aj,Ar Ae (.ptr r o 0) H K=K (S p))∧
 (∀K:AV→Aj,Dh Ac v (some (.v (.int .i64 1))) none none K=K v1)∧TV H v1 l∧∀u,AG v1 u→AG v u:=by
 rcases h with⟨_,h⟩|⟨r,o,q,cs,rfl,h1,h2,h3⟩
 ·cases h
 ·rw[K9] at h3
  have ho:o<cs.length:=by omega
  rw[l11 ho] at h2
  injection h2 with h4 h5
  refine⟨r,o,.sl 1 r (o+1) l.length,λK=>B8q (by simp),λK=> ?_,λK=> ?_,.inr ⟨r,o+1,q,cs,rfl,h1,h5,by omega⟩,λu ⟨a,b,c,e⟩=> ?_⟩
  ·rw[AP (p:=o) rfl h1 ho]
   rw[TW,Kq ho,l1l,h4]
  ·rw[B8o (by simp)];rfl
  ·injection e with _ e;subst e;exact⟨1,o,_,rfl⟩
theorem TV.lat {H':Hp} {P:Nat→Prop} (h:TV H v l) (w:Wf H) (k:Lat H H' P) (hP:∀u,AG v u→¬P u):TV H' v l:=by
 rcases h with h|⟨r,o,q,cs,h1,h2,h3⟩
 ·exact .inl h
 ·exact .inr ⟨r,o,q,cs,h1,k.keep w r _ h2 (hP r ⟨1,o,_,h1⟩),h3⟩
theorem TV.lt (h:TV H v l) (w:Wf H) {u:Nat} (hu:AG v u):u<A2 H:=by
 obtain⟨a,b,c,rfl⟩:=hu
 rcases h with⟨h,_⟩|⟨r,o,q,cs,h1,h2,h3⟩
 ·cases h
 ·injection h1 with _ h1;subst h1;exact w.lt h2
theorem A78 {K:Nat→List AV→Aj}:UV H (Ep ps) K=K ps.length (AK ps):=by
 cases ps with
 |nil=>exact B50
 |cons a l=>exact A3Z
theorem A6d:(AK ps).all AV.one=true:=by
 rw[HB]
 intro y hy
 obtain⟨s,_,rfl⟩:=l2a.1 hy
 rfl
theorem A3A:(A14 Ac.d&&Uh 1 (Ep ps))=true:=by
 cases ps<;>rfl
theorem TV.app (h:TV H v l) (hn:l.length+ps.length<1000000):∃v' H',(∀K:KV,DN Au 1 Ae Ac v (Ep ps) H K=K v' H')∧TV H' v' (l++ps)∧(∀u,AG v' u→u=A2 H)∧Lat H H' (AG v):=by
 have hb:(l.length+ps.length)*Ae.bytes≤70368744177664:=by
  have:Ae.bytes≤100000:=by decide
  exact l1m (Nat.mul_le_mul (show l.length+ps.length≤1000000 by omega) this) (by decide)
 rcases h with⟨rfl,rfl⟩|⟨r,o,q,cs,rfl,h1,h2,h3⟩
 ·obtain⟨v',H',g1,g2,g3,g4⟩:=apt (H:=H) (e:=Au) (sz:=1) (n:=0) (m:=ps.length) (ie:=Ae) (i2:=Ac) (v:=AA) (src:=Ep ps) (cs:=[]) (ys:=AK ps) (.inl ⟨rfl,rfl,rfl⟩) (λK=>A78) (by rw[Cr];omega) A6d (by decide) rfl A3A (by simpa using hb) (by omega)
  refine⟨v',H',g1,?_,g3,g4⟩
  rcases g2 with⟨rfl,a,b⟩|⟨r,q,rfl,a,b⟩
  ·left
   refine⟨rfl,?_⟩
   have:ps.length=0:=by omega
   rw[List.nil_append];exact l1s this
  ·exact .inr ⟨r,0,q,_,by simp,a,by simp,by simp[Cr]⟩
 ·have hkey:∀K:KV,TR Au 1 Ae Ac (.sl 1 r o l.length) (Ep ps) H K=JL H r λx=>Ky x λE cs=>GP cs 0 λcl=>
   ck (Nat.beq E Au&&(Nat.beq 1 1&&(Nat.beq (Nat.add o (Nat.mul l.length 1)) cl&&(Nat.ble (Nat.mul (Nat.add l.length ps.length) Ae.bytes) 70368744177664&&Nat.ble (Nat.add l.length ps.length) 70368744177664))))
    (UT (Dv o cs) (AK ps) λcs'=>LL H r .gone λH'=>XA3 H λr=>fN (Nat.add l.length ps.length) λnm=>K (.sl 1 r 0 nm) ((r,.cells false Au cs')::H')):= λK=>by
   unfold TR
   rw[A78,Co,CQ,Co]
   have c:(Nat.beq (0+(AK ps).length) (Nat.mul ps.length 1)&&(PZ (AK ps)&&(!Nat.beq 1 0&&(Nat.beq (0+(B8 Ae.zero).length) 1&&(A14 Ac.d&&Uh 1 (Ep ps))))))=true:=by
    rw[Gg,A6d,A3A,Cr]
    have e1:Nat.beq (0+ps.length) (Nat.mul ps.length 1)=true:=by
     rw[KF]
     show Nat.beq ps.length (ps.length*1)=true
     rw[l28];exact Zj _
    rw[e1];rfl
   rw[c];rfl
  refine⟨.sl 1 (A2 H) 0 (l.length+ps.length),(A2 H,.cells false Au (AK (l++ps)))::upd H r .gone,λK=> ?_,?_,λu ⟨a,b,c,hh⟩=>by injection hh with _ hh;exact hh.symm,?_⟩
  ·have e1:DN Au 1 Ae Ac (.sl 1 r o l.length) (Ep ps) H K=JL H r λx=>Ky x λE cs=>GP cs 0 λcl=>@Bool.rec (λ_=>Aj) (Ot (Nat.add o (Nat.mul l.length 1)) cs λcs'=>LL H r (.cells false E cs') λH1=>TR Au 1 Ae Ac (.sl 1 r o l.length) (Ep ps) H1 K) (TR Au 1 Ae Ac (.sl 1 r o l.length) (Ep ps) H K) (Nat.beq (Nat.add o (Nat.mul l.length 1)) cl):=rfl
   rw[e1,BI h1]
   have e2:∀F:TypeId→List AV→Aj,Ky (.cells q Au cs) F=F Au cs:= λ_=>rfl
   rw[e2,Co]
   have c0:Nat.beq (Nat.add o (Nat.mul l.length 1)) (0+cs.length)=true:=by
    show Nat.beq (o+l.length*1) (0+cs.length)=true
    rw[l28,h3,KF];exact Zj _
   rw[c0]
   show TR Au 1 Ae Ac (.sl 1 r o l.length) (Ep ps) H K=_
   rw[hkey K]
   rw[BI h1,e2,Co]
   have c:(Nat.beq Au Au&&(Nat.beq 1 1&&(Nat.beq (Nat.add o (Nat.mul l.length 1)) (0+cs.length)&&(Nat.ble (Nat.mul (Nat.add l.length ps.length) Ae.bytes) 70368744177664&&Nat.ble (Nat.add l.length ps.length) 70368744177664))))=true:=by
    rw[c0,Zj,Zj]
    simp only[l16,Jm,XQ]
    exact⟨hb,show l.length+ps.length≤_ by omega⟩
   rw[c]
   show UT (Dv o cs) (AK ps) _=_
   rw[Lb,Dm,BZ,Di,CE,h2]
   have e3:AK l++AK ps=AK (l++ps):=by simp[AK]
   rw[e3]
   rfl
  ·have h5:=A1 (H:=upd H r .gone) (x:= .cells false Au (AK (l++ps))) (by simp)
   rw[BY] at h5
   exact .inr ⟨A2 H,0,false,_,by rw[Fl],h5,rfl,by rw[Cr];omega⟩
  ·have h4:Lat H (upd H r .gone) (AG (.sl 1 r o l.length)):=Lat.upd H r .gone ⟨1,o,_,rfl⟩
   have h5:=Lat.cons (upd H r .gone) (.cells false Au (AK (l++ps))) (AG (.sl 1 r o l.length))
   rw[BY] at h5
   exact h4.trans h5 (λ_ _ h=>h) (λ_ _ h=>h)
end
section
variable {L n:Nat}
section
variable {gs:List Cd} {s p:Bt} {H:Hp} {K:KV} {x:Aj} {ps:List Bt}
theorem C5Q (c:Cd) {K:AV→Aj}:A5m 31 Ac (.agg c.cs) K=K (Ep c.ps):=by
 match c with
 | .re b u=>exact _root_.id rfl
 | .co b p ps none=>exact _root_.id rfl
 | .co b p ps (some (k,vd))=>exact _root_.id rfl
theorem B53 {K:AV→Aj}:(TB Ad false (gV gs) (SV s) H λv=>A5m 31 Ac v K)=K (Ep (MV gs s)):=by
 rw[A0w (f:=P0) (b:=gE gs) (λK=>id rfl)]
 unfold MV
 cases hf:JM (gE gs) s with
 |none=>exact _root_.id rfl
 |some c=>exact C5Q c
theorem C69:F3 Au 1 Ae 0 [] H K=K (.sl 1 (A2 H) 0 0) ((A2 H,.cells false Au [])::H):=by
 have e:F3 Au 1 Ae 0 [] H K=XA3 H (λs=>K (.sl 1 s 0 0) ((s,.cells false Au [])::H)):=_root_.id rfl
 rw[e,BZ]
theorem B6o (wf:Wf H) (hn:ps.length<100) (hx:∀v H',TV H' v ps→(∀u y,Aq H u=some y→Aq H' u=some y)→(∀u,AG v u→A2 H≤u)→Wf H'→K v H'=x):
 (rt (L+20) (n+1)).call XA2 [Ep ps] H K=x:=by
 rw[LI]
 unfold Fp
 cases ps with
 |nil=>
  have e:∀{K:AV→Aj},Go.Abs.Ak Ac .eql (Ep []) (AV.v (.slice none 0 0)) K=K (Bo true):= λ{K}=>id rfl
  rw[e,De]
  exact hx AA H (.inl ⟨rfl,rfl⟩) (λu y h=>h) (λu ⟨_,_,_,h⟩=>by cases h) wf
 |cons a l=>
  have e:∀{K:AV→Aj},Go.Abs.Ak Ac .eql (Ep (a::l)) (AV.v (.slice none 0 0)) K=K (Bo false):= λ{K}=>id rfl
  rw[e,Bz,C69]
  have hb:=A1 (H:=H) (x:= .cells false Au []) (by simp)
  have w1:=Br (x:= .cells false Au []) wf
  obtain⟨v',H',g1,g2,g3,g4⟩:=TV.app (H:=(A2 H,.cells false Au [])::H) (v:= .sl 1 (A2 H) 0 0) (l:=[]) (ps:=a::l) (.inr ⟨A2 H,0,false,[],rfl,hb,rfl,rfl⟩) (by simp at hn⊢;omega)
  rw[g1]
  refine hx v' H' g2 (λu y hu=> ?_) (λu hu=> ?_) (g4.wf w1)
  ·have hl:=wf.lt hu
   refine g4.keep w1 u y (AS hl hu) λ⟨_,_,_,h⟩=> ?_
   injection h with _ h;omega
  ·have:=g3 u hu
   have h2:A2 ((A2 H,Row.cells false Au [])::H)=A2 H+1:=rfl
   omega
structure As (m:Nat) (b:List (Bt×Unit)) (v:AV) (nx:List Bt) (H:Hp):Prop where
 mm:Aq H m=some (.map false (GF uS b) none)
 sl:TV H v nx
 nm:¬AG v m
 wf:Wf H
theorem C3h {m:Nat} {k16:AV→Hp→Aj} (hg:GOk gs) (hp:∀c∈gs,c.ps.length<100) (hx:∀b v H,As m b v [] H→An gs s (b.map Prod.fst) []→k16 (.mp m) H=x):
 ∀(f:Nat) (b:List (Bt×Unit)) (nx:List Bt) (v:AV) (H:Hp),B2Y gs (b.map Prod.fst)*100+nx.length<f→B2Y gs (b.map Prod.fst)*100+nx.length<2000→As m b v nx H→An gs s (b.map Prod.fst) nx→
 IX (L+20) (rt (L+20) (n+1)) K k16 f (gV gs) (.mp m) v H=x:=by
 intro f
 induction f with
 |zero=>intro b nx v H h;omega
 |succ f ih=>
  intro b nx v H hf hf2 ha hn
  have g:∀{K:AV→Aj},Go.Abs.Ak Ab .gtr (I (nx.length:Int)) (.v (.int .i64 0)) K=K (Bo (decide (0<nx.length))):= λ{K}=>by
   rw[DM]
   congr 3
   simp
  rw[UN]
  unfold Lz Bc Av Dr
  rw[ha.sl.len,g]
  cases nx with
  |nil=>
   rw[decide_eq_false (by simp),Bz]
   exact hx b v H ha hn
  |cons p nx=>
   obtain⟨r,o,v1,e1,e2,e3,s1,r1⟩:=ha.sl.front
   have ek:∀(F:Value→Aj),IV (S p) F=F (SV p):= λF=>id rfl
   rw[K9] at hf hf2
   rw[decide_eq_true (by simp),De]
   simp only[BX]
   rw[e1,e2,e3,ek,R4 (f:=uS) (b:=b) (λK=>Pq ha.mm)]
   obtain⟨H2,e4,hc2,w2,k2⟩:=Er (e:=LN) (zs:=[]) (vs:=[]) ha.wf rfl
   have hm2:=(k2 _ _ ha.mm).1
   have Sb:Lat H H2 (λ_=>False):=⟨λ_=>w2,by rw[e4,BY];exact l1p _,λ_ u y hu _=>(k2 u y hu).1⟩
   have s2:TV H2 v1 nx:=s1.lat ha.wf Sb (λ_ _ h=>h)
   have n1:¬AG v1 m:= λh=>ha.nm (r1 m h)
   have a2:As m b v1 nx H2:=⟨hm2,s2,n1,w2⟩
   have z0:(Ct.zero:AV)= .agg []:=rfl
   have ad:∀{F:AV→Hp→Aj},(AJ LN Ct H λv35 H36=>CG Ct v35 (.agg []) H36 λH37=>F v35 H37)=F (.ptr (A2 H) 0 0) H2:= λ{F}=>by
    rw[Bi (cs:=[]) rfl,B7 (cs:=[]) (vs:=[]) (A1 (by simp)) rfl rfl rfl,←e4]
   cases hfb:JM b p with
   |some w=>
    have hpb:p∈b.map Prod.fst:=l2a.2 ⟨_,Xu hfb,rfl⟩
    simp only[]
    rw[CZ,CY]
    show(AJ LN Ct H λv35 H36=>CG Ct v35 (.agg []) H36 λH37=>_)=_
    rw[ad (F:= λ_ H37=>_)]
    rw[Ku]
    simp only[Bool.not_true,gTF,gU,Cz,WV]
    rw[Bz]
    exact ih b nx v1 H2 (by omega) (by omega) a2 (hn.skip (.inl hpb))
   |none=>
    have hpb:p∉b.map Prod.fst:= λh=>by
     obtain⟨e,he,rfl⟩:=l2a.1 h
     have:∀b:List (Bt×Unit),e∈b→JM b e.1≠none:=by
      intro b
      induction b with
      |nil=>intro h;cases h
      |cons a b ih=>
       intro h
       unfold JM
       split
       ·simp
       ·rcases UJ.1 h with h|h
        ·subst h;exact absurd rfl ‹_›
        ·exact ih h
     exact this b he hfb
    simp only[]
    rw[CZ,CY,z0]
    rw[ad (F:= λ_ H37=>_)]
    rw[Ku]
    by_cases hpi:p∈gs.map Cd.id
    ·simp only[Bool.not_false,gT,Cz,A4q,decide_eq_true hpi,XO]
     have eb:∀{K:AV→Aj},B3 Ct [] K=K (.agg []):= λ{K}=>id rfl
     rw[De,eb,ek]
     show Qx (.mp m) (SV p) (uS ()) H2 _=_
     rw[Vv (f:=uS) (v:=()) hm2,ek,B53]
     have l3:Lat H2 (upd H2 m (.map false (GF uS (Gv b p ())) none)) (λu=>u=m):=Lat.upd _ _ _ rfl
     have s3:TV (upd H2 m (.map false (GF uS (Gv b p ())) none)) v1 nx:=s2.lat w2 l3 (λu hu e=>n1 (e▸hu))
     have hm3:Aq (upd H2 m (.map false (GF uS (Gv b p ())) none)) m=some (.map false (GF uS (Gv b p ())) none):=(Ed hm2).trans rfl
     have w3:=l3.wf w2
     have hpl:=B00 (p:=p) hp
     obtain⟨v',H',g1,g2,g3,g4⟩:=s3.app (ps:=MV gs p) (by omega)
     rw[g1]
     have hk:(Gv b p ()).map Prod.fst=b.map Prod.fst++[p]:=by rw[B1h,if_neg hpb]
     have hl:=B15 hpb hpi
     have hst:=hn.step hpb hpi
     rw[←hk] at hl hst
     have hm4:=g4.keep w3 _ _ hm3 n1
     exact ih (Gv b p ()) (nx++MV gs p) v' H' (by rw[Fl];omega) (by rw[Fl];omega) ⟨hm4,g2,λhu=>by have a1:=g3 m hu;have a2:=w3.lt hm3;omega,g4.wf w3⟩ hst
    ·simp only[Bool.not_false,gT,Cz,A4q,decide_eq_false hpi,XO]
     rw[Bz]
     exact ih b nx v1 H2 (by omega) (by omega) a2 (hn.skip (.inr hpi))
theorem A68 {a:AV} (hg:GOk gs) (hL:40000<L) (hp:∀c∈gs,c.ps.length<100) (ha:LA gs a):CS (rt (L+20) (n+80)) Du [a,S s] (Ep (TU gs s)):=by
 intro K hK
 rw[K5]
 unfold HN
 have hfx:Pu true depth [a] [a] [] false:=by rcases ha with rfl|⟨_,rfl⟩<;>exact λK=>by kernel_rfl
 have of:∀{K:AV→Aj},Ah (rt (L+20) (n+79)) ED [a] [] K=K (.tup [gV gs,Bo true]):= λ{K}=>GS (λK hK=>B2N (n:=n+15) hg hL ha K hK) hfx
 have em:∀{K:KV},MQ Ct [] K=K (.mp 0) [(0,.map false [] none)]:= λ{K}=>id rfl
 have ek:∀(F:Value→Aj),IV (S s) F=F (SV s):= λF=>id rfl
 rw[of,CZ,CY,em,ek,B53]
 simp only[BX]
 have w1:Wf [(0,Row.map false [] none)]:=Br (H:=[]) FH
 have hpl:=B00 (p:=s) hp
 have h8:=hg.len
 have hll:=B6t (gs:=gs) (b:=[])
 refine B6o (n:=n+78) w1 hpl λv H' hs hk hr wf=> ?_
 have hm0:=hk 0 (.map false [] none) rfl
 refine C3h (n:=n+78) (s:=s) hg hp (λb v H ha hn=> ?_) (L+20) [] (MV gs s) v H' (by simp;omega) (by simp;omega) ⟨hm0,hs,λhu=>absurd (hr 0 hu) (by decide),wf⟩ An.start
 have hpm:=hn.fin hg.ids
 have hbl:b.length<1000:=by
  have h1:=hpm.length_eq
  have h2:=A7y (gs:=gs) (s:=s)
  rw[Wv] at h1
  omega
 refine A5Z (n:=n+73) (A2u 6 _ (C29 _)) (by omega) (by omega) ha.wf ha.mm hpm C3i λv H hv hv0=> ?_
 exact hK _ _ λbb=>by
  obtain⟨q,hq⟩:=A0s (D:=depth-1) (b:=bb) hv hv0
  exact⟨q,hq⟩
end
end
section
variable {L n:Nat}
section
variable {gs:List Cd} {s:List UInt8}
theorem B8d (h:(gs.map Cd.id).Nodup) {i:Nat} (hi:i<gs.length):JM (gr gs) gs[i].id=some (cE gs[i]):=by
 induction gs generalizing i with
 |nil=>simp at hi
 |cons c gs ih=>
  rw[XS,List.nodup_cons] at h
  show JM ((c.id,cE c)::gr gs) _=_
  unfold JM
  cases i with
  |zero=>rw[List.getElem_cons_zero,if_pos rfl]
  |succ i=>
   rw[List.getElem_cons_succ]
   have hi':i<gs.length:=by simpa using hi
   rw[if_neg (λe=>h.1 (l2a.2 ⟨_,QE hi',e.symm⟩))]
   exact ih h.2 hi'
theorem GOk.take (h:GOk gs) (m:Nat):GOk (gs.take m):=by
 have hm:∀c∈gs.take m,c∈gs:= λc hc=>l24 hc
 refine⟨λc hc=>h.ok c (hm c hc),λc hc=>h.nd c (hm c hc),?_,?_⟩
 ·rw[List.map_take]
  exact h.ids.sublist (List.take_sublist _ _)
 ·have:=h.len
  rw[l0g];omega
end
end
section
variable {L n:Nat}
theorem B4N {a:Int} {k:Nat} (h:Le a) (hk:k<3):Le (a.fdiv (2^(4*k))):=by
 unfold Le at h⊢
 have e:a.fdiv (2^(4*k))=a/(2^(4*k)):=Int.fdiv_eq_ediv_of_nonneg _ (Int.le_of_lt (Int.pow_pos (by decide)))
 rw[e]
 obtain rfl|rfl|rfl:k=0∨k=1∨k=2:=by omega
 ·rw[show(2:Int)^(4*0)=1 by decide];omega
 ·rw[show(2:Int)^(4*1)=16 by decide];omega
 ·rw[show(2:Int)^(4*2)=256 by decide];omega
theorem C4l {j:TI} {K:AV→Aj} {a:Int} {k:Nat} (hk:k≤64):Go.Abs.Ak j .shr (I a) (I k) K=K (I (a.fdiv (2^k))):=by
 have:Go.Abs.Ak j .shr (I a) (I k) K=ck (ile 0 (k:Int)) (fI (a.fdiv (2^(min (k:Int).toNat 64))) λz=>K (.v (.int .i64 z))):=rfl
 rw[this,Sh,XP,l1x hk]
 have h1:ile 0 (k:Int)=true:=by rw[JZ];simp
 rw[h1];rfl
theorem rd7 {H:Hp} {b:Nat} {y:Y7} (h:Aq H b=some (.cells true Vh y.cs)):
 (∀{K},Ar Ab (.ptr b 0 0) H K=K (I y.y0))∧(∀{K},Ar Ab (.ptr b 1 0) H K=K (I y.y1))∧(∀{K},Ar Ab (.ptr b 2 0) H K=K (I y.y2))∧(∀{K},Ar Ab (.ptr b 3 0) H K=K (I y.y3))∧(∀{K},Ar Ab (.ptr b 4 0) H K=K (I y.y4))∧(∀{K},Ar Ab (.ptr b 5 0) H K=K (I y.y5))∧(∀{K},Ar Ab (.ptr b 6 0) H K=K (I y.y6)):=
 ⟨λ{K}=>AP (p:=0) rfl h (by simp[Y7.cs]),λ{K}=>AP (p:=1) rfl h (by simp[Y7.cs]),λ{K}=>AP (p:=2) rfl h (by simp[Y7.cs]),λ{K}=>AP (p:=3) rfl h (by simp[Y7.cs]),λ{K}=>AP (p:=4) rfl h (by simp[Y7.cs]),λ{K}=>AP (p:=5) rfl h (by simp[Y7.cs]),λ{K}=>AP (p:=6) rfl h (by simp[Y7.cs])⟩
theorem C5l {b:Nat} {K:AV→Aj}:B9 BP (.ptr b 0 0) (.v (.int .i64 0)) K=K (.ptr b 0 0):=DZ (z:=0) 0 rfl rfl (by decide)
theorem C7b {b:Nat} {K:AV→Aj}:B9 BP (.ptr b 0 0) (.v (.int .i64 1)) K=K (.ptr b 1 0):=DZ (z:=1) 1 rfl rfl (by decide)
theorem C7a {b:Nat} {K:AV→Aj}:B9 BP (.ptr b 0 0) (.v (.int .i64 2)) K=K (.ptr b 2 0):=DZ (z:=2) 2 rfl rfl (by decide)
theorem C79 {b:Nat} {K:AV→Aj}:B9 BP (.ptr b 0 0) (.v (.int .i64 3)) K=K (.ptr b 3 0):=DZ (z:=3) 3 rfl rfl (by decide)
theorem C78 {b:Nat} {K:AV→Aj}:B9 BP (.ptr b 0 0) (.v (.int .i64 4)) K=K (.ptr b 4 0):=DZ (z:=4) 4 rfl rfl (by decide)
theorem C77 {b:Nat} {K:AV→Aj}:B9 BP (.ptr b 0 0) (.v (.int .i64 5)) K=K (.ptr b 5 0):=DZ (z:=5) 5 rfl rfl (by decide)
theorem C5k {b:Nat} {K:AV→Aj}:B9 BP (.ptr b 0 0) (.v (.int .i64 6)) K=K (.ptr b 6 0):=DZ (z:=6) 6 rfl rfl (by decide)
structure Pa (H0:Hp) (ps:List (List UInt8)) (u:AV) (H:Hp):Prop where
 sl:Bv H Au 1 u ps.length (AK ps)
 nl:ps=[]→u=AA
 fr:∀s,AG u s→A2 H0≤s
 wf:Wf H
 w0:Wf H0
 nx:A2 H0≤A2 H
 kp:∀s q,Aq H0 s=some q→Aq H s=some q
section
variable {K:KV} {x:Aj} {H0 H H':Hp} {y:Y7} {ids:List (List UInt8)} {a0 lv iv kd:AV} {q7 i:Nat}
theorem C4K {k125:AV→AV→AV→AV→AV→AV→AV→AV→Hp→Aj} (hL:100<L) (h6:Le y.y6) (hq:Aq H0 q7=some (.cells true Vh y.cs)) (hi:Bv H0 Au 1 iv ids.length (AK ids)) (hb:ids.length<100)
 (hfin:∀u k H,Pa H0 (paM ids y.y6 3) u H→k125 a0 lv iv (I i) (.ptr q7 0 0) kd u k H=x):
 ∀(f k:Nat) (u:AV) (H:Hp),k≤3→3-k<f→Pa H0 (paM ids y.y6 k) u H→
 NP (L+20) (rt (L+20) (n+64)) K k125 f a0 lv iv (I i) (.ptr q7 0 0) kd u (I k) H=x:=by
 intro f
 induction f with
 |zero=>intro k u H _ h;omega
 |succ f ih=>
  intro k u H hk hf hh
  rw[Z8]
  unfold QW Bc Av Dr
  have e3:(AV.v (.int .i64 3))=I ((3:Nat):Int):=rfl
  have hiH:=hi.kp λs q _=>hh.kp s q
  rw[e3]
  by_cases h:k<3
  ·rw[FW (by omega)]
   simp only[gT,Cz,JI (t:=Ac) rfl hiH,DM]
   by_cases h0:0<ids.length
   ·have hm:=Nat.mod_lt (pk (y.y6.fdiv (2^(4*k))) 16).toNat h0
    have pr:=EU (c:=y.y6.fdiv (2^(4*k))) (n:=16) (by decide)
    obtain⟨-, -, -, -, -, -,d6⟩:=rd7 (hh.kp _ _ hq)
    have ml:∀{K:AV→Aj},Go.Abs.Ak Ab .mul (.v (.int .i64 4)) (I (k:Int)) K=K (I ((4*k:Nat):Int)):= λ{K}=>by
     rw[OB,Cp (by omega) (by omega)];rw[show(4:Int)*(k:Int)=((4*k:Nat):Int) by omega]
    have hpk:∀{H K},Ah (rt (L+20) (n+64)) Kr [I (y.y6.fdiv (2^(4*k))),.v (.int .i64 16)] H K=K (I (pk (y.y6.fdiv (2^(4*k))) 16)):= λ{H K}=>A6A (n:=n+63) (B4N h6 h) (by decide) (by decide) H K
    have ad:∀{K:AV→Aj},Go.Abs.Ak Ab .add (I k) (.v (.int .i64 1)) K=K (I ((k+1:Nat):Int)):= λ{K}=>D4 (by omega)
    rw[decide_eq_true (by omega),XO,De]
    simp only[BX]
    rw[C5k,d6,ml,C4l (by omega),hpk,DL]
    have e1:paM ids y.y6 (k+1)=if 0<ids.length∧pk (y.y6.fdiv (2^(4*k))) 16<14 then paM ids y.y6 k++[ids.getD ((pk (y.y6.fdiv (2^(4*k))) 16).toNat%ids.length) []] else paM ids y.y6 k:=rfl
    by_cases h14:pk (y.y6.fdiv (2^(4*k))) 16<14
    ·rw[if_pos ⟨h0,h14⟩] at e1
     have hpl:PL H ids iv:= .inr hiH
     obtain⟨p,g1,g2⟩:=hpl.at2 hm
     have rm:∀{K:AV→Aj},Go.Abs.Ak Ab .rem (I (pk (y.y6.fdiv (2^(4*k))) 16)) (I (ids.length:Int)) K=K (I (((pk (y.y6.fdiv (2^(4*k))) 16).toNat%ids.length:Nat):Int)):= λ{K}=>by
      rw[UZ (by omega),Int.tmod_eq_emod_of_nonneg pr.1]
      have:(pk (y.y6.fdiv (2^(4*k))) 16)=(((pk (y.y6.fdiv (2^(4*k))) 16).toNat:Nat):Int):=by omega
      rw[this,XP];rfl
     have hln:=B05 (ids:=ids) (y6:=y.y6) k
     obtain⟨u',H',a1,a2,a3,a4,a5,a6⟩:=A7w (ie:=Ae) (i2:=Ac) (ys:=AK [ids[(pk (y.y6.fdiv (2^(4*k))) 16).toNat%ids.length]]) hh.sl hh.wf rfl rfl (by decide) rfl (λ_=>rfl) (by show(_+1)*16≤_;omega) (by omega)
     have e2:ids.getD ((pk (y.y6.fdiv (2^(4*k))) 16).toNat%ids.length) []=ids[(pk (y.y6.fdiv (2^(4*k))) 16).toNat%ids.length]:=by simp[List.getD,Kq hm]
     rw[e2] at e1
     have g0:=hh.nx
     rw[decide_eq_true h14,De,rm,g1,g2,XF,a1,ad]
     refine ih (k+1) u' H' (by omega) (by omega) ⟨?_,λe=> ?_,λs hs=> ?_,a3,hh.w0,by omega,λs q hs=> ?_⟩
     ·rw[e1,Fl]
      have:AK (paM ids y.y6 k++[ids[(pk (y.y6.fdiv (2^(4*k))) 16).toNat%ids.length]])=AK (paM ids y.y6 k)++AK [ids[(pk (y.y6.fdiv (2^(4*k))) 16).toNat%ids.length]]:=by simp[AK]
      rw[this]
      exact a2
     ·rw[e1] at e;simp at e
     ·have:=a6 s hs;omega
     ·exact a5 _ _ (hh.kp s q hs) λe=>by have:=hh.fr s e;have:=hh.w0.lt hs;omega
    ·rw[if_neg λhc=>h14 hc.2] at e1
     rw[decide_eq_false h14,Bz,ad]
     exact ih (k+1) u H (by omega) (by omega) (by rw[e1];exact hh)
   ·rw[decide_eq_false (by omega),XO,Bz]
    have e0:∀k,paM ids y.y6 k=[]:=by
     intro k
     induction k with
     |zero=>rfl
     |succ k ihk=>unfold paM;rw[if_neg λhc=>h0 hc.1];exact ihk
    refine hfin u _ H ?_
    rw[e0] at hh⊢
    exact hh
  ·have:k=3:=by omega
   subst this
   rw[FE (by omega)]
   simp only[gTF,Cz,WV]
   rw[Bz]
   exact hfin u _ H hh
end
end
section
variable {L n:Nat}
structure Gm (g:GV) (lv iv:AV) (H:Hp):Prop where
 gv:GvOk g H
 sl:Bv H Al 68 lv g.length (gvC g)
 nl:g=[]→lv=AA
 si:Bv H Au 1 iv g.length (AK ((g.map Prod.fst).map Cd.id))
 ni:g=[]→iv=AA
 dl:∀s,AG lv s→¬AG iv s∧∀p∈g,¬AG p.2 s
 di:∀s,AG iv s→∀p∈g,¬AG p.2 s
 wf:Wf H
section
variable {K:KV} {x:Aj} {H0 H H':Hp} {g:GV} {lv iv a0:AV} {c:Cd} {v:AV}
theorem Gm.grow (h:Gm g lv iv H) (wf:Wf H') (kp:∀s q,Aq H s=some q→Aq H' s=some q):Gm g lv iv H':=
 ⟨⟨λp hp=>(h.gv.sl p hp).kp λs q _=>kp s q,h.gv.nl⟩,h.sl.kp λs q _=>kp s q,h.nl,h.si.kp λs q _=>kp s q,h.ni,h.dl,h.di,wf⟩
theorem Gm.lti (h:Gm g lv iv H) {s:Nat} (hs:AG iv s):s<A2 H:=h.si.lt h.wf hs
theorem Gm.ltl (h:Gm g lv iv H) {s:Nat} (hs:AG lv s):s<A2 H:=h.sl.lt h.wf hs
theorem Gm.ltp (h:Gm g lv iv H) {s:Nat} {p:Cd×AV} (hp:p∈g) (hs:AG p.2 s):s<A2 H:=(h.gv.sl p hp).lt h.wf hs
theorem C7K {cs:List AV} {H:Hp} {K:KV} (hl:cs.length=68) (h1:cs.all AV.one=true):F3 Al 68 Ad 1 [(0,68,.agg cs)] H K=K (.sl 68 (A2 H) 0 1) ((A2 H,.cells false Al cs)::H):=by
 have e1:F3 Al 68 Ad 1 [(0,68,.agg cs)] H K=Hi (.agg cs) λvs=>GP vs 0 λn=>ck (Nat.beq n 68) (ck (PZ vs) (E8 0 vs BJ λcs'=>XA3 H λs=>K (.sl 68 s 0 1) ((s,.cells false Al cs')::H))):=_root_.id rfl
 have hc:B8 (.agg cs)=cs:=rfl
 rw[e1,CQ,hc,Co,hl,Gg,h1]
 show E8 0 cs BJ _=_
 rw[Ka _ _ _ _ (by rw[hl];decide),SC _ _ (by rw[hl];rfl),BZ]
theorem Gm.add (h:Gm g lv iv H) (hv:Bv H Au 1 v c.ps.length (AK c.ps)) (hn:c.ps=[]→v=AA) (hd:∀s,AG v s→¬AG lv s∧¬AG iv s) (hb:g.length<100):
 ∃lv' H1 iv' H2,(∀K:KV,(F3 Al 68 Ad 1 [(0,68,.agg (c.csP v))] H λv1 H1=>DN Al 68 Ad Bn lv v1 H1 K)=K lv' H1)∧
  (∀K:KV,(F3 Au 1 Ae 1 [(0,1,S c.id)] H1 λv1 H2=>DN Au 1 Ae Ac iv v1 H2 K)=K iv' H2)∧Gm (g++[(c,v)]) lv' iv' H2:=by
 obtain⟨lv',H1,a1,a2,a3,a4,a5,a6⟩:=A7w (ie:=Ad) (i2:=Bn) (ys:=c.csP v) h.sl h.wf (Tu c) (XB c (Bv.one hv)) (by decide) rfl (λ_=>rfl) (by show(_+1)*800≤_;omega) (by omega)
 have si1:Bv H1 Au 1 iv g.length (AK ((g.map Prod.fst).map Cd.id)):=h.si.kp λs q hs hl=>a5 s q hl (λe=>(h.dl s e).1 hs)
 obtain⟨iv',H2,b1,b2,b3,b4,b5,b6⟩:=A7w (ie:=Ae) (i2:=Ac) (ys:=AK [c.id]) si1 a3 rfl rfl (by decide) rfl (λ_=>rfl) (by show(_+1)*16≤_;omega) (by omega)
 have kp:∀s q,¬AG lv s→¬AG iv s→Aq H s=some q→Aq H2 s=some q:= λs q h1 h2 hs=>b5 _ _ (a5 _ _ hs h1) h2
 refine⟨lv',H1,iv',H2,λK=>by rw[C7K (Tu c) (XB c (Bv.one hv))];exact a1 K,λK=>by rw[XF];exact b1 K,⟨λp hp=> ?_,λp hp=> ?_⟩,?_,λe=>by simp at e,?_,λe=>by simp at e,λs hs=>⟨λe=> ?_,λp hp e=> ?_⟩,λs hs p hp e=> ?_,b3⟩
 ·rcases Zi.1 hp with hp|hp
  ·exact(h.gv.sl p hp).kp λs q hs=>kp s q (λe=>(h.dl s e).2 p hp hs) (λe=>h.di s e p hp hs)
  ·rw[l2f] at hp;subst hp
   exact hv.kp λs q hs=>kp s q (hd s hs).1 (hd s hs).2
 ·rcases Zi.1 hp with hp|hp
  ·exact h.gv.nl p hp
  ·rw[l2f] at hp;subst hp;exact hn
 ·have e1:gvC (g++[(c,v)])=gvC g++c.csP v:=by simp[gvC]
  rw[e1,Fl]
  exact Bv.kp a2 λs q hs hl=>b5 s q hl λe=>by have:=a6 s hs;have:=h.lti e;omega
 ·have e1:AK (((g++[(c,v)]).map Prod.fst).map Cd.id)=AK ((g.map Prod.fst).map Cd.id)++AK [c.id]:=by simp[AK]
  rw[e1,Fl]
  exact b2
 ·have:=b6 s e
  have:=Bv.lt a2 a3 hs
  omega
 ·have:=a6 s hs
  rcases Zi.1 hp with hp|hp
  ·have:=h.ltp hp e;omega
  ·rw[l2f] at hp;subst hp
   have:=hv.lt h.wf e;omega
 ·have:=b6 s hs
  rcases Zi.1 hp with hp|hp
  ·have:=h.ltp hp e;omega
  ·rw[l2f] at hp;subst hp
   have:=hv.lt h.wf e;omega
def XA (xs:List Y7) (a:AV):Prop:=a= .list xs.length (xs.flatMap Y7.cs)∨(xs=[]∧a=AA)
theorem XA.len {xs:List Y7} {a:AV} {K:AV→Aj} (h:XA xs a):AQ KI a K=K (I xs.length):=by
 rcases h with rfl|⟨rfl,rfl⟩<;>exact _root_.id rfl
theorem XA.ia {xs:List Y7} {a:AV} {i:Nat} {K:AV→Aj} (h:XA xs a) (hi:i<xs.length):B9 KI a (I i) K=K (.iptr xs[i].cs):=by
 rcases h with rfl|⟨rfl,rfl⟩
 ·exact A2g (f:=Y7.cs) rfl (λ_=>rfl) hi
 ·simp at hi
end
end
section
variable {L n:Nat}
section
variable {K:KV} {x:Aj} {xs:List Y7} {a0:AV}
theorem b6 {a b c d e f:Int} {K:AV→Aj}:B3 Bp [(0,1,I a),(1,1,I b),(2,1,I c),(3,1,I d),(4,1,I e),(5,1,I f)] K=K (.agg [I a,I b,I c,I d,I e,I f]):=id rfl
theorem b4 {a b c d:Int} {K:AV→Aj}:B3 Cl [(0,1,I a),(1,1,I b),(2,1,I c),(3,1,I d)] K=K (.agg [I a,I b,I c,I d]):=id rfl
theorem bs4 {a b c d:Int} {H:Hp} {K:KV}:F3 Gf 4 Cl 1 [(0,4,.agg [I a,I b,I c,I d])] H K=K (.sl 4 (A2 H) 0 1) ((A2 H,.cells false Gf [I a,I b,I c,I d])::H):=by
 have e:F3 Gf 4 Cl 1 [(0,4,.agg [I a,I b,I c,I d])] H K=XA3 H (λs=>K (.sl 4 s 0 1) ((s,.cells false Gf [I a,I b,I c,I d])::H)):=_root_.id rfl
 rw[e,BZ]
theorem C4Y {k4:AV→Hp→Aj} (hL:40000<L) (hx:XA xs a0) (hok:∀y∈xs,y.Ok)
 (hfin:∀g lv iv H,g.map Prod.fst=OC xs (min 8 xs.length)→Gm g lv iv H→k4 lv H=x):
 ∀(f i:Nat) (g:GV) (lv iv:AV) (H:Hp) (d0 d1 d2 d3:AV),i≤min 8 xs.length→min 8 xs.length-i<f→g.map Prod.fst=OC xs i→Gm g lv iv H→
 NQ (L+20) (rt (L+20) (n+64)) K k4 f a0 lv iv (I i) d0 d1 d2 d3 H=x:=by
 intro f
 induction f with
 |zero=>intro i g lv iv H d0 d1 d2 d3 _ h;omega
 |succ f ih=>
  intro i g lv iv H d0 d1 d2 d3 hi hf hg hh
  rw[Z9]
  unfold QX Bc Av Dr
  have e8:(AV.v (.int .i64 8))=I ((8:Nat):Int):=rfl
  rw[hx.len,e8]
  by_cases h:i<min 8 xs.length
  ·have hlt:i<xs.length:=by omega
   obtain⟨y,hy⟩:∃y,xs[i]=y:=⟨_,rfl⟩
   have hyo:=hok _ (QE hlt)
   have hgd:xs.getD i ⟨0,0,0,0,0,0,0⟩=y:=by rw[←hy];simp[List.getD,Kq hlt]
   rw[hy] at hyo
   obtain⟨o0,o1,o2,o3,o4,o5,o6⟩:=hyo
   rw[FW (by omega)]
   simp only[gT,Cz]
   rw[FW (by omega),Cz,XO,De]
   refine Ly λk23 h23=> ?_
   refine Ly λk34 h34=> ?_
   have gsl:(OC xs i).length=g.length:=by rw[←hg,Wv]
   have g8:=(B4z xs i (by omega)).2
   have es:OC xs (i+1)=if(cM i y ((OC xs i).map Cd.id)).ps.Nodup∧(cM i y ((OC xs i).map Cd.id)).id∉(OC xs i).map Cd.id then OC xs i++[cM i y ((OC xs i).map Cd.id)] else OC xs i:=by
    have:OC xs (i+1)=if(cM i (xs.getD i ⟨0,0,0,0,0,0,0⟩) ((OC xs i).map Cd.id)).ps.Nodup∧(cM i (xs.getD i ⟨0,0,0,0,0,0,0⟩) ((OC xs i).map Cd.id)).id∉(OC xs i).map Cd.id
     then OC xs i++[cM i (xs.getD i ⟨0,0,0,0,0,0,0⟩) ((OC xs i).map Cd.id)] else OC xs i:=rfl
    rw[this,hgd]
   have hk34:∀g' lv' iv' q kd u k H',g'.map Prod.fst=OC xs (i+1)→Gm g' lv' iv' H'→k34 a0 lv' iv' (I i) q kd u k H'=x:=by
    intro g' lv' iv' q kd u k H' h1 h2
    have ad:∀{K:AV→Aj},Go.Abs.Ak Ab .add (I i) (.v (.int .i64 1)) K=K (I ((i+1:Nat):Int)):= λ{K}=>D4 (by omega)
    rw[h34,h23]
    simp only[ad]
    exact ih (i+1) g' lv' iv' H' q kd u k (by omega) (by omega) h1 h2
   clear h23 h34 ih hfin
   have l7:∀{H} {K:AV→Aj},Ar BP (.iptr y.cs) H K=K (.agg y.cs):= λ{H K}=>_root_.id rfl
   obtain⟨H1,e1,m1,w1,kp1⟩:=Er (e:=Vh) (zs:=[zI,zI,zI,zI,zI,zI,zI]) (vs:=y.cs) hh.wf rfl
   rw[hx.ia hlt,hy,l7,Bi (cs:=[zI,zI,zI,zI,zI,zI,zI]) rfl,B7 (cs:=[zI,zI,zI,zI,zI,zI,zI]) (vs:=y.cs) (A1 (by simp)) rfl rfl rfl,←e1]
   have h1:=hh.grow w1 λs q hs=>(kp1 s q hs).1
   generalize A2 H=q7 at m1
   clear e1 kp1 hh
   obtain⟨d0', -⟩:=rd7 m1
   rw[C5l,d0']
   refine Ly λk52 h52=> ?_
   have hk52:k52 (I (kdM i y)) H1=x:=by
    rw[h52]
    clear h52
    refine Ly λk55 h55=> ?_
    refine Ly λk125 h125=> ?_
    have hsi:=h1.si
    rw[hg] at hsi
    have hil:((OC xs i).map Cd.id).length=g.length:=by rw[Wv,gsl]
    refine C4K (n:=n) (ids:=(OC xs i).map Cd.id) (by omega) o6 m1 (by rw[hil];exact hsi) (by rw[hil];omega) (λu k H2 hp=> ?_) (L+20) 0 AA H1 (by omega) (by omega) ⟨.inl ⟨rfl,rfl,rfl⟩,λ_=>rfl,(λs hs=>by obtain⟨_,_,_,h⟩:=hs;cases h),w1,w1,OV _,λ_ _ h=>h⟩
    rw[h125,h55]
    clear h125 h55
    obtain⟨-,r1,r2,r3,r4,r5,r6⟩:=rd7 (hp.kp _ _ m1)
    simp only[C7b,C7a,C79,C78,C77,C5k,r1,r2,r3,r4,r5,r6]
    rw[b6,b6,b4,bs4]
    obtain⟨H3,s3,e3,es3,m3,w3,kp3⟩:=push hp.wf (.cells false Gf [I y.y3,I y.y4,I y.y5,I y.y6]) (by simp)
    rw[←es3,←e3]
    have hkd:Le (kdM i y):=by
     unfold kdM
     split
     ·unfold Le;omega
     ·exact o0
    have hya:YA H3 (some (y.y3,y.y4,y.y5,y.y6)) (.sl 4 s3 0 1):= λH' kp=>⟨true,Xt (D:=depth-1) (q':=false) (kp _ _ m3) rfl (KA (λz:Int=>Value.int .i64 z) [y.y3,y.y4,y.y5,y.y6])⟩
    have hpl:PL H3 (paM ((OC xs i).map Cd.id) y.y6 3) u:= .inr (hp.sl.kp λs q _ hs=>(kp3 _ _ hs).1)
    have h3:=h1.grow w3 λs q hs=>(kp3 _ _ (hp.kp s q hs)).1
    have hpm:=B05 (ids:=(OC xs i).map Cd.id) (y6:=y.y6) 3
    clear r1 r2 r3 r4 r5 r6 e3 es3 m3 h1
    have h32:∀s∈paM ((OC xs i).map Cd.id) y.y6 3,s.length=32:= λs hs=>by
     obtain⟨c,_,rfl⟩:=l2a.1 (B04 _ s hs)
     exact A9n c
    refine A1q (n:=n+20) (y:=some (y.y3,y.y4,y.y5,y.y6)) hL w3 hkd o1 o2 o3 o4 o5 o1 o2 o3 o4 o5 o6 hya ⟨o3,o4,o5,o6⟩ hpl (by omega) h32 ?_
    show∀v H',Bv H' Au 1 v (cM i y ((OC xs i).map Cd.id)).ps.length (AK (cM i y ((OC xs i).map Cd.id)).ps)→((cM i y ((OC xs i).map Cd.id)).ps=[]→v=AA)→Wf H'→(∀s q,Aq H3 s=some q→Aq H' s=some q)→(∀s,AG v s→A2 H3≤s)→_
    intro v H4 sv nv w4 kp4 fr4
    have cok:(cM i y ((OC xs i).map Cd.id)).Ok:=B9k
    have ec:cdM (kdM i y) y.y1 y.y2 y.y3 y.y4 y.y5 y.y1 y.y2 y.y3 y.y4 y.y5 y.y6 (some (y.y3,y.y4,y.y5,y.y6)) (paM ((OC xs i).map Cd.id) y.y6 3)=cM i y ((OC xs i).map Cd.id):=rfl
    rw[ec]
    generalize cM i y ((OC xs i).map Cd.id)=c at sv nv cok es⊢
    have h4:=h3.grow w4 kp4
    have hd:∀s,AG v s→¬AG lv s∧¬AG iv s:= λs hs=>⟨λe=>by have:=h3.ltl e;have:=fr4 s hs;omega,λe=>by have:=h3.lti e;have:=fr4 s hs;omega⟩
    obtain⟨H5,e5,m5,w5,kp5⟩:=Er (e:=Al) (zs:=BJ) (vs:=c.csP v) w4 (Tu c)
    rw[Bi (cs:=BJ) rfl,B7 (cs:=BJ) (vs:=c.csP v) (A1 (by simp)) (Tu c) rfl (XB c (Bv.one sv)),←e5]
    have h5:=h4.grow w5 λs q hs=>(kp5 s q hs).1
    have sv5:=Bv.kp sv λs q _ hs=>(kp5 s q hs).1
    generalize A2 H4=r at m5
    have lc:∀{K},Ar Ad (.ptr r 0 0) H5 K=K (.agg (c.csP v)):= λ{K}=>Bq rfl (by rw[Tu];rfl) m5
    clear e5 kp5 h4 h3 sv kp4 fr4 m5
    have hlen:((OC xs i).map Cd.id).length<1000:=by rw[hil];omega
    have hne:([]:List UInt8)∉(OC xs i).map Cd.id:= λe=>by
     obtain⟨d,_,hd⟩:=l2a.1 e
     exact A2n d hd
    have has:∀{s:List UInt8} {K},Ah (rt (L+20) (n+64)) IB [iv,S s] H5 K=K (Xr s ((OC xs i).map Cd.id) 0):= λ{s K}=>by
     have si5:=h5.si
     rw[hg,←hil] at si5
     have ni5:(OC xs i).map Cd.id=[]→iv=AA:= λe=>h5.ni (by
      have:g.length=0:=by rw[←hil,e];rfl
      exact l1s this)
     obtain⟨q,hq⟩:=A0s (D:=depth-1) (b:=true) si5 ni5
     exact Ba (B3K (L:=L) (n:=n+63) (s:=s) (JU ((OC xs i).map Cd.id)) hlen (by omega)) (Ay hq (Ay (q:=false) D2 Be))
    obtain⟨qc,hqc⟩:=A5p (D:=depth-2) sv5 nv
    by_cases hnd:c.ps.Nodup
    ·have hid:∀{K},Ah (rt (L+20) (n+64)) Hf [.agg (c.csP v)] H5 K=K (S c.id):= λ{K}=>Ba (A9m (n:=n) hL cok hnd) (Ay (Qm (D:=depth-1) hqc) Be)
     rw[lc,hid,has]
     by_cases hm:c.id∈(OC xs i).map Cd.id
     ·obtain⟨k,hk, -, -,e⟩:=UM _ 0 hm
      rw[if_neg λhc=>hc.2 hm] at es
      rw[e,CZ,CY,YT,decide_eq_false (A2n c),Bool.not_false]
      simp only[gT,Cz,ntT,XO]
      rw[Bz]
      exact hk34 g lv iv _ _ _ _ H5 (by rw[es];exact hg) h5
     ·rw[if_pos ⟨hnd,hm⟩] at es
      obtain⟨lv',H6,iv',H7,b1,b2,b3⟩:=h5.add sv5 nv hd (by omega)
      rw[Xq _ 0 hm,CZ,CY,YT,decide_eq_false (A2n c),Bool.not_false]
      simp only[gT,Cz,ntF,XO]
      rw[De,lc,b1,b2]
      exact hk34 (g++[(c,v)]) lv' iv' _ _ _ _ H7 (by rw[es,Zl,hg];rfl) b3
    ·have hid:∀{K},Ah (rt (L+20) (n+64)) Hf [.agg (c.csP v)] H5 K=K (S []):= λ{K}=>Ba (B8x (n:=n) hL cok hnd) (Ay (Qm (D:=depth-1) hqc) Be)
     rw[if_neg λhc=>hnd hc.1] at es
     rw[lc,hid,has,Xq _ 0 hne,CZ,CY,YT,decide_eq_true rfl,Bool.not_true]
     simp only[gTF,Cz,WV]
     rw[Bz]
     exact hk34 g lv iv _ _ _ _ H5 (by rw[es];exact hg) h5
   have e2:(AV.v (.int .i64 2))=I ((2:Nat):Int):=rfl
   rw[e2]
   by_cases hi2:i<2
   ·have hpk:∀{H K},Ah (rt (L+20) (n+64)) Kr [I (y.y0.tdiv 3),.v (.int .i64 4)] H K=K (I (pk (y.y0.tdiv 3) 4)):= λ{H K}=>A6A (n:=n+63) (LM o0 (by decide)) (by decide) (by decide) H K
    rw[FW (by omega)]
    simp only[gT,Cz,C5l,d0',Ze o0 (show(1:Int)≤3 by decide),hpk,DM,XO]
    by_cases h0:0<pk (y.y0.tdiv 3) 4
    ·rw[decide_eq_true h0,De]
     have e:kdM i y=0:=if_pos ⟨hi2,h0⟩
     rw[e] at hk52
     exact hk52
    ·rw[decide_eq_false h0,Bz]
     have e:kdM i y=y.y0:=if_neg λhc=>h0 hc.2
     rw[e] at hk52
     exact hk52
   ·rw[FE (by omega)]
    simp only[gTF,Cz,gU,WV]
    rw[Bz]
    have e:kdM i y=y.y0:=if_neg λhc=>hi2 hc.1
    rw[e] at hk52
    exact hk52
  ·have:i=min 8 xs.length:=by omega
   subst this
   by_cases h8:xs.length≤8
   ·rw[FE (by omega)]
    simp only[gTF,Cz,WV]
    rw[Bz]
    exact hfin g lv iv H hg hh
   ·rw[FW (by omega)]
    simp only[gT,Cz]
    rw[FE (by omega),Cz,XO,Bz]
    exact hfin g lv iv H hg hh
theorem B3E (hL:40000<L) (hx:XA xs a0) (hok:∀y∈xs,y.Ok):CT (rt (L+20) (n+65)) Tj [a0] (A4X (OC xs (min 8 xs.length))):=by
 intro K hK
 rw[A1x]
 unfold SK Av
 simp only[BX]
 refine C4Y hL hx hok (λg lv iv H hg hh=> ?_) (L+20) 0 [] AA AA [] _ _ _ _ (by omega) (by omega) rfl ⟨⟨(λp hp=>by cases hp),(λp hp=>by cases hp)⟩,.inl ⟨rfl,rfl,rfl⟩,λ_=>rfl,.inl ⟨rfl,rfl,rfl⟩,λ_=>rfl,(λs hs=>by obtain⟨_,_,_,h⟩:=hs;cases h),(λs hs=>by obtain⟨_,_,_,h⟩:=hs;cases h),FH⟩
 refine hK _ _ ?_
 rw[←hg]
 exact C2E (D:=depth-2) hh.gv hh.sl hh.nl
end
end
section
variable {L n:Nat}
section
variable {K:KV} {x:Aj} {gs:List Cd} {a w o sm:AV} {H:Hp} {ws:List Int}
theorem C2O (c:Cd) (H:Hp):∃p,(∀K:AV→Aj,AM 31 (.iptr c.cs) K=K p)∧∀K:AV→Aj,Ar Ac p H K=K (Ep c.ps):=by
 match c with
 | .re b u=>exact⟨_,λK=>_root_.id rfl,λK=>_root_.id rfl⟩
 | .co b p ps none=>exact⟨_,λK=>_root_.id rfl,λK=>_root_.id rfl⟩
 | .co b p ps (some (k,vd))=>exact⟨_,λK=>_root_.id rfl,λK=>_root_.id rfl⟩
theorem A4J {ps:List (List UInt8)} {K:AV→Aj}:AQ Ac (Ep ps) K=K (I ps.length):=(JU ps).len
end
end
end Go.Abs
end
