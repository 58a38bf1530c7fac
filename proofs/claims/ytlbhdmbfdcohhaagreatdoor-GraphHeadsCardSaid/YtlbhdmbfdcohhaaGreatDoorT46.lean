import Derived.Test.YtlbhdmbfdcohhaaGreatDoorT43
import Derived.Test.YtlbhdmbfdcohhaaGreatDoorT45
set_option linter.all false
set_option maxHeartbeats 100000000
noncomputable section
namespace Go.Abs
open Go.RowKit Go.Proofs
set_option maxRecDepth 100000
def Mj (gs:List Cd) (s:Bp):List Bp:=match JK (gE gs) s with
 |some c=>c.ps
 |none=>[]
inductive Anc (gs:List Cd) (s:Bp):Bp→Prop
 |one {x:Bp}:x∈gs.map Cd.id→x∈Mj gs s→Anc gs s x
 |more {x y:Bp}:Anc gs s y→x∈gs.map Cd.id→x∈Mj gs y→Anc gs s x
section
variable {gs:List Cd} {s x y p:Bp}
theorem Anc.ids (h:Anc gs s x):x∈gs.map Cd.id:=by
 cases h with
 |one h _=>exact h
 |more _ h _=>exact h
end
open Classical in
def XL (gs:List Cd) (s:Bp):List Bp:=IB ((gs.map Cd.id).filter λx=>decide (Anc gs s x))
section
variable {gs:List Cd} {s x p:Bp}
theorem A2x:x∈XL gs s↔Anc gs s x:=by
 rw[XL,(C5 _).mem_iff,List.mem_filter,@decide_eq_true_iff _ (_)]
 exact⟨λh=>h.2,λh=>⟨h.ids,h⟩⟩
theorem B8G (h:(gs.map Cd.id).Nodup):(XL gs s).Nodup:=(C5 _).symm.nodup (h.sublist List.filter_sublist)
theorem C3k:(XL gs s).Pairwise (· ≤ ·):=GF _
theorem A7r:(XL gs s).length≤gs.length:=by
 rw[XL,(C5 _).length_eq]
 have:=List.length_filter_le (λx=>@decide (Anc gs s x) (Classical.propDecidable _)) (gs.map Cd.id)
 rw[XU] at this
 exact this
structure An (gs:List Cd) (s:Bp) (b ns:List Bp):Prop where
 nd:b.Nodup
 an:∀q∈b,Anc gs s q
 nx:∀q∈ns,q∈Mj gs s∨∃y∈b,q∈Mj gs y
 cl:∀q∈gs.map Cd.id,(q∈Mj gs s∨∃y∈b,q∈Mj gs y)→q∈b∨q∈ns
theorem An.start:An gs s [] (Mj gs s):=⟨List.nodup_nil,by simp,λq h=> .inl h,λq _ h=>h.elim .inr λ⟨_,h,_⟩=>absurd h (by simp)⟩
theorem An.fin {b:List Bp} (hn:(gs.map Cd.id).Nodup) (h:An gs s b []):b.Perm (XL gs s):=by
 refine(List.perm_ext_iff_of_nodup h.nd (B8G hn)).2 λq=>⟨λhq=>A2x.2 (h.an q hq),λhq=> ?_⟩
 rw[A2x] at hq
 induction hq with
 |one h1 h2=>exact(h.cl _ h1 (.inl h2)).elim id λh=>absurd h (by simp)
 |more _ h1 h2 ih=>exact(h.cl _ h1 (.inr ⟨_,ih,h2⟩)).elim id λh=>absurd h (by simp)
theorem An.skip {b nx:List Bp} (h:An gs s b (p::nx)) (hp:p∈b∨p∉gs.map Cd.id):An gs s b nx:=
 ⟨h.nd,h.an,λq hq=>h.nx q (by simp[hq]),λq hq hc=>by
  rcases h.cl q hq hc with h1|h1
  ·exact .inl h1
  ·rcases TA.1 h1 with rfl|h1
   ·exact hp.elim .inl λh2=>absurd hq h2
   ·exact .inr h1⟩
theorem An.step {b nx:List Bp} (h:An gs s b (p::nx)) (hb:p∉b) (hp:p∈gs.map Cd.id):An gs s (b++[p]) (nx++Mj gs p):=by
 refine⟨List.nodup_append.2 ⟨h.nd,by simp,λa ha c hc=>by simp at hc;subst hc;exact λe=>hb (e▸ha)⟩,λq hq=> ?_,λq hq=> ?_,λq hq hc=> ?_⟩
 ·rcases YD.1 hq with h1|h1
  ·exact h.an q h1
  ·rw[Zo] at h1
   subst h1
   rcases h.nx q (by simp) with h2|⟨y,h2,h3⟩
   ·exact .one hp h2
   ·exact .more (h.an y h2) hp h3
 ·rcases YD.1 hq with h1|h1
  ·rcases h.nx q (by simp[h1]) with h2|⟨y,h2,h3⟩
   ·exact .inl h2
   ·exact .inr ⟨y,by simp[h2],h3⟩
  ·exact .inr ⟨p,by simp,h1⟩
 ·by_cases h0:q=p
  ·exact .inl (by simp[h0])
  ·have h1:(q∈Mj gs s∨∃y∈b,q∈Mj gs y)∨q∈Mj gs p:=by
    rcases hc with h1|⟨y,h1,h2⟩
    ·exact .inl (.inl h1)
    ·rcases YD.1 h1 with h3|h3
     ·exact .inl (.inr ⟨y,h3,h2⟩)
     ·rw[Zo] at h3
      exact .inr (h3▸h2)
   rcases h1 with h1|h1
   ·rcases h.cl q hq h1 with h2|h2
    ·exact .inl (by simp[h2])
    ·rcases TA.1 h2 with h2|h2
     ·exact absurd h2 h0
     ·exact .inr (by simp[h2])
   ·exact .inr (by simp[h1])
def B2V (gs:List Cd) (b:List Bp):Nat:=((gs.map Cd.id).filter λq=>decide (q∉b)).length
theorem B6w {b:List Bp}:B2V gs b≤gs.length:=by
 have:=List.length_filter_le (λq=>decide (q∉b)) (gs.map Cd.id)
 rw[XU] at this
 exact this
theorem B12 {b:List Bp} (hb:p∉b) (hp:p∈gs.map Cd.id):B2V gs (b++[p])<B2V gs b:=by
 refine YS (p:= λq=>decide (q∉b++[p])) (q:= λq=>decide (q∉b)) (λa _ h=> ?_) hp (by simp[hb]) (by simp)
 simp only[decide_eq_true_eq,YD,not_or] at h⊢
 exact h.1
theorem A9W (hp:∀c∈gs,c.ps.length<100):(Mj gs p).length<100:=by
 unfold Mj
 cases h:JK (gE gs) p with
 |none=>simp
 |some c=>exact hp c (B4G h).1
end
def TZ (H:Hp) (v:AV) (l:List Bp):Prop:=(v=AA∧l=[])∨∃r o q cs,v= .sl 1 r o l.length∧Aq H r=some (.cells q Ar cs)∧cs.drop o=AL l∧o+l.length=cs.length
section
variable {H:Hp} {v:AV} {l ps:List Bp} {K:AV→Aj} {p:Bp}
theorem TZ.len (h:TZ H v l):AR Ac v K=K (I l.length):=by
 rcases h with⟨rfl,rfl⟩|⟨r,o,q,cs,rfl,_⟩<;>exact _root_.id rfl
theorem B8s {r o m:Nat} (h:0<m):BA Ac (.sl 1 r o m) (.v (.int .i64 0)) K=K (.ptr r o 0):=by
 have e1:BA Ac (.sl 1 r o m) (I ((0:Nat):Int)) K=iN ((0:Nat):Int) λn=>ck (Nat.blt n m) (fN (Nat.add o (Nat.mul n 1)) λp=>K (.ptr r p 0)):=rfl
 show BA Ac (.sl 1 r o m) (I ((0:Nat):Int)) K=_
 rw[e1,JD,Dt]
 have h1:Nat.blt 0 m=true:=by rw[UM];exact h
 rw[h1];rfl
theorem B8q {r o m:Nat} (h:0<m):DI Ac (.sl 1 r o m) (some (.v (.int .i64 1))) none none K=K (.sl 1 r (o+1) (m-1)):=by
 have e1:DI Ac (.sl 1 r o m) (some (I ((1:Nat):Int))) none none K=ck (Nat.beq 1 1) (iN ((1:Nat):Int) λl=>fN m λh=>fN m λx=>ck ((true||false)&&(Nat.ble l h&&(Nat.ble h x&&Nat.ble x m))) (fN (Nat.add o (Nat.mul l 1)) λo'=>fN (Nat.sub h l) λn=>K (.sl 1 r o' n))):=rfl
 show DI Ac (.sl 1 r o m) (some (I ((1:Nat):Int))) none none K=_
 rw[e1,JD,Dt,Dt]
 have c:((true||false)&&(Nat.ble 1 m&&(Nat.ble m m&&Nat.ble m m)))=true:=by simp;omega
 rw[c]
 show fN (Nat.add o (Nat.mul 1 1)) (λo'=>fN (Nat.sub m 1) λn=>K (.sl 1 r o' n))=_
 rw[Dt,Dt];rfl
theorem TZ.front (h:TZ H v (p::l)):∃r o v1,(∀K:AV→Aj,BA Ac v (.v (.int .i64 0)) K=K (.ptr r o 0))∧(∀K:AV→Aj,Au Ae (.ptr r o 0) H K=K (S p))∧
 (∀K:AV→Aj,DI Ac v (some (.v (.int .i64 1))) none none K=K v1)∧TZ H v1 l∧∀u,AF v1 u→AF v u:=by
 rcases h with⟨_,h⟩|⟨r,o,q,cs,rfl,h1,h2,h3⟩
 ·cases h
 ·rw[K7] at h3
  have ho:o<cs.length:=by omega
  rw[l11 ho] at h2
  injection h2 with h4 h5
  refine⟨r,o,.sl 1 r (o+1) l.length,λK=>B8s (by simp),λK=> ?_,λK=> ?_,.inr ⟨r,o+1,q,cs,rfl,h1,h5,by omega⟩,λu ⟨a,b,c,e⟩=> ?_⟩
  ·rw[AK (p:=o) rfl h1 ho]
   rw[Ua,Kn ho,l1l,h4]
  ·rw[B8q (by simp)];rfl
  ·injection e with _ e;subst e;exact⟨1,o,_,rfl⟩
theorem TZ.lat {H':Hp} {P:Nat→Prop} (h:TZ H v l) (w:Wf H) (k:Lat H H' P) (hP:∀u,AF v u→¬P u):TZ H' v l:=by
 rcases h with h|⟨r,o,q,cs,h1,h2,h3⟩
 ·exact .inl h
 ·exact .inr ⟨r,o,q,cs,h1,k.keep w r _ h2 (hP r ⟨1,o,_,h1⟩),h3⟩
theorem TZ.lt (h:TZ H v l) (w:Wf H) {u:Nat} (hu:AF v u):u<A2 H:=by
 obtain⟨a,b,c,rfl⟩:=hu
 rcases h with⟨h,_⟩|⟨r,o,q,cs,h1,h2,h3⟩
 ·cases h
 ·injection h1 with _ h1;subst h1;exact w.lt h2
theorem A71 {K:Nat→List AV→Aj}:UZ H (DV ps) K=K ps.length (AL ps):=by
 cases ps with
 |nil=>exact B51
 |cons a l=>exact A41
theorem A68:(AL ps).all AV.one=true:=by
 rw[HF]
 intro y hy
 obtain⟨s,_,rfl⟩:=Zp.1 hy
 rfl
theorem A3C:(A17 Ac.d&&Uk 1 (DV ps))=true:=by
 cases ps<;>rfl
theorem TZ.app (h:TZ H v l) (hn:l.length+ps.length<1000000):∃v' H',(∀K:KV,DN Ar 1 Ae Ac v (DV ps) H K=K v' H')∧TZ H' v' (l++ps)∧(∀u,AF v' u→u=A2 H)∧Lat H H' (AF v):=by
 have hb:(l.length+ps.length)*Ae.bytes≤70368744177664:=by
  have:Ae.bytes≤100000:=by decide
  exact l1m (Nat.mul_le_mul (show l.length+ps.length≤1000000 by omega) this) (by decide)
 rcases h with⟨rfl,rfl⟩|⟨r,o,q,cs,rfl,h1,h2,h3⟩
 ·obtain⟨v',H',g1,g2,g3,g4⟩:=apt (H:=H) (e:=Ar) (sz:=1) (n:=0) (m:=ps.length) (ie:=Ae) (i2:=Ac) (v:=AA) (src:=DV ps) (cs:=[]) (ys:=AL ps) (.inl ⟨rfl,rfl,rfl⟩) (λK=>A71) (by rw[Cs];omega) A68 (by decide) rfl A3C (by simpa using hb) (by omega)
  refine⟨v',H',g1,?_,g3,g4⟩
  rcases g2 with⟨rfl,a,b⟩|⟨r,q,rfl,a,b⟩
  ·left
   refine⟨rfl,?_⟩
   have:ps.length=0:=by omega
   rw[List.nil_append];exact l1s this
  ·exact .inr ⟨r,0,q,_,by simp,a,by simp,by simp[Cs]⟩
 ·have hkey:∀K:KV,TW Ar 1 Ae Ac (.sl 1 r o l.length) (DV ps) H K=J3 H r λx=>Kw x λE cs=>GS cs 0 λcl=>
   ck (Nat.beq E Ar&&(Nat.beq 1 1&&(Nat.beq (Nat.add o (Nat.mul l.length 1)) cl&&(Nat.ble (Nat.mul (Nat.add l.length ps.length) Ae.bytes) 70368744177664&&Nat.ble (Nat.add l.length ps.length) 70368744177664))))
    (UV (D4 o cs) (AL ps) λcs'=>Lx H r .gone λH'=>Ih H λr=>fN (Nat.add l.length ps.length) λnm=>K (.sl 1 r 0 nm) ((r,.cells false Ar cs')::H')):= λK=>by
   unfold TW
   rw[A71,Cq,CQ,Cq]
   have c:(Nat.beq (0+(AL ps).length) (Nat.mul ps.length 1)&&(PZ (AL ps)&&(!Nat.beq 1 0&&(Nat.beq (0+(B9 Ae.zero).length) 1&&(A17 Ac.d&&Uk 1 (DV ps))))))=true:=by
    rw[Gk,A68,A3C,Cs]
    have e1:Nat.beq (0+ps.length) (Nat.mul ps.length 1)=true:=by
     rw[KN]
     show Nat.beq ps.length (ps.length*1)=true
     rw[l28];exact Zq _
    rw[e1];rfl
   rw[c];rfl
  refine⟨.sl 1 (A2 H) 0 (l.length+ps.length),(A2 H,.cells false Ar (AL (l++ps)))::upd H r .gone,λK=> ?_,?_,λu ⟨a,b,c,hh⟩=>by injection hh with _ hh;exact hh.symm,?_⟩
  ·have e1:DN Ar 1 Ae Ac (.sl 1 r o l.length) (DV ps) H K=J3 H r λx=>Kw x λE cs=>GS cs 0 λcl=>@Bool.rec (λ_=>Aj) (Qo (Nat.add o (Nat.mul l.length 1)) cs λcs'=>Lx H r (.cells false E cs') λH1=>TW Ar 1 Ae Ac (.sl 1 r o l.length) (DV ps) H1 K) (TW Ar 1 Ae Ac (.sl 1 r o l.length) (DV ps) H K) (Nat.beq (Nat.add o (Nat.mul l.length 1)) cl):=rfl
   rw[e1,B5 h1]
   have e2:∀F:TypeId→List AV→Aj,Kw (.cells q Ar cs) F=F Ar cs:= λ_=>rfl
   rw[e2,Cq]
   have c0:Nat.beq (Nat.add o (Nat.mul l.length 1)) (0+cs.length)=true:=by
    show Nat.beq (o+l.length*1) (0+cs.length)=true
    rw[l28,h3,KN];exact Zq _
   rw[c0]
   show TW Ar 1 Ae Ac (.sl 1 r o l.length) (DV ps) H K=_
   rw[hkey K]
   rw[B5 h1,e2,Cq]
   have c:(Nat.beq Ar Ar&&(Nat.beq 1 1&&(Nat.beq (Nat.add o (Nat.mul l.length 1)) (0+cs.length)&&(Nat.ble (Nat.mul (Nat.add l.length ps.length) Ae.bytes) 70368744177664&&Nat.ble (Nat.add l.length ps.length) 70368744177664))))=true:=by
    rw[c0,Zq,Zq]
    simp only[l16,Jq,YE]
    exact⟨hb,show l.length+ps.length≤_ by omega⟩
   rw[c]
   show UV (D4 o cs) (AL ps) _=_
   rw[KZ,Db,Ca,Dt,CL,h2]
   have e3:AL l++AL ps=AL (l++ps):=by simp[AL]
   rw[e3]
   rfl
  ·have h5:=A1 (H:=upd H r .gone) (x:= .cells false Ar (AL (l++ps))) (by simp)
   rw[BS] at h5
   exact .inr ⟨A2 H,0,false,_,by rw[XA2],h5,rfl,by rw[Cs];omega⟩
  ·have h4:Lat H (upd H r .gone) (AF (.sl 1 r o l.length)):=Lat.upd H r .gone ⟨1,o,_,rfl⟩
   have h5:=Lat.cons (upd H r .gone) (.cells false Ar (AL (l++ps))) (AF (.sl 1 r o l.length))
   rw[BS] at h5
   exact h4.trans h5 (λ_ _ h=>h) (λ_ _ h=>h)
end
section
variable {L n:Nat}
section
variable {gs:List Cd} {s p:Bp} {H:Hp} {K:KV} {x:Aj} {ps:List Bp}
theorem C5T (c:Cd) {K:AV→Aj}:A5h 31 Ac (.agg c.cs) K=K (DV c.ps):=by
 match c with
 | .re b u=>exact _root_.id rfl
 | .co b p ps none=>exact _root_.id rfl
 | .co b p ps (some (k,vd))=>exact _root_.id rfl
theorem B54 {K:AV→Aj}:(TE Ad false (gV gs) (SV s) H λv=>A5h 31 Ac v K)=K (DV (Mj gs s)):=by
 rw[A0A (f:=Kt) (b:=gE gs) (λK=>id rfl)]
 unfold Mj
 cases hf:JK (gE gs) s with
 |none=>exact _root_.id rfl
 |some c=>exact C5T c
theorem C6g:FG Ar 1 Ae 0 [] H K=K (.sl 1 (A2 H) 0 0) ((A2 H,.cells false Ar [])::H):=by
 have e:FG Ar 1 Ae 0 [] H K=Ih H (λs=>K (.sl 1 s 0 0) ((s,.cells false Ar [])::H)):=_root_.id rfl
 rw[e,Ca]
theorem B6r (wf:Wf H) (hn:ps.length<100) (hx:∀v H',TZ H' v ps→(∀u y,Aq H u=some y→Aq H' u=some y)→(∀u,AF v u→A2 H≤u)→Wf H'→K v H'=x):
 (rt (L+20) (n+1)).call Fw [DV ps] H K=x:=by
 rw[LI]
 unfold Fu
 cases ps with
 |nil=>
  have e:∀{K:AV→Aj},Go.Abs.Al Ac .eql (DV []) (AV.v (.slice none 0 0)) K=K (Bo true):= λ{K}=>id rfl
  rw[e,Dc]
  exact hx AA H (.inl ⟨rfl,rfl⟩) (λu y h=>h) (λu ⟨_,_,_,h⟩=>by cases h) wf
 |cons a l=>
  have e:∀{K:AV→Aj},Go.Abs.Al Ac .eql (DV (a::l)) (AV.v (.slice none 0 0)) K=K (Bo false):= λ{K}=>id rfl
  rw[e,Bx,C6g]
  have hb:=A1 (H:=H) (x:= .cells false Ar []) (by simp)
  have w1:=Bj (x:= .cells false Ar []) wf
  obtain⟨v',H',g1,g2,g3,g4⟩:=TZ.app (H:=(A2 H,.cells false Ar [])::H) (v:= .sl 1 (A2 H) 0 0) (l:=[]) (ps:=a::l) (.inr ⟨A2 H,0,false,[],rfl,hb,rfl,rfl⟩) (by simp at hn⊢;omega)
  rw[g1]
  refine hx v' H' g2 (λu y hu=> ?_) (λu hu=> ?_) (g4.wf w1)
  ·have hl:=wf.lt hu
   refine g4.keep w1 u y (AM hl hu) λ⟨_,_,_,h⟩=> ?_
   injection h with _ h;omega
  ·have:=g3 u hu
   have h2:A2 ((A2 H,Row.cells false Ar [])::H)=A2 H+1:=rfl
   omega
structure As (m:Nat) (b:List (Bp×Unit)) (v:AV) (nx:List Bp) (H:Hp):Prop where
 mm:Aq H m=some (.map false (ES uS b) none)
 sl:TZ H v nx
 nm:¬AF v m
 wf:Wf H
theorem C3j {m:Nat} {k16:AV→Hp→Aj} (hg:GOk gs) (hp:∀c∈gs,c.ps.length<100) (hx:∀b v H,As m b v [] H→An gs s (b.map Prod.fst) []→k16 (.mp m) H=x):
 ∀(f:Nat) (b:List (Bp×Unit)) (nx:List Bp) (v:AV) (H:Hp),B2V gs (b.map Prod.fst)*100+nx.length<f→B2V gs (b.map Prod.fst)*100+nx.length<2000→As m b v nx H→An gs s (b.map Prod.fst) nx→
 IY (L+20) (rt (L+20) (n+1)) K k16 f (gV gs) (.mp m) v H=x:=by
 intro f
 induction f with
 |zero=>intro b nx v H h;omega
 |succ f ih=>
  intro b nx v H hf hf2 ha hn
  have g:∀{K:AV→Aj},Go.Abs.Al Ab .gtr (I (nx.length:Int)) (.v (.int .i64 0)) K=K (Bo (decide (0<nx.length))):= λ{K}=>by
   rw[D7]
   congr 3
   simp
  rw[UO]
  unfold Ly Bh Av D3
  rw[ha.sl.len,g]
  cases nx with
  |nil=>
   rw[decide_eq_false (by simp),Bx]
   exact hx b v H ha hn
  |cons p nx=>
   obtain⟨r,o,v1,e1,e2,e3,s1,r1⟩:=ha.sl.front
   have ek:∀(F:Value→Aj),Ix (S p) F=F (SV p):= λF=>id rfl
   rw[K7] at hf hf2
   rw[decide_eq_true (by simp),Dc]
   simp only[BW]
   rw[e1,e2,e3,ek,Rx (f:=uS) (b:=b) (λK=>Pq ha.mm)]
   obtain⟨H2,e4,hc2,w2,k2⟩:=Ev (e:=LM) (zs:=[]) (vs:=[]) ha.wf rfl
   have hm2:=(k2 _ _ ha.mm).1
   have Sc:Lat H H2 (λ_=>False):=⟨λ_=>w2,by rw[e4,BS];exact l1p _,λ_ u y hu _=>(k2 u y hu).1⟩
   have s2:TZ H2 v1 nx:=s1.lat ha.wf Sc (λ_ _ h=>h)
   have n1:¬AF v1 m:= λh=>ha.nm (r1 m h)
   have a2:As m b v1 nx H2:=⟨hm2,s2,n1,w2⟩
   have z0:(BV.zero:AV)= .agg []:=rfl
   have ad:∀{F:AV→Hp→Aj},(AJ LM BV H λv35 H36=>CI BV v35 (.agg []) H36 λH37=>F v35 H37)=F (.ptr (A2 H) 0 0) H2:= λ{F}=>by
    rw[Bi (cs:=[]) rfl,B8 (cs:=[]) (vs:=[]) (A1 (by simp)) rfl rfl rfl,←e4]
   cases hfb:JK b p with
   |some w=>
    have hpb:p∈b.map Prod.fst:=Zp.2 ⟨_,X0 hfb,rfl⟩
    simp only[]
    rw[CZ,CY]
    show(AJ LM BV H λv35 H36=>CI BV v35 (.agg []) H36 λH37=>_)=_
    rw[ad (F:= λ_ H37=>_)]
    rw[Ks]
    simp only[Bool.not_true,gTF,gU,Cu,V3]
    rw[Bx]
    exact ih b nx v1 H2 (by omega) (by omega) a2 (hn.skip (.inl hpb))
   |none=>
    have hpb:p∉b.map Prod.fst:= λh=>by
     obtain⟨e,he,rfl⟩:=Zp.1 h
     have:∀b:List (Bp×Unit),e∈b→JK b e.1≠none:=by
      intro b
      induction b with
      |nil=>intro h;cases h
      |cons a b ih=>
       intro h
       unfold JK
       split
       ·simp
       ·rcases TA.1 h with h|h
        ·subst h;exact absurd rfl ‹_›
        ·exact ih h
     exact this b he hfb
    simp only[]
    rw[CZ,CY,z0]
    rw[ad (F:= λ_ H37=>_)]
    rw[Ks]
    by_cases hpi:p∈gs.map Cd.id
    ·simp only[Bool.not_false,gT,Cu,A4s,decide_eq_true hpi,Wz]
     have eb:∀{K:AV→Aj},B4 BV [] K=K (.agg []):= λ{K}=>id rfl
     rw[Dc,eb,ek]
     show Pu (.mp m) (SV p) (uS ()) H2 _=_
     rw[Tu (f:=uS) (v:=()) hm2,ek,B54]
     have l3:Lat H2 (upd H2 m (.map false (ES uS (G6 b p ())) none)) (λu=>u=m):=Lat.upd _ _ _ rfl
     have s3:TZ (upd H2 m (.map false (ES uS (G6 b p ())) none)) v1 nx:=s2.lat w2 l3 (λu hu e=>n1 (e▸hu))
     have hm3:Aq (upd H2 m (.map false (ES uS (G6 b p ())) none)) m=some (.map false (ES uS (G6 b p ())) none):=(Dr hm2).trans rfl
     have w3:=l3.wf w2
     have hpl:=A9W (p:=p) hp
     obtain⟨v',H',g1,g2,g3,g4⟩:=s3.app (ps:=Mj gs p) (by omega)
     rw[g1]
     have hk:(G6 b p ()).map Prod.fst=b.map Prod.fst++[p]:=by rw[B1d,if_neg hpb]
     have hl:=B12 hpb hpi
     have hst:=hn.step hpb hpi
     rw[←hk] at hl hst
     have hm4:=g4.keep w3 _ _ hm3 n1
     exact ih (G6 b p ()) (nx++Mj gs p) v' H' (by rw[XA2];omega) (by rw[XA2];omega) ⟨hm4,g2,λhu=>by have a1:=g3 m hu;have a2:=w3.lt hm3;omega,g4.wf w3⟩ hst
    ·simp only[Bool.not_false,gT,Cu,A4s,decide_eq_false hpi,Wz]
     rw[Bx]
     exact ih b nx v1 H2 (by omega) (by omega) a2 (hn.skip (.inr hpi))
theorem A63 {a:AV} (hg:GOk gs) (hL:40000<L) (hp:∀c∈gs,c.ps.length<100) (ha:LA gs a):CS (rt (L+20) (n+80)) Ds [a,S s] (DV (XL gs s)):=by
 intro K hK
 rw[K1]
 unfold HQ
 have hfx:OV true depth [a] [a] [] false:=by rcases ha with rfl|⟨_,rfl⟩<;>exact λK=>by kernel_rfl
 have of:∀{K:AV→Aj},Ai (rt (L+20) (n+79)) E0 [a] [] K=K (.tup [gV gs,Bo true]):= λ{K}=>Gz (λK hK=>B0P (n:=n+15) hg hL ha K hK) hfx
 have em:∀{K:KV},L9 BV [] K=K (.mp 0) [(0,.map false [] none)]:= λ{K}=>id rfl
 have ek:∀(F:Value→Aj),Ix (S s) F=F (SV s):= λF=>id rfl
 rw[of,CZ,CY,em,ek,B54]
 simp only[BW]
 have w1:Wf [(0,Row.map false [] none)]:=Bj (H:=[]) F8
 have hpl:=A9W (p:=s) hp
 have h8:=hg.len
 have hll:=B6w (gs:=gs) (b:=[])
 refine B6r (n:=n+78) w1 hpl λv H' hs hk hr wf=> ?_
 have hm0:=hk 0 (.map false [] none) rfl
 refine C3j (n:=n+78) (s:=s) hg hp (λb v H ha hn=> ?_) (L+20) [] (Mj gs s) v H' (by simp;omega) (by simp;omega) ⟨hm0,hs,λhu=>absurd (hr 0 hu) (by decide),wf⟩ An.start
 have hpm:=hn.fin hg.ids
 have hbl:b.length<1000:=by
  have h1:=hpm.length_eq
  have h2:=A7r (gs:=gs) (s:=s)
  rw[XU] at h1
  omega
 refine Zg (n:=n+73) (XP 6 _ (B3U _)) (by omega) (by omega) ha.wf ha.mm hpm C3k λv H hv hv0=> ?_
 exact hK _ _ λbb=>by
  obtain⟨q,hq⟩:=Xy (D:=depth-1) (b:=bb) hv hv0
  exact⟨q,hq⟩
end
end
section
variable {L n:Nat}
section
variable {gs:List Cd} {s:List UInt8}
theorem B8g (h:(gs.map Cd.id).Nodup) {i:Nat} (hi:i<gs.length):JK (gr gs) gs[i].id=some (cE gs[i]):=by
 induction gs generalizing i with
 |nil=>simp at hi
 |cons c gs ih=>
  rw[Vu,List.nodup_cons] at h
  show JK ((c.id,cE c)::gr gs) _=_
  unfold JK
  cases i with
  |zero=>rw[List.getElem_cons_zero,if_pos rfl]
  |succ i=>
   rw[List.getElem_cons_succ]
   have hi':i<gs.length:=by simpa using hi
   rw[if_neg (λe=>h.1 (Zp.2 ⟨_,QN hi',e.symm⟩))]
   exact ih h.2 hi'
theorem GOk.take (h:GOk gs) (m:Nat):GOk (gs.take m):=by
 have hm:∀c∈gs.take m,c∈gs:= λc hc=>l24 hc
 refine⟨λc hc=>h.ok c (hm c hc),λc hc=>h.nd c (hm c hc),?_,?_⟩
 ·rw[List.map_take]
  exact h.ids.sublist (List.take_sublist _ _)
 ·have:=h.len
  rw[l0g];omega
end
end
section
variable {L n:Nat}
theorem B4O {a:Int} {k:Nat} (h:Lc a) (hk:k<3):Lc (a.fdiv (2^(4*k))):=by
 unfold Lc at h⊢
 have e:a.fdiv (2^(4*k))=a/(2^(4*k)):=Int.fdiv_eq_ediv_of_nonneg _ (Int.le_of_lt (Int.pow_pos (by decide)))
 rw[e]
 obtain rfl|rfl|rfl:k=0∨k=1∨k=2:=by omega
 ·rw[show(2:Int)^(4*0)=1 by decide];omega
 ·rw[show(2:Int)^(4*1)=16 by decide];omega
 ·rw[show(2:Int)^(4*2)=256 by decide];omega
theorem C4l {j:TI} {K:AV→Aj} {a:Int} {k:Nat} (hk:k≤64):Go.Abs.Al j .shr (I a) (I k) K=K (I (a.fdiv (2^k))):=by
 have:Go.Abs.Al j .shr (I a) (I k) K=ck (ile 0 (k:Int)) (fI (a.fdiv (2^(min (k:Int).toNat 64))) λz=>K (.v (.int .i64 z))):=rfl
 rw[this,Sj,XT,l1x hk]
 have h1:ile 0 (k:Int)=true:=by rw[JW];simp
 rw[h1];rfl
theorem rd7 {H:Hp} {b:Nat} {y:Y7} (h:Aq H b=some (.cells true Vk y.cs)):
 (∀{K},Au Ab (.ptr b 0 0) H K=K (I y.y0))∧(∀{K},Au Ab (.ptr b 1 0) H K=K (I y.y1))∧(∀{K},Au Ab (.ptr b 2 0) H K=K (I y.y2))∧(∀{K},Au Ab (.ptr b 3 0) H K=K (I y.y3))∧(∀{K},Au Ab (.ptr b 4 0) H K=K (I y.y4))∧(∀{K},Au Ab (.ptr b 5 0) H K=K (I y.y5))∧(∀{K},Au Ab (.ptr b 6 0) H K=K (I y.y6)):=
 ⟨λ{K}=>AK (p:=0) rfl h (by simp[Y7.cs]),λ{K}=>AK (p:=1) rfl h (by simp[Y7.cs]),λ{K}=>AK (p:=2) rfl h (by simp[Y7.cs]),λ{K}=>AK (p:=3) rfl h (by simp[Y7.cs]),λ{K}=>AK (p:=4) rfl h (by simp[Y7.cs]),λ{K}=>AK (p:=5) rfl h (by simp[Y7.cs]),λ{K}=>AK (p:=6) rfl h (by simp[Y7.cs])⟩
theorem C5k {b:Nat} {K:AV→Aj}:BA BQ (.ptr b 0 0) (.v (.int .i64 0)) K=K (.ptr b 0 0):=Ec (z:=0) 0 rfl rfl (by decide)
theorem C7i {b:Nat} {K:AV→Aj}:BA BQ (.ptr b 0 0) (.v (.int .i64 1)) K=K (.ptr b 1 0):=Ec (z:=1) 1 rfl rfl (by decide)
theorem C7h {b:Nat} {K:AV→Aj}:BA BQ (.ptr b 0 0) (.v (.int .i64 2)) K=K (.ptr b 2 0):=Ec (z:=2) 2 rfl rfl (by decide)
theorem C7g {b:Nat} {K:AV→Aj}:BA BQ (.ptr b 0 0) (.v (.int .i64 3)) K=K (.ptr b 3 0):=Ec (z:=3) 3 rfl rfl (by decide)
theorem C7f {b:Nat} {K:AV→Aj}:BA BQ (.ptr b 0 0) (.v (.int .i64 4)) K=K (.ptr b 4 0):=Ec (z:=4) 4 rfl rfl (by decide)
theorem C7e {b:Nat} {K:AV→Aj}:BA BQ (.ptr b 0 0) (.v (.int .i64 5)) K=K (.ptr b 5 0):=Ec (z:=5) 5 rfl rfl (by decide)
theorem C5j {b:Nat} {K:AV→Aj}:BA BQ (.ptr b 0 0) (.v (.int .i64 6)) K=K (.ptr b 6 0):=Ec (z:=6) 6 rfl rfl (by decide)
structure Pa (H0:Hp) (ps:List (List UInt8)) (u:AV) (H:Hp):Prop where
 sl:Bu H Ar 1 u ps.length (AL ps)
 nl:ps=[]→u=AA
 fr:∀s,AF u s→A2 H0≤s
 wf:Wf H
 w0:Wf H0
 nx:A2 H0≤A2 H
 kp:∀s q,Aq H0 s=some q→Aq H s=some q
section
variable {K:KV} {x:Aj} {H0 H H':Hp} {y:Y7} {ids:List (List UInt8)} {a0 lv iv kd:AV} {q7 i:Nat}
theorem C4L {k125:AV→AV→AV→AV→AV→AV→AV→AV→Hp→Aj} (hL:100<L) (h6:Lc y.y6) (hq:Aq H0 q7=some (.cells true Vk y.cs)) (hi:Bu H0 Ar 1 iv ids.length (AL ids)) (hb:ids.length<100)
 (hfin:∀u k H,Pa H0 (paM ids y.y6 3) u H→k125 a0 lv iv (I i) (.ptr q7 0 0) kd u k H=x):
 ∀(f k:Nat) (u:AV) (H:Hp),k≤3→3-k<f→Pa H0 (paM ids y.y6 k) u H→
 NP (L+20) (rt (L+20) (n+64)) K k125 f a0 lv iv (I i) (.ptr q7 0 0) kd u (I k) H=x:=by
 intro f
 induction f with
 |zero=>intro k u H _ h;omega
 |succ f ih=>
  intro k u H hk hf hh
  rw[ZD]
  unfold QW Bh Av D3
  have e3:(AV.v (.int .i64 3))=I ((3:Nat):Int):=rfl
  have hiH:=hi.kp λs q _=>hh.kp s q
  rw[e3]
  by_cases h:k<3
  ·rw[FL (by omega)]
   simp only[gT,Cu,JH (t:=Ac) rfl hiH,D7]
   by_cases h0:0<ids.length
   ·have hm:=Nat.mod_lt (pk (y.y6.fdiv (2^(4*k))) 16).toNat h0
    have pr:=EZ (c:=y.y6.fdiv (2^(4*k))) (n:=16) (by decide)
    obtain⟨-, -, -, -, -, -,d6⟩:=rd7 (hh.kp _ _ hq)
    have ml:∀{K:AV→Aj},Go.Abs.Al Ab .mul (.v (.int .i64 4)) (I (k:Int)) K=K (I ((4*k:Nat):Int)):= λ{K}=>by
     rw[O9,Cl (by omega) (by omega)];rw[show(4:Int)*(k:Int)=((4*k:Nat):Int) by omega]
    have hpk:∀{H K},Ai (rt (L+20) (n+64)) Ko [I (y.y6.fdiv (2^(4*k))),.v (.int .i64 16)] H K=K (I (pk (y.y6.fdiv (2^(4*k))) 16)):= λ{H K}=>A6v (n:=n+63) (B4O h6 h) (by decide) (by decide) H K
    have ad:∀{K:AV→Aj},Go.Abs.Al Ab .add (I k) (.v (.int .i64 1)) K=K (I ((k+1:Nat):Int)):= λ{K}=>Dv (by omega)
    rw[decide_eq_true (by omega),Wz,Dc]
    simp only[BW]
    rw[C5j,d6,ml,C4l (by omega),hpk,DM]
    have e1:paM ids y.y6 (k+1)=if 0<ids.length∧pk (y.y6.fdiv (2^(4*k))) 16<14 then paM ids y.y6 k++[ids.getD ((pk (y.y6.fdiv (2^(4*k))) 16).toNat%ids.length) []] else paM ids y.y6 k:=rfl
    by_cases h14:pk (y.y6.fdiv (2^(4*k))) 16<14
    ·rw[if_pos ⟨h0,h14⟩] at e1
     have hpl:PL H ids iv:= .inr hiH
     obtain⟨p,g1,g2⟩:=hpl.at2 hm
     have rm:∀{K:AV→Aj},Go.Abs.Al Ab .rem (I (pk (y.y6.fdiv (2^(4*k))) 16)) (I (ids.length:Int)) K=K (I (((pk (y.y6.fdiv (2^(4*k))) 16).toNat%ids.length:Nat):Int)):= λ{K}=>by
      rw[Vd (by omega),Int.tmod_eq_emod_of_nonneg pr.1]
      have:(pk (y.y6.fdiv (2^(4*k))) 16)=(((pk (y.y6.fdiv (2^(4*k))) 16).toNat:Nat):Int):=by omega
      rw[this,XT];rfl
     have hln:=B01 (ids:=ids) (y6:=y.y6) k
     obtain⟨u',H',a1,a2,a3,a4,a5,a6⟩:=A7p (ie:=Ae) (i2:=Ac) (ys:=AL [ids[(pk (y.y6.fdiv (2^(4*k))) 16).toNat%ids.length]]) hh.sl hh.wf rfl rfl (by decide) rfl (λ_=>rfl) (by show(_+1)*16≤_;omega) (by omega)
     have e2:ids.getD ((pk (y.y6.fdiv (2^(4*k))) 16).toNat%ids.length) []=ids[(pk (y.y6.fdiv (2^(4*k))) 16).toNat%ids.length]:=by simp[List.getD,Kn hm]
     rw[e2] at e1
     have g0:=hh.nx
     rw[decide_eq_true h14,Dc,rm,g1,g2,XJ,a1,ad]
     refine ih (k+1) u' H' (by omega) (by omega) ⟨?_,λe=> ?_,λs hs=> ?_,a3,hh.w0,by omega,λs q hs=> ?_⟩
     ·rw[e1,XA2]
      have:AL (paM ids y.y6 k++[ids[(pk (y.y6.fdiv (2^(4*k))) 16).toNat%ids.length]])=AL (paM ids y.y6 k)++AL [ids[(pk (y.y6.fdiv (2^(4*k))) 16).toNat%ids.length]]:=by simp[AL]
      rw[this]
      exact a2
     ·rw[e1] at e;simp at e
     ·have:=a6 s hs;omega
     ·exact a5 _ _ (hh.kp s q hs) λe=>by have:=hh.fr s e;have:=hh.w0.lt hs;omega
    ·rw[if_neg λhc=>h14 hc.2] at e1
     rw[decide_eq_false h14,Bx,ad]
     exact ih (k+1) u H (by omega) (by omega) (by rw[e1];exact hh)
   ·rw[decide_eq_false (by omega),Wz,Bx]
    have e0:∀k,paM ids y.y6 k=[]:=by
     intro k
     induction k with
     |zero=>rfl
     |succ k ihk=>unfold paM;rw[if_neg λhc=>h0 hc.1];exact ihk
    refine hfin u _ H ?_
    rw[e0] at hh⊢
    exact hh
  ·have:k=3:=by omega
   subst this
   rw[FE (by omega)]
   simp only[gTF,Cu,V3]
   rw[Bx]
   exact hfin u _ H hh
end
end
section
variable {L n:Nat}
structure Gm (g:GV) (lv iv:AV) (H:Hp):Prop where
 gv:GvOk g H
 sl:Bu H Ak 68 lv g.length (gvC g)
 nl:g=[]→lv=AA
 si:Bu H Ar 1 iv g.length (AL ((g.map Prod.fst).map Cd.id))
 ni:g=[]→iv=AA
 dl:∀s,AF lv s→¬AF iv s∧∀p∈g,¬AF p.2 s
 di:∀s,AF iv s→∀p∈g,¬AF p.2 s
 wf:Wf H
section
variable {K:KV} {x:Aj} {H0 H H':Hp} {g:GV} {lv iv a0:AV} {c:Cd} {v:AV}
theorem Gm.grow (h:Gm g lv iv H) (wf:Wf H') (kp:∀s q,Aq H s=some q→Aq H' s=some q):Gm g lv iv H':=
 ⟨⟨λp hp=>(h.gv.sl p hp).kp λs q _=>kp s q,h.gv.nl⟩,h.sl.kp λs q _=>kp s q,h.nl,h.si.kp λs q _=>kp s q,h.ni,h.dl,h.di,wf⟩
theorem Gm.lti (h:Gm g lv iv H) {s:Nat} (hs:AF iv s):s<A2 H:=h.si.lt h.wf hs
theorem Gm.ltl (h:Gm g lv iv H) {s:Nat} (hs:AF lv s):s<A2 H:=h.sl.lt h.wf hs
theorem Gm.ltp (h:Gm g lv iv H) {s:Nat} {p:Cd×AV} (hp:p∈g) (hs:AF p.2 s):s<A2 H:=(h.gv.sl p hp).lt h.wf hs
theorem C7N {cs:List AV} {H:Hp} {K:KV} (hl:cs.length=68) (h1:cs.all AV.one=true):FG Ak 68 Ad 1 [(0,68,.agg cs)] H K=K (.sl 68 (A2 H) 0 1) ((A2 H,.cells false Ak cs)::H):=by
 have e1:FG Ak 68 Ad 1 [(0,68,.agg cs)] H K=Ho (.agg cs) λvs=>GS vs 0 λn=>ck (Nat.beq n 68) (ck (PZ vs) (EE 0 vs BL λcs'=>Ih H λs=>K (.sl 68 s 0 1) ((s,.cells false Ak cs')::H))):=_root_.id rfl
 have hc:B9 (.agg cs)=cs:=rfl
 rw[e1,CQ,hc,Cq,hl,Gk,h1]
 show EE 0 cs BL _=_
 rw[JX _ _ _ _ (by rw[hl];decide),SE _ _ (by rw[hl];rfl),Ca]
theorem Gm.add (h:Gm g lv iv H) (hv:Bu H Ar 1 v c.ps.length (AL c.ps)) (hn:c.ps=[]→v=AA) (hd:∀s,AF v s→¬AF lv s∧¬AF iv s) (hb:g.length<100):
 ∃lv' H1 iv' H2,(∀K:KV,(FG Ak 68 Ad 1 [(0,68,.agg (c.csP v))] H λv1 H1=>DN Ak 68 Ad B3 lv v1 H1 K)=K lv' H1)∧
  (∀K:KV,(FG Ar 1 Ae 1 [(0,1,S c.id)] H1 λv1 H2=>DN Ar 1 Ae Ac iv v1 H2 K)=K iv' H2)∧Gm (g++[(c,v)]) lv' iv' H2:=by
 obtain⟨lv',H1,a1,a2,a3,a4,a5,a6⟩:=A7p (ie:=Ad) (i2:=B3) (ys:=c.csP v) h.sl h.wf (Tx c) (XG c (Bu.one hv)) (by decide) rfl (λ_=>rfl) (by show(_+1)*800≤_;omega) (by omega)
 have si1:Bu H1 Ar 1 iv g.length (AL ((g.map Prod.fst).map Cd.id)):=h.si.kp λs q hs hl=>a5 s q hl (λe=>(h.dl s e).1 hs)
 obtain⟨iv',H2,b1,b2,b3,b4,b5,b6⟩:=A7p (ie:=Ae) (i2:=Ac) (ys:=AL [c.id]) si1 a3 rfl rfl (by decide) rfl (λ_=>rfl) (by show(_+1)*16≤_;omega) (by omega)
 have kp:∀s q,¬AF lv s→¬AF iv s→Aq H s=some q→Aq H2 s=some q:= λs q h1 h2 hs=>b5 _ _ (a5 _ _ hs h1) h2
 refine⟨lv',H1,iv',H2,λK=>by rw[C7N (Tx c) (XG c (Bu.one hv))];exact a1 K,λK=>by rw[XJ];exact b1 K,⟨λp hp=> ?_,λp hp=> ?_⟩,?_,λe=>by simp at e,?_,λe=>by simp at e,λs hs=>⟨λe=> ?_,λp hp e=> ?_⟩,λs hs p hp e=> ?_,b3⟩
 ·rcases YD.1 hp with hp|hp
  ·exact(h.gv.sl p hp).kp λs q hs=>kp s q (λe=>(h.dl s e).2 p hp hs) (λe=>h.di s e p hp hs)
  ·rw[Zo] at hp;subst hp
   exact hv.kp λs q hs=>kp s q (hd s hs).1 (hd s hs).2
 ·rcases YD.1 hp with hp|hp
  ·exact h.gv.nl p hp
  ·rw[Zo] at hp;subst hp;exact hn
 ·have e1:gvC (g++[(c,v)])=gvC g++c.csP v:=by simp[gvC]
  rw[e1,XA2]
  exact Bu.kp a2 λs q hs hl=>b5 s q hl λe=>by have:=a6 s hs;have:=h.lti e;omega
 ·have e1:AL (((g++[(c,v)]).map Prod.fst).map Cd.id)=AL ((g.map Prod.fst).map Cd.id)++AL [c.id]:=by simp[AL]
  rw[e1,XA2]
  exact b2
 ·have:=b6 s e
  have:=Bu.lt a2 a3 hs
  omega
 ·have:=a6 s hs
  rcases YD.1 hp with hp|hp
  ·have:=h.ltp hp e;omega
  ·rw[Zo] at hp;subst hp
   have:=hv.lt h.wf e;omega
 ·have:=b6 s hs
  rcases YD.1 hp with hp|hp
  ·have:=h.ltp hp e;omega
  ·rw[Zo] at hp;subst hp
   have:=hv.lt h.wf e;omega
def XA (xs:List Y7) (a:AV):Prop:=a= .list xs.length (xs.flatMap Y7.cs)∨(xs=[]∧a=AA)
theorem XA.len {xs:List Y7} {a:AV} {K:AV→Aj} (h:XA xs a):AR KG a K=K (I xs.length):=by
 rcases h with rfl|⟨rfl,rfl⟩<;>exact _root_.id rfl
theorem XA.ia {xs:List Y7} {a:AV} {i:Nat} {K:AV→Aj} (h:XA xs a) (hi:i<xs.length):BA KG a (I i) K=K (.iptr xs[i].cs):=by
 rcases h with rfl|⟨rfl,rfl⟩
 ·exact A2i (f:=Y7.cs) rfl (λ_=>rfl) hi
 ·simp at hi
end
end
section
variable {L n:Nat}
section
variable {K:KV} {x:Aj} {xs:List Y7} {a0:AV}
theorem b6 {a b c d e f:Int} {K:AV→Aj}:B4 Bq [(0,1,I a),(1,1,I b),(2,1,I c),(3,1,I d),(4,1,I e),(5,1,I f)] K=K (.agg [I a,I b,I c,I d,I e,I f]):=id rfl
theorem b4 {a b c d:Int} {K:AV→Aj}:B4 Cn [(0,1,I a),(1,1,I b),(2,1,I c),(3,1,I d)] K=K (.agg [I a,I b,I c,I d]):=id rfl
theorem bs4 {a b c d:Int} {H:Hp} {K:KV}:FG Gj 4 Cn 1 [(0,4,.agg [I a,I b,I c,I d])] H K=K (.sl 4 (A2 H) 0 1) ((A2 H,.cells false Gj [I a,I b,I c,I d])::H):=by
 have e:FG Gj 4 Cn 1 [(0,4,.agg [I a,I b,I c,I d])] H K=Ih H (λs=>K (.sl 4 s 0 1) ((s,.cells false Gj [I a,I b,I c,I d])::H)):=_root_.id rfl
 rw[e,Ca]
theorem C4W {k4:AV→Hp→Aj} (hL:40000<L) (hx:XA xs a0) (hok:∀y∈xs,y.Ok)
 (hfin:∀g lv iv H,g.map Prod.fst=OA xs (min 8 xs.length)→Gm g lv iv H→k4 lv H=x):
 ∀(f i:Nat) (g:GV) (lv iv:AV) (H:Hp) (d0 d1 d2 d3:AV),i≤min 8 xs.length→min 8 xs.length-i<f→g.map Prod.fst=OA xs i→Gm g lv iv H→
 NQ (L+20) (rt (L+20) (n+64)) K k4 f a0 lv iv (I i) d0 d1 d2 d3 H=x:=by
 intro f
 induction f with
 |zero=>intro i g lv iv H d0 d1 d2 d3 _ h;omega
 |succ f ih=>
  intro i g lv iv H d0 d1 d2 d3 hi hf hg hh
  rw[ZE]
  unfold QX Bh Av D3
  have e8:(AV.v (.int .i64 8))=I ((8:Nat):Int):=rfl
  rw[hx.len,e8]
  by_cases h:i<min 8 xs.length
  ·have hlt:i<xs.length:=by omega
   obtain⟨y,hy⟩:∃y,xs[i]=y:=⟨_,rfl⟩
   have hyo:=hok _ (QN hlt)
   have hgd:xs.getD i ⟨0,0,0,0,0,0,0⟩=y:=by rw[←hy];simp[List.getD,Kn hlt]
   rw[hy] at hyo
   obtain⟨o0,o1,o2,o3,o4,o5,o6⟩:=hyo
   rw[FL (by omega)]
   simp only[gT,Cu]
   rw[FL (by omega),Cu,Wz,Dc]
   refine Lw λk23 h23=> ?_
   refine Lw λk34 h34=> ?_
   have gsl:(OA xs i).length=g.length:=by rw[←hg,XU]
   have g8:=(B4A xs i (by omega)).2
   have es:OA xs (i+1)=if(cM i y ((OA xs i).map Cd.id)).ps.Nodup∧(cM i y ((OA xs i).map Cd.id)).id∉(OA xs i).map Cd.id then OA xs i++[cM i y ((OA xs i).map Cd.id)] else OA xs i:=by
    have:OA xs (i+1)=if(cM i (xs.getD i ⟨0,0,0,0,0,0,0⟩) ((OA xs i).map Cd.id)).ps.Nodup∧(cM i (xs.getD i ⟨0,0,0,0,0,0,0⟩) ((OA xs i).map Cd.id)).id∉(OA xs i).map Cd.id
     then OA xs i++[cM i (xs.getD i ⟨0,0,0,0,0,0,0⟩) ((OA xs i).map Cd.id)] else OA xs i:=rfl
    rw[this,hgd]
   have hk34:∀g' lv' iv' q kd u k H',g'.map Prod.fst=OA xs (i+1)→Gm g' lv' iv' H'→k34 a0 lv' iv' (I i) q kd u k H'=x:=by
    intro g' lv' iv' q kd u k H' h1 h2
    have ad:∀{K:AV→Aj},Go.Abs.Al Ab .add (I i) (.v (.int .i64 1)) K=K (I ((i+1:Nat):Int)):= λ{K}=>Dv (by omega)
    rw[h34,h23]
    simp only[ad]
    exact ih (i+1) g' lv' iv' H' q kd u k (by omega) (by omega) h1 h2
   clear h23 h34 ih hfin
   have l7:∀{H} {K:AV→Aj},Au BQ (.iptr y.cs) H K=K (.agg y.cs):= λ{H K}=>_root_.id rfl
   obtain⟨H1,e1,m1,w1,kp1⟩:=Ev (e:=Vk) (zs:=[zI,zI,zI,zI,zI,zI,zI]) (vs:=y.cs) hh.wf rfl
   rw[hx.ia hlt,hy,l7,Bi (cs:=[zI,zI,zI,zI,zI,zI,zI]) rfl,B8 (cs:=[zI,zI,zI,zI,zI,zI,zI]) (vs:=y.cs) (A1 (by simp)) rfl rfl rfl,←e1]
   have h1:=hh.grow w1 λs q hs=>(kp1 s q hs).1
   generalize A2 H=q7 at m1
   clear e1 kp1 hh
   obtain⟨d0', -⟩:=rd7 m1
   rw[C5k,d0']
   refine Lw λk52 h52=> ?_
   have hk52:k52 (I (kdM i y)) H1=x:=by
    rw[h52]
    clear h52
    refine Lw λk55 h55=> ?_
    refine Lw λk125 h125=> ?_
    have hsi:=h1.si
    rw[hg] at hsi
    have hil:((OA xs i).map Cd.id).length=g.length:=by rw[XU,gsl]
    refine C4L (n:=n) (ids:=(OA xs i).map Cd.id) (by omega) o6 m1 (by rw[hil];exact hsi) (by rw[hil];omega) (λu k H2 hp=> ?_) (L+20) 0 AA H1 (by omega) (by omega) ⟨.inl ⟨rfl,rfl,rfl⟩,λ_=>rfl,(λs hs=>by obtain⟨_,_,_,h⟩:=hs;cases h),w1,w1,OU _,λ_ _ h=>h⟩
    rw[h125,h55]
    clear h125 h55
    obtain⟨-,r1,r2,r3,r4,r5,r6⟩:=rd7 (hp.kp _ _ m1)
    simp only[C7i,C7h,C7g,C7f,C7e,C5j,r1,r2,r3,r4,r5,r6]
    rw[b6,b6,b4,bs4]
    obtain⟨H3,s3,e3,es3,m3,w3,kp3⟩:=push hp.wf (.cells false Gj [I y.y3,I y.y4,I y.y5,I y.y6]) (by simp)
    rw[←es3,←e3]
    have hkd:Lc (kdM i y):=by
     unfold kdM
     split
     ·unfold Lc;omega
     ·exact o0
    have hya:YA H3 (some (y.y3,y.y4,y.y5,y.y6)) (.sl 4 s3 0 1):= λH' kp=>⟨true,Xz (D:=depth-1) (q':=false) (kp _ _ m3) rfl (K9 (λz:Int=>Value.int .i64 z) [y.y3,y.y4,y.y5,y.y6])⟩
    have hpl:PL H3 (paM ((OA xs i).map Cd.id) y.y6 3) u:= .inr (hp.sl.kp λs q _ hs=>(kp3 _ _ hs).1)
    have h3:=h1.grow w3 λs q hs=>(kp3 _ _ (hp.kp s q hs)).1
    have hpm:=B01 (ids:=(OA xs i).map Cd.id) (y6:=y.y6) 3
    clear r1 r2 r3 r4 r5 r6 e3 es3 m3 h1
    have h32:∀s∈paM ((OA xs i).map Cd.id) y.y6 3,s.length=32:= λs hs=>by
     obtain⟨c,_,rfl⟩:=Zp.1 (B00 _ s hs)
     exact A9h c
    refine A1t (n:=n+20) (y:=some (y.y3,y.y4,y.y5,y.y6)) hL w3 hkd o1 o2 o3 o4 o5 o1 o2 o3 o4 o5 o6 hya ⟨o3,o4,o5,o6⟩ hpl (by omega) h32 ?_
    show∀v H',Bu H' Ar 1 v (cM i y ((OA xs i).map Cd.id)).ps.length (AL (cM i y ((OA xs i).map Cd.id)).ps)→((cM i y ((OA xs i).map Cd.id)).ps=[]→v=AA)→Wf H'→(∀s q,Aq H3 s=some q→Aq H' s=some q)→(∀s,AF v s→A2 H3≤s)→_
    intro v H4 sv nv w4 kp4 fr4
    have cok:(cM i y ((OA xs i).map Cd.id)).Ok:=B9k
    have ec:cdM (kdM i y) y.y1 y.y2 y.y3 y.y4 y.y5 y.y1 y.y2 y.y3 y.y4 y.y5 y.y6 (some (y.y3,y.y4,y.y5,y.y6)) (paM ((OA xs i).map Cd.id) y.y6 3)=cM i y ((OA xs i).map Cd.id):=rfl
    rw[ec]
    generalize cM i y ((OA xs i).map Cd.id)=c at sv nv cok es⊢
    have h4:=h3.grow w4 kp4
    have hd:∀s,AF v s→¬AF lv s∧¬AF iv s:= λs hs=>⟨λe=>by have:=h3.ltl e;have:=fr4 s hs;omega,λe=>by have:=h3.lti e;have:=fr4 s hs;omega⟩
    obtain⟨H5,e5,m5,w5,kp5⟩:=Ev (e:=Ak) (zs:=BL) (vs:=c.csP v) w4 (Tx c)
    rw[Bi (cs:=BL) rfl,B8 (cs:=BL) (vs:=c.csP v) (A1 (by simp)) (Tx c) rfl (XG c (Bu.one sv)),←e5]
    have h5:=h4.grow w5 λs q hs=>(kp5 s q hs).1
    have sv5:=Bu.kp sv λs q _ hs=>(kp5 s q hs).1
    generalize A2 H4=r at m5
    have lc:∀{K},Au Ad (.ptr r 0 0) H5 K=K (.agg (c.csP v)):= λ{K}=>Br rfl (by rw[Tx];rfl) m5
    clear e5 kp5 h4 h3 sv kp4 fr4 m5
    have hlen:((OA xs i).map Cd.id).length<1000:=by rw[hil];omega
    have hne:([]:List UInt8)∉(OA xs i).map Cd.id:= λe=>by
     obtain⟨d,_,hd⟩:=Zp.1 e
     exact A2r d hd
    have has:∀{s:List UInt8} {K},Ai (rt (L+20) (n+64)) L6 [iv,S s] H5 K=K (Xw s ((OA xs i).map Cd.id) 0):= λ{s K}=>by
     have si5:=h5.si
     rw[hg,←hil] at si5
     have ni5:(OA xs i).map Cd.id=[]→iv=AA:= λe=>h5.ni (by
      have:g.length=0:=by rw[←hil,e];rfl
      exact l1s this)
     obtain⟨q,hq⟩:=Xy (D:=depth-1) (b:=true) si5 ni5
     exact AT (B3H (L:=L) (n:=n+63) (s:=s) (I5 ((OA xs i).map Cd.id)) hlen (by omega)) (Ax hq (Ax (q:=false) D1 Ba))
    obtain⟨qc,hqc⟩:=A5k (D:=depth-2) sv5 nv
    by_cases hnd:c.ps.Nodup
    ·have hid:∀{K},Ai (rt (L+20) (n+64)) Hh [.agg (c.csP v)] H5 K=K (S c.id):= λ{K}=>AT (A9g (n:=n) hL cok hnd) (Ax (Qn (D:=depth-1) hqc) Ba)
     rw[lc,hid,has]
     by_cases hm:c.id∈(OA xs i).map Cd.id
     ·obtain⟨k,hk, -, -,e⟩:=Xu _ 0 hm
      rw[if_neg λhc=>hc.2 hm] at es
      rw[e,CZ,CY,YY,decide_eq_false (A2r c),Bool.not_false]
      simp only[gT,Cu,ntT,Wz]
      rw[Bx]
      exact hk34 g lv iv _ _ _ _ H5 (by rw[es];exact hg) h5
     ·rw[if_pos ⟨hnd,hm⟩] at es
      obtain⟨lv',H6,iv',H7,b1,b2,b3⟩:=h5.add sv5 nv hd (by omega)
      rw[Xv _ 0 hm,CZ,CY,YY,decide_eq_false (A2r c),Bool.not_false]
      simp only[gT,Cu,ntF,Wz]
      rw[Dc,lc,b1,b2]
      exact hk34 (g++[(c,v)]) lv' iv' _ _ _ _ H7 (by rw[es,YG,hg];rfl) b3
    ·have hid:∀{K},Ai (rt (L+20) (n+64)) Hh [.agg (c.csP v)] H5 K=K (S []):= λ{K}=>AT (B8z (n:=n) hL cok hnd) (Ax (Qn (D:=depth-1) hqc) Ba)
     rw[if_neg λhc=>hnd hc.1] at es
     rw[lc,hid,has,Xv _ 0 hne,CZ,CY,YY,decide_eq_true rfl,Bool.not_true]
     simp only[gTF,Cu,V3]
     rw[Bx]
     exact hk34 g lv iv _ _ _ _ H5 (by rw[es];exact hg) h5
   have e2:(AV.v (.int .i64 2))=I ((2:Nat):Int):=rfl
   rw[e2]
   by_cases hi2:i<2
   ·have hpk:∀{H K},Ai (rt (L+20) (n+64)) Ko [I (y.y0.tdiv 3),.v (.int .i64 4)] H K=K (I (pk (y.y0.tdiv 3) 4)):= λ{H K}=>A6v (n:=n+63) (LL o0 (by decide)) (by decide) (by decide) H K
    rw[FL (by omega)]
    simp only[gT,Cu,C5k,d0',Zk o0 (show(1:Int)≤3 by decide),hpk,D7,Wz]
    by_cases h0:0<pk (y.y0.tdiv 3) 4
    ·rw[decide_eq_true h0,Dc]
     have e:kdM i y=0:=if_pos ⟨hi2,h0⟩
     rw[e] at hk52
     exact hk52
    ·rw[decide_eq_false h0,Bx]
     have e:kdM i y=y.y0:=if_neg λhc=>h0 hc.2
     rw[e] at hk52
     exact hk52
   ·rw[FE (by omega)]
    simp only[gTF,Cu,gU,V3]
    rw[Bx]
    have e:kdM i y=y.y0:=if_neg λhc=>hi2 hc.1
    rw[e] at hk52
    exact hk52
  ·have:i=min 8 xs.length:=by omega
   subst this
   by_cases h8:xs.length≤8
   ·rw[FE (by omega)]
    simp only[gTF,Cu,V3]
    rw[Bx]
    exact hfin g lv iv H hg hh
   ·rw[FL (by omega)]
    simp only[gT,Cu]
    rw[FE (by omega),Cu,Wz,Bx]
    exact hfin g lv iv H hg hh
theorem B3B (hL:40000<L) (hx:XA xs a0) (hok:∀y∈xs,y.Ok):CT (rt (L+20) (n+65)) To [a0] (A8I (OA xs (min 8 xs.length))):=by
 intro K hK
 rw[A1A]
 unfold SM Av
 simp only[BW]
 refine C4W hL hx hok (λg lv iv H hg hh=> ?_) (L+20) 0 [] AA AA [] _ _ _ _ (by omega) (by omega) rfl ⟨⟨(λp hp=>by cases hp),(λp hp=>by cases hp)⟩,.inl ⟨rfl,rfl,rfl⟩,λ_=>rfl,.inl ⟨rfl,rfl,rfl⟩,λ_=>rfl,(λs hs=>by obtain⟨_,_,_,h⟩:=hs;cases h),(λs hs=>by obtain⟨_,_,_,h⟩:=hs;cases h),F8⟩
 refine hK _ _ ?_
 rw[←hg]
 exact C2D (D:=depth-2) hh.gv hh.sl hh.nl
end
end
section
variable {L n:Nat}
section
variable {K:KV} {x:Aj} {gs:List Cd} {a w o sm:AV} {H:Hp} {ws:List Int}
theorem C2N (c:Cd) (H:Hp):∃p,(∀K:AV→Aj,AN 31 (.iptr c.cs) K=K p)∧∀K:AV→Aj,Au Ac p H K=K (DV c.ps):=by
 match c with
 | .re b u=>exact⟨_,λK=>_root_.id rfl,λK=>_root_.id rfl⟩
 | .co b p ps none=>exact⟨_,λK=>_root_.id rfl,λK=>_root_.id rfl⟩
 | .co b p ps (some (k,vd))=>exact⟨_,λK=>_root_.id rfl,λK=>_root_.id rfl⟩
theorem A9U {ps:List (List UInt8)} {K:AV→Aj}:AR Ac (DV ps) K=K (I ps.length):=(I5 ps).len
end
end
section
variable {L n:Nat}
section
variable {K:KV} {x:Aj} {H:Hp} {l:List Bp} {p:Bp} {a:AV}
theorem C6R (ha:SA l a) (hb:l.length<1000) (hL:2000<L):CS (rt (L+20) (n+2)) Hj [a,S p] (Bo (decide (p∈l))):=by
 intro K hK
 rw[A4Q]
 unfold Wj
 rw[AT (B3H (n:=n) ha hb hL) (Ax (ha.fx _) (Ax (q:=false) D1 Ba))]
 by_cases h:p∈l
 ·obtain⟨k,hk, -, -,e⟩:=Xu _ 0 h
  rw[e,CZ,CY]
  rw[decide_eq_true h] at hK⊢
  exact hK _ _ λb=>⟨false,D1⟩
 ·rw[Xv _ 0 h,CZ,CY]
  rw[decide_eq_false h] at hK⊢
  exact hK _ _ λb=>⟨false,D1⟩
theorem C7q {b c:Bool} {K:AV→Aj}:Go.Abs.Al NM .eql (Bo b) (Bo c) K=K (Bo (b==c)):=by cases b<;>cases c<;>exact _root_.id rfl
end
section
variable {K:KV} {x:Aj} {H:Hp} {il al sl cp:List Bp} {idk:Bp} {k r rc:Nat} {less:List Cd} {v:AV} {R:Rt}
theorem C6W {i:Nat} {K:AV→Aj} (h:0<i) (h2:i<1000000000):Go.Abs.Al Ab .sub (I (i:Int)) (.v (.int .i64 1)) K=K (I ((i-1:Nat):Int)):=by
 rw[Hn,Cl (by omega) (by omega),show((i:Int)-1)=((i-1:Nat):Int) from by omega]
theorem B1W {s u:List UInt8} {K:AV→Aj}:Go.Abs.Al Ae .geq (S s) (S u) K=K (Bo (!decide (s<u))):=by
 have:Go.Abs.Al Ae .geq (S s) (S u) K=bB (!ltB s u) K:=rfl
 rw[this,A1Q,bytesLess_eq,XA4]
end
end
end Go.Abs
end
