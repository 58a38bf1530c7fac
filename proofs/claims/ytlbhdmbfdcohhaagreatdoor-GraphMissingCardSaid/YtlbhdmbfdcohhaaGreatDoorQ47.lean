import Derived.Test.YtlbhdmbfdcohhaaGreatDoorQ44
import Derived.Test.YtlbhdmbfdcohhaaGreatDoorQ46
set_option linter.all false
set_option maxHeartbeats 100000000
noncomputable section
namespace Go.Abs
open Go.RowKit Go.Proofs
set_option maxRecDepth 100000
section
variable {L n:Nat}
section
variable {gs:List Cd} {s:List UInt8}
theorem GOk.take (h:GOk gs) (m:Nat):GOk (gs.take m):=by
 have hm:∀c∈gs.take m,c∈gs:= λc hc=>l24 hc
 refine⟨λc hc=>h.ok c (hm c hc),λc hc=>h.nd c (hm c hc),?_,?_⟩
 ·rw[List.map_take]
  exact h.ids.sublist (List.take_sublist _ _)
 ·have:=h.len
  rw[l0g];omega
end
end
section
variable {L n:Nat}
theorem B49 {a:Int} {k:Nat} (h:JU a) (hk:k<3):JU (a.fdiv (2^(4*k))):=by
 unfold JU at h⊢
 have e:a.fdiv (2^(4*k))=a/(2^(4*k)):=Int.fdiv_eq_ediv_of_nonneg _ (Int.le_of_lt (Int.pow_pos (by decide)))
 rw[e]
 obtain rfl|rfl|rfl:k=0∨k=1∨k=2:=by omega
 ·rw[show(2:Int)^(4*0)=1 by decide];omega
 ·rw[show(2:Int)^(4*1)=16 by decide];omega
 ·rw[show(2:Int)^(4*2)=256 by decide];omega
theorem C3l {j:TI} {K:AV→Al} {a:Int} {k:Nat} (hk:k≤64):Go.Abs.Ak j .shr (I a) (I k) K=K (I (a.fdiv (2^k))):=by
 have:Go.Abs.Ak j .shr (I a) (I k) K=ck (Zu 0 (k:Int)) (fI (a.fdiv (2^(min (k:Int).toNat 64))) λz=>K (.v (.int .i64 z))):=rfl
 rw[this,R4,Xj,l1x hk]
 have h1:Zu 0 (k:Int)=true:=by rw[J5];simp
 rw[h1];rfl
theorem rd7 {H:Hp} {b:Nat} {y:Y7} (h:Au H b=some (.cells true Um y.cs)):
 (∀{K},Aq Ab (.ptr b 0 0) H K=K (I y.y0))∧(∀{K},Aq Ab (.ptr b 1 0) H K=K (I y.y1))∧(∀{K},Aq Ab (.ptr b 2 0) H K=K (I y.y2))∧(∀{K},Aq Ab (.ptr b 3 0) H K=K (I y.y3))∧(∀{K},Aq Ab (.ptr b 4 0) H K=K (I y.y4))∧(∀{K},Aq Ab (.ptr b 5 0) H K=K (I y.y5))∧(∀{K},Aq Ab (.ptr b 6 0) H K=K (I y.y6)):=
 ⟨λ{K}=>AQ (p:=0) rfl h (by simp[Y7.cs]),λ{K}=>AQ (p:=1) rfl h (by simp[Y7.cs]),λ{K}=>AQ (p:=2) rfl h (by simp[Y7.cs]),λ{K}=>AQ (p:=3) rfl h (by simp[Y7.cs]),λ{K}=>AQ (p:=4) rfl h (by simp[Y7.cs]),λ{K}=>AQ (p:=5) rfl h (by simp[Y7.cs]),λ{K}=>AQ (p:=6) rfl h (by simp[Y7.cs])⟩
theorem C4m {b:Nat} {K:AV→Al}:Bv BJ (.ptr b 0 0) (.v (.int .i64 0)) K=K (.ptr b 0 0):=DE (z:=0) 0 rfl rfl (by decide)
theorem C69 {b:Nat} {K:AV→Al}:Bv BJ (.ptr b 0 0) (.v (.int .i64 1)) K=K (.ptr b 1 0):=DE (z:=1) 1 rfl rfl (by decide)
theorem C68 {b:Nat} {K:AV→Al}:Bv BJ (.ptr b 0 0) (.v (.int .i64 2)) K=K (.ptr b 2 0):=DE (z:=2) 2 rfl rfl (by decide)
theorem C67 {b:Nat} {K:AV→Al}:Bv BJ (.ptr b 0 0) (.v (.int .i64 3)) K=K (.ptr b 3 0):=DE (z:=3) 3 rfl rfl (by decide)
theorem C66 {b:Nat} {K:AV→Al}:Bv BJ (.ptr b 0 0) (.v (.int .i64 4)) K=K (.ptr b 4 0):=DE (z:=4) 4 rfl rfl (by decide)
theorem C65 {b:Nat} {K:AV→Al}:Bv BJ (.ptr b 0 0) (.v (.int .i64 5)) K=K (.ptr b 5 0):=DE (z:=5) 5 rfl rfl (by decide)
theorem C4l {b:Nat} {K:AV→Al}:Bv BJ (.ptr b 0 0) (.v (.int .i64 6)) K=K (.ptr b 6 0):=DE (z:=6) 6 rfl rfl (by decide)
structure Pa (H0:Hp) (ps:List (List UInt8)) (u:AV) (H:Hp):Prop where
 sl:B1 H AI 1 u ps.length (B5 ps)
 nl:ps=[]→u=AM
 fr:∀s,Bb u s→A3 H0≤s
 wf:Wf H
 w0:Wf H0
 nx:A3 H0≤A3 H
 kp:∀s q,Au H0 s=some q→Au H s=some q
section
variable {K:KV} {x:Al} {H0 H H':Hp} {y:Y7} {ids:List (List UInt8)} {a0 lv iv kd:AV} {q7 i:Nat}
theorem C3K {k125:AV→AV→AV→AV→AV→AV→AV→AV→Hp→Al} (hL:100<L) (h6:JU y.y6) (hq:Au H0 q7=some (.cells true Um y.cs)) (hi:B1 H0 AI 1 iv ids.length (B5 ids)) (hb:ids.length<100)
 (hfin:∀u k H,Pa H0 (paM ids y.y6 3) u H→k125 a0 lv iv (I i) (.ptr q7 0 0) kd u k H=x):
 ∀(f k:Nat) (u:AV) (H:Hp),k≤3→3-k<f→Pa H0 (paM ids y.y6 k) u H→
 MY (L+20) (rt (L+20) (n+64)) K k125 f a0 lv iv (I i) (.ptr q7 0 0) kd u (I k) H=x:=by
 intro f
 induction f with
 |zero=>intro k u H _ h;omega
 |succ f ih=>
  intro k u H hk hf hh
  rw[YL]
  unfold Qk AU Ar CH
  have e3:(AV.v (.int .i64 3))=I ((3:Nat):Int):=rfl
  have hiH:=hi.kp λs q _=>hh.kp s q
  rw[e3]
  by_cases h:k<3
  ·rw[Ge (by omega)]
   simp only[gT,Ci,I5 (t:=Ae) rfl hiH,Ey]
   by_cases h0:0<ids.length
   ·have hm:=Nat.mod_lt (pk (y.y6.fdiv (2^(4*k))) 16).toNat h0
    have pr:=ED (c:=y.y6.fdiv (2^(4*k))) (n:=16) (by decide)
    obtain⟨-, -, -, -, -, -,d6⟩:=rd7 (hh.kp _ _ hq)
    have ml:∀{K:AV→Al},Go.Abs.Ak Ab .mul (.v (.int .i64 4)) (I (k:Int)) K=K (I ((4*k:Nat):Int)):= λ{K}=>by
     rw[NK,Ca (by omega) (by omega)];rw[show(4:Int)*(k:Int)=((4*k:Nat):Int) by omega]
    have hpk:∀{H K},Ah (rt (L+20) (n+64)) JO [I (y.y6.fdiv (2^(4*k))),.v (.int .i64 16)] H K=K (I (pk (y.y6.fdiv (2^(4*k))) 16)):= λ{H K}=>A62 (n:=n+63) (B49 h6 h) (by decide) (by decide) H K
    have ad:∀{K:AV→Al},Go.Abs.Ak Ab .add (I k) (.v (.int .i64 1)) K=K (I ((k+1:Nat):Int)):= λ{K}=>DS (by omega)
    rw[decide_eq_true (by omega),Vu,D3]
    simp only[Cl]
    rw[C4l,d6,ml,C3l (by omega),hpk,Dx]
    have e1:paM ids y.y6 (k+1)=if 0<ids.length∧pk (y.y6.fdiv (2^(4*k))) 16<14 then paM ids y.y6 k++[ids.getD ((pk (y.y6.fdiv (2^(4*k))) 16).toNat%ids.length) []] else paM ids y.y6 k:=rfl
    by_cases h14:pk (y.y6.fdiv (2^(4*k))) 16<14
    ·rw[if_pos ⟨h0,h14⟩] at e1
     have hpl:PL H ids iv:= .inr hiH
     obtain⟨p,g1,g2⟩:=hpl.at2 hm
     have rm:∀{K:AV→Al},Go.Abs.Ak Ab .rem (I (pk (y.y6.fdiv (2^(4*k))) 16)) (I (ids.length:Int)) K=K (I (((pk (y.y6.fdiv (2^(4*k))) 16).toNat%ids.length:Nat):Int)):= λ{K}=>by
      rw[Ud (by omega),Int.tmod_eq_emod_of_nonneg pr.1]
      have:(pk (y.y6.fdiv (2^(4*k))) 16)=(((pk (y.y6.fdiv (2^(4*k))) 16).toNat:Nat):Int):=by omega
      rw[this,Xj];rfl
     have hln:=A9x (ids:=ids) (y6:=y.y6) k
     obtain⟨u',H',a1,a2,a3,a4,a5,a6⟩:=A6Z (ie:=Ad) (i2:=Ae) (ys:=B5 [ids[(pk (y.y6.fdiv (2^(4*k))) 16).toNat%ids.length]]) hh.sl hh.wf rfl rfl (by decide) rfl (λ_=>rfl) (by show(_+1)*16≤_;omega) (by omega)
     have e2:ids.getD ((pk (y.y6.fdiv (2^(4*k))) 16).toNat%ids.length) []=ids[(pk (y.y6.fdiv (2^(4*k))) 16).toNat%ids.length]:=by simp[List.getD,Ka hm]
     rw[e2] at e1
     have g0:=hh.nx
     rw[decide_eq_true h14,D3,rm,g1,g2,Xa,a1,ad]
     refine ih (k+1) u' H' (by omega) (by omega) ⟨?_,λe=> ?_,λs hs=> ?_,a3,hh.w0,by omega,λs q hs=> ?_⟩
     ·rw[e1,FK]
      have:B5 (paM ids y.y6 k++[ids[(pk (y.y6.fdiv (2^(4*k))) 16).toNat%ids.length]])=B5 (paM ids y.y6 k)++B5 [ids[(pk (y.y6.fdiv (2^(4*k))) 16).toNat%ids.length]]:=by simp[B5]
      rw[this]
      exact a2
     ·rw[e1] at e;simp at e
     ·have:=a6 s hs;omega
     ·exact a5 _ _ (hh.kp s q hs) λe=>by have:=hh.fr s e;have:=hh.w0.lt hs;omega
    ·rw[if_neg λhc=>h14 hc.2] at e1
     rw[decide_eq_false h14,B9,ad]
     exact ih (k+1) u H (by omega) (by omega) (by rw[e1];exact hh)
   ·rw[decide_eq_false (by omega),Vu,B9]
    have e0:∀k,paM ids y.y6 k=[]:=by
     intro k
     induction k with
     |zero=>rfl
     |succ k ihk=>unfold paM;rw[if_neg λhc=>h0 hc.1];exact ihk
    refine hfin u _ H ?_
    rw[e0] at hh⊢
    exact hh
  ·have:k=3:=by omega
   subst this
   rw[Gf (by omega)]
   simp only[gTF,Ci,TB]
   rw[B9]
   exact hfin u _ H hh
end
end
section
variable {L n:Nat}
structure Gm (g:GV) (lv iv:AV) (H:Hp):Prop where
 gv:GvOk g H
 sl:B1 H Ai 68 lv g.length (gvC g)
 nl:g=[]→lv=AM
 si:B1 H AI 1 iv g.length (B5 ((g.map Prod.fst).map Cd.id))
 ni:g=[]→iv=AM
 dl:∀s,Bb lv s→¬Bb iv s∧∀p∈g,¬Bb p.2 s
 di:∀s,Bb iv s→∀p∈g,¬Bb p.2 s
 wf:Wf H
section
variable {K:KV} {x:Al} {H0 H H':Hp} {g:GV} {lv iv a0:AV} {c:Cd} {v:AV}
theorem Gm.grow (h:Gm g lv iv H) (wf:Wf H') (kp:∀s q,Au H s=some q→Au H' s=some q):Gm g lv iv H':=
 ⟨⟨λp hp=>(h.gv.sl p hp).kp λs q _=>kp s q,h.gv.nl⟩,h.sl.kp λs q _=>kp s q,h.nl,h.si.kp λs q _=>kp s q,h.ni,h.dl,h.di,wf⟩
theorem Gm.lti (h:Gm g lv iv H) {s:Nat} (hs:Bb iv s):s<A3 H:=h.si.lt h.wf hs
theorem Gm.ltl (h:Gm g lv iv H) {s:Nat} (hs:Bb lv s):s<A3 H:=h.sl.lt h.wf hs
theorem Gm.ltp (h:Gm g lv iv H) {s:Nat} {p:Cd×AV} (hp:p∈g) (hs:Bb p.2 s):s<A3 H:=(h.gv.sl p hp).lt h.wf hs
theorem C6y {cs:List AV} {H:Hp} {K:KV} (hl:cs.length=68) (h1:cs.all AV.one=true):Ft Ai 68 Ac 1 [(0,68,.agg cs)] H K=K (.sl 68 (A3 H) 0 1) ((A3 H,.cells false Ai cs)::H):=by
 have e1:Ft Ai 68 Ac 1 [(0,68,.agg cs)] H K=GT (.agg cs) λvs=>Ia vs 0 λn=>ck (Nat.beq n 68) (ck (Qs vs) (EL 0 vs BA λcs'=>HM H λs=>K (.sl 68 s 0 1) ((s,.cells false Ai cs')::H))):=_root_.id rfl
 have hc:B6 (.agg cs)=cs:=rfl
 rw[e1,Da,hc,CA,hl,FZ,h1]
 show EL 0 cs BA _=_
 rw[KO _ _ _ _ (by rw[hl];decide),RO _ _ (by rw[hl];rfl),BW]
theorem Gm.add (h:Gm g lv iv H) (hv:B1 H AI 1 v c.ps.length (B5 c.ps)) (hn:c.ps=[]→v=AM) (hd:∀s,Bb v s→¬Bb lv s∧¬Bb iv s) (hb:g.length<100):
 ∃lv' H1 iv' H2,(∀K:KV,(Ft Ai 68 Ac 1 [(0,68,.agg (c.csP v))] H λv1 H1=>Ea Ai 68 Ac A2 lv v1 H1 K)=K lv' H1)∧
  (∀K:KV,(Ft AI 1 Ad 1 [(0,1,S c.id)] H1 λv1 H2=>Ea AI 1 Ad Ae iv v1 H2 K)=K iv' H2)∧Gm (g++[(c,v)]) lv' iv' H2:=by
 obtain⟨lv',H1,a1,a2,a3,a4,a5,a6⟩:=A6Z (ie:=Ac) (i2:=A2) (ys:=c.csP v) h.sl h.wf (SO c) (WY c (B1.one hv)) (by decide) rfl (λ_=>rfl) (by show(_+1)*800≤_;omega) (by omega)
 have si1:B1 H1 AI 1 iv g.length (B5 ((g.map Prod.fst).map Cd.id)):=h.si.kp λs q hs hl=>a5 s q hl (λe=>(h.dl s e).1 hs)
 obtain⟨iv',H2,b1,b2,b3,b4,b5,b6⟩:=A6Z (ie:=Ad) (i2:=Ae) (ys:=B5 [c.id]) si1 a3 rfl rfl (by decide) rfl (λ_=>rfl) (by show(_+1)*16≤_;omega) (by omega)
 have kp:∀s q,¬Bb lv s→¬Bb iv s→Au H s=some q→Au H2 s=some q:= λs q h1 h2 hs=>b5 _ _ (a5 _ _ hs h1) h2
 refine⟨lv',H1,iv',H2,λK=>by rw[C6y (SO c) (WY c (B1.one hv))];exact a1 K,λK=>by rw[Xa];exact b1 K,⟨λp hp=> ?_,λp hp=> ?_⟩,?_,λe=>by simp at e,?_,λe=>by simp at e,λs hs=>⟨λe=> ?_,λp hp e=> ?_⟩,λs hs p hp e=> ?_,b3⟩
 ·rcases l2e.1 hp with hp|hp
  ·exact(h.gv.sl p hp).kp λs q hs=>kp s q (λe=>(h.dl s e).2 p hp hs) (λe=>h.di s e p hp hs)
  ·rw[l2f] at hp;subst hp
   exact hv.kp λs q hs=>kp s q (hd s hs).1 (hd s hs).2
 ·rcases l2e.1 hp with hp|hp
  ·exact h.gv.nl p hp
  ·rw[l2f] at hp;subst hp;exact hn
 ·have e1:gvC (g++[(c,v)])=gvC g++c.csP v:=by simp[gvC]
  rw[e1,FK]
  exact B1.kp a2 λs q hs hl=>b5 s q hl λe=>by have:=a6 s hs;have:=h.lti e;omega
 ·have e1:B5 (((g++[(c,v)]).map Prod.fst).map Cd.id)=B5 ((g.map Prod.fst).map Cd.id)++B5 [c.id]:=by simp[B5]
  rw[e1,FK]
  exact b2
 ·have:=b6 s e
  have:=B1.lt a2 a3 hs
  omega
 ·have:=a6 s hs
  rcases l2e.1 hp with hp|hp
  ·have:=h.ltp hp e;omega
  ·rw[l2f] at hp;subst hp
   have:=hv.lt h.wf e;omega
 ·have:=b6 s hs
  rcases l2e.1 hp with hp|hp
  ·have:=h.ltp hp e;omega
  ·rw[l2f] at hp;subst hp
   have:=hv.lt h.wf e;omega
def XA (xs:List Y7) (a:AV):Prop:=a= .list xs.length (xs.flatMap Y7.cs)∨(xs=[]∧a=AM)
theorem XA.len {xs:List Y7} {a:AV} {K:AV→Al} (h:XA xs a):AN Ki a K=K (I xs.length):=by
 rcases h with rfl|⟨rfl,rfl⟩<;>exact _root_.id rfl
theorem XA.ia {xs:List Y7} {a:AV} {i:Nat} {K:AV→Al} (h:XA xs a) (hi:i<xs.length):Bv Ki a (I i) K=K (.iptr xs[i].cs):=by
 rcases h with rfl|⟨rfl,rfl⟩
 ·exact A1P (f:=Y7.cs) rfl (λ_=>rfl) hi
 ·simp at hi
end
end
section
variable {L n:Nat}
section
variable {K:KV} {x:Al} {xs:List Y7} {a0:AV}
theorem b6 {a b c d e f:Int} {K:AV→Al}:Bi Bj [(0,1,I a),(1,1,I b),(2,1,I c),(3,1,I d),(4,1,I e),(5,1,I f)] K=K (.agg [I a,I b,I c,I d,I e,I f]):=id rfl
theorem b4 {a b c d:Int} {K:AV→Al}:Bi Cc [(0,1,I a),(1,1,I b),(2,1,I c),(3,1,I d)] K=K (.agg [I a,I b,I c,I d]):=id rfl
theorem bs4 {a b c d:Int} {H:Hp} {K:KV}:Ft FH 4 Cc 1 [(0,4,.agg [I a,I b,I c,I d])] H K=K (.sl 4 (A3 H) 0 1) ((A3 H,.cells false FH [I a,I b,I c,I d])::H):=by
 have e:Ft FH 4 Cc 1 [(0,4,.agg [I a,I b,I c,I d])] H K=HM H (λs=>K (.sl 4 s 0 1) ((s,.cells false FH [I a,I b,I c,I d])::H)):=_root_.id rfl
 rw[e,BW]
theorem C3W {k4:AV→Hp→Al} (hL:40000<L) (hx:XA xs a0) (hok:∀y∈xs,y.Ok)
 (hfin:∀g lv iv H,g.map Prod.fst=NL xs (min 8 xs.length)→Gm g lv iv H→k4 lv H=x):
 ∀(f i:Nat) (g:GV) (lv iv:AV) (H:Hp) (d0 d1 d2 d3:AV),i≤min 8 xs.length→min 8 xs.length-i<f→g.map Prod.fst=NL xs i→Gm g lv iv H→
 MZ (L+20) (rt (L+20) (n+64)) K k4 f a0 lv iv (I i) d0 d1 d2 d3 H=x:=by
 intro f
 induction f with
 |zero=>intro i g lv iv H d0 d1 d2 d3 _ h;omega
 |succ f ih=>
  intro i g lv iv H d0 d1 d2 d3 hi hf hg hh
  rw[YM]
  unfold Ql AU Ar CH
  have e8:(AV.v (.int .i64 8))=I ((8:Nat):Int):=rfl
  rw[hx.len,e8]
  by_cases h:i<min 8 xs.length
  ·have hlt:i<xs.length:=by omega
   obtain⟨y,hy⟩:∃y,xs[i]=y:=⟨_,rfl⟩
   have hyo:=hok _ (Ow hlt)
   have hgd:xs.getD i ⟨0,0,0,0,0,0,0⟩=y:=by rw[←hy];simp[List.getD,Ka hlt]
   rw[hy] at hyo
   obtain⟨o0,o1,o2,o3,o4,o5,o6⟩:=hyo
   rw[Ge (by omega)]
   simp only[gT,Ci]
   rw[Ge (by omega),Ci,Vu,D3]
   refine KN λk23 h23=> ?_
   refine KN λk34 h34=> ?_
   have gsl:(NL xs i).length=g.length:=by rw[←hg,l1u]
   have g8:=(B40 xs i (by omega)).2
   have es:NL xs (i+1)=if(cM i y ((NL xs i).map Cd.id)).ps.Nodup∧(cM i y ((NL xs i).map Cd.id)).id∉(NL xs i).map Cd.id then NL xs i++[cM i y ((NL xs i).map Cd.id)] else NL xs i:=by
    have:NL xs (i+1)=if(cM i (xs.getD i ⟨0,0,0,0,0,0,0⟩) ((NL xs i).map Cd.id)).ps.Nodup∧(cM i (xs.getD i ⟨0,0,0,0,0,0,0⟩) ((NL xs i).map Cd.id)).id∉(NL xs i).map Cd.id
     then NL xs i++[cM i (xs.getD i ⟨0,0,0,0,0,0,0⟩) ((NL xs i).map Cd.id)] else NL xs i:=rfl
    rw[this,hgd]
   have hk34:∀g' lv' iv' q kd u k H',g'.map Prod.fst=NL xs (i+1)→Gm g' lv' iv' H'→k34 a0 lv' iv' (I i) q kd u k H'=x:=by
    intro g' lv' iv' q kd u k H' h1 h2
    have ad:∀{K:AV→Al},Go.Abs.Ak Ab .add (I i) (.v (.int .i64 1)) K=K (I ((i+1:Nat):Int)):= λ{K}=>DS (by omega)
    rw[h34,h23]
    simp only[ad]
    exact ih (i+1) g' lv' iv' H' q kd u k (by omega) (by omega) h1 h2
   clear h23 h34 ih hfin
   have l7:∀{H} {K:AV→Al},Aq BJ (.iptr y.cs) H K=K (.agg y.cs):= λ{H K}=>_root_.id rfl
   obtain⟨H1,e1,m1,w1,kp1⟩:=Ed (e:=Um) (zs:=[zI,zI,zI,zI,zI,zI,zI]) (vs:=y.cs) hh.wf rfl
   rw[hx.ia hlt,hy,l7,Ba (cs:=[zI,zI,zI,zI,zI,zI,zI]) rfl,B0 (cs:=[zI,zI,zI,zI,zI,zI,zI]) (vs:=y.cs) (Ay (by simp)) rfl rfl rfl,←e1]
   have h1:=hh.grow w1 λs q hs=>(kp1 s q hs).1
   generalize A3 H=q7 at m1
   clear e1 kp1 hh
   obtain⟨d0', -⟩:=rd7 m1
   rw[C4m,d0']
   refine KN λk52 h52=> ?_
   have hk52:k52 (I (kdM i y)) H1=x:=by
    rw[h52]
    clear h52
    refine KN λk55 h55=> ?_
    refine KN λk125 h125=> ?_
    have hsi:=h1.si
    rw[hg] at hsi
    have hil:((NL xs i).map Cd.id).length=g.length:=by rw[l1u,gsl]
    refine C3K (n:=n) (ids:=(NL xs i).map Cd.id) (by omega) o6 m1 (by rw[hil];exact hsi) (by rw[hil];omega) (λu k H2 hp=> ?_) (L+20) 0 AM H1 (by omega) (by omega) ⟨.inl ⟨rfl,rfl,rfl⟩,λ_=>rfl,(λs hs=>by obtain⟨_,_,_,h⟩:=hs;cases h),w1,w1,NU _,λ_ _ h=>h⟩
    rw[h125,h55]
    clear h125 h55
    obtain⟨-,r1,r2,r3,r4,r5,r6⟩:=rd7 (hp.kp _ _ m1)
    simp only[C69,C68,C67,C66,C65,C4l,r1,r2,r3,r4,r5,r6]
    rw[b6,b6,b4,bs4]
    obtain⟨H3,s3,e3,es3,m3,w3,kp3⟩:=push hp.wf (.cells false FH [I y.y3,I y.y4,I y.y5,I y.y6]) (by simp)
    rw[←es3,←e3]
    have hkd:JU (kdM i y):=by
     unfold kdM
     split
     ·unfold JU;omega
     ·exact o0
    have hya:YA H3 (some (y.y3,y.y4,y.y5,y.y6)) (.sl 4 s3 0 1):= λH' kp=>⟨true,UZ (D:=depth-1) (q':=false) (kp _ _ m3) rfl (Kb (λz:Int=>Value.int .i64 z) [y.y3,y.y4,y.y5,y.y6])⟩
    have hpl:PL H3 (paM ((NL xs i).map Cd.id) y.y6 3) u:= .inr (hp.sl.kp λs q _ hs=>(kp3 _ _ hs).1)
    have h3:=h1.grow w3 λs q hs=>(kp3 _ _ (hp.kp s q hs)).1
    have hpm:=A9x (ids:=(NL xs i).map Cd.id) (y6:=y.y6) 3
    clear r1 r2 r3 r4 r5 r6 e3 es3 m3 h1
    have h32:∀s∈paM ((NL xs i).map Cd.id) y.y6 3,s.length=32:= λs hs=>by
     obtain⟨c,_,rfl⟩:=l2a.1 (A9w _ s hs)
     exact A8V c
    refine A0L (n:=n+20) (y:=some (y.y3,y.y4,y.y5,y.y6)) hL w3 hkd o1 o2 o3 o4 o5 o1 o2 o3 o4 o5 o6 hya ⟨o3,o4,o5,o6⟩ hpl (by omega) h32 ?_
    show∀v H',B1 H' AI 1 v (cM i y ((NL xs i).map Cd.id)).ps.length (B5 (cM i y ((NL xs i).map Cd.id)).ps)→((cM i y ((NL xs i).map Cd.id)).ps=[]→v=AM)→Wf H'→(∀s q,Au H3 s=some q→Au H' s=some q)→(∀s,Bb v s→A3 H3≤s)→_
    intro v H4 sv nv w4 kp4 fr4
    have cok:(cM i y ((NL xs i).map Cd.id)).Ok:=B8v
    have ec:cdM (kdM i y) y.y1 y.y2 y.y3 y.y4 y.y5 y.y1 y.y2 y.y3 y.y4 y.y5 y.y6 (some (y.y3,y.y4,y.y5,y.y6)) (paM ((NL xs i).map Cd.id) y.y6 3)=cM i y ((NL xs i).map Cd.id):=rfl
    rw[ec]
    generalize cM i y ((NL xs i).map Cd.id)=c at sv nv cok es⊢
    have h4:=h3.grow w4 kp4
    have hd:∀s,Bb v s→¬Bb lv s∧¬Bb iv s:= λs hs=>⟨λe=>by have:=h3.ltl e;have:=fr4 s hs;omega,λe=>by have:=h3.lti e;have:=fr4 s hs;omega⟩
    obtain⟨H5,e5,m5,w5,kp5⟩:=Ed (e:=Ai) (zs:=BA) (vs:=c.csP v) w4 (SO c)
    rw[Ba (cs:=BA) rfl,B0 (cs:=BA) (vs:=c.csP v) (Ay (by simp)) (SO c) rfl (WY c (B1.one sv)),←e5]
    have h5:=h4.grow w5 λs q hs=>(kp5 s q hs).1
    have sv5:=B1.kp sv λs q _ hs=>(kp5 s q hs).1
    generalize A3 H4=r at m5
    have lc:∀{K},Aq Ac (.ptr r 0 0) H5 K=K (.agg (c.csP v)):= λ{K}=>Bk rfl (by rw[SO];rfl) m5
    clear e5 kp5 h4 h3 sv kp4 fr4 m5
    have hlen:((NL xs i).map Cd.id).length<1000:=by rw[hil];omega
    have hne:([]:List UInt8)∉(NL xs i).map Cd.id:= λe=>by
     obtain⟨d,_,hd⟩:=l2a.1 e
     exact A1W d hd
    have has:∀{s:List UInt8} {K},Ah (rt (L+20) (n+64)) N9 [iv,S s] H5 K=K (XY s ((NL xs i).map Cd.id) 0):= λ{s K}=>by
     have si5:=h5.si
     rw[hg,←hil] at si5
     have ni5:(NL xs i).map Cd.id=[]→iv=AM:= λe=>h5.ni (by
      have:g.length=0:=by rw[←hil,e];rfl
      exact l1s this)
     obtain⟨q,hq⟩:=A4F (D:=depth-1) (b:=true) si5 ni5
     exact Be (B84 (L:=L) (n:=n+63) (s:=s) (Gx ((NL xs i).map Cd.id)) hlen (by omega)) (A0 hq (A0 (q:=false) E5 Bp))
    obtain⟨qc,hqc⟩:=A4S (D:=depth-2) sv5 nv
    by_cases hnd:c.ps.Nodup
    ·have hid:∀{K},Ah (rt (L+20) (n+64)) GA [.agg (c.csP v)] H5 K=K (S c.id):= λ{K}=>Be (A8U (n:=n) hL cok hnd) (A0 (Pn (D:=depth-1) hqc) Bp)
     rw[lc,hid,has]
     by_cases hm:c.id∈(NL xs i).map Cd.id
     ·obtain⟨k,hk, -, -,e⟩:=WD _ 0 hm
      rw[if_neg λhc=>hc.2 hm] at es
      rw[e,CY,CX,MV,decide_eq_false (A1W c),Bool.not_false]
      simp only[gT,Ci,ntT,Vu]
      rw[B9]
      exact hk34 g lv iv _ _ _ _ H5 (by rw[es];exact hg) h5
     ·rw[if_pos ⟨hnd,hm⟩] at es
      obtain⟨lv',H6,iv',H7,b1,b2,b3⟩:=h5.add sv5 nv hd (by omega)
      rw[WE _ 0 hm,CY,CX,MV,decide_eq_false (A1W c),Bool.not_false]
      simp only[gT,Ci,ntF,Vu]
      rw[D3,lc,b1,b2]
      exact hk34 (g++[(c,v)]) lv' iv' _ _ _ _ H7 (by rw[es,Zt,hg];rfl) b3
    ·have hid:∀{K},Ah (rt (L+20) (n+64)) GA [.agg (c.csP v)] H5 K=K (S []):= λ{K}=>Be (B7M (n:=n) hL cok hnd) (A0 (Pn (D:=depth-1) hqc) Bp)
     rw[if_neg λhc=>hnd hc.1] at es
     rw[lc,hid,has,WE _ 0 hne,CY,CX,MV,decide_eq_true rfl,Bool.not_true]
     simp only[gTF,Ci,TB]
     rw[B9]
     exact hk34 g lv iv _ _ _ _ H5 (by rw[es];exact hg) h5
   have e2:(AV.v (.int .i64 2))=I ((2:Nat):Int):=rfl
   rw[e2]
   by_cases hi2:i<2
   ·have hpk:∀{H K},Ah (rt (L+20) (n+64)) JO [I (y.y0.tdiv 3),.v (.int .i64 4)] H K=K (I (pk (y.y0.tdiv 3) 4)):= λ{H K}=>A62 (n:=n+63) (Lh o0 (by decide)) (by decide) (by decide) H K
    rw[Ge (by omega)]
    simp only[gT,Ci,C4m,d0',Yx o0 (show(1:Int)≤3 by decide),hpk,Ey,Vu]
    by_cases h0:0<pk (y.y0.tdiv 3) 4
    ·rw[decide_eq_true h0,D3]
     have e:kdM i y=0:=if_pos ⟨hi2,h0⟩
     rw[e] at hk52
     exact hk52
    ·rw[decide_eq_false h0,B9]
     have e:kdM i y=y.y0:=if_neg λhc=>h0 hc.2
     rw[e] at hk52
     exact hk52
   ·rw[Gf (by omega)]
    simp only[gTF,Ci,gU,TB]
    rw[B9]
    have e:kdM i y=y.y0:=if_neg λhc=>hi2 hc.1
    rw[e] at hk52
    exact hk52
  ·have:i=min 8 xs.length:=by omega
   subst this
   by_cases h8:xs.length≤8
   ·rw[Gf (by omega)]
    simp only[gTF,Ci,TB]
    rw[B9]
    exact hfin g lv iv H hg hh
   ·rw[Ge (by omega)]
    simp only[gT,Ci]
    rw[Gf (by omega),Ci,Vu,B9]
    exact hfin g lv iv H hg hh
theorem B37 (hL:40000<L) (hx:XA xs a0) (hok:∀y∈xs,y.Ok):CT (rt (L+20) (n+65)) SD [a0] (A4u (NL xs (min 8 xs.length))):=by
 intro K hK
 rw[A0U]
 unfold RY Ar
 simp only[Cl]
 refine C3W hL hx hok (λg lv iv H hg hh=> ?_) (L+20) 0 [] AM AM [] _ _ _ _ (by omega) (by omega) rfl ⟨⟨(λp hp=>by cases hp),(λp hp=>by cases hp)⟩,.inl ⟨rfl,rfl,rfl⟩,λ_=>rfl,.inl ⟨rfl,rfl,rfl⟩,λ_=>rfl,(λs hs=>by obtain⟨_,_,_,h⟩:=hs;cases h),(λs hs=>by obtain⟨_,_,_,h⟩:=hs;cases h),F3⟩
 refine hK _ _ ?_
 rw[←hg]
 exact C1F (D:=depth-2) hh.gv hh.sl hh.nl
end
end
section
variable {L n:Nat}
section
variable {K:KV} {x:Al} {gs:List Cd} {a w o sm:AV} {H:Hp} {ws:List Int}
theorem ZI {ps:List (List UInt8)} {K:AV→Al}:AN Ae (Ec ps) K=K (I ps.length):=(Gx ps).len
theorem C1p {b c:Bool} {K:AV→Al}:Go.Abs.Ak Em .neq (Bo b) (Bo c) K=K (Bo (b !=c)):=by cases b<;>cases c<;>exact _root_.id rfl
end
end
section
variable {L n:Nat}
section
variable {K:KV} {x:Al} {H:Hp} {l:List Jh} {p:Jh} {a:AV}
theorem C5K (ha:SA l a) (hb:l.length<1000) (hL:2000<L):CS (rt (L+20) (n+2)) DC [a,S p] (Bo (decide (p∈l))):=by
 intro K hK
 rw[A4o]
 unfold Vy
 rw[Be (B84 (n:=n) ha hb hL) (A0 (ha.fx _) (A0 (q:=false) E5 Bp))]
 by_cases h:p∈l
 ·obtain⟨k,hk, -, -,e⟩:=WD _ 0 h
  rw[e,CY,CX]
  rw[decide_eq_true h] at hK⊢
  exact hK _ _ λb=>⟨false,E5⟩
 ·rw[WE _ 0 h,CY,CX]
  rw[decide_eq_false h] at hK⊢
  exact hK _ _ λb=>⟨false,E5⟩
theorem B4d {b c:Bool} {K:AV→Al}:Go.Abs.Ak Em .eql (Bo b) (Bo c) K=K (Bo (b==c)):=by cases b<;>cases c<;>exact _root_.id rfl
end
structure Lm (R:Rt) (H:Hp) (il al sl cp:List Jh) (idk:Jh) (k:Nat) (less:List Cd) (v:AV) (r rc:Nat):Prop where
 len:∀K:AV→Al,AN A2 v K=K (I less.length)
 ia:∀(i:Nat) (K:AV→Al),i<less.length→Bv A2 v (I i) K=K (.ptr r (i*68) 0)
 ps:∀(i:Nat) (h:i<less.length) (K:AV→Al),Aq Ae (.ptr r (i*68+31) 0) H K=K (Ec less[i].ps)
 ck:∀K:AV→Al,Aq Ae (.ptr rc 31 0) H K=K (Ec cp)
 ii:∀(p:Jh) (K:AV→Al),Ah R DC [Ec il,S p] H K=K (Bo (decide (p∈il)))
 ia':∀(p:Jh) (K:AV→Al),Ah R DC [Ec al,S p] H K=K (Bo (decide (p∈al)))
 is:∀(p:Jh) (K:AV→Al),Ah R DC [Ec sl,S p] H K=K (Bo (decide (p∈sl)))
 ic:∀(p:Jh) (K:AV→Al),Ah R DC [Ec cp,S p] H K=K (Bo (decide (p∈cp)))
 hk:k<il.length
 hid:il[k]=idk
 bl:less.length<100
 bp:∀c∈less,c.ps.length<100
 ba:al.length<1000
 bc:cp.length<100
 hA:∀c∈less,∀p∈c.ps,(p∈al↔p∉il)
 hB:∀c∈less,∀p∈c.ps,p≠idk→(p∈al↔p∈sl)
 hS:idk∈sl↔∃c∈less,idk∈c.ps
 hN:idk∉al
 hC:∀p∈al,p∉sl→p∈cp
 hQ:al.Pairwise (· < ·)
 hD:∀p∈cp,(p∈al↔p∉il)
section
variable {K:KV} {x:Al} {H:Hp} {il al sl cp:List Jh} {idk:Jh} {k r rc:Nat} {less:List Cd} {v:AV} {R:Rt}
theorem C3Y {k248:AV→AV→AV→AV→AV→AV→AV→AV→AV→AV→AV→AV→Hp→Al} {s d1 d2:AV} (h:Lm R H il al sl cp idk k less v r rc) {i:Nat} (hi:i<less.length):
 ∀(f m:Nat) (b:Bool),m≤less[i].ps.length→less[i].ps.length-m<f→(∀m',k248 s (I k) (.ptr rc 0 0) v (Ec il) (Ec al) (Ec sl) (Bo (b||(less[i].ps.drop m).any λp=>decide (p=idk))) (I i) m' d1 d2 H=x)→
 Fg L R K k248 f s (I k) (.ptr rc 0 0) v (Ec il) (Ec al) (Ec sl) (Bo b) (I i) (I m) d1 d2 H=x:=by
 intro f
 induction f with
 |zero=>intro m b _ h;omega
 |succ f ih=>
  intro m b hm hf hx
  have hb:=h.bp _ (Ow hi)
  rw[Rp]
  unfold Ja AU Bw Ar E4 CH
  rw[h.ia i _ hi,fA,h.ps i hi,ZI]
  by_cases hml:m<less[i].ps.length
  ·obtain⟨p,hp⟩:∃p,less[i].ps[m]=p:=⟨_,rfl⟩
   have hpm:p∈less[i].ps:=hp▸Ow hml
   have h1:=h.hA _ (Ow hi) p hpm
   have h2:=h.hB _ (Ow hi) p hpm
   rw[l11 hml,List.any_cons,hp,←Bool.or_assoc] at hx
   have ad:∀{K:AV→Al},Go.Abs.Ak Ab .add (I m) (.v (.int .i64 1)) K=K (I ((m+1:Nat):Int)):= λ{K}=>DS (by omega)
   have hik:∀K:AV→Al,Bv Ae (Ec il) (I k) K=K (.iptr [S idk]):= λK=>by rw[(Gx il).ia h.hk,h.hid]
   have nx:Fg L R K k248 f s (I k) (.ptr rc 0 0) v (Ec il) (Ec al) (Ec sl) (Bo (b||decide (p=idk))) (I i) (I ((m+1:Nat):Int)) d1 d2 H=x:=ih (m+1) _ (by omega) (by omega) hx
   have e3:(decide (p∈il)==decide (p∈al))=false:=by
    by_cases h3:p∈il
    ·have:p∉al:= λh4=>h1.1 h4 h3
     simp[h3,this]
    ·have:p∈al:=h1.2 h3
     simp[h3,this]
   rw[Ge (by omega),D3,h.ia i _ hi,fA,h.ps i hi,(Gx _).ia hml,ET,hp]
   by_cases hpk:p=idk
   ·have e4:(b||decide (p=idk))=true:=by rw[decide_eq_true hpk,Bool.or_true]
    rw[e4] at nx
    cases b with
    |true=>
     simp only[gFT,gU,Ci,Vu,h.ii,h.ia',B4d,e3,gT,hik,ET,MV,decide_eq_true hpk,Bool.not_true,gTF,TB]
     rw[B9,ad]
     exact nx
    |false=>
     simp only[gT,Ci,hik,ET,JR,TB,h.ii,h.ia',B4d,e3,MV,decide_eq_true hpk,Bool.not_true,gTF,gU]
     rw[B9,ad]
     exact nx
   ·have e4:(b||decide (p=idk))=b:=by rw[decide_eq_false hpk,Bool.or_false]
    have e5:(decide (p∈al) !=decide (p∈sl))=false:=by simp[h2 hpk]
    rw[e4] at nx
    cases b with
    |true=>
     simp only[gFT,gU,Ci,Vu,h.ii,h.ia',h.is,B4d,e3,gT,hik,ET,MV,decide_eq_false hpk,Bool.not_false,C1p,e5,TB]
     rw[B9,ad]
     exact nx
    |false=>
     simp only[gT,Ci,hik,ET,JR,TB,Vu,h.ii,h.ia',h.is,B4d,e3,MV,decide_eq_false hpk,Bool.not_false,C1p,e5]
     rw[B9,ad]
     exact nx
  ·have:m=less[i].ps.length:=by omega
   subst this
   rw[List.drop_length,List.any_nil,Bool.or_false] at hx
   rw[Gf (by omega),B9]
   exact hx _
theorem C3Z {k191:AV→AV→AV→AV→AV→AV→AV→AV→AV→AV→AV→Hp→Al} {s d2:AV} (h:Lm R H il al sl cp idk k less v r rc) (hL:1000<L)
 (hx:∀i' d,k191 s (I k) (.ptr rc 0 0) v (Ec il) (Ec al) (Ec sl) (Bo (less.any λc=>c.ps.any λp=>decide (p=idk))) i' d d2 H=x):
 ∀(f i:Nat) (b:Bool) (d d1:AV),i≤less.length→less.length-i<f→(b||(less.drop i).any λc=>c.ps.any λp=>decide (p=idk))=(less.any λc=>c.ps.any λp=>decide (p=idk))→
 GH L R K k191 f s (I k) (.ptr rc 0 0) v (Ec il) (Ec al) (Ec sl) (Bo b) (I i) d d1 d2 H=x:=by
 intro f
 induction f with
 |zero=>intro i b d d1 _ h;omega
 |succ f ih=>
  intro i b d d1 hi hf hb
  have hbl:=h.bl
  rw[Rq]
  unfold Jb Ar
  rw[h.len]
  by_cases hl:i<less.length
  ·have ad:∀{K:AV→Al},Go.Abs.Ak Ab .add (I i) (.v (.int .i64 1)) K=K (I ((i+1:Nat):Int)):= λ{K}=>DS (by omega)
   have hbp:=h.bp _ (Ow hl)
   rw[Ge (by omega),D3]
   simp only[Cl]
   have e0:(AV.v (.int .i64 0))=I ((0:Nat):Int):=rfl
   rw[e0]
   refine C3Y h hl L 0 b (by omega) (by omega) λm'=> ?_
   rw[ad]
   refine ih (i+1) _ _ _ (by omega) (by omega) ?_
   rw[←hb,l1n,l11 hl,List.any_cons,Bool.or_assoc]
  ·have:i=less.length:=by omega
   subst this
   rw[List.drop_length,List.any_nil,Bool.or_false] at hb
   rw[Gf (by omega),B9,hb]
   exact hx _ _
theorem C41 {k80:AV→Hp→Al} {s d0 d1 d2 d3:AV} (h:Lm R H il al sl cp idk k less v r rc) (hx:k80 s H=x):
 ∀(f m:Nat),m≤cp.length→cp.length-m<f→GJ L R K k80 f s (I k) (.ptr rc 0 0) v (Ec il) (Ec al) (Ec sl) d0 d1 d2 d3 (I m) H=x:=by
 intro f
 induction f with
 |zero=>intro m _ h;omega
 |succ f ih=>
  intro m hm hf
  have hbc:=h.bc
  rw[Rs]
  unfold Jd Ar CH
  rw[fA,K1,h.ck,ZI]
  by_cases hl:m<cp.length
  ·have ad:∀{K:AV→Al},Go.Abs.Ak Ab .add (I m) (.v (.int .i64 1)) K=K (I ((m+1:Nat):Int)):= λ{K}=>DS (by omega)
   have h1:=h.hD _ (Ow hl)
   have e3:(decide (cp[m]∈al)==decide (cp[m]∈il))=false:=by
    by_cases h3:cp[m]∈il
    ·have:cp[m]∉al:= λh4=>h1.1 h4 h3
     simp[h3,this]
    ·have:cp[m]∈al:=h1.2 h3
     simp[h3,this]
   rw[Ge (by omega),D3]
   simp only[fA,K1,h.ck,(Gx cp).ia hl,BH,ET,h.ia',h.ii,B4d,e3]
   rw[B9,ad]
   exact ih (m+1) (by omega) (by omega)
  ·rw[Gf (by omega),B9]
   exact hx
theorem C3i {i:Nat} {K:AV→Al} (h:0<i) (h2:i<1000000000):Go.Abs.Ak Ab .sub (I (i:Int)) (.v (.int .i64 1)) K=K (I ((i-1:Nat):Int)):=by
 rw[GE,Ca (by omega) (by omega),show((i:Int)-1)=((i-1:Nat):Int) from by omega]
theorem A3E {s u:List UInt8} {K:AV→Al}:Go.Abs.Ak Ad .geq (S s) (S u) K=K (Bo (!decide (s<u))):=by
 have:Go.Abs.Ak Ad .geq (S s) (S u) K=bB (!ltB s u) K:=rfl
 rw[this,A4t,bytesLess_eq,La]
theorem C40 {k112:AV→AV→AV→AV→AV→AV→AV→AV→AV→AV→AV→Hp→Al} {s pb d1 d2 e1:AV} (h:Lm R H il al sl cp idk k less v r rc) (hx:∀i',k112 s (I k) (.ptr rc 0 0) v (Ec il) (Ec al) (Ec sl) pb d1 d2 i' H=x):
 ∀(f i:Nat),i≤al.length→al.length-i<f→GI L R K k112 f s (I k) (.ptr rc 0 0) v (Ec il) (Ec al) (Ec sl) pb d1 d2 (I i) e1 H=x:=by
 intro f
 induction f with
 |zero=>intro i _ h;omega
 |succ f ih=>
  intro i hi hf
  have hba:=h.ba
  rw[Rr]
  unfold Jc AU Bw Ar E4 CH
  rw[ZI]
  by_cases hl:i<al.length
  ·have ad:∀{K:AV→Al},Go.Abs.Ak Ab .add (I i) (.v (.int .i64 1)) K=K (I ((i+1:Nat):Int)):= λ{K}=>DS (by omega)
   have nx:=ih (i+1) (by omega) (by omega)
   have h1:=h.hC _ (Ow hl)
   rw[Ge (by omega),D3]
   have g:∀{K:AV→Al},Go.Abs.Ak Ab .gtr (I (i:Int)) (.v (.int .i64 0)) K=K (Bo (decide (0<i))):= λ{K}=>by
    rw[Ey]
    congr 3
    simp
   by_cases hs:al[i]∈sl
   ·by_cases h0:0<i
    ·have sb:∀{K:AV→Al},Go.Abs.Ak Ab .sub (I i) (.v (.int .i64 1)) K=K (I ((i-1:Nat):Int)):= λ{K}=>C3i h0 (by omega)
     have lt:al[i-1]<al[i]:=(l20.1 h.hQ) (i-1) i (by omega) hl (by omega)
     simp only[(Gx al).ia hl,(Gx al).ia (show i-1<al.length by omega),BH,ET,h.is,decide_eq_true hs,ntT,gTF,gT,gU,Ci,TB,Vu,g,decide_eq_true h0,sb,A3E,decide_eq_true lt,Bool.not_true]
     rw[B9,ad]
     exact nx
    ·simp only[(Gx al).ia hl,BH,ET,h.is,decide_eq_true hs,ntT,gTF,gT,gU,Ci,TB,Vu,g,decide_eq_false h0]
     rw[B9,ad]
     exact nx
   ·have hc:=h1 hs
    by_cases h0:0<i
    ·have sb:∀{K:AV→Al},Go.Abs.Ak Ab .sub (I i) (.v (.int .i64 1)) K=K (I ((i-1:Nat):Int)):= λ{K}=>C3i h0 (by omega)
     have lt:al[i-1]<al[i]:=(l20.1 h.hQ) (i-1) i (by omega) hl (by omega)
     simp only[(Gx al).ia hl,(Gx al).ia (show i-1<al.length by omega),BH,ET,h.is,decide_eq_false hs,ntF,gTF,gT,gU,Ci,TB,Vu,fA,K1,h.ck,h.ic,decide_eq_true hc,ntT,g,decide_eq_true h0,sb,A3E,decide_eq_true lt,Bool.not_true]
     rw[B9,ad]
     exact nx
    ·simp only[(Gx al).ia hl,BH,ET,h.is,decide_eq_false hs,ntF,gTF,gT,gU,Ci,TB,Vu,fA,K1,h.ck,h.ic,decide_eq_true hc,ntT,g,decide_eq_false h0]
     rw[B9,ad]
     exact nx
  ·have:i=al.length:=by omega
   subst this
   rw[Gf (by omega),B9]
   exact hx _
end
end
section
variable {L n:Nat}
def lA:List UInt8:=[190,37,193,108,62,69,192,54,146,30,179,35,185,160,42,118,74,72,34,96,70,26,154,115,110,60,175,172,120,42,152,121]
def lB:List UInt8:=[63,129,197,209,192,171,238,78,64,123,139,56,179,57,155,251,126,184,172,103,57,87,222,153,225,163,5,204,149,119,153,179]
def lC:List UInt8:=[71,37,141,151,10,1,163,27,132,95,7,9,41,219,210,4,28,226,237,216,22,83,151,14,245,69,75,76,21,75,82,216]
def lM:List UInt8:=[138,237,11,190,196,80,244,57,90,159,226,217,140,117,21,86,222,147,187,253,67,69,36,87,52,61,73,4,157,145,48,204]
def lD:List UInt8:=[43,112,24,193,160,158,31,110,143,43,225,193,162,105,217,23,179,133,159,236,252,133,93,18,158,85,197,253,46,253,8,36]
def lE:List UInt8:=[11,203,203,231,166,154,207,130,208,249,166,236,80,133,250,187,224,115,94,57,103,34,211,136,99,121,167,117,21,244,36,120]
def Jz:Cd:= .re ⟨⟨1,1,1,0,0⟩, -80,0,[(1, -8),(2, -8),(3, -8),(4, -8),(5, -8)]⟩ 0
def Uq:Cd:= .re ⟨⟨1,2,1,0,0⟩, -80,0,[(1, -8),(2, -8),(3, -8),(4, -8),(5, -8)]⟩ 0
def scE:Cd:= .re ⟨⟨1,2,1,0,9⟩, -80,0,[(1, -8),(2, -8),(3, -8),(4, -8),(5, -8)]⟩ 0
def We:Cd:= .co ⟨⟨1,3,1,0,0⟩, -80,0,[(1, -5),(2, -5),(3, -5),(4, -8),(5, -8)]⟩ ⟨2,[3,3],.no⟩ [lA,lB] none
def scD:Cd:= .co ⟨⟨1,4,1,0,0⟩, -80,0,[(1, -5),(2, -5),(3, -5),(4, -8),(5, -8)]⟩ ⟨2,[3,3],.no⟩ [lC,lM] none
theorem B2F:cdM 0 0 0 0 0 0 0 0 0 0 0 0 none []=Jz:=by kernel_rfl
theorem B2E:cdM 0 0 1 0 0 0 0 0 0 0 0 0 none []=Uq:=by kernel_rfl
theorem B2D:cdM 1 0 11 0 0 0 3 3 3 0 0 0 none [lA,lB]=We:=by kernel_rfl
theorem B2C:cdM 1 0 12 0 0 0 3 3 3 0 0 0 none [lC,lM]=scD:=by kernel_rfl
theorem Vo:Jz.id=lA:=by kernel_rfl
theorem Vn:Uq.id=lB:=by kernel_rfl
theorem A0q:We.id=lC:=by kernel_rfl
theorem A48:scD.id=lD:=by kernel_rfl
theorem B2B:scE.id=lE:=by kernel_rfl
theorem C48:A2r 77=lM:=by kernel_rfl
end
section
variable {L n:Nat}
def RT (R:Rt) (f:Nat) (args:List AV) (v:AV):Prop:=(R.call f args [] λv H'=>IZ true H' depth v λ_ v'=>some (v',[]))=some (v,[])
theorem FV {R:Rt} {f:Nat} {args args':List AV} {v:AV} {H:Hp} {K:AV→Al} (hc:RT R f args' v) (ha:PH true depth args args' H false):Ah R f args H K=K v:=by
 unfold Ah
 rw[ha]
 show Aj (R.call f args' [] _) K=K v
 rw[show((!false)=true) from rfl,hc];rfl
def gs4:List Cd:=[scD,We,Uq,Jz]
theorem A47:Jz.Ok:=B2F▸A1X (by simp)
theorem A46:Uq.Ok:=B2E▸A1X (by simp)
theorem B2A:We.Ok:=B2D▸A1X (by simp[lA,lB])
theorem C0I:scD.Ok:=B2C▸A1X (by simp[lC,lM])
theorem C0H:scE.Ok:=by
 obtain⟨h,hu⟩:=A46
 exact⟨⟨⟨by decide,by decide,by decide,by decide,by decide,by decide,by decide,by decide,by decide,by decide⟩,h.c1,h.c2,h.r1,h.r2,h.ts⟩,hu⟩
theorem A1o:GOk gs4:=by
 refine⟨?_,?_,?_,by decide⟩
 ·intro c hc
  simp only[gs4,Xi,List.not_mem_nil,or_false] at hc
  rcases hc with rfl|rfl|rfl|rfl
  ·exact C0I
  ·exact B2A
  ·exact A46
  ·exact A47
 ·intro c hc
  simp only[gs4,Xi,List.not_mem_nil,or_false] at hc
  rcases hc with rfl|rfl|rfl|rfl
  ·show[lC,lM].Nodup;decide
  ·show[lA,lB].Nodup;decide
  ·show([]:List (List UInt8)).Nodup;decide
  ·show([]:List (List UInt8)).Nodup;decide
 ·show[scD.id,We.id,Uq.id,Jz.id].Nodup
  rw[Vo,Vn,A0q,A48];decide
def Mh:AV:= .list 4 (scD.cs++(We.cs++(Uq.cs++Jz.cs)))
theorem Sz:LA gs4 Mh:= .inl (by
 show AV.list 4 _=AV.list 4 (gs4.flatMap Cd.cs)
 simp[gs4])
theorem of4 (hL:40000<L):∀H K,Ah (rt (L+20) (n+64)) Et [Mh] H K=K (.tup [.imap [(.string ⟨⟨lD⟩⟩,.agg scD.cs),(.string ⟨⟨lC⟩⟩,.agg We.cs),(.string ⟨⟨lB⟩⟩,.agg Uq.cs),(.string ⟨⟨lA⟩⟩,.agg Jz.cs)],Bo true]):=by
 intro H K
 rw[HP (B5z (n:=n) A1o hL Sz) (A0 (Sz.fx H) Bp)]
 have e:gV gs4= .imap [(.string ⟨⟨lD⟩⟩,.agg scD.cs),(.string ⟨⟨lC⟩⟩,.agg We.cs),(.string ⟨⟨lB⟩⟩,.agg Uq.cs),(.string ⟨⟨lA⟩⟩,.agg Jz.cs)]:=by
  have:gE gs4=[(lD,scD),(lC,We),(lB,Uq),(lA,Jz)]:=by simp[gE,gs4,Vo,Vn,A0q,A48]
  rw[gV,this];rfl
 rw[e]
theorem B0B (hL:40000<L):RT (rt (L+20) (n+65)) DJ [Mh] (Ec [lM]):=by
 unfold RT
 rw[PX];unfold Kz
 rw[of4 hL];kernel_rfl
theorem B6a (hL:40000<L):RT (rt (L+20) (n+65)) HI [Mh] (Bo true):=by
 unfold RT
 rw[XA7];unfold Nk
 rw[of4 hL];kernel_rfl
theorem B6e (hL:40000<L):RT (rt (L+20) (n+65)) Nn [Mh] (Ec [lD]):=by
 unfold RT
 rw[Zq];unfold Q8
 rw[of4 hL];kernel_rfl
theorem C3t (hL:40000<L):RT (rt (L+20) (n+65)) ES [Mh,S lC] (Ec [lB,lA]):=by
 unfold RT
 rw[Oc];unfold Jo
 rw[of4 hL];kernel_rfl
theorem C3s (hL:40000<L):RT (rt (L+20) (n+65)) ES [Mh,S lD] (Ec [lB,lC,lA]):=by
 unfold RT
 rw[Oc];unfold Jo
 rw[of4 hL];kernel_rfl
theorem B6h (hL:40000<L):RT (rt (L+20) (n+65)) I2 [Mh,S lC] (.tup [.agg We.cs,Bo true]):=by
 unfold RT
 rw[TQ];unfold Ov
 simp only[of4 hL];kernel_rfl
theorem B6g (hL:40000<L):RT (rt (L+20) (n+65)) I2 [Mh,S lM] (.tup [.agg BA,Bo false]):=by
 unfold RT
 rw[TQ];unfold Ov
 simp only[of4 hL];kernel_rfl
end
end Go.Abs
end
noncomputable section
end
noncomputable section
namespace Go.Abs
open Go.RowKit Go.Proofs
set_option maxRecDepth 100000
section
variable {L n:Nat}
section
variable {K:KV} {x:Al} {H:Hp} {z:Nat}
theorem A6U {cs:List AV} (w:Wf H) (hz:Au H z=some (.cells true Ai BA)) (h1:cs.length=68) (h2:cs.all AV.one=true) (hK:∀H',(∀s q,s≠z→Au H s=some q→Au H' s=some q)→K (.agg cs) H'=x):
 (AH Ai Ac H λv7 H8=>Ck Ac v7 (.agg cs) H8 λH9=>Aq Ac v7 H9 λv11=>Ck Ac (.ptr z 0 0) v11 H9 λH12=>Aq Ac (.ptr z 0 0) H12 λv14=>K v14 H12)=x:=by
 obtain⟨H1,e1,m1,w1,kp1⟩:=Ed (e:=Ai) (zs:=BA) (vs:=cs) w h1
 rw[Ba (cs:=BA) rfl,B0 (cs:=BA) (vs:=cs) (Ay (by simp)) h1 rfl h2,←e1]
 obtain⟨z1, -⟩:=kp1 _ _ hz
 rw[Bk (cs:=cs) rfl (by rw[h1];rfl) m1,B0 z1 h1 rfl h2,Bk (cs:=cs) rfl (by rw[h1];rfl) (A9 z1)]
 exact hK _ λs q hs hl=>by rw[Ap hs];exact(kp1 _ _ hl).1
theorem A2T {a:Int} (h1: -100≤a) (h2:a≤100):JU a:=by unfold JU;omega
theorem A9l (hL:40000<L) {k:Int} (h1:1≤k) (h2:k≤2) {c:Cd} (hc:cdM 0 0 (k-1) 0 0 0 0 0 0 0 0 0 none []=c):CT (rt (L+20) (n+45)) DV [I k] (.agg c.cs):=by
 intro K hK
 rw[Td]
 unfold JY Ar
 obtain⟨H1,z,e1,s1,l1,w1,k1⟩:=push F3 (.cells true Ai BA) (by simp)
 have b0:∀{K:AV→Al},Bi Bj [] K=K (.agg [I 0,I 0,I 0,I 0,I 0,I 0]):= λ{K}=>id rfl
 have b2:∀{K:AV→Al},Bi Bj [(0,1,(AV.v (.int .i64 0))),(1,1,(AV.v (.int .i64 0))),(2,1,I (k-1)),(3,1,(AV.v (.int .i64 0))),(4,1,(AV.v (.int .i64 0))),(5,1,(AV.v (.int .i64 0)))] K=K (.agg [I 0,I 0,I (k-1),I 0,I 0,I 0]):= λ{K}=>id rfl
 rw[Ba (cs:=BA) rfl,←s1,←e1,GE,Ca (by omega) (by omega),b2,b0]
 have z0:JU 0:=A2T (by decide) (by decide)
 refine A0L (n:=n) (y:=none) (l:=[]) hL w1 z0 z0 (A2T (by omega) (by omega)) z0 z0 z0 z0 z0 z0 z0 z0 z0 (λH' _=>⟨false,E5⟩) trivial (.inl (.inr ⟨rfl,rfl⟩)) (by decide) (by simp) ?_
 rw[hc]
 intro v H' sv nv w' kp fr
 refine A6U w' (kp _ _ l1) (SO c) (WY c (B1.one sv)) λH2 k2=> ?_
 have hz:∀s,Bb v s→s≠z:= λs hs=>by have:=fr s hs;have:=w1.lt l1;omega
 obtain⟨q,hq⟩:=A4S (D:=depth-2) (sv.kp λs q hs hl=>k2 s q (hz s hs) hl) nv
 exact hK _ _ ⟨q,Pn (D:=depth-1) hq⟩
theorem A9m (hL:40000<L) {k:Int} (h1:1≤k) (h2:k≤9) {c:Cd} {l:List (List UInt8)} (hl2:l.length=2) (h32:∀s∈l,s.length=32) (hc:cdM 1 0 (9+k-1) 0 0 0 3 3 3 0 0 0 none l=c):CT (rt (L+20) (n+45)) EV [I k,Ec l] (.agg c.cs):=by
 intro K hK
 rw[Te]
 unfold JZ Ar
 obtain⟨H1,z,e1,s1,l1,w1,k1⟩:=push F3 (.cells true Ai BA) (by simp)
 have b0:∀{K:AV→Al},Bi Bj [(0,1,(AV.v (.int .i64 3))),(1,1,(AV.v (.int .i64 3))),(2,1,(AV.v (.int .i64 3))),(3,1,(AV.v (.int .i64 0))),(4,1,(AV.v (.int .i64 0))),(5,1,(AV.v (.int .i64 0)))] K=K (.agg [I 3,I 3,I 3,I 0,I 0,I 0]):= λ{K}=>id rfl
 have b2:∀{K:AV→Al},Bi Bj [(0,1,(AV.v (.int .i64 1))),(1,1,(AV.v (.int .i64 0))),(2,1,I (9+k-1)),(3,1,(AV.v (.int .i64 0))),(4,1,(AV.v (.int .i64 0))),(5,1,(AV.v (.int .i64 0)))] K=K (.agg [I 1,I 0,I (9+k-1),I 0,I 0,I 0]):= λ{K}=>id rfl
 have sub:∀{K:AV→Al},Go.Abs.Ak Ab .sub (I ((2:Nat):Int)) (.v (.int .i64 1)) K=K (I 1):= λ{K}=>by kernel_rfl
 have mul:∀{K:AV→Al},Go.Abs.Ak Ab .mul (.v (.int .i64 9)) (I 1) K=K (I 9):= λ{K}=>by kernel_rfl
 rw[Ba (cs:=BA) rfl,←s1,←e1,(Gx l).len,hl2,sub,mul,Cv,Ca (by omega) (by omega),GE,Ca (by omega) (by omega),b2,b0]
 have z0:JU 0:=A2T (by decide) (by decide)
 have z3:JU 3:=A2T (by decide) (by decide)
 refine A0L (n:=n) (y:=none) (l:=l) hL w1 (A2T (by decide) (by decide)) z0 (A2T (by omega) (by omega)) z0 z0 z0 z3 z3 z3 z0 z0 z0 (λH' _=>⟨false,E5⟩) trivial (.inl (Gx l)) (by omega) h32 ?_
 rw[hc]
 intro v H' sv nv w' kp fr
 refine A6U w' (kp _ _ l1) (SO c) (WY c (B1.one sv)) λH2 k2=> ?_
 have hz:∀s,Bb v s→s≠z:= λs hs=>by have:=fr s hs;have:=w1.lt l1;omega
 obtain⟨q,hq⟩:=A4S (D:=depth-2) (sv.kp λs q hs hl=>k2 s q (hz s hs) hl) nv
 exact hK _ _ ⟨q,Pn (D:=depth-1) hq⟩
end
def gs3:List Cd:=[Jz,Uq,scE]
def B3D:AV:= .list 3 (Jz.cs++(Uq.cs++scE.cs))
theorem C1G:GOk gs3:=by
 refine⟨?_,?_,?_,by decide⟩
 ·intro c hc
  simp only[gs3,Xi,List.not_mem_nil,or_false] at hc
  rcases hc with rfl|rfl|rfl
  ·exact A47
  ·exact A46
  ·exact C0H
 ·intro c hc
  simp only[gs3,Xi,List.not_mem_nil,or_false] at hc
  rcases hc with rfl|rfl|rfl<;>(show([]:List (List UInt8)).Nodup;decide)
 ·show[Jz.id,Uq.id,scE.id].Nodup
  rw[Vo,Vn,B2B];decide
theorem A4v:LA gs3 B3D:= .inl (by
 show AV.list 3 _=AV.list 3 (gs3.flatMap Cd.cs)
 simp[gs3])
theorem of3 (hL:40000<L):∀H K,Ah (rt (L+20) (n+64)) Et [B3D] H K=K (.tup [.imap [(.string ⟨⟨lA⟩⟩,.agg Jz.cs),(.string ⟨⟨lB⟩⟩,.agg Uq.cs),(.string ⟨⟨lE⟩⟩,.agg scE.cs)],Bo true]):=by
 intro H K
 rw[HP (B5z (n:=n) C1G hL A4v) (A0 (A4v.fx H) Bp)]
 have e:gV gs3= .imap [(.string ⟨⟨lA⟩⟩,.agg Jz.cs),(.string ⟨⟨lB⟩⟩,.agg Uq.cs),(.string ⟨⟨lE⟩⟩,.agg scE.cs)]:=by
  have:gE gs3=[(lA,Jz),(lB,Uq),(lE,scE)]:=by simp[gE,gs3,Vo,Vn,B2B]
  rw[gV,this];rfl
 rw[e]
def B3E:AV:= .list 2 (Jz.cs++Jz.cs)
theorem A4w:LA [Jz,Jz] B3E:= .inl (by
 show AV.list 2 _=AV.list 2 ([Jz,Jz].flatMap Cd.cs)
 simp)
theorem of2 (hL:40000<L):CT (rt (L+20) (n+64)) Et [B3E] (.tup [.imap [],Bo false]):=by
 intro K hK
 have ha:=A4w
 rw[Wx]
 unfold Sq Ar E4 CH
 have em:∀(H:Hp) (K:KV),Mn Ac H K=K (.mp (A3 H)) ((A3 H,.map false [] none)::H):= λH K=>by
  show HM H (λs=>K (.mp s) ((s,.map false [] (A4p Ac.d))::H))=_
  rw[BW];rfl
 have hid:=B4D (L:=L) (n:=n) hL A47 (show([]:List (List UInt8)).Nodup by decide)
 have ek:∀(F:Value→Al),Mi (S Jz.id) F=F (SV Jz.id):= λF=>id rfl
 have q1:∀{K},Go.Abs.Ak Ad .eql (S Jz.id) (S []) K=K (Bo false):= λ{K}=>by rw[JR,decide_eq_false (A1W _)]
 rw[em]
 simp only[Cl]
 have hl:=Ay (H:=[]) (x:= .map false [] none) (by simp)
 have wf:=B3 (x:= .map false [] none) F3
 generalize ((A3 [],Row.map false [] none)::([]:Hp))=H0 at hl wf
 generalize A3 []=r at hl
 have e0:(AV.v (.int .i64 0))=I ((0:Nat):Int):=rfl
 rw[ha.len,e0]
 show Nz (L+20) (rt (L+20) (n+63)) K _ ((L+18)+1+1) _ _ _ _ _ H0=_
 rw[QB]
 unfold N0 Bw Ar E4 CH
 have i0:([Jz,Jz]:List Cd)[0]=Jz:=rfl
 have i1:([Jz,Jz]:List Cd)[1]=Jz:=rfl
 have a0:= λK=>ha.ia (K:=K) (i:=0) (by decide)
 have a1:= λK=>ha.ia (K:=K) (i:=1) (by decide)
 rw[i0] at a0
 rw[i1] at a1
 obtain⟨H1,e1,hc1,w1,k1⟩:=Ed (e:=Ai) (zs:=BA) (vs:=Jz.cs) wf BM
 rw[Ge (by decide),D3,a0,A1O,Ba (cs:=BA) rfl,B0 (cs:=BA) (vs:=Jz.cs) (Ay (by simp)) BM rfl Jg,←e1,Bk rfl BM.symm hc1,Be hid (YC H1)]
 have hl1:=(k1 _ _ hl).1
 rw[ek,SL (f:=VJ) (b:=([]:List (List UInt8×Cd))) (λK=>Uz hl1)]
 have fn:QO ([]:List (List UInt8×Cd)) Jz.id=none:=rfl
 rw[fn]
 simp only[]
 obtain⟨H2,e2,hc2,w2,k2⟩:=Ed (e:=Ai) (zs:=BA) (vs:=BA) w1 rfl
 rw[CY,CX,Ba (cs:=BA) rfl]
 rw[show(Ac.zero:AV)= .agg BA from rfl,B0 (cs:=BA) (vs:=BA) (Ay (by simp)) rfl rfl rfl,←e2]
 have hl2:=(k2 _ _ hl1).1
 have hc3:=(k2 _ _ hc1).1
 simp only[gT,Ci,q1,TB]
 have hl2':Au H2 r=some (.map false (Nw VJ ([]:List (List UInt8×Cd))) none):=hl2
 rw[B9,Bk rfl BM.symm hc3,ek,U9 (f:=VJ) (v:=Jz) hl2',DS (by decide)]
 have hl3:Au (upd H2 r (.map false (Nw VJ (HL ([]:List (List UInt8×Cd)) Jz.id Jz)) none)) r=some (.map false (Nw VJ (HL ([]:List (List UInt8×Cd)) Jz.id Jz)) none):=(Ef hl2').trans rfl
 have w3:=BL (r:=r) (y:= .map false (Nw VJ (HL ([]:List (List UInt8×Cd)) Jz.id Jz)) none) w2
 generalize upd H2 r (.map false (Nw VJ (HL ([]:List (List UInt8×Cd)) Jz.id Jz)) none)=H3 at hl3 w3
 rw[QB]
 unfold N0 Bw Ar E4 CH
 obtain⟨H4,e4,hc4,w4,k4⟩:=Ed (e:=Ai) (zs:=BA) (vs:=Jz.cs) w3 BM
 rw[Ge (by decide),D3,a1,A1O,Ba (cs:=BA) rfl,B0 (cs:=BA) (vs:=Jz.cs) (Ay (by simp)) BM rfl Jg,←e4,Bk rfl BM.symm hc4,Be hid (YC H4)]
 have hl4:=(k4 _ _ hl3).1
 have fn2:QO (HL ([]:List (List UInt8×Cd)) Jz.id Jz) Jz.id=some Jz:=by rw[HZ,if_pos rfl]
 rw[ek,SL (f:=VJ) (b:=HL ([]:List (List UInt8×Cd)) Jz.id Jz) (λK=>Uz hl4),fn2]
 simp only[]
 obtain⟨H5,e5,hc5,w5,k5⟩:=Ed (e:=Ai) (zs:=BA) (vs:=Jz.cs) w4 BM
 rw[CY,CX,Ba (cs:=BA) rfl,B0 (cs:=BA) (vs:=Jz.cs) (Ay (by simp)) BM rfl Jg,←e5]
 simp only[gFT,Ci,Vu]
 rw[D3,em]
 refine hK _ _ ⟨true,Yb (D:=depth-1) (q:=true) (A0 (B8o (D:=depth-5) (es:=[]) (Ay (by simp))) (A0 (q:=false) E5 Bp))⟩
theorem B2G (hL:40000<L):RT (rt (L+20) (n+65)) HI [B3E] (Bo false):=by
 unfold RT
 rw[XA7];unfold Nk
 rw[HP (of2 (n:=n) hL) (A0 (A4w.fx []) Bp)];kernel_rfl
theorem C0K:RT (rt (L+20) (n+65)) KP [.agg We.cs,.agg We.cs] (Bo true):=by unfold RT;kernel_rfl
theorem C3r:RT (rt (L+20) (n+2)) BV [Ec [lM],Ec [lM]] (Bo true):=by unfold RT;kernel_rfl
theorem C3q:RT (rt (L+20) (n+2)) BV [Ec [lD],Ec [lD]] (Bo true):=by unfold RT;kernel_rfl
theorem C3p:RT (rt (L+20) (n+2)) BV [Ec [lB,lA],Ec [lB,lA]] (Bo true):=by unfold RT;kernel_rfl
theorem C3o:RT (rt (L+20) (n+2)) BV [Ec [lB,lA,lC,lD],Ec [lB,lA,lC,lD]] (Bo true):=by unfold RT;kernel_rfl
end
end Go.Abs
end
