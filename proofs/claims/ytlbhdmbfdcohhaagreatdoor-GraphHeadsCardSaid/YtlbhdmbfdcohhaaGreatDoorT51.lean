import Derived.Shelf.Strings.OnBuilder
import Derived.Shelf.Strings.Repeat
import Derived.Shelf.Sort.Plain
import Derived.Test.YtlbhdmbfdcohhaaGreatDoorProg
import Derived.Test.YtlbhdmbfdcohhaaGreatDoorT16
import Derived.Test.YtlbhdmbfdcohhaaGreatDoorT17
import Derived.Test.YtlbhdmbfdcohhaaGreatDoorT46
import Derived.Test.YtlbhdmbfdcohhaaGreatDoorT49
import Derived.Test.YtlbhdmbfdcohhaaGreatDoorT50
set_option linter.all false
set_option maxHeartbeats 100000000
noncomputable section
namespace Go.Abs
open Go.RowKit Go.Proofs
set_option maxRecDepth 100000
section
variable {L n:Nat}
def ZT (gs:List Cd):AV:=if gs.length≤(V4 gs).length then .tup [DV (V4 gs),.v (.int .i64 0)] else .tup [AA,.v (.int .i64 220)]
theorem B7J (gs:List Cd):pl 6 (ZT gs)=true:=by
 unfold ZT
 split
 ·have:pl 5 (DV (V4 gs))=true:=by
   cases V4 gs with
   |nil=>rfl
   |cons a l=>
    show(AL (a::l)).all (pl 4)=true
    rw[HF]
    intro y hy
    obtain⟨s,_,rfl⟩:=Zp.1 hy
    rfl
  show[DV (V4 gs),AV.v (.int .i64 0)].all (pl 5)=true
  simp only[l2j,this,List.all_nil];rfl
 ·rfl
section
variable {gs:List Cd} {x:Aj}
theorem B8m (hn:(gs.map Cd.id).Nodup) {done:List Cd} (hd:done.Perm gs) (e:Edg):e∈Nb done↔e.1∈gs.map Cd.id∧e.2∈Mj gs e.1:=by
 rw[A5d]
 constructor
 ·rintro⟨c,hc,h1,h2⟩
  have hc':=hd.mem_iff.1 hc
  obtain⟨i,hi,rfl⟩:=List.getElem_of_mem hc'
  rw[h1]
  exact⟨Zp.2 ⟨_,hc',rfl⟩,by rw[A4L hn hi];exact h2⟩
 ·rintro⟨h1,h2⟩
  obtain⟨c,hc,he⟩:=Zp.1 h1
  obtain⟨i,hi,rfl⟩:=List.getElem_of_mem hc
  rw[←he,A4L hn hi] at h2
  exact⟨gs[i],hd.mem_iff.2 hc,he.symm,h2⟩
theorem B6f {a:AV} (hg:GOk gs) (hL:200000<L) (hp:∀c∈gs,c.ps.length<100) (ha:LA gs a):CS (rt (L+20) (n+80)) Iu [a] (ZT gs):=by
 intro K hK
 rw[T7]
 unfold Oa Av
 have hfx:OV true depth [a] [a] [] false:=by rcases ha with rfl|⟨_,rfl⟩<;>exact λK=>by kernel_rfl
 have of:∀{K:AV→Aj},Ai (rt (L+20) (n+79)) E0 [a] [] K=K (.tup [gV gs,Bo true]):= λ{K}=>Gz (λK hK=>B0P (n:=n+15) hg (by omega) ha K hK) hfx
 have w0:XV 6 (ZT gs) (ZT gs)=true:=XP 6 _ (B7J gs)
 have h8:=hg.len
 rw[of,CZ,CY]
 have e0:∀{F:AV→Hp→Aj},(AJ BD AS [] λv4 H5=>CI AS v4 (gV gs) H5 λH6=>F v4 H6)=F (.ptr 0 0 0) [(0,.cells true BD [gV gs])]:= λ{F}=>by kernel_rfl
 rw[e0,Ks]
 show Aw (.v (.bool false)) _ _=_
 rw[Bx]
 have e1:∀{F:AV→AV→Hp→Aj},(L9 Ab [(0,.cells true BD [gV gs])] λv9 H10=>AJ EJ Cr H10 λv11 H12=>CI Cr v11 v9 H12 λH13=>L9 Ac H13 λv15 H16=>AJ CU Bm H16 λv17 H18=>CI Bm v17 v15 H18 λH19=>F v11 v17 H19)=
  F (.ptr 2 0 0) (.ptr 4 0 0) [(4,.cells true CU [.mp 3]),(3,.map false [] (some ([],0))),(2,.cells true EJ [.mp 1]),(1,.map false [] (some ([],0))),(0,.cells true BD [gV gs])]:= λ{F}=>by kernel_rfl
 rw[e1]
 simp only[BW]
 generalize hH:([(4,.cells true CU [.mp 3]),(3,.map false [] (some ([],0))),(2,.cells true EJ [.mp 1]),(1,.map false [] (some ([],0))),(0,.cells true BD [gV gs])]:Hp)=H0
 have hO:OsK gs [] [] (some ([],0)) (some ([],0)) (Yd gs []) (XH gs []) H0:=by
  subst hH
  exact⟨rfl,rfl,rfl,rfl,rfl,Bj (Bj (Bj (Bj (Bj F8)))),λx=>rfl,λp=> .inl ⟨rfl,rfl,rfl⟩,λp u hu=>absurd hu Vo,λp p' u hu=>absurd hu Vo⟩
 have hnx:A2 H0=5:=by subst hH;rfl
 clear hH
 have en:∀{K:AV→Aj},Au AS (.ptr 0 0 0) H0 K=K (gV gs):= λ{K}=>by
  rw[AK (p:=0) rfl hO.net (by simp)];rfl
 rw[en,B2P (n:=n+78),WU,hnx]
 have hl5:Aq ((5,lpO gs (some none))::H0) 5=some (lpO gs (some none)):=by
  have:=A1 (H:=H0) (x:=lpO gs (some none)) (by simp[lpO])
  rw[hnx] at this
  exact this
 have w5:Wf ((5,lpO gs (some none))::H0):=by
  have:=Bj (x:=lpO gs (some none)) hO.wf
  rw[hnx] at this
  exact this
 have o5:OsK gs [] [] (some ([],0)) (some ([],0)) (Yd gs []) (XH gs []) ((5,lpO gs (some none))::H0):=hO.kp w5 λu y _ hy=>by
  have:=AM (x:=lpO gs (some none)) (hO.wf.lt hy) hy
  rw[hnx] at this
  exact this
 have hn6:A2 ((5,lpO gs (some none))::H0)=6:=rfl
 show(rt (L+20) (n+79)).call Cw [.yl 5,.iptr [gV gs]] ((5,lpO gs (some none))::H0) _=_
 refine A9H (n:=n+76) (s0:=5) (Q:=C6o gs) w0 h8 hp (by omega) B77 (λes H1 H' ⟨hl,ws,ch,b1,b3,h⟩ wf' k=>⟨k _ _ (show 5≠6 by decide) hl,ws,ch,b1,b3,h.kp wf' λu y hu hy=>k u y ?_ hy⟩) (λes H ⟨_,_,_,_,_,h⟩=>h.wf) ?_ (λdone H hd ⟨hl,ws,ch,b1,b3,h⟩=> ?_)
 ·exact(h.ne hu).2
 ·refine⟨AM (w5.lt hl5) hl5,[],[],_,_,o5.kp (Bj w5) λu y _ hy=>AM (w5.lt hy) hy⟩
 ·show J3 H 5 _=_
  rw[B5 hl]
  show Lx H 5 .gone _=_
  rw[Db]
  have hes:(Nb done).length<1000:=by
   have h1:=A70 done λc hc=>hp c (hd.mem_iff.1 hc)
   have h2:=hd.length_eq
   omega
  have h1:OsK gs ws ch b1 b3 (Yd gs (Nb done)) (XH gs (Nb done)) (upd H 5 .gone):=h.kp (BH h.wf) λu y hu hy=>by
   rw[Ap (h.ne hu).1];exact hy
  generalize upd H 5 .gone=H1 at h1
  show Au AS (.ptr 0 0 0) H1 _=_
  have en1:∀{K:AV→Aj},Au AS (.ptr 0 0 0) H1 K=K (gV gs):= λ{K}=>by
   rw[AK (p:=0) rfl h1.net (by simp)];rfl
  rw[en1]
  refine B2K (n:=n+73) w0 h8 (by omega) h1.wf λv H2 hv hv0=> ?_
  have os2:OsK gs ws ch b1 b3 (Yd gs (Nb done)) (XH gs (Nb done)) H2:=h1.kp hv.wf λu y _ hy=>hv.keep u y hy
  have hsl:(IB (gs.map Cd.id)).length=gs.length:=by rw[(C5 _).length_eq,XU]
  have hfp:∀(H':Hp) (D:Nat),Aq H' 2=some (.cells true EJ [.mp 1])→Aq H' 1=some (.map false (ES iV ws) b1)→Fx true (D+2) (.ptr 2 0 0) (.iptr [.imap (ES iV ws)]) H' true:= λH' D h2 h3=>
   A56 (D:=D+1) h2 (Ax (C2H (D:=D) h3) Ba)
  have hpw:∀s,decide (0<(JK ws s).getD 0)=decide (0<Yd gs (Nb done) s):= λs=>by rw[h1.wv]
  refine B8R (n:=n+77) (P:= λs=>decide (0<Yd gs (Nb done) s)) hv.wf hv.sl.rq (by omega) hL ⟨.fn (.func JG) [] [.iptr [.imap (ES iV ws)]],_,B9d (D:=depth-1) (Ax (hfp H2 (depth-3) os2.p1 os2.m1) Ba),λs K=> ?_⟩ (λH' hk s K=> ?_) λv' H3 g1 g2 g3=> ?_
  ·rw[B5Z rfl rfl]
   have:=AT (K:= λv=>K v []) (A9G (n:=n+76) (L:=L) (ws:=ws) (s:=s)) (Ax (q:=false) D1 (Ax (q:=false) (B0h (H:=[])) Ba))
   rw[hpw] at this
   exact this
  ·rw[B5Z rfl rfl]
   have nr:∀u,u<5→¬AF v u:= λu hu hc=>by
    have g1:=hv.new u hc
    have g2:=h1.wf.lt h1.p3
    omega
   have a1:=hk.keep hv.wf _ _ os2.p1 (nr 2 (by decide))
   have a2:=hk.keep hv.wf _ _ os2.m1 (nr 1 (by decide))
   have:=AT (K:= λv=>K v H') (A9G (n:=n+77) (L:=L) (ws:=ws) (s:=s)) (Ax (q:=false) D1 (Ax (hfp H' (depth-2) a1 a2) Ba))
   rw[hpw] at this
   exact this
  ·have nr:∀u,AF v' u→A2 H1≤u:= λu hu=>hv.new u (g2 u hu)
   have h4:=h1.wf.lt h1.p3
   have os3:OsK gs ws ch b1 b3 (Yd gs (Nb done)) (XH gs (Nb done)) H3:=os2.kp (g3.wf hv.wf) λu y hu hy=>g3.keep hv.wf u y hy λhc=>by
    have b1:=hv.new u hc
    rcases hu with hu|⟨p,hp⟩
    ·omega
    ·have b2:=(h1.cv p).lt h1.wf hp
     omega
   have hR:Ri gs (Nb done) [] [] ((IB (gs.map Cd.id)).filter λs=> !decide (0<Yd gs (Nb done) s)):=by
    refine⟨((C5 _).symm.nodup hg.ids).sublist List.filter_sublist,λx=> ?_,by simp,by simp⟩
    rw[A9D,List.mem_filter,(C5 _).mem_iff]
    refine and_congr Iff.rfl ?_
    constructor
    ·intro hh
     have:¬0<Yd gs (Nb done) x:=by simpa using hh
     exact⟨by simp,by omega⟩
    ·rintro⟨_,hh⟩
     simp[hh]
   rw[←A9D] at os3
   refine C2f (n:=n+75) (es:=Nb done) (r:=V4 gs) (ch:=ch) (b3:=b3) hes h8 hL hg.ids (B8m hg.ids hd) (λov H4 hov ho0 hnet=> ?_) gs.length (L+20) [] _ ws b1 v' AA H3 _ _ _ (by omega) (by simp) OrdK.nil ⟨os3,g1,.inl ⟨rfl,rfl,rfl⟩,λu hu=>⟨?_,Vo,λp hc=> ?_⟩,λu hu=>absurd hu Vo⟩ hR (λ_=>rfl) rfl
   ·rw[hov.rq.len]
    have en2:∀{K:AV→Aj},Au AS (.ptr 0 0 0) H4 K=K (gV gs):= λ{K}=>by
     rw[AK (p:=0) rfl hnet (by simp)];rfl
    have em:∀{K:AV→Aj},A79 (gV gs) H4 K=K (I (gs.length:Int)):= λ{K}=>by
     show GS (ES Kt (gE gs)) 0 (λn=>K (.v (.int .i64 (.ofNat n))))=_
     rw[Cq,KN]
     have:(ES Kt (gE gs)).length=gs.length:=by simp[gE]
     rw[this];rfl
    rw[en2,em]
    by_cases hlt:gs.length≤(V4 gs).length
    ·have er:ZT gs= .tup [DV (V4 gs),.v (.int .i64 0)]:=by unfold ZT;rw[if_pos hlt]
     rw[FE (by omega),Bx]
     refine hK _ _ λbb=> ?_
     rw[er]
     obtain⟨q,hq⟩:=Xy (D:=depth-2) (b:=bb) hov ho0
     exact⟨_,UP (D:=depth-1) (Ax hq (Ax (q:=false) D1 Ba))⟩
    ·have er:ZT gs= .tup [AA,.v (.int .i64 220)]:=by unfold ZT;rw[if_neg hlt]
     rw[FL (by omega),Dc]
     refine hK _ _ λbb=> ?_
     rw[er]
     exact⟨_,UP (D:=depth-1) (Ax (q:=false) D1 (Ax (q:=false) D1 Ba))⟩
   ·have b1:=nr u hu
    omega
   ·have b1:=nr u hu
    have b2:=(h1.cv p).lt h1.wf hc
    omega
end
end
section
variable {L n:Nat}
end
section
variable {L n:Nat}
structure Hw (R:Rt) (gs:List Cd) (a:AV):Prop where
 ok:GOk gs
 la:LA gs a
 bp:∀c∈gs,c.ps.length<100
 an:∀{s:Bp} {H:Hp} {K:AV→Aj},Ai R Ds [a,S s] H K=K (DV (XL gs s))
 inn:∀{l:List Bp} {v:AV} {p:Bp} {H:Hp} {K:AV→Aj},SA l v→l.length<1000→Ai R Hj [v,S p] H K=K (Bo (decide (p∈l)))
 hs:∀{l:List Bp} {v:AV} {p:Bp} {H:Hp} {K:AV→Aj},SA l v→l.length<1000→Ai R L6 [v,S p] H K=K (Xw p l 0)
theorem C5y {gs:List Cd} {a:AV} (hL:200000<L) (hg:GOk gs) (hps:∀c∈gs,c.ps.length<100) (ha:LA gs a):Hw (rt (L+20) (n+81)) gs a:=by
 have fs:∀{s:Bp} {H:Hp},OV true depth [a,S s] [a,S s] H false:= λ{s H}=>Ax (q:=false) (by
  rcases ha with rfl|⟨_,rfl⟩
  ·exact Pj
  ·exact D1) (Ax (q:=false) D1 Ba)
 refine⟨hg,ha,hps,λ{s H K}=> ?_,λ{l v p H K} hv hl=> ?_,λ{l v p H K} hv hl=> ?_⟩
 ·exact AT (A63 (L:=L) (n:=n+1) hg (by omega) hps ha) fs
 ·exact AT (C6R (n:=n+79) hv hl (by omega)) (Ax (hv.fx H) (Ax (q:=false) D1 Ba))
 ·exact AT (B3H (n:=n+80) hv hl (by omega)) (Ax (hv.fx H) (Ax (q:=false) D1 Ba))
theorem Tl {gs:List Cd} (hg:GOk gs):(DX gs).length<1000:=by
 have h1:=A3Q (gs:=gs)
 have h2:=hg.len
 omega
section
variable {K:KV} {x:Aj} {H:Hp} {gs:List Cd} {a w:AV} {i:Nat} {R:Rt}
theorem C5z {k200:AV→AV→AV→AV→AV→AV→AV→AV→AV→Hp→Aj} {hv ev d0 d1 d2 d3:AV} (h:Hw R gs a) (hi:i<gs.length):
 ∀(f k:Nat) (b:Bool),k≤gs.length→gs.length-k<f→(∀k',k200 w a (DV (gs.map Cd.id)) hv ev (I i) (Bo (b||(gs.drop k).any λc=>decide (gs[i].id∈c.ps))) k' d3 H=x)→
 G7 L R K k200 f w a (DV (gs.map Cd.id)) hv ev (I i) (Bo b) (I k) d0 d1 d2 d3 H=x:=by
 intro f
 induction f with
 |zero=>intro k b _ h;omega
 |succ f ih=>
  intro k b hk hf hx
  have h8:=h.ok.len
  rw[TP]
  unfold K3 BU Av Gr
  rw[h.la.len]
  by_cases hkl:k<gs.length
  ·have hb:=h.bp _ (QN hkl)
   obtain⟨p,g1,g2⟩:=C2N gs[k] H
   have ad:∀{K:AV→Aj},Go.Abs.Al Ab .add (I k) (.v (.int .i64 1)) K=K (I ((k+1:Nat):Int)):= λ{K}=>Dv (by omega)
   rw[l11 hkl,List.any_cons,←Bool.or_assoc] at hx
   have nx:=ih (k+1) _ (by omega) (by omega) hx
   have hin:∀{H:Hp} {K:AV→Aj},Ai R Hj [DV gs[k].ps,S gs[i].id] H K=K (Bo (decide (gs[i].id∈gs[k].ps))):= λ{H K}=>h.inn (I5 _) (by omega)
   rw[FL (by omega),Dc]
   cases b with
   |true=>
    rw[Bool.true_or] at nx
    simp only[gFT,Cu,BK,Wz]
    rw[ad]
    exact nx
   |false=>
    rw[Bool.false_or] at nx
    simp only[gT,Cu,BK,h.la.ia hkl,g1,g2,B5F hi,Gf,hin,V3]
    rw[ad]
    exact nx
  ·have:k=gs.length:=by omega
   subst this
   rw[List.drop_length,List.any_nil,Bool.or_false] at hx
   rw[FE (by omega),Bx]
   exact hx _
theorem C5A {k147:AV→AV→AV→AV→AV→AV→AV→AV→AV→AV→AV→AV→Hp→Aj} {ev pb kk hb d:AV} (h:Hw R gs a) (hi:i<gs.length):
 ∀(f k:Nat) (b:Bool),k≤(DX gs).length→(DX gs).length-k<f→(∀k',k147 w a (DV (gs.map Cd.id)) (DV (DX gs)) ev (I i) pb kk hb (Bo (b||((DX gs).drop k).any λz=>decide (gs[i].id∈XL gs z))) k' d H=x)→
 G8 L R K k147 f w a (DV (gs.map Cd.id)) (DV (DX gs)) ev (I i) pb kk hb (Bo b) (I k) d H=x:=by
 intro f
 induction f with
 |zero=>intro k b _ h;omega
 |succ f ih=>
  intro k b hk hf hx
  have h8:=h.ok.len
  have hl8:=Tl h.ok
  rw[TQ]
  unfold K4 BU Av Gr
  rw[A9U]
  by_cases hkl:k<(DX gs).length
  ·have ad:∀{K:AV→Aj},Go.Abs.Al Ab .add (I k) (.v (.int .i64 1)) K=K (I ((k+1:Nat):Int)):= λ{K}=>Dv (by omega)
   rw[l11 hkl,List.any_cons,←Bool.or_assoc] at hx
   have nx:=ih (k+1) _ (by omega) (by omega) hx
   have hin:∀{q:Bp} {H:Hp} {K:AV→Aj},Ai R Hj [DV (XL gs q),S gs[i].id] H K=K (Bo (decide (gs[i].id∈XL gs q))):= λ{q H K}=>h.inn (I5 _) (by have:=A7r (gs:=gs) (s:=q);omega)
   rw[FL (by omega),Dc]
   cases b with
   |true=>
    rw[Bool.true_or] at nx
    simp only[gFT,Cu,BK,Wz]
    rw[ad]
    exact nx
   |false=>
    rw[Bool.false_or] at nx
    simp only[gT,Cu,BK,(I5 (DX gs)).ia hkl,Gf,h.an,B5F hi,hin,V3]
    rw[ad]
    exact nx
  ·have:k=(DX gs).length:=by omega
   subst this
   rw[List.drop_length,List.any_nil,Bool.or_false] at hx
   rw[FE (by omega),Bx]
   exact hx _
theorem C5B {k76:AV→AV→AV→AV→AV→AV→AV→AV→AV→AV→AV→Hp→Aj} {e:Int} (h:Hw R gs a) (hL:1000<L) (hcov:e=0→∀y∈gs.map Cd.id,y∈DX gs∨∃z∈DX gs,Anc gs z y)
 (hx:∀i' d0 d1 d2 d3 d4,k76 w a (DV (gs.map Cd.id)) (DV (DX gs)) (.v (.int .i64 e)) i' d0 d1 d2 d3 d4 H=x):
 ∀(f i:Nat) (d0 d1 d2 d3 d4 d5:AV),i≤gs.length→gs.length-i<f→
 G9 L R K k76 f w a (DV (gs.map Cd.id)) (DV (DX gs)) (.v (.int .i64 e)) (I i) d0 d1 d2 d3 d4 d5 H=x:=by
 intro f
 induction f with
 |zero=>intro i d0 d1 d2 d3 d4 d5 _ h;omega
 |succ f ih=>
  intro i d0 d1 d2 d3 d4 d5 hi hf
  have h8:=h.ok.len
  have hl8:=Tl h.ok
  rw[TR]
  unfold K5 Bh BU Av Gr D3
  rw[h.la.len]
  by_cases hl:i<gs.length
  ·have ad:∀{K:AV→Aj},Go.Abs.Al Ab .add (I i) (.v (.int .i64 1)) K=K (I ((i+1:Nat):Int)):= λ{K}=>Dv (by omega)
   have e0:(AV.v (.int .i64 0))=I ((0:Nat):Int):=rfl
   have hm:gs[i].id∈gs.map Cd.id:=Zp.2 ⟨_,QN hl,rfl⟩
   rw[FL (by omega),Dc]
   simp only[BW]
   have l3:∀{k200:AV→AV→AV→AV→AV→AV→AV→AV→AV→Hp→Aj} {d0 d1 d2 d3:AV},(∀k',k200 w a (DV (gs.map Cd.id)) (DV (DX gs)) (.v (.int .i64 e)) (I i) (Bo ((gs.drop 0).any λc=>decide (gs[i].id∈c.ps))) k' d3 H=x)→
    G7 L R K k200 L w a (DV (gs.map Cd.id)) (DV (DX gs)) (.v (.int .i64 e)) (I i) (AV.v (.bool false)) (AV.v (.int .i64 0)) d0 d1 d2 d3 H=x:= λ{k200 d0 d1 d2 d3} hk=>C5z h hl L 0 false (by omega) (by omega) hk
   refine l3 λk'=> ?_
   have hin:∀{H:Hp} {K:AV→Aj},Ai R Hj [DV (DX gs),S gs[i].id] H K=K (Bo (decide (gs[i].id∈DX gs))):= λ{H K}=>h.inn (I5 _) hl8
   rw[B5F hl,Gf,hin]
   have l2:∀{k147:AV→AV→AV→AV→AV→AV→AV→AV→AV→AV→AV→AV→Hp→Aj} {pb kk hb d:AV} {b:Bool},(∀k',k147 w a (DV (gs.map Cd.id)) (DV (DX gs)) (.v (.int .i64 e)) (I i) pb kk hb (Bo (b||((DX gs).drop 0).any λz=>decide (gs[i].id∈XL gs z))) k' d H=x)→
    G8 L R K k147 L w a (DV (gs.map Cd.id)) (DV (DX gs)) (.v (.int .i64 e)) (I i) pb kk hb (Bo b) (AV.v (.int .i64 0)) d H=x:= λ{k147 pb kk hb d b} hk=>C5A h hl L 0 b (by omega) (by omega) hk
   refine l2 λk2'=> ?_
   have hne:(decide (gs[i].id∈DX gs)==(gs.drop 0).any λc=>decide (gs[i].id∈c.ps))=false:=by
    rw[l1n]
    by_cases hh:gs[i].id∈DX gs
    ·have h2:=(Sf.1 hh).2
     have:(gs.any λc=>decide (gs[i].id∈c.ps))=false:=by
      rw[List.any_eq_false]
      intro c hc
      simp[h2 c hc]
     rw[this,decide_eq_true hh];rfl
    ·have:(gs.any λc=>decide (gs[i].id∈c.ps))=true:=by
      rw[List.any_eq_true]
      apply Classical.byContradiction
      intro hc
      refine hh (Sf.2 ⟨hm,λc hcg hci=>hc ⟨c,hcg,by simp[hci]⟩⟩)
     rw[this,decide_eq_false hh];rfl
   have eE:∀{K:AV→Aj},Go.Abs.Al Ab .eql (.v (.int .i64 e)) (.v (.int .i64 0)) K=K (Bo (decide (e=0))):= λ{K}=>Do
   rw[C7q,hne]
   by_cases he:e=0
   ·have hc:(decide (gs[i].id∈DX gs)||((DX gs).drop 0).any λz=>decide (gs[i].id∈XL gs z))=true:=by
     rw[l1n,l1d,decide_eq_true_eq,List.any_eq_true]
     rcases hcov he _ hm with h1|⟨z,h1,h2⟩
     ·exact .inl h1
     ·exact .inr ⟨z,h1,by simp[A2x,h2]⟩
    rw[hc]
    simp only[gT,Cu,eE,decide_eq_true he,ntT,Wz,V3]
    rw[Bx,ad]
    exact ih (i+1) _ _ _ _ _ _ (by omega) (by omega)
   ·simp only[gT,gTF,Cu,eE,decide_eq_false he,V3]
    rw[Bx,ad]
    exact ih (i+1) _ _ _ _ _ _ (by omega) (by omega)
  ·rw[FE (by omega),Bx]
   exact hx _ _ _ _ _ _
theorem C5C {k24:AV→Hp→Aj} {ev d0 d1 d2 d3 d4 d5:AV} (h:Hw R gs a) (hx:k24 w H=x):
 ∀(f k:Nat),k≤(DX gs).length→(DX gs).length-k<f→
 GA L R K k24 f w a (DV (gs.map Cd.id)) (DV (DX gs)) ev d0 d1 d2 d3 d4 d5 (I k) H=x:=by
 intro f
 induction f with
 |zero=>intro k _ h;omega
 |succ f ih=>
  intro k hk hf
  have h8:=h.ok.len
  have hal:=Tl h.ok
  rw[TS]
  unfold K6 Bh BU Av Gr D3
  rw[A9U]
  by_cases hl:k<(DX gs).length
  ·have ad:∀{K:AV→Aj},Go.Abs.Al Ab .add (I k) (.v (.int .i64 1)) K=K (I ((k+1:Nat):Int)):= λ{K}=>Dv (by omega)
   have nx:=ih (k+1) (by omega) (by omega)
   have hm:(DX gs)[k]∈gs.map Cd.id:=(Sf.1 (QN hl)).1
   have hin:∀{p:Bp} {H:Hp} {K:AV→Aj},Ai R Hj [DV (gs.map Cd.id),S p] H K=K (Bo (decide (p∈gs.map Cd.id))):= λ{p H K}=>h.inn (I5 _) (by rw[XU];omega)
   have g:∀{K:AV→Aj},Go.Abs.Al Ab .gtr (I (k:Int)) (.v (.int .i64 0)) K=K (Bo (decide (0<k))):= λ{K}=>by
    rw[D7]
    congr 3
    simp
   rw[FL (by omega),Dc]
   by_cases h0:0<k
   ·have sb:∀{K:AV→Aj},Go.Abs.Al Ab .sub (I k) (.v (.int .i64 1)) K=K (I ((k-1:Nat):Int)):= λ{K}=>C6W h0 (by omega)
    have lt:(DX gs)[k-1]<(DX gs)[k]:=(l20.1 (B4y h.ok.ids)) (k-1) k (by omega) hl (by omega)
    simp only[(I5 _).ia hl,(I5 _).ia (show k-1<(DX gs).length by omega),BK,Gf,hin,decide_eq_true hm,ntT,gTF,gT,gU,Cu,V3,Wz,g,decide_eq_true h0,sb,B1W,decide_eq_true lt,Bool.not_true]
    rw[Bx,ad]
    exact nx
   ·simp only[(I5 _).ia hl,BK,Gf,hin,decide_eq_true hm,ntT,gTF,gT,gU,Cu,V3,Wz,g,decide_eq_false h0]
    rw[Bx,ad]
    exact nx
  ·rw[FE (by omega),Bx]
   exact hx
end
theorem C2g (gs:List Cd):∃(v:AV) (e:Int),ZT gs= .tup [v,.v (.int .i64 e)]∧((e=0∧gs.length≤(V4 gs).length∧v=DV (V4 gs))∨(e≠0∧¬gs.length≤(V4 gs).length∧v=AA)):=by
 unfold ZT
 by_cases h:gs.length≤(V4 gs).length
 ·rw[if_pos h];exact⟨_,0,rfl,.inl ⟨rfl,h,rfl⟩⟩
 ·rw[if_neg h];exact⟨_,220,rfl,.inr ⟨by decide,h,rfl⟩⟩
theorem C3a {gs:List Cd} (hn:(gs.map Cd.id).Nodup) (hl:gs.length≤(V4 gs).length) {y:Bp} (hy:y∈gs.map Cd.id):y∈DX gs∨∃z∈DX gs,Anc gs z y:=by
 obtain⟨h1,h2⟩:=B42 (gs:=gs)
 have hall:∀x∈gs.map Cd.id,x∈V4 gs:= λx hx=>h1.all hl hx
 obtain⟨u,v,e⟩:=List.append_of_mem (hall y hy)
 exact h1.covered hn hall _ y u v (Nat.lt_succ_self _) e
theorem B9I {xs:List Y7} {a0:AV} {K:KV} (hL:200000<L) (hx:XA xs a0) (hok:∀y∈xs,y.Ok)
 (hK:∀H0,K (Bo true) H0=some (Bo true,[])):(rt (L+20) (n+82)).call Qv [a0] [] K=some (Bo true,[]):=by
 rw[UG]
 unfold Lr Av
 obtain⟨hg,hlen⟩:=B4A xs (min 8 xs.length) (by omega)
 have hx0:Fx true depth a0 a0 [] false:=by
  rcases hx with rfl|⟨_,rfl⟩
  ·exact Pj
  ·exact D1
 rw[AT (C1B (n:=n) (by omega)) Ba,Gz (B3B (n:=n+16) (by omega) hx hok) (Ax hx0 Ba)]
 generalize OA xs (min 8 xs.length)=gs at hg hlen
 have ha:=B7M gs
 have h8:=hg.len
 have hps:∀c∈gs,c.ps.length<100:= λc hc=>by have:=B5n (hg.ok c hc);omega
 have hi:∀{H:Hp} {K},Ai (rt (L+20) (n+81)) IF [A8I gs] H K=K (DV (gs.map Cd.id)):= λ{H K}=>AT (B3G (L:=L) (n:=n+16) (λc hc=>⟨hg.ok c hc,hg.nd c hc⟩) (by omega) (by omega) ha) (Ax (ha.fx H) Ba)
 have hh:∀{H:Hp} {K},Ai (rt (L+20) (n+81)) Iv [A8I gs] H K=K (DV (DX gs)):= λ{H K}=>AT (B6h (L:=L) (n:=n+1) hg (by omega) hps ha) (Ax (ha.fx H) Ba)
 have ho:∀{H:Hp} {K},Ai (rt (L+20) (n+81)) Iu [A8I gs] H K=K (ZT gs):= λ{H K}=>AT (B6f (L:=L) (n:=n+1) hg hL hps ha) (Ax (ha.fx H) Ba)
 have hw:=C5y (n:=n) (L:=L) hL hg hps ha
 obtain⟨v,e,er,hc⟩:=C2g gs
 rw[hi,hh,ho,er,CZ,CY]
 simp only[BW]
 have e0:(AV.v (.int .i64 0))=I ((0:Nat):Int):=rfl
 refine(congrArg (λz=>G9 (L+20) _ K _ (L+20) _ _ _ _ (.v (.int .i64 e)) z .dk .dk .dk .dk .dk .dk []) e0).trans ?_
 refine C5B hw (by omega) (λhe y hy=> ?_) (λi' d0 d1 d2 d3 d4=> ?_) (L+20) 0 _ _ _ _ _ _ (by omega) (by omega)
 ·rcases hc with⟨_,h2,_⟩|⟨h1,_,_⟩
  ·exact C3a hg.ids h2 hy
  ·exact absurd he h1
 ·have hl8:=Tl hg
  refine(congrArg (λz=>GA (L+20) _ K _ (L+20) _ _ _ _ (.v (.int .i64 e)) i' d0 d1 d2 d3 d4 z []) e0).trans ?_
  exact C5C hw (hK []) (L+20) 0 (by omega) (by omega)
end
section
variable {L n:Nat}
end
end Go.Abs
end
noncomputable section
namespace Go.Proofs
open Go.Shelf
def Tryz.lays156_ren:Go.Shelf.Ren:=⟨λ|156=>198|165=>252|166=>193|169=>146|240=>250|241=>278|276=>276|277=>313|n=>n,λ|31=>26|9=>9|3=>3|4=>4|0=>0|20=>20|72=>193|76=>242|70=>191|37=>129|75=>241|127=>249|164=>317|5=>5|80=>200|n=>n,λ|n=>n⟩
theorem Tryz.lays156:Go.Proofs.Lays.n156 Tryz.prog Tryz.lays156_ren:={
 mixed:=by kernel_rfl
 f156:=Tryz.func198.trans (congrArg some (by kernel_rfl))
 f165:=Tryz.func252.trans (congrArg some (by kernel_rfl))
 f166:=Tryz.func193.trans (congrArg some (by kernel_rfl))
 f169:=Tryz.func146.trans (congrArg some (by kernel_rfl))
 f240:=Tryz.func250.trans (congrArg some (by kernel_rfl))
 f241:=Tryz.func278.trans (congrArg some (by kernel_rfl))
 f276:=Tryz.func276.trans (congrArg some (by kernel_rfl))
 f277:=Tryz.func313.trans (congrArg some (by kernel_rfl))
 t0:=Tryz.underlying0
 a0:=Tryz.isAgg0
 z0:=Tryz.sizeOf0
 v0:=Tryz.zeroValue0
 t3:=Tryz.underlying3
 a3:=Tryz.isAgg3
 z3:=Tryz.sizeOf3
 v3:=Tryz.zeroValue3
 t4:=Tryz.underlying4
 a4:=Tryz.isAgg4
 z4:=Tryz.sizeOf4
 v4:=Tryz.zeroValue4
 t9:=Tryz.underlying9
 a9:=Tryz.isAgg9
 z9:=Tryz.sizeOf9
 v9:=Tryz.zeroValue9
 t20:=Tryz.underlying20
 a20:=Tryz.isAgg20
 z20:=Tryz.sizeOf20
 v20:=Tryz.zeroValue20
 t31:=Tryz.underlying26
 a31:=Tryz.isAgg26
 z31:=Tryz.sizeOf26
 v31:=Tryz.zeroValue26
 t37:=Tryz.underlying129
 a37:=Tryz.isAgg129
 z37:=Tryz.sizeOf129
 v37:=Tryz.zeroValue129
 t70:=Tryz.underlying191
 a70:=Tryz.isAgg191
 z70:=Tryz.sizeOf191
 v70:=Tryz.zeroValue191
 t72:=Tryz.underlying193
 a72:=Tryz.isAgg193
 z72:=Tryz.sizeOf193
 v72:=Tryz.zeroValue193
 t75:=Tryz.underlying241
 a75:=Tryz.isAgg241
 z75:=Tryz.sizeOf241
 v75:=Tryz.zeroValue241
 t76:=Tryz.underlying242
 a76:=Tryz.isAgg242
 z76:=Tryz.sizeOf242
 v76:=Tryz.zeroValue242
 t127:=Tryz.underlying249
 a127:=Tryz.isAgg249
 z127:=Tryz.sizeOf249
 v127:=Tryz.zeroValue249
 t164:=Tryz.underlying317
 a164:=Tryz.isAgg317
 z164:=Tryz.sizeOf317
 v164:=Tryz.zeroValue317}
theorem Tryz.Builder_Extra_156:Builder.Extra Tryz.prog Tryz.lays156_ren:={
 sizeBuilder:=by kernel_rfl
 liesBuilder:=by kernel_rfl
 t5:=Tryz.underlying5
 a5:=Tryz.isAgg5
 z5:=Tryz.sizeOf5
 v5:=Tryz.zeroValue5
 infoByte:=by kernel_rfl
 cellsByte:=by kernel_rfl
 sizeByte:=by kernel_rfl
 neB5:=by decide}
open Go.RowKit in
theorem Tryz.strings_Join_none (a:Option Addr) (c:Nat) (sep:ByteArray) (w:World):
 Calls Tryz.prog 198 #[.slice a 0 c,.string sep] w λe w'=>e= .returned (.string ⟨#[]⟩)∧w'=w:=Any.strings_Join_none Tryz.lays156 Tryz.Builder_Extra_156 a c sep w
open Go.RowKit in
theorem Tryz.strings_Join (bk o c:Nat) (xs:List ByteArray) (sep:ByteArray) (w:World) (hcells:∀(j:Nat) x,xs[j]?=some x→w.cell? ⟨bk,o+j,none⟩=some (.string x)) (hbk:bk<w.heap.size) (hN:xs.length≤140737488355328) (hcap:xs.length≤c) (hlen:(Lib.join (xs.map (·.data.toList)) sep.data.toList).length≤140737488355328):
 Calls Tryz.prog 198 #[.slice (some ⟨bk,o,none⟩) xs.length c,.string sep] w λe w'=>e= .returned (.string ⟨(Lib.join (xs.map (·.data.toList)) sep.data.toList).toArray⟩)∧Below w.heap.size w w':=Any.strings_Join Tryz.lays156 Tryz.Builder_Extra_156 bk o c xs sep w hcells hbk hN hcap hlen
def Tryz.lays190_ren:Go.Shelf.Ren:=⟨λ|190=>93|125=>74|258=>151|128=>121|129=>122|302=>204|303=>205|304=>206|305=>207|306=>208|307=>209|308=>210|309=>211|310=>212|333=>256|329=>168|330=>169|334=>257|335=>258|336=>123|344=>294|n=>n,λ|31=>26|9=>9|3=>3|46=>132|0=>0|51=>127|53=>158|4=>4|183=>173|182=>172|131=>177|5=>5|218=>224|222=>228|228=>262|229=>263|n=>n,λ|n=>n⟩
theorem Tryz.lays190:Go.Proofs.Lays.n190 Tryz.prog Tryz.lays190_ren:={
 mixed:=by kernel_rfl
 f125:=Tryz.func74.trans (congrArg some (by kernel_rfl))
 f128:=Tryz.func121.trans (congrArg some (by kernel_rfl))
 f129:=Tryz.func122.trans (congrArg some (by kernel_rfl))
 f190:=Tryz.func93.trans (congrArg some (by kernel_rfl))
 f258:=Tryz.func151.trans (congrArg some (by kernel_rfl))
 f302:=Tryz.func204.trans (congrArg some (by kernel_rfl))
 f303:=Tryz.func205.trans (congrArg some (by kernel_rfl))
 f304:=Tryz.func206.trans (congrArg some (by kernel_rfl))
 f305:=Tryz.func207.trans (congrArg some (by kernel_rfl))
 f306:=Tryz.func208.trans (congrArg some (by kernel_rfl))
 f307:=Tryz.func209.trans (congrArg some (by kernel_rfl))
 f308:=Tryz.func210.trans (congrArg some (by kernel_rfl))
 f309:=Tryz.func211.trans (congrArg some (by kernel_rfl))
 f310:=Tryz.func212.trans (congrArg some (by kernel_rfl))
 f329:=Tryz.func168.trans (congrArg some (by kernel_rfl))
 f330:=Tryz.func169.trans (congrArg some (by kernel_rfl))
 f333:=Tryz.func256.trans (congrArg some (by kernel_rfl))
 f334:=Tryz.func257.trans (congrArg some (by kernel_rfl))
 f335:=Tryz.func258.trans (congrArg some (by kernel_rfl))
 f336:=Tryz.func123.trans (congrArg some (by kernel_rfl))
 f344:=Tryz.func294.trans (congrArg some (by kernel_rfl))
 t0:=Tryz.underlying0
 a0:=Tryz.isAgg0
 z0:=Tryz.sizeOf0
 v0:=Tryz.zeroValue0
 t3:=Tryz.underlying3
 a3:=Tryz.isAgg3
 z3:=Tryz.sizeOf3
 v3:=Tryz.zeroValue3
 t4:=Tryz.underlying4
 a4:=Tryz.isAgg4
 z4:=Tryz.sizeOf4
 v4:=Tryz.zeroValue4
 t5:=Tryz.underlying5
 a5:=Tryz.isAgg5
 z5:=Tryz.sizeOf5
 v5:=Tryz.zeroValue5
 t9:=Tryz.underlying9
 a9:=Tryz.isAgg9
 z9:=Tryz.sizeOf9
 v9:=Tryz.zeroValue9
 t31:=Tryz.underlying26
 a31:=Tryz.isAgg26
 z31:=Tryz.sizeOf26
 v31:=Tryz.zeroValue26
 t46:=Tryz.underlying132
 a46:=Tryz.isAgg132
 z46:=Tryz.sizeOf132
 v46:=Tryz.zeroValue132
 t51:=Tryz.underlying127
 a51:=Tryz.isAgg127
 z51:=Tryz.sizeOf127
 v51:=Tryz.zeroValue127
 t53:=Tryz.underlying158
 a53:=Tryz.isAgg158
 z53:=Tryz.sizeOf158
 v53:=Tryz.zeroValue158
 t131:=Tryz.underlying177
 a131:=Tryz.isAgg177
 z131:=Tryz.sizeOf177
 v131:=Tryz.zeroValue177
 t182:=Tryz.underlying172
 a182:=Tryz.isAgg172
 z182:=Tryz.sizeOf172
 v182:=Tryz.zeroValue172
 t183:=Tryz.underlying173
 a183:=Tryz.isAgg173
 z183:=Tryz.sizeOf173
 v183:=Tryz.zeroValue173
 t218:=Tryz.underlying224
 a218:=Tryz.isAgg224
 z218:=Tryz.sizeOf224
 v218:=Tryz.zeroValue224
 t222:=Tryz.underlying228
 a222:=Tryz.isAgg228
 z222:=Tryz.sizeOf228
 v222:=Tryz.zeroValue228
 t228:=Tryz.underlying262
 a228:=Tryz.isAgg262
 z228:=Tryz.sizeOf262
 v228:=Tryz.zeroValue262
 t229:=Tryz.underlying263
 a229:=Tryz.isAgg263
 z229:=Tryz.sizeOf263
 v229:=Tryz.zeroValue263}
open Go.Sort Go.RowKit in
theorem Tryz.slices_Sort_string (blk off cap:Nat) (ss:List (List UInt8)) (w:World) (hH:Holds encStr w blk off ss.toArray) (hblk:blk<w.heap.size) (hsz:ss.length<4611686018427387904):
 Calls Tryz.prog 93 #[.slice (some ⟨blk,off,none⟩) ss.length cap] w λe w'=>
  e= .returned (.tuple #[])∧∃n os,w'=grow (putRow encStr (Sort.ahead w n) blk off (ss.mergeSort λx y=>decide (x≤y)).toArray) os:=Any.slices_Sort_string Tryz.lays190 blk off cap ss w hH hblk hsz
def Tryz.lays105_ren:Go.Shelf.Ren:=⟨λ|105=>330|212=>366|99=>367|165=>252|166=>193|170=>145|169=>146|263=>384|264=>385|206=>377|240=>250|241=>278|276=>276|277=>313|n=>n,λ|9=>9|3=>3|4=>4|20=>20|0=>0|46=>132|109=>380|5=>5|72=>193|76=>242|51=>127|146=>393|53=>158|148=>395|70=>191|37=>129|75=>241|127=>249|164=>317|80=>200|n=>n,λ|n=>n⟩
theorem Tryz.lays105:Go.Proofs.Lays.n105 Tryz.prog Tryz.lays105_ren:={
 mixed:=by kernel_rfl
 f99:=Tryz.func367.trans (congrArg some (by kernel_rfl))
 f105:=Tryz.func330.trans (congrArg some (by kernel_rfl))
 f165:=Tryz.func252.trans (congrArg some (by kernel_rfl))
 f166:=Tryz.func193.trans (congrArg some (by kernel_rfl))
 f169:=Tryz.func146.trans (congrArg some (by kernel_rfl))
 f170:=Tryz.func145.trans (congrArg some (by kernel_rfl))
 f206:=Tryz.func377.trans (congrArg some (by kernel_rfl))
 f212:=Tryz.func366.trans (congrArg some (by kernel_rfl))
 f240:=Tryz.func250.trans (congrArg some (by kernel_rfl))
 f241:=Tryz.func278.trans (congrArg some (by kernel_rfl))
 f263:=Tryz.func384.trans (congrArg some (by kernel_rfl))
 f264:=Tryz.func385.trans (congrArg some (by kernel_rfl))
 f276:=Tryz.func276.trans (congrArg some (by kernel_rfl))
 f277:=Tryz.func313.trans (congrArg some (by kernel_rfl))
 t0:=Tryz.underlying0
 a0:=Tryz.isAgg0
 z0:=Tryz.sizeOf0
 v0:=Tryz.zeroValue0
 t3:=Tryz.underlying3
 a3:=Tryz.isAgg3
 z3:=Tryz.sizeOf3
 v3:=Tryz.zeroValue3
 t4:=Tryz.underlying4
 a4:=Tryz.isAgg4
 z4:=Tryz.sizeOf4
 v4:=Tryz.zeroValue4
 t5:=Tryz.underlying5
 a5:=Tryz.isAgg5
 z5:=Tryz.sizeOf5
 v5:=Tryz.zeroValue5
 t9:=Tryz.underlying9
 a9:=Tryz.isAgg9
 z9:=Tryz.sizeOf9
 v9:=Tryz.zeroValue9
 t20:=Tryz.underlying20
 a20:=Tryz.isAgg20
 z20:=Tryz.sizeOf20
 v20:=Tryz.zeroValue20
 t37:=Tryz.underlying129
 a37:=Tryz.isAgg129
 z37:=Tryz.sizeOf129
 v37:=Tryz.zeroValue129
 t46:=Tryz.underlying132
 a46:=Tryz.isAgg132
 z46:=Tryz.sizeOf132
 v46:=Tryz.zeroValue132
 t51:=Tryz.underlying127
 a51:=Tryz.isAgg127
 z51:=Tryz.sizeOf127
 v51:=Tryz.zeroValue127
 t53:=Tryz.underlying158
 a53:=Tryz.isAgg158
 z53:=Tryz.sizeOf158
 v53:=Tryz.zeroValue158
 t70:=Tryz.underlying191
 a70:=Tryz.isAgg191
 z70:=Tryz.sizeOf191
 v70:=Tryz.zeroValue191
 t72:=Tryz.underlying193
 a72:=Tryz.isAgg193
 z72:=Tryz.sizeOf193
 v72:=Tryz.zeroValue193
 t75:=Tryz.underlying241
 a75:=Tryz.isAgg241
 z75:=Tryz.sizeOf241
 v75:=Tryz.zeroValue241
 t76:=Tryz.underlying242
 a76:=Tryz.isAgg242
 z76:=Tryz.sizeOf242
 v76:=Tryz.zeroValue242
 t109:=Tryz.underlying380
 a109:=Tryz.isAgg380
 z109:=Tryz.sizeOf380
 v109:=Tryz.zeroValue380
 t127:=Tryz.underlying249
 a127:=Tryz.isAgg249
 z127:=Tryz.sizeOf249
 v127:=Tryz.zeroValue249
 t146:=Tryz.underlying393
 a146:=Tryz.isAgg393
 z146:=Tryz.sizeOf393
 v146:=Tryz.zeroValue393
 t148:=Tryz.underlying395
 a148:=Tryz.isAgg395
 z148:=Tryz.sizeOf395
 v148:=Tryz.zeroValue395
 t164:=Tryz.underlying317
 a164:=Tryz.isAgg317
 z164:=Tryz.sizeOf317
 v164:=Tryz.zeroValue317}
theorem Tryz.Builder_Extra_105:Builder.Extra Tryz.prog Tryz.lays105_ren:={
 sizeBuilder:=by kernel_rfl
 liesBuilder:=by kernel_rfl
 t5:=Tryz.underlying5
 a5:=Tryz.isAgg5
 z5:=Tryz.sizeOf5
 v5:=Tryz.zeroValue5
 infoByte:=by kernel_rfl
 cellsByte:=by kernel_rfl
 sizeByte:=by kernel_rfl
 neB5:=by decide}
open Go.RowKit Go.Lib in
theorem Tryz.strings_Repeat (s:ByteArray) (c:Nat) (w:World) (hc:c≤9223372036854775807) (hlen:s.size*c≤140737488355328):
 Calls Tryz.prog 330 #[.string s,.int .i64 c] w λe w'=>e= .returned (.string ⟨(Lib.repeatL s.data.toList c).toArray⟩)∧Below w.heap.size w w':=Any.strings_Repeat Tryz.lays105 Tryz.Builder_Extra_105 s c w hc hlen
end Go.Proofs
end
noncomputable section
namespace Go.Abs
open Go.RowKit Go.Proofs
set_option maxRecDepth 100000
theorem C5Q:A0g Tryz.prog 198:=⟨Tryz.f198,by kernel_rfl,by kernel_rfl,by kernel_rfl⟩
theorem C7p:A0g Tryz.prog 93:=⟨Tryz.f93,by kernel_rfl,by kernel_rfl,by kernel_rfl⟩
theorem C5P:A0g Tryz.prog 330:=⟨Tryz.f330,by kernel_rfl,by kernel_rfl,by kernel_rfl⟩
theorem C4N (E:XE):oT.All (A7t E Tryz.prog):=
 ⟨B4u C5Q Tryz.strings_Join_none Tryz.strings_Join,⟨B31 C7p Tryz.slices_Sort_string,trivial,trivial⟩,⟨A8k C5P Tryz.strings_Repeat,trivial,trivial⟩⟩
end Go.Abs
end
