import Derived.Test.YtlbhdmbfdcohhaaGreatDoorS49
set_option linter.all false
set_option maxHeartbeats 100000000
noncomputable section
namespace Go.Abs
open Go.RowKit Go.Proofs
set_option maxRecDepth 100000
section
variable {L n:Nat}
section
variable {α:Type} {f:α→AV} {b:List (Bt×α)} {x:Bt} {H:Hp}
end
theorem B8k {gs:List Cd} {e:Edg}:e∈Nc gs↔∃c∈gs,e.1=c.id∧e.2∈c.ps:=by
 unfold Nc
 rw[List.mem_flatMap]
 constructor
 ·rintro⟨c,hc,he⟩
  obtain⟨p,hp,rfl⟩:=l2a.1 he
  exact⟨c,hc,rfl,hp⟩
 ·rintro⟨c,hc,h1,h2⟩
  exact⟨c,hc,l2a.2 ⟨e.2,h2,by rw[←h1]⟩⟩
def lpH (gs:List Cd) (p:Option (Option Code)):Row:= .loop 32 [(2,AA),(3,gV gs),(5,.ptr 1 0 0),(8,.dk),(16,.it 2),(25,B8n gs),(27,.dk),(28,.dk),(29,.dk)] (GO).2.1 (GO).2.2.1 (GO).2.2.2 p
structure Hs (gs:List Cd) (es:List Edg) (b:List (Bt×Unit)) (H:Hp):Prop where
 mm:Aq H 0=some (.map false (GF uS b) none)
 st:Aq H 1=some (.cells true FJ [.mp 0])
 lp:Aq H 3=some (lpH gs (some none))
 wf:Wf H
 nd:(b.map Prod.fst).Nodup
 ky:∀x,x∈b.map Prod.fst↔x∈gs.map Cd.id∧∀e∈es,e.2≠x
section
variable {gs:List Cd} {K:KV} {x:Aj}
end
end
section
variable {L n:Nat}
abbrev iV:Nat→AV:= λk=>I (k:Int)
abbrev aV:AV→AV:= λa=>a
section
variable {H H':Hp} {K:KV} {x:Aj} {v:AV} {l:List Bt}
theorem B0q {α:Type} {f:α→AV} {b:List (Bt×α)} {x:Bt} {r:Nat} {v:α} {bo:Option (List Nat×Nat)} (h:Aq H r=some (.map false (GF f b) bo)):∃bo',∀K:Hp→Aj,Qx (.mp r) (SV x) (f v) H K=K (upd H r (.map false (GF f (Gv b x v)) bo')):=by
 have e:∀K:Hp→Aj,Qx (.mp r) (SV x) (f v) H K=JL H r λy=>A1N y λes bo=>Ny (SV x) es λq=>match q with
  |none=>LL H r (.map false (es++[(SV x,f v)]) (A49 bo)) K
  |some (i,_)=>LL H r (.map false (es.set i (SV x,f v)) bo) K:= λK=>rfl
 obtain⟨h1,h2⟩:=A71 (x:=x) v b 0
 cases hf:YL x b 0 with
 |none=>
  rw[hf] at h1
  refine⟨A49 bo,λK=> ?_⟩
  rw[e,BI h]
  show Ny (SV x) (GF f b) _=_
  rw[kfK,hf]
  show LL H r (.map false (GF f b++[(SV x,f v)]) (A49 bo)) K=_
  rw[Dm,←h1,GF,GF,Zl];rfl
 |some p=>
  obtain⟨j,w⟩:=p
  rw[hf] at h1
  refine⟨bo,λK=> ?_⟩
  rw[e,BI h]
  show Ny (SV x) (GF f b) _=_
  rw[kfK,hf]
  show LL H r (.map false ((GF f b).set j (SV x,f v)) bo) K=_
  rw[Dm,←h1,GF,GF,List.map_set,Nat.sub_zero]
theorem A1P {r:Nat} {x:Row} {es:List (Value×AV)} {bo:Option (List Nat×Nat)} (h:Aq H r=some x):Aq (upd H r (.map false es bo)) r=some (.map false es bo):=(Ed h).trans rfl
theorem Vn {u:Nat}:¬AG AA u:= λ⟨_,_,_,h⟩=>by cases h
theorem Bv.rq (h:Bv H Au 1 v l.length (AK l)):VF H v l:=by
 rcases h with⟨h1,h2,_⟩|⟨r,q,h1,h2,_⟩
 ·exact .inl ⟨h1,l1s h2⟩
 ·exact .inr ⟨r,q,[],h1,by rw[XR];exact h2⟩
theorem B8H {e sz m:Nat} {cs:List AV} (h:Bv H e sz v m cs):Ws v v=true:=by
 rcases h with⟨rfl,_⟩|⟨r,q,rfl,_⟩
 ·rfl
 ·show(Nat.beq sz sz&&(Nat.beq r r&&(Nat.beq 0 0&&Nat.beq m m)))=true
  rw[Zj,Zj,Zj,Zj];rfl
theorem okS {a:AV} {K:Aj} (h:Ws a a=true):Pw (AX (some (a,H)) a) K=K:=by
 show Pw (some (.v (.bool (Ws a a)),[])) K=K
 rw[h];rfl
theorem C6f (b:Bt) (h:VF H v l) (w:Wf H) (hn:l.length<1000000):∃v' H',(∀K:KV,(F3 Au 1 Ae 1 [(0,1,S b)] H λv1 H1=>DN Au 1 Ae Ac v v1 H1 K)=K v' H')∧VF H' v' (l++[b])∧Lat H H' (AG v)∧(∀u,AG v' u→A2 H≤u):=by
 have main:∃H1,(∀K:KV,DN Au 1 Ae Ac v (.sl 1 (A2 H) 0 1) ((A2 H,.cells false Au [S b])::H) K=DN Au 1 Ae Ac v (.sl 1 (A2 H) 0 1) H1 K)∧Bv H1 Au 1 v l.length (AK l)∧Lat ((A2 H,.cells false Au [S b])::H) H1 (AG v)∧A2 H1=A2 H+1:=by
  rcases h with⟨rfl,rfl⟩|⟨r,q,tl,rfl,hl⟩
  ·exact⟨_,λK=>rfl,.inl ⟨rfl,rfl,rfl⟩,Lat.refl _ _,rfl⟩
  ·have hlt:=w.lt hl
   have hl1:=AS (x:= .cells false Au [S b]) hlt hl
   cases tl with
   |nil=>
    rw[XR] at hl1
    exact⟨_,λK=>rfl,.inr ⟨r,q,rfl,hl1,by rw[Cr];omega⟩,Lat.refl _ _,rfl⟩
   |cons t tl=>
    have hu:=AB (q:=false) (e:=Au) (cs:=AK l) hl1
    refine⟨upd ((A2 H,.cells false Au [S b])::H) r (.cells false Au (AK l)),λK=> ?_,.inr ⟨r,false,rfl,hu,by rw[Cr];omega⟩,Lat.upd _ _ _ ⟨1,0,_,rfl⟩,by rw[BY];rfl⟩
    have e:∀H,DN Au 1 Ae Ac (.sl 1 r 0 l.length) (.sl 1 (A2 H) 0 1) H K=DN Au 1 Ae Ac (.sl 1 r 0 l.length) (.sl 1 (A2 H) 0 1) H K:= λ_=>rfl
    have e1:∀(H2:Hp) (src:AV),DN Au 1 Ae Ac (.sl 1 r 0 l.length) src H2 K=JL H2 r λx=>Ky x λE cs=>GP cs 0 λcl=>@Bool.rec (λ_=>Aj) (Ot (Nat.add 0 (Nat.mul l.length 1)) cs λcs'=>LL H2 r (.cells false E cs') λH1=>TR Au 1 Ae Ac (.sl 1 r 0 l.length) src H1 K) (TR Au 1 Ae Ac (.sl 1 r 0 l.length) src H2 K) (Nat.beq (Nat.add 0 (Nat.mul l.length 1)) cl):= λH2 src=>rfl
    have en:Nat.add 0 (Nat.mul l.length 1)=l.length:=by show 0+l.length*1=l.length;omega
    rw[e1,e1,BI hl1,BI hu,en]
    show(GP (AK l++t::tl) 0 λcl=>@Bool.rec (λ_=>Aj) (Ot l.length (AK l++t::tl) λcs'=>LL _ r (.cells false Au cs') λH1=>TR Au 1 Ae Ac (.sl 1 r 0 l.length) _ H1 K) _ (Nat.beq l.length cl))=(GP (AK l) 0 λcl=>@Bool.rec (λ_=>Aj) _ (TR Au 1 Ae Ac (.sl 1 r 0 l.length) _ _ K) (Nat.beq l.length cl))
    rw[Co,Co,KF,KF,Cr,Zj,Fl,Cr,K9]
    have hb:Nat.beq l.length (l.length+(tl.length+1))=false:=by
     cases hc:Nat.beq l.length (l.length+(tl.length+1)) with
     |false=>rfl
     |true=>have:=VC hc;omega
    rw[hb]
    show Ot l.length (AK l++t::tl) _=_
    rw[KR]
    have et:(AK l++t::tl).take l.length=AK l:=by
     have:=List.take_left (l₁:=AK l) (l₂:=t::tl)
     rw[Cr] at this
     exact this
    rw[et,Dm]
 obtain⟨H1,m1,m2,m3,m4⟩:=main
 have hsrc0:=LP (H:=H) (e:=Au) (n:=1) (cs:=[S b]) rfl
 have hne:∀u,AG (.sl 1 (A2 H) 0 1) u→¬AG v u:= λu ⟨_,_,_,h1⟩ hu=>by
  injection h1 with _ h1
  have:=h.lt w hu
  omega
 have hsrc:Bv H1 Au 1 (.sl 1 (A2 H) 0 1) 1 [S b]:=hsrc0.kp λu y hu hy=>m3.keep (Br w) u y hy (hne u hu)
 obtain⟨v',H',h1,h2,h3,h4⟩:=apt (ie:=Ae) (i2:=Ac) m2 (λK=>Pt (K:=K) hsrc) rfl rfl (by decide) rfl rfl (by show(l.length+1)*16≤_;omega) (by omega)
 refine⟨v',H',λK=> ?_,?_,((Lat.cons H _ (AG v)).trans m3 (R:=AG v) (λ_ _ h=>h) (λ_ _ h=>h)).trans h4 (λ_ _ h=>h) (λ_ _ h=>h),λu hu=> ?_⟩
 ·rw[A2q (z:=S []) (λ_=>rfl) (λ_=>rfl) rfl,m1]
  exact h1 K
 ·refine Bv.rq ?_
  rw[Fl,←Ye];exact h2
 ·rw[h3 u hu,m4];omega
end
section
variable {H:Hp} {K:KV} {D:Nat} {b:Bool}
theorem A5a {c:Nat} {q q':Bool} {e:TypeId} {cs cs':List AV} (hl:Aq H c=some (.cells q e cs)) (h:Pu b D cs cs' H q'):Fx b (D+1) (.ptr c 0 0) (.iptr cs') H true:= λK=>by
 show JL H c (λx=>Ky x λ_ cs=>Ht (HO b H D) (Dv (Nat.add 0 0) cs) λ_ c'=>K true (.iptr c'))=_
 rw[BI hl]
 show Ht (HO b H D) cs _=_
 rw[h]
theorem B9d {f:Nat} {cs cs':List AV} {q:Bool} (h:Pu b D cs cs' H q):Fx b (D+1) (.fn (.func f) [] cs) (.fn (.func f) [] cs') H q:= λK=>h _
theorem C2I {r:Nat} {ws:List (Bt×Nat)} {bo:Option (List Nat×Nat)} (h:Aq H r=some (.map false (GF iV ws) bo)):Fx true (D+1) (.mp r) (.imap (GF iV ws)) H true:= λK=>by
 show JL H r (λx=>B4b x λes=>T4 (HO true H D) es λ_ es'=>K true (.imap es'))=_
 rw[BI h]
 show T4 (HO true H D) (GF iV ws) _=_
 have e:∀(es:List (Bt×Nat)) (F:Bool→List (Value×AV)→Aj),T4 (HO true H D) (GF iV es) F=F false (GF iV es):=by
  intro es
  induction es with
  |nil=>intro F;rfl
  |cons a es ih=>
   intro F
   show HO true H D (.v (.int .i64 (a.2:Int))) (λq a'=>T4 (HO true H D) (GF iV es) λq' l'=>F (@Bool.rec (λ_=>Bool) q' true q) ((SV a.1,a')::l'))=_
   rw[D2,ih];rfl
 rw[e]
theorem B5Y {f N:Nat} {c:AV} {s:Bt} (h1:(E (L+20)).ne f=false) (h2:(E (L+20)).imp f=false):Dy (E (L+20)) (rt (L+20) N) (.fn (.func f) [] [c]) [S s] H K=Ah (rt (L+20) N) f [S s,c] H λv=>K v H:=by
 show US [S s] [c] (λas'=>US [] as' λall=>B4P ((E (L+20)).ne f) all H K (@Bool.rec (λ_=>Aj) (Ah (rt (L+20) N) f all H λv=>K v H) ((rt (L+20) N).call f all H K) ((E (L+20)).imp f)))=_
 rw[KS,KS,h1,h2]
 rfl
theorem C3Y {m s:Bt}:CS (rt (L+20) (n+1)) HV [S s,.iptr [S m]] (Bo (decide (s=m))):=by
 intro K hK
 rw[V9]
 unfold Mx
 rw[Gt,L9]
 exact hK _ _ λb=>⟨false,D2⟩
theorem A9M {ws:List (Bt×Nat)} {s:Bt}:CS (rt (L+20) (n+1)) JH [S s,.iptr [.imap (GF iV ws)]] (Bo (decide (0<(JM ws s).getD 0))):=by
 intro K hK
 rw[VA]
 unfold My Av
 have el:∀{K:AV→Aj},Ar Cq (.iptr [.imap (GF iV ws)]) [] K=K (.imap (GF iV ws)):= λ{K}=>NJ rfl
 have ek:∀(F:Value→Aj),IV (S s) F=F (SV s):= λF=>id rfl
 rw[el,ek,A0w (f:=iV) (b:=ws) (λK=>id rfl)]
 have eg:∀(k:Nat) (K:AV→Aj),Go.Abs.Ak Ab .gtr (iV k) (AV.v (.int .i64 0)) K=K (Bo (decide (0<k))):= λk K=>by
  have e:decide ((0:Int)<(k:Int))=decide (0<k):=decide_eq_decide.2 (by omega)
  rw[DM,e]
 cases hf:JM ws s with
 |none=>
  rw[hf] at hK
  show Go.Abs.Ak Ab .gtr (iV 0) (AV.v (.int .i64 0)) _=_
  rw[eg]
  exact hK _ _ λb=>⟨false,D2⟩
 |some k=>
  rw[hf] at hK
  show Go.Abs.Ak Ab .gtr (iV k) (AV.v (.int .i64 0)) _=_
  rw[eg]
  exact hK _ _ λb=>⟨false,D2⟩
end
structure OsK (gs:List Cd) (ws:List (Bt×Nat)) (ch:List (Bt×AV)) (b1 b3:Option (List Nat×Nat)) (wt:Bt→Nat) (ct:Bt→List Bt) (H:Hp):Prop where
 net:Aq H 0=some (.cells true BC [gV gs])
 m1:Aq H 1=some (.map false (GF iV ws) b1)
 p1:Aq H 2=some (.cells true EE [.mp 1])
 m3:Aq H 3=some (.map false (GF aV ch) b3)
 p3:Aq H 4=some (.cells true CU [.mp 3])
 wf:Wf H
 wv:∀x,(JM ws x).getD 0=wt x
 cv:∀p,Bv H Au 1 ((JM ch p).getD AA) (ct p).length (AK (ct p))
 cr:∀p u,AG ((JM ch p).getD AA) u→6<u
 cd:∀p p' u,AG ((JM ch p).getD AA) u→AG ((JM ch p').getD AA) u→p=p'
section
variable {gs:List Cd} {ws:List (Bt×Nat)} {ch:List (Bt×AV)} {b1 b3:Option (List Nat×Nat)} {wt:Bt→Nat} {ct:Bt→List Bt} {H H':Hp} {s p:Bt}
theorem OsK.kp (h:OsK gs ws ch b1 b3 wt ct H) (w:Wf H') (k:∀u y,(u<5∨∃p,AG ((JM ch p).getD AA) u)→Aq H u=some y→Aq H' u=some y):OsK gs ws ch b1 b3 wt ct H':=
 ⟨k _ _ (.inl (by decide)) h.net,k _ _ (.inl (by decide)) h.m1,k _ _ (.inl (by decide)) h.p1,k _ _ (.inl (by decide)) h.m3,k _ _ (.inl (by decide)) h.p3,w,h.wv,λp=>(h.cv p).kp λu y hu hy=>k u y (.inr ⟨p,hu⟩) hy,h.cr,h.cd⟩
theorem OsK.ne (h:OsK gs ws ch b1 b3 wt ct H) {u:Nat} (hu:u<5∨∃p,AG ((JM ch p).getD AA) u):u≠5∧u≠6:=by
 rcases hu with hu|⟨q,hu⟩
 ·omega
 ·have:=h.cr q u hu
  omega
theorem OsK.lw (h:OsK gs ws ch b1 b3 wt ct H) {K:AV→Aj}:TB Ab false (.mp 1) (SV s) H K=K (I (wt s:Int)):=by
 rw[A0w (f:=iV) (b:=ws) (λK=>Pq h.m1),←h.wv s]
 cases JM ws s<;>rfl
theorem OsK.lc (h:OsK gs ws ch b1 b3 wt ct H) {K:AV→Aj}:TB Ac false (.mp 3) (SV p) H K=K ((JM ch p).getD AA):=by
 rw[A0w (f:=aV) (b:=ch) (λK=>Pq h.m3)]
 cases JM ch p<;>rfl
theorem OsK.put (h:OsK gs ws ch b1 b3 wt ct H) (k:Nat):∃b1' H',(∀K:Hp→Aj,Qx (.mp 1) (SV s) (I (k:Int)) H K=K H')∧OsK gs (Gv ws s k) ch b1' b3 (λx=>if s=x then k else wt x) ct H'∧H'=upd H 1 (.map false (GF iV (Gv ws s k)) b1'):=by
 obtain⟨b1',e⟩:=B0q (f:=iV) (x:=s) (v:=k) h.m1
 have n1:∀u,u≠1→Aq (upd H 1 (.map false (GF iV (Gv ws s k)) b1')) u=Aq H u:= λu hu=>Ap hu
 refine⟨b1',_,e,⟨by rw[n1 _ (by decide)];exact h.net,A1P h.m1,by rw[n1 _ (by decide)];exact h.p1,by rw[n1 _ (by decide)];exact h.m3,by rw[n1 _ (by decide)];exact h.p3,BR h.wf,λx=> ?_,λp=> ?_,h.cr,h.cd⟩,rfl⟩
 ·rw[FX]
  by_cases hx:s=x
  ·rw[if_pos hx,if_pos hx];rfl
  ·rw[if_neg hx,if_neg hx];exact h.wv x
 ·exact(h.cv p).kp λu y hu hy=>by rw[n1 _ (by have:=h.cr p u hu;omega)];exact hy
end
def XZ (gs:List Cd) (es:List Edg) (x:Bt):Nat:=(es.filter λe=>decide (e.1=x)&&decide (e.2∈gs.map Cd.id)).length
def XC (gs:List Cd) (es:List Edg) (p:Bt):List Bt:=(es.filter λe=>decide (e.2=p)&&decide (p∈gs.map Cd.id)).map Prod.fst
theorem A9K {gs:List Cd} {es:List Edg} {s p x:Bt}:XZ gs (es++[(s,p)]) x=if p∈gs.map Cd.id then(if s=x then XZ gs es s+1 else XZ gs es x) else XZ gs es x:=by
 unfold XZ
 rw[List.filter_append,Fl]
 by_cases h1:p∈gs.map Cd.id
 ·rw[if_pos h1]
  by_cases h2:s=x
  ·subst h2
   rw[if_pos rfl,List.filter_cons_of_pos (by simp only[decide_eq_true h1,decide_true,Bool.and_self])];rfl
  ·rw[if_neg h2,List.filter_cons_of_neg (by simp only[decide_eq_false h2,Bool.false_and];simp)];rfl
 ·rw[if_neg h1,List.filter_cons_of_neg (by simp only[decide_eq_false h1,Bool.and_false];simp)];rfl
theorem B0w {gs:List Cd} {es:List Edg} {s p q:Bt}:XC gs (es++[(s,p)]) q=if p∈gs.map Cd.id then(if p=q then XC gs es p++[s] else XC gs es q) else XC gs es q:=by
 unfold XC
 rw[List.filter_append,Zl]
 by_cases h1:p∈gs.map Cd.id
 ·rw[if_pos h1]
  by_cases h2:p=q
  ·subst h2
   rw[if_pos rfl,List.filter_cons_of_pos (by simp only[decide_eq_true h1,decide_true,Bool.and_self])];rfl
  ·rw[if_neg h2,List.filter_cons_of_neg (by simp only[decide_eq_false h2,Bool.false_and];simp)]
   exact XR _
 ·rw[if_neg h1,List.filter_cons_of_neg (by
   by_cases h2:p=q
   ·subst h2;simp only[decide_eq_false h1,Bool.and_false];simp
   ·simp only[decide_eq_false h2,Bool.false_and];simp)]
  exact XR _
theorem B9u {gs:List Cd} {es:List Edg} {x:Bt}:XZ gs es x≤es.length:=List.length_filter_le _ _
theorem A5q {gs:List Cd} {es:List Edg} {p:Bt}:(XC gs es p).length≤es.length:=by
 unfold XC
 rw[Wv]
 exact List.length_filter_le _ _
def lpO (gs:List Cd) (p:Option (Option Code)):Row:= .loop 86 [(2,AA),(3,.v (.int .i64 0)),(4,.ptr 0 0 0),(6,.ptr 2 0 0),(7,.ptr 4 0 0),(8,.dk),(9,.dk),(10,.dk),(11,.dk),(25,B8n gs),(26,.dk),(27,.dk),(28,.dk),(29,.dk),(30,.dk),(31,.dk),(32,.dk),(33,.dk),(34,.dk),(35,.dk),(36,.dk),(37,.dk),(38,.dk),(39,.dk),(40,.dk),(41,.dk),(42,.dk),(61,.dk),(62,.dk),(63,.dk)] (Eh).2.1 (Eh).2.2.1 (Eh).2.2.2 p
def C6i (gs:List Cd) (es:List Edg) (H:Hp):Prop:=Aq H 5=some (lpO gs (some none))∧∃ws ch b1 b3,OsK gs ws ch b1 b3 (XZ gs es) (XC gs es) H
section
variable {gs:List Cd}
theorem B91 {H1:Hp} {K:Hp→Aj} (h:Aq H1 5=some (lpO gs none)):ET H1 5 false (some none) K=K (upd H1 5 (lpO gs (some none))):=Vj h
theorem C50 {H1:Hp} {K:Hp→Aj} (h:Aq H1 5=some (lpO gs (some none))):ET H1 5 true none K=K (upd H1 5 (lpO gs none)):=Vk h
theorem B74:A5z (rt (L+20) (n+2)) L 5 6 (C6i gs):=by
 intro es s p H K x hlen ⟨hlp,ws,ch,b1,b3,h⟩ hx
 show QR (rt (L+20) (n+2)) 5 [S s,S p] H K=x
 rw[Vf hlp (by kernel_rfl)]
 have hrun:(rt (L+20) (n+2)).run= λcf=>TX (E (L+20)) (rt (L+20) (n+1)) cf:=rfl
 rw[hrun,Yt,C50 hlp]
 simp only[BX]
 have h1:OsK gs ws ch b1 b3 (XZ gs es) (XC gs es) (upd H 5 (lpO gs none)):=h.kp (BR h.wf) λu y hu hy=>by
  rw[Ap (h.ne hu).1];exact hy
 have hl1:Aq (upd H 5 (lpO gs none)) 5=some (lpO gs none):=IU hlp
 have k1:∀y,Aq H 6=some y→Aq (upd H 5 (lpO gs none)) 6=some y:= λy hy=>by rw[Ap (by decide)];exact hy
 generalize upd H 5 (lpO gs none)=H1 at h1 hl1 k1
 show Ar AT (.ptr 0 0 0) H1 _=_
 rw[AP (p:=0) rfl h1.net (by simp)]
 show Ah (rt (L+20) (n+1)) F0 [gV gs,S p] H1 _=_
 rw[A4q]
 by_cases hp:p∈gs.map Cd.id
 ·rw[decide_eq_true hp]
  show Aw (.v (.bool true)) _ _=_
  rw[De]
  show Ar Cq (.ptr 2 0 0) H1 _=_
  have ek:∀(s:Bt) (F:Value→Aj),IV (S s) F=F (SV s):= λs F=>id rfl
  rw[AP (p:=0) rfl h1.p1 (by simp),ek]
  show TB Ab false (.mp 1) (SV s) H1 _=_
  rw[h1.lw,D4 (by have:=B9u (gs:=gs) (es:=es) (x:=s);omega),ek]
  obtain⟨b1',H2,e2,h2,eq2⟩:=h1.put (s:=s) (XZ gs es s+1)
  show Qx (.mp 1) (SV s) (I ((XZ gs es s+1:Nat):Int)) H1 _=_
  rw[e2]
  have hl2:Aq H2 5=some (lpO gs none):=by rw[eq2,Ap (by decide)];exact hl1
  have k2:∀y,Aq H 6=some y→Aq H2 6=some y:= λy hy=>by rw[eq2,Ap (by decide)];exact k1 y hy
  clear eq2 e2
  have ep3:∀{H:Hp} {wt:Bt→Nat} {b1':Option (List Nat×Nat)} {ws':List (Bt×Nat)} {K:AV→Aj},OsK gs ws' ch b1' b3 wt (XC gs es) H→Ar Bl (.ptr 4 0 0) H K=K (.mp 3):= λ{H wt b1' ws' K} h=>by
   rw[AP (p:=0) rfl h.p3 (by simp)];rfl
  rw[ep3 h2,BN,BN,ek]
  have hsv:=h2.cv p
  have hrv:∀u,AG ((JM ch p).getD AA) u→6<u:=h2.cr p
  rw[h2.lc,BN,A2q (z:=S []) (λ_=>rfl) (λ_=>rfl) rfl,Qz]
  have h3:OsK gs (Gv ws s (XZ gs es s+1)) ch b1' b3 (λx=>if s=x then XZ gs es s+1 else XZ gs es x) (XC gs es) ((A2 H2,.cells false Au [S s])::H2):=h2.kp (Br h2.wf) λu y _ hy=>AS (h2.wf.lt hy) hy
  have hn3:A2 ((A2 H2,Row.cells false Au [S s])::H2)=A2 H2+1:=rfl
  have hn2:=h2.wf.lt hl2
  have hsrc:=LP (H:=H2) (e:=Au) (n:=1) (cs:=[S s]) rfl
  obtain⟨v',H4,a1,a2,a3,a4⟩:=apt (ie:=Ae) (i2:=Ac) (h3.cv p) (λK=>Pt (K:=K) hsrc) rfl rfl (by decide) rfl rfl (by have:=A5q (gs:=gs) (es:=es) (p:=p);show((XC gs es p).length+1)*16≤_;omega) (by have:=A5q (gs:=gs) (es:=es) (p:=p);omega)
  rw[a1,Qz,ek]
  have nr:∀{u:Nat},u<7→¬AG ((JM ch p).getD AA) u:= λhu h=>by have:=hrv _ h;omega
  have h4m:=a4.keep h3.wf 3 _ h3.m3 (nr (by decide))
  obtain⟨b3',e5⟩:=B0q (f:=aV) (x:=p) (v:=v') h4m
  show Ea (Qx (.mp 3) (SV p) (aV v') H4 λH=>some (AV.v undef,H)) _=_
  rw[e5,Qz,ep3 h3]
  have okm:∀{K:Aj},Pw (AX (some (AV.mp 3,[])) (.mp 3)) K=K:= λ{K}=>okS rfl
  have h4p:Aq H4 4=some (.cells true CU [.mp 3]):=a4.keep h3.wf 4 _ h3.p3 (nr (by decide))
  have ep4:∀{K:AV→Aj},Ar Bl (.ptr 4 0 0) H4 K=K (.mp 3):= λ{K}=>by
   rw[AP (p:=0) rfl h4p (by simp)];rfl
  rw[okm,ep4,okm,okm,ek,h3.lc,okS (B8H hsv)]
  have w4:=a4.wf h3.wf
  have hl3:=AS (x:= .cells false Au [S s]) hn2 hl2
  have hl4:=a4.keep h3.wf 5 _ hl3 (nr (by decide))
  have hl5:Aq (upd H4 3 (.map false (GF aV (Gv ch p v')) b3')) 5=some (lpO gs none):=by rw[Ap (by decide)];exact hl4
  show ET (upd H4 3 (.map false (GF aV (Gv ch p v')) b3')) 5 false (some none) _=_
  rw[B91 hl5]
  have k6:∀u y,(u≠3∧u≠5)→Aq H4 u=some y→Aq (upd (upd H4 3 (.map false (GF aV (Gv ch p v')) b3')) 5 (lpO gs (some none))) u=some y:= λu y hu hy=>by
   rw[Ap hu.2,Ap hu.1];exact hy
  have k36:∀u y,u≠3∧u≠5→u<7→Aq ((A2 H2,Row.cells false Au [S s])::H2) u=some y→Aq (upd (upd H4 3 (.map false (GF aV (Gv ch p v')) b3')) 5 (lpO gs (some none))) u=some y:= λu y hu h7 hy=>k6 u y hu (a4.keep h3.wf u y hy (nr h7))
  refine hx _ ⟨IU hl5,Gv ws s (XZ gs es s+1),Gv ch p v',b1',b3',⟨k36 0 _ (by decide) (by decide) h3.net,k36 1 _ (by decide) (by decide) h3.m1,k36 2 _ (by decide) (by decide) h3.p1,?_,k36 4 _ (by decide) (by decide) h3.p3,BR (BR w4),λy=> ?_,λq=> ?_,λq u hu=> ?_,λq q' u hu hu'=> ?_⟩⟩ λy hy=> ?_
  ·rw[Ap (by decide)]
   exact A1P h4m
  ·rw[h3.wv,A9K,if_pos hp]
  ·rw[FX,B0w,if_pos hp]
   by_cases hq:p=q
   ·subst hq
    rw[if_pos rfl,if_pos rfl,l1l,Fl,←Ye]
    refine a2.kp λu y hu hy=>k6 u y ?_ hy
    have:=a3 u hu
    omega
   ·rw[if_neg hq,if_neg hq]
    refine(h3.cv q).kp λu y hu hy=>k6 u y (by have:=h3.cr q u hu;omega) (a4.keep h3.wf u y hy λhc=>hq (h3.cd p q u hc hu))
  ·rw[FX] at hu
   by_cases hq:p=q
   ·rw[if_pos hq,l1l] at hu
    have:=a3 u hu
    omega
   ·rw[if_neg hq] at hu
    exact h3.cr q u hu
  ·rw[FX] at hu hu'
   by_cases hq:p=q
   ·by_cases hq':p=q'
    ·exact hq.symm.trans hq'
    ·rw[if_pos hq,l1l] at hu
     rw[if_neg hq'] at hu'
     have e1:=a3 u hu
     have e2:=(h3.cv q').lt h3.wf hu'
     omega
   ·rw[if_neg hq] at hu
    by_cases hq':p=q'
    ·rw[if_pos hq',l1l] at hu'
     have e1:=a3 u hu'
     have e2:=(h3.cv q).lt h3.wf hu
     omega
    ·rw[if_neg hq'] at hu'
     exact h3.cd q q' u hu hu'
  ·have a:=k2 y hy
   exact k36 6 _ (by decide) (by decide) (AS (h2.wf.lt a) a)
 ·rw[decide_eq_false hp]
  show Aw (.v (.bool false)) _ _=_
  rw[Bz]
  show ET H1 5 false (some none) _=_
  rw[B91 hl1]
  have e1:XZ gs (es++[(s,p)])=XZ gs es:=funext λy=>by rw[A9K,if_neg hp]
  have e2:XC gs (es++[(s,p)])=XC gs es:=funext λy=>by rw[B0w,if_neg hp]
  refine hx _ ⟨IU hl1,ws,ch,b1,b3,?_⟩ λy hy=> ?_
  ·rw[e1,e2]
   refine h1.kp (BR h1.wf) λu y hu hy=> ?_
   rw[Ap (h1.ne hu).1];exact hy
  ·rw[Ap (by decide)];exact k1 y hy
end
end
section
variable {L n:Nat}
def Sy (gs:List Cd) (es:List Edg) (out rem:List Bt) (x:Bt):Nat:=(es.filter λe=>decide (e.1=x)&&(decide (e.2∈gs.map Cd.id)&&decide (e.2∉out))).length+rem.count x
section
variable {gs:List Cd} {es:List Edg} {out rem l:List Bt} {x c m:Bt}
theorem Ua:Sy gs es out (c::rem) x=Sy gs es out rem x+if c=x then 1 else 0:=by
 unfold Sy
 rw[List.count_cons,Xk]
 congr 2
 by_cases h:c=x<;>simp[h]
theorem A9J:Sy gs es [] []=XZ gs es:=by
 funext x
 unfold Sy XZ
 simp
theorem B9t:Sy gs es out rem x≤es.length+rem.length:=by
 have h1:=List.length_filter_le (λe:Edg=>decide (e.1=x)&&(decide (e.2∈gs.map Cd.id)&&decide (e.2∉out))) es
 have h2:=List.count_le_length (a:=x) (l:=rem)
 unfold Sy
 omega
theorem A9I (h1:m∈gs.map Cd.id) (h2:m∉out):Sy gs es (out++[m]) (XC gs es m)=Sy gs es out []:=by
 funext x
 unfold Sy XC
 rw[List.count_nil,Nat.add_zero]
 induction es with
 |nil=>rfl
 |cons e es ih=>
  rw[l2h,l2h,l2h]
  by_cases hm:e.2=m
  ·have e1:(decide (e.1=x)&&(decide (e.2∈gs.map Cd.id)&&decide (e.2∉out++[m])))=false:=by simp[hm]
   have e2:(decide (e.2=m)&&decide (m∈gs.map Cd.id))=true:=by rw[decide_eq_true hm,decide_eq_true h1];rfl
   by_cases hx:e.1=x
   ·have e3:(decide (e.1=x)&&(decide (e.2∈gs.map Cd.id)&&decide (e.2∉out)))=true:=by rw[decide_eq_true hx,hm,decide_eq_true h1,decide_eq_true h2];rfl
    have e4:(e.1==x)=true:=by simp[hx]
    simp only[e1,e2,e3,e4,l0z,if_false,if_true,XS,K9,List.count_cons]
    omega
   ·have e3:(decide (e.1=x)&&(decide (e.2∈gs.map Cd.id)&&decide (e.2∉out)))=false:=by rw[decide_eq_false hx];rfl
    have e4:(e.1==x)=false:=by simp[hx]
    simp only[e1,e2,e3,e4,l0z,if_false,if_true,XS,List.count_cons]
    omega
  ·have e2:(decide (e.2=m)&&decide (m∈gs.map Cd.id))=false:=by rw[decide_eq_false hm];rfl
   have e1:decide (e.2∉out++[m])=decide (e.2∉out):=by simp[hm]
   cases hb:(decide (e.1=x)&&(decide (e.2∈gs.map Cd.id)&&decide (e.2∉out))) with
   |true=>
    simp only[e1,e2,hb,l0z,if_false,if_true,K9]
    omega
   |false=>
    simp only[e1,e2,hb,l0z,if_false]
    exact ih
structure Ri (gs:List Cd) (es:List Edg) (out rem l:List Bt):Prop where
 nd:l.Nodup
 mem:∀x,x∈l↔x∈gs.map Cd.id∧x∉out∧Sy gs es out rem x=0
 jz:∀x∈out,Sy gs es out rem x=0
 rid:∀x∈rem,x∈gs.map Cd.id
theorem Ri.len (h:Ri gs es out rem l):l.length≤gs.length:=by
 have:=A4O h.nd λx hx=>((h.mem x).1 hx).1
 rw[Wv] at this
 exact this
theorem Ri.pos:1≤Sy gs es out (c::rem) c:=by rw[Ua,if_pos rfl];omega
theorem Ri.dec:(λx=>if c=x then Sy gs es out (c::rem) c-1 else Sy gs es out (c::rem) x)=Sy gs es out rem:=by
 funext x
 by_cases h:c=x
 ·subst h
  rw[if_pos rfl,Ua,if_pos rfl];omega
 ·rw[if_neg h,Ua,if_neg h];rfl
theorem Ri.step (h:Ri gs es out (c::rem) l):(Sy gs es out rem c=0→Ri gs es out rem (l++[c]))∧(Sy gs es out rem c≠0→Ri gs es out rem l):=by
 have hp:1≤Sy gs es out (c::rem) c:=Ri.pos
 have hcl:c∉l:= λhc=>by have:=((h.mem c).1 hc).2.2;omega
 have hco:c∉out:= λhc=>by have:=h.jz c hc;omega
 have hci:=h.rid c (by simp)
 have hjz:∀x∈out,Sy gs es out rem x=0:= λx hx=>by
  have:=h.jz x hx
  rw[Ua] at this
  omega
 have hne:∀x,c≠x→Sy gs es out (c::rem) x=Sy gs es out rem x:= λx hx=>by rw[Ua,if_neg hx];rfl
 refine⟨λh0=>⟨List.nodup_append.2 ⟨h.nd,by simp,λa ha b hb=>by simp at hb;subst hb;exact λe=>hcl (e▸ha)⟩,λx=> ?_,hjz,λx hx=>h.rid x (by simp[hx])⟩,λh0=>⟨h.nd,λx=> ?_,hjz,λx hx=>h.rid x (by simp[hx])⟩⟩
 ·rw[Zi,l2f]
  by_cases hx:c=x
  ·subst hx
   exact⟨λ_=>⟨hci,hco,h0⟩,λ_=> .inr rfl⟩
  ·rw[h.mem,hne x hx]
   exact⟨λhh=>hh.elim id λe=>absurd e.symm hx,.inl⟩
 ·by_cases hx:c=x
  ·subst hx
   exact⟨λhh=>absurd hh hcl,λhh=>absurd hh.2.2 h0⟩
  ·rw[h.mem,hne x hx]
theorem Ri.take (h:Ri gs es out [] l) (hes:∀e∈es,e.1∈gs.map Cd.id) (hm:m∈l):Ri gs es (out++[m]) (XC gs es m) (l.filter λs=> !decide (s=m)):=by
 obtain⟨h1,h2,h3⟩:=(h.mem m).1 hm
 have hw:Sy gs es (out++[m]) (XC gs es m)=Sy gs es out []:=A9I h1 h2
 refine⟨h.nd.sublist List.filter_sublist,λx=> ?_,λx hx=> ?_,λx hx=> ?_⟩
 ·rw[hw,List.mem_filter,h.mem,Zi,l2f]
  constructor
  ·rintro⟨⟨a1,a2,a3⟩,a4⟩
   have a4':x≠m:=by simpa using a4
   exact⟨a1,λhh=>hh.elim a2 a4',a3⟩
  ·rintro⟨a1,a2,a3⟩
   refine⟨⟨a1,λhh=>a2 (.inl hh),a3⟩,?_⟩
   have:x≠m:= λhh=>a2 (.inr hh)
   simp[this]
 ·rw[hw]
  rcases Zi.1 hx with hx|hx
  ·exact h.jz x hx
  ·rw[l2f] at hx;subst hx;exact h3
 ·obtain⟨e,he,rfl⟩:=l2a.1 hx
  exact hes e (List.mem_filter.1 he).1
theorem Ri.perm (h:Ri gs es out [] l) (hE:∀e:Edg,e∈es↔e.1∈gs.map Cd.id∧e.2∈MV gs e.1) (hn:(gs.map Cd.id).Nodup):l.Perm (rdy gs out):=by
 refine(List.perm_ext_iff_of_nodup h.nd (hn.sublist List.filter_sublist)).2 λx=> ?_
 rw[h.mem]
 show _↔x∈rdy gs out
 rw[WR]
 refine and_congr_right λhx=>and_congr_right λ_=> ?_
 unfold Sy
 rw[List.count_nil,Nat.add_zero,List.length_eq_zero_iff,List.filter_eq_nil_iff]
 constructor
 ·intro hh p hp hi
  have:=hh (x,p) ((hE _).2 ⟨hx,hp⟩)
  apply Classical.byContradiction
  intro hc
  exact this (by rw[decide_eq_true rfl,decide_eq_true hi,decide_eq_true hc];rfl)
 ·intro hh e he
  obtain⟨h1,h2⟩:=(hE e).1 he
  intro hc
  simp only[Jm,decide_eq_true_eq] at hc
  obtain⟨c1,c2,c3⟩:=hc
  rw[c1] at h2
  exact c3 (hh _ h2 c2)
end
structure Mo (gs:List Cd) (out l:List Bt) (wt:Bt→Nat) (ct:Bt→List Bt) (ws:List (Bt×Nat)) (ch:List (Bt×AV)) (b1 b3:Option (List Nat×Nat)) (rv ov:AV) (H:Hp):Prop where
 os:OsK gs ws ch b1 b3 wt ct H
 rd:VF H rv l
 ot:Bv H Au 1 ov out.length (AK out)
 rr:∀u,AG rv u→4<u∧¬AG ov u∧∀p,¬AG ((JM ch p).getD AA) u
 oo:∀u,AG ov u→4<u∧∀p,¬AG ((JM ch p).getD AA) u
section
variable {H:Hp} {v:AV} {l:List Bt}
theorem Bv.ia (h:Bv H Au 1 v l.length (AK l)) {i:Nat} (hi:i<l.length):∃a,(∀K:AV→Aj,B9 Ac v (I (i:Int)) K=K a)∧∀K:AV→Aj,Ar Ae a H K=K (S l[i]):=by
 rcases h with⟨_,h2,_⟩|⟨r,q,rfl,h2,_⟩
 ·omega
 ·exact⟨.ptr r i 0,λK=>X5 hi,λK=>A5j h2 hi⟩
end
section
variable {gs:List Cd} {es:List Edg} {out l:List Bt} {ws:List (Bt×Nat)} {ch:List (Bt×AV)} {b1 b3:Option (List Nat×Nat)} {rv ov:AV} {K:KV} {x:Aj} {ct:Bt→List Bt}
theorem C2h {R:Rt} {k150:AV→AV→AV→AV→AV→AV→AV→AV→AV→AV→AV→AV→AV→AV→AV→AV→AV→AV→AV→AV→AV→AV→AV→AV→AV→AV→AV→AV→AV→AV→Hp→Aj} {a0 a1 a2 d5 d6 e0 e1 e2 e3 e4 e5 e6 e7 e8 e9 f0 f1 f2 f3 f4 f5 f6 f7:AV} {m:Bt} (hb:es.length<1000) (hg:gs.length≤8) (hcb:(ct m).length<1000)
 (hx:∀l' ws' b1' rv' H',Mo gs out l' (Sy gs es out []) ct ws' ch b1' b3 rv' ov H'→Ri gs es out [] l'→k150 a0 a1 a2 (.ptr 2 0 0) (.ptr 4 0 0) d5 d6 rv' ov e0 e1 e2 e3 e4 e5 e6 e7 e8 e9 f0 f1 f2 f3 f4 f5 f6 f7 ((JM ch m).getD AA) (I (ct m).length) (I (ct m).length) H'=x):
 ∀(f i:Nat) (l:List Bt) (ws:List (Bt×Nat)) (b1:Option (List Nat×Nat)) (rv:AV) (H:Hp),i≤(ct m).length→(ct m).length-i<f→Mo gs out l (Sy gs es out ((ct m).drop i)) ct ws ch b1 b3 rv ov H→Ri gs es out ((ct m).drop i) l→
 MA (L+20) R K k150 f a0 a1 a2 (.ptr 2 0 0) (.ptr 4 0 0) d5 d6 rv ov e0 e1 e2 e3 e4 e5 e6 e7 e8 e9 f0 f1 f2 f3 f4 f5 f6 f7 ((JM ch m).getD AA) (I (ct m).length) (I i) H=x:=by
 intro f
 induction f with
 |zero=>intro i l ws b1 rv H _ h;omega
 |succ f ih=>
  intro i l ws b1 rv H hi hf h hr
  rw[YF]
  unfold Ql Av
  by_cases hlt:i<(ct m).length
  ·obtain⟨a,ea,el⟩:=(h.os.cv m).ia hlt
   rw[l11 hlt] at h hr
   have hwl:=B9t (gs:=gs) (es:=es) (out:=out) (rem:=(ct m)[i]::(ct m).drop (i+1)) (x:=(ct m)[i])
   have hpos:1≤Sy gs es out ((ct m)[i]::(ct m).drop (i+1)) (ct m)[i]:=Ri.pos
   have hdl:((ct m)[i]::(ct m).drop (i+1)).length≤(ct m).length:=by rw[K9,l0t];omega
   rw[FW (by omega),De]
   simp only[BX]
   have ek:∀(s:Bt) (F:Value→Aj),IV (S s) F=F (SV s):= λs F=>id rfl
   rw[ea,el]
   rw[AP (p:=0) rfl h.os.p1 (by simp),ek]
   show TB Ab false (.mp 1) (SV (ct m)[i]) H _=_
   rw[h.os.lw,A11 (by omega) (by omega),ek]
   obtain⟨b1',H2,e2',h2,eq2⟩:=h.os.put (s:=(ct m)[i]) (Sy gs es out ((ct m)[i]::(ct m).drop (i+1)) (ct m)[i]-1)
   show Qx (.mp 1) (SV (ct m)[i]) (I ((Sy gs es out ((ct m)[i]::(ct m).drop (i+1)) (ct m)[i]-1:Nat):Int)) H _=_
   rw[e2']
   rw[Ri.dec] at h2
   have n1:∀u y,u≠1→Aq H u=some y→Aq H2 u=some y:= λu y hu hy=>by rw[eq2,Ap hu];exact hy
   rw[AP (p:=0) rfl h2.p1 (by simp),ek]
   show TB Ab false (.mp 1) (SV (ct m)[i]) H2 _=_
   rw[h2.lw]
   have hM:Mo gs out l (Sy gs es out ((ct m).drop (i+1))) ct (Gv ws (ct m)[i] (Sy gs es out ((ct m)[i]::(ct m).drop (i+1)) (ct m)[i]-1)) ch b1' b3 rv ov H2:=
    ⟨h2,h.rd.kp λu y hu hy=>n1 u y (by have:=(h.rr u hu).1;omega) hy,h.ot.kp λu y hu hy=>n1 u y (by have:=(h.oo u hu).1;omega) hy,h.rr,h.oo⟩
   have ee:∀(k:Nat) (K:AV→Aj),Go.Abs.Ak Ab .eql (I (k:Int)) (AV.v (.int .i64 0)) K=K (Bo (decide (k=0))):= λk K=>by
    have e:decide ((k:Int)=0)=decide (k=0):=decide_eq_decide.2 (by omega)
    rw[Dd,e]
   rw[ee]
   clear e2' eq2
   by_cases h0:Sy gs es out ((ct m).drop (i+1)) (ct m)[i]=0
   ·rw[decide_eq_true h0,De]
    have hl8:=hr.len
    obtain⟨v',H3,a1,a2,a3,a4⟩:=C6f (ct m)[i] hM.rd hM.os.wf (by omega)
    rw[a1,D4 (by omega)]
    have h4:=hM.os.wf.lt hM.os.p3
    refine ih (i+1) (l++[(ct m)[i]]) _ b1' v' H3 (by omega) (by omega) ⟨hM.os.kp (a3.wf hM.os.wf) λu y hu hy=>a3.keep hM.os.wf u y hy λhc=> ?_,a2,hM.ot.kp λu y hu hy=>a3.keep hM.os.wf u y hy λhc=>(hM.rr u hc).2.1 hu,λu hu=>⟨?_,λhc=> ?_,λp hc=> ?_⟩,hM.oo⟩ (hr.step.1 h0)
    ·rcases hu with hu|⟨p,hp⟩
     ·have:=(hM.rr u hc).1;omega
     ·exact(hM.rr u hc).2.2 p hp
    ·have:=a4 u hu;omega
    ·have g1:=a4 u hu
     have g2:=hM.ot.lt hM.os.wf hc
     omega
    ·have g1:=a4 u hu
     have g2:=(hM.os.cv p).lt hM.os.wf hc
     omega
   ·rw[decide_eq_false h0,Bz,D4 (by omega)]
    exact ih (i+1) l _ b1' rv H2 (by omega) (by omega) hM (hr.step.2 h0)
  ·rw[FE (by omega),Bz]
   have:i=(ct m).length:=by omega
   subst this
   rw[List.drop_length] at h hr
   exact hx l ws b1 rv H h hr
theorem B5g {H:Hp} {K:KV}:AJ Au Ae H K=K (.ptr (A2 H) 0 0) ((A2 H,.cells true Au [S []])::H):=by
 unfold AJ
 rw[CQ,BZ];rfl
theorem B46 (h:rdy gs out=[]):∀N,A2X gs N out=out:=by
 intro N
 cases N with
 |zero=>rfl
 |succ N=>
  unfold A2X
  rw[h];rfl
theorem C2i {k64:AV→AV→Hp→Aj} {a0 a1 d5 d6 e0 e1 e2 e3 e4 e5 e6 e7 e8 e9 f0 f1 f2 f3 f4 f5 f6 f7:AV} (hb:es.length<1000) (hg:gs.length≤8) (hL:200000<L) (hn:(gs.map Cd.id).Nodup) (hE:∀e:Edg,e∈es↔e.1∈gs.map Cd.id∧e.2∈MV gs e.1) {r:List Bt}
 (hx:∀ov H,Bv H Au 1 ov r.length (AK r)→(r=[]→ov=AA)→Aq H 0=some (.cells true BC [gV gs])→k64 (.ptr 0 0 0) ov H=x):
 ∀(N f:Nat) (out l:List Bt) (ws:List (Bt×Nat)) (b1:Option (List Nat×Nat)) (rv ov:AV) (H:Hp) (z0 z1 z2:AV),N<f→gs.length≤out.length+N→OrdK gs out→Mo gs out l (Sy gs es out []) (XC gs es) ws ch b1 b3 rv ov H→Ri gs es out [] l→(out=[]→ov=AA)→A2X gs N out=r→
 MB (L+20) (rt (L+20) (n+4)) K k64 f a0 a1 (.ptr 0 0 0) (.ptr 2 0 0) (.ptr 4 0 0) d5 d6 rv ov e0 e1 e2 e3 e4 e5 e6 e7 e8 e9 f0 f1 f2 f3 f4 f5 f6 f7 z0 z1 z2 H=x:=by
 intro N
 induction N with
 |zero=>
  intro f out l ws b1 rv ov H z0 z1 z2 hf hlen ho h hr h0 hord
  cases f with
  |zero=>omega
  |succ f=>
   have hl:l=[]:=by
    have hp:=hr.perm hE hn
    rw[A6m ho (by omega)] at hp
    exact hp.eq_nil
   subst hl
   rw[Se]
   unfold MC Av
   have el:∀{K:AV→Aj},AQ Ac rv K=K (I ((0:Nat):Int)):= λ{K}=>h.rd.len
   have eg:∀{K:AV→Aj},Go.Abs.Ak Ab .gtr (I ((0:Nat):Int)) (AV.v (.int .i64 0)) K=K (Bo false):= λ{K}=>by rw[DM];rfl
   rw[el,eg,Bz]
   rw[←hord] at hx
   exact hx ov H h.ot h0 h.os.net
 |succ N ih=>
  intro f out l ws b1 rv ov H z0 z1 z2 hf hlen ho h hr h0 hord
  cases f with
  |zero=>omega
  |succ f=>
   have hp:=hr.perm hE hn
   rw[Se]
   unfold MC Av
   rw[h.rd.len]
   cases hs:I9 (rdy gs out) with
   |nil=>
    have hrd:rdy gs out=[]:=by
     have:=(CD (rdy gs out)).length_eq
     rw[hs] at this
     exact l1s this.symm
    have hl:l=[]:=by rw[hrd] at hp;exact hp.eq_nil
    subst hl
    have eg:∀{K:AV→Aj},Go.Abs.Ak Ab .gtr (I (([]:List Bt).length:Int)) (AV.v (.int .i64 0)) K=K (Bo false):= λ{K}=>by rw[DM];rfl
    rw[eg,Bz]
    rw[B46 hrd] at hord
    subst hord
    exact hx ov H h.ot h0 h.os.net
   |cons m t=>
    have hord':A2X gs N (out++[m])=r:=by
     unfold A2X at hord
     rw[hs] at hord
     exact hord
    have hmr:m∈rdy gs out:=(CD _).mem_iff.1 (by rw[hs];simp)
    have hm:m∈l:=hp.mem_iff.2 hmr
    have hmin:∀y∈l,m≤y:= λy hy=>by
     have h1:y∈m::t:=by rw[←hs];exact(CD _).mem_iff.2 (hp.mem_iff.1 hy)
     have h2:=IW (rdy gs out)
     rw[hs,l2k] at h2
     rcases UJ.1 h1 with rfl|h1
     ·exact(L4 _ _).elim id id
     ·exact h2.1 y h1
    have hl8:=hr.len
    have hlp:0<l.length:=List.length_pos_of_mem hm
    have eg:∀{K:AV→Aj},Go.Abs.Ak Ab .gtr (I (l.length:Int)) (AV.v (.int .i64 0)) K=K (Bo true):= λ{K}=>by rw[DM,decide_eq_true (by omega)]
    rw[eg,De]
    simp only[BX]
    obtain⟨a,q,ha,hq⟩:=h.rd.fx (D:=depth-1)
    have ha':a=Ls l:=by
     rcases ha with rfl|⟨rfl,_⟩
     ·rfl
     ·simp at hm
    subst ha'
    rw[Ba (C3W (n:=n+3) hm hmin (by omega) (by omega)) (Ay hq Be)]
    obtain⟨H1,e1',hc1,w1,k1⟩:=Er (e:=Au) (zs:=[S []]) (vs:=[S m]) h.os.wf rfl
    rw[B5g,Ez (cs:=[S []]) (A1 (by simp)) (by simp) rfl rfl rfl]
    show(rt (L+20) (n+4)).call Cx [rv,.fn (.func HV) [] [.ptr (A2 H) 0 0]] (upd ((A2 H,.cells true Au [S []])::H) (A2 H) (.cells true Au [S m])) _=_
    rw[←e1']
    have hnx1:A2 H1=A2 H+1:=by rw[e1',BY];rfl
    have os1:OsK gs ws ch b1 b3 (Sy gs es out []) (XC gs es) H1:=h.os.kp w1 λu y _ hy=>(k1 u y hy).1
    have rd1:VF H1 rv l:=h.rd.kp λu y _ hy=>(k1 u y hy).1
    have ot1:Bv H1 Au 1 ov out.length (AK out):=h.ot.kp λu y _ hy=>(k1 u y hy).1
    have hrc:∀u,AG rv u→u<A2 H:= λu hu=>h.rd.lt h.os.wf hu
    clear e1'
    refine B8R (n:=n+2) (P:= λs=>decide (s=m)) w1 rd1 (by omega) hL ⟨.fn (.func HV) [] [.iptr [S m]],_,B9d (D:=depth-1) (Ay (A5a (D:=depth-2) hc1 (Ay (q:=false) D2 Be)) Be),λs K=> ?_⟩ (λH' hk s K=> ?_) λv' H2 g1 g2 g3=> ?_
    ·rw[B5Y rfl rfl]
     exact Ba (C3Y (n:=n+1)) (Ay (q:=false) D2 (Ay (q:=false) B0l Be))
    ·rw[B5Y rfl rfl]
     have hc2:=hk.keep w1 _ _ hc1 λhc=>by have:=hrc _ hc;omega
     exact Ba (C3Y (n:=n+2)) (Ay (q:=false) D2 (Ay (A5a (D:=depth-1) hc2 (Ay (q:=false) D2 Be)) Be))
    ·have w2:=g3.wf w1
     have hc2:=g3.keep w1 _ _ hc1 λhc=>by have:=hrc _ hc;omega
     have os2:OsK gs ws ch b1 b3 (Sy gs es out []) (XC gs es) H2:=os1.kp w2 λu y hu hy=>g3.keep w1 u y hy λhc=>by
      rcases hu with hu|⟨p,hp⟩
      ·have:=(h.rr u hc).1;omega
      ·exact(h.rr u hc).2.2 p hp
     have ot2:Bv H2 Au 1 ov out.length (AK out):=ot1.kp λu y hu hy=>g3.keep w1 u y hy λhc=>(h.rr u hc).2.1 hu
     have hol:=ho.len
     rw[AP (p:=0) rfl hc2 (by simp)]
     show(F3 Au 1 Ae 1 [(0,1,S m)] H2 λv1 H1=>DN Au 1 Ae Ac ov v1 H1 _)=_
     obtain⟨ov',H3,j1,j2,j3,j4,j5,j6⟩:=B0C m ot2 w2 (by omega)
     rw[j1]
     have hnx2:=g3.nx
     have nov:∀u,(u<5∨∃p,AG ((JM ch p).getD AA) u)→¬AG ov u:= λu hu hc=>by
      rcases hu with hu|⟨p,hp⟩
      ·have:=(h.oo u hc).1;omega
      ·exact(h.oo u hc).2 p hp
     have os3:OsK gs ws ch b1 b3 (Sy gs es out []) (XC gs es) H3:=os2.kp j3 λu y hu hy=>j5 u y hy (nov u hu)
     have hc3:=j5 _ _ hc2 λhc=>by have:=h.ot.lt h.os.wf hc;omega
     have ek:∀(s:Bt) (F:Value→Aj),IV (S s) F=F (SV s):= λs F=>id rfl
     rw[AP (p:=0) rfl os3.p3 (by simp),AP (p:=0) rfl hc3 (by simp)]
     show IV (S m) (λq=>TB Ac false (.mp 3) q H3 _)=_
     rw[ek,os3.lc,(os3.cv m).rq.len]
     have hst:=(WR.1 hmr)
     have hw:Sy gs es out []=Sy gs es (out++[m]) ((XC gs es m).drop 0):=by rw[l1n,A9I hst.1 hst.2.1]
     have h4:=h.os.wf.lt h.os.p3
     have e00:(AV.v (.int .i64 0))=I ((0:Nat):Int):=rfl
     rw[e00]
     refine C2h (L:=L) (es:=es) (out:=out++[m]) (ch:=ch) (b3:=b3) (ov:=ov') (ct:=XC gs es) (m:=m) hb hg (by have:=A5q (gs:=gs) (es:=es) (p:=m);omega) (λl' ws' b1' rv' H' hM hR=> ?_) (L+20) 0 (l.filter λs=> !decide (s=m)) ws b1 v' H3 (by omega) (by have:=A5q (gs:=gs) (es:=es) (p:=m);omega) ?_ ?_
     ·exact ih f (out++[m]) l' ws' b1' rv' ov' H' _ _ _ (by omega) (by rw[Fl,List.length_singleton];omega) (ho.step hmr) hM hR (by simp) hord'
     ·rw[←hw]
      refine⟨os3,g1.kp λu y hu hy=>j5 u y hy λhc=>(h.rr u (g2 u hu)).2.1 hc,j2,λu hu=>⟨(h.rr u (g2 u hu)).1,λhc=> ?_,(h.rr u (g2 u hu)).2.2⟩,λu hu=>⟨?_,λp hc=> ?_⟩⟩
      ·have b1:=j6 u hc
       have b2:=hrc u (g2 u hu)
       omega
      ·have b1:=j6 u hu
       omega
      ·have b1:=j6 u hu
       have b2:=(h.os.cv p).lt h.os.wf hc
       omega
     ·rw[l1n]
      exact hr.take (λe he=>((hE e).1 he).1) hm
end
end
section
variable {L n:Nat}
def ZO (gs:List Cd):AV:=if gs.length≤(Kz gs).length then .tup [Ep (Kz gs),.v (.int .i64 0)] else .tup [AA,.v (.int .i64 220)]
theorem B7F (gs:List Cd):pl 6 (ZO gs)=true:=by
 unfold ZO
 split
 ·have:pl 5 (Ep (Kz gs))=true:=by
   cases Kz gs with
   |nil=>rfl
   |cons a l=>
    show(AK (a::l)).all (pl 4)=true
    rw[HB]
    intro y hy
    obtain⟨s,_,rfl⟩:=l2a.1 hy
    rfl
  show[Ep (Kz gs),AV.v (.int .i64 0)].all (pl 5)=true
  simp only[l2j,this,List.all_nil];rfl
 ·rfl
section
variable {gs:List Cd} {x:Aj}
theorem B8j (hn:(gs.map Cd.id).Nodup) {done:List Cd} (hd:done.Perm gs) (e:Edg):e∈Nc done↔e.1∈gs.map Cd.id∧e.2∈MV gs e.1:=by
 rw[B8k]
 constructor
 ·rintro⟨c,hc,h1,h2⟩
  have hc':=hd.mem_iff.1 hc
  obtain⟨i,hi,rfl⟩:=List.getElem_of_mem hc'
  rw[h1]
  exact⟨l2a.2 ⟨_,hc',rfl⟩,by rw[A4M hn hi];exact h2⟩
 ·rintro⟨h1,h2⟩
  obtain⟨c,hc,he⟩:=l2a.1 h1
  obtain⟨i,hi,rfl⟩:=List.getElem_of_mem hc
  rw[←he,A4M hn hi] at h2
  exact⟨gs[i],hd.mem_iff.2 hc,he.symm,h2⟩
theorem B6c {a:AV} (hg:GOk gs) (hL:200000<L) (hp:∀c∈gs,c.ps.length<100) (ha:LA gs a):CS (rt (L+20) (n+80)) Iq [a] (ZO gs):=by
 intro K hK
 rw[T3]
 unfold Oa Av
 have hfx:Pu true depth [a] [a] [] false:=by rcases ha with rfl|⟨_,rfl⟩<;>exact λK=>by kernel_rfl
 have of:∀{K:AV→Aj},Ah (rt (L+20) (n+79)) ED [a] [] K=K (.tup [gV gs,Bo true]):= λ{K}=>GS (λK hK=>B2N (n:=n+15) hg (by omega) ha K hK) hfx
 have w0:Zr 6 (ZO gs) (ZO gs)=true:=A2u 6 _ (B7F gs)
 have h8:=hg.len
 rw[of,CZ,CY]
 have e0:∀{F:AV→Hp→Aj},(AJ BC AT [] λv4 H5=>CG AT v4 (gV gs) H5 λH6=>F v4 H6)=F (.ptr 0 0 0) [(0,.cells true BC [gV gs])]:= λ{F}=>by kernel_rfl
 rw[e0,Ku]
 show Aw (.v (.bool false)) _ _=_
 rw[Bz]
 have e1:∀{F:AV→AV→Hp→Aj},(MQ Ab [(0,.cells true BC [gV gs])] λv9 H10=>AJ EE Cq H10 λv11 H12=>CG Cq v11 v9 H12 λH13=>MQ Ac H13 λv15 H16=>AJ CU Bl H16 λv17 H18=>CG Bl v17 v15 H18 λH19=>F v11 v17 H19)=
  F (.ptr 2 0 0) (.ptr 4 0 0) [(4,.cells true CU [.mp 3]),(3,.map false [] (some ([],0))),(2,.cells true EE [.mp 1]),(1,.map false [] (some ([],0))),(0,.cells true BC [gV gs])]:= λ{F}=>by kernel_rfl
 rw[e1]
 simp only[BX]
 generalize hH:([(4,.cells true CU [.mp 3]),(3,.map false [] (some ([],0))),(2,.cells true EE [.mp 1]),(1,.map false [] (some ([],0))),(0,.cells true BC [gV gs])]:Hp)=H0
 have hO:OsK gs [] [] (some ([],0)) (some ([],0)) (XZ gs []) (XC gs []) H0:=by
  subst hH
  exact⟨rfl,rfl,rfl,rfl,rfl,Br (Br (Br (Br (Br FH)))),λx=>rfl,λp=> .inl ⟨rfl,rfl,rfl⟩,λp u hu=>absurd hu Vn,λp p' u hu=>absurd hu Vn⟩
 have hnx:A2 H0=5:=by subst hH;rfl
 clear hH
 have en:∀{K:AV→Aj},Ar AT (.ptr 0 0 0) H0 K=K (gV gs):= λ{K}=>by
  rw[AP (p:=0) rfl hO.net (by simp)];rfl
 rw[en,B9K (n:=n+78),A0k,hnx]
 have hl5:Aq ((5,lpO gs (some none))::H0) 5=some (lpO gs (some none)):=by
  have:=A1 (H:=H0) (x:=lpO gs (some none)) (by simp[lpO])
  rw[hnx] at this
  exact this
 have w5:Wf ((5,lpO gs (some none))::H0):=by
  have:=Br (x:=lpO gs (some none)) hO.wf
  rw[hnx] at this
  exact this
 have o5:OsK gs [] [] (some ([],0)) (some ([],0)) (XZ gs []) (XC gs []) ((5,lpO gs (some none))::H0):=hO.kp w5 λu y _ hy=>by
  have:=AS (x:=lpO gs (some none)) (hO.wf.lt hy) hy
  rw[hnx] at this
  exact this
 have hn6:A2 ((5,lpO gs (some none))::H0)=6:=rfl
 show(rt (L+20) (n+79)).call CO [.yl 5,.iptr [gV gs]] ((5,lpO gs (some none))::H0) _=_
 refine B6e (n:=n+76) (s0:=5) (Q:=C6i gs) w0 h8 hp (by omega) B74 (λes H1 H' ⟨hl,ws,ch,b1,b3,h⟩ wf' k=>⟨k _ _ (show 5≠6 by decide) hl,ws,ch,b1,b3,h.kp wf' λu y hu hy=>k u y ?_ hy⟩) (λes H ⟨_,_,_,_,_,h⟩=>h.wf) ?_ (λdone H hd ⟨hl,ws,ch,b1,b3,h⟩=> ?_)
 ·exact(h.ne hu).2
 ·refine⟨AS (w5.lt hl5) hl5,[],[],_,_,o5.kp (Br w5) λu y _ hy=>AS (w5.lt hy) hy⟩
 ·show JL H 5 _=_
  rw[BI hl]
  show LL H 5 .gone _=_
  rw[Dm]
  have hes:(Nc done).length<1000:=by
   have h1:=A77 done λc hc=>hp c (hd.mem_iff.1 hc)
   have h2:=hd.length_eq
   omega
  have h1:OsK gs ws ch b1 b3 (XZ gs (Nc done)) (XC gs (Nc done)) (upd H 5 .gone):=h.kp (BR h.wf) λu y hu hy=>by
   rw[Ap (h.ne hu).1];exact hy
  generalize upd H 5 .gone=H1 at h1
  show Ar AT (.ptr 0 0 0) H1 _=_
  have en1:∀{K:AV→Aj},Ar AT (.ptr 0 0 0) H1 K=K (gV gs):= λ{K}=>by
   rw[AP (p:=0) rfl h1.net (by simp)];rfl
  rw[en1]
  refine B2O (n:=n+73) w0 h8 (by omega) h1.wf λv H2 hv hv0=> ?_
  have os2:OsK gs ws ch b1 b3 (XZ gs (Nc done)) (XC gs (Nc done)) H2:=h1.kp hv.wf λu y _ hy=>hv.keep u y hy
  have hsl:(I9 (gs.map Cd.id)).length=gs.length:=by rw[(CD _).length_eq,Wv]
  have hfp:∀(H':Hp) (D:Nat),Aq H' 2=some (.cells true EE [.mp 1])→Aq H' 1=some (.map false (GF iV ws) b1)→Fx true (D+2) (.ptr 2 0 0) (.iptr [.imap (GF iV ws)]) H' true:= λH' D h2 h3=>
   A5a (D:=D+1) h2 (Ay (C2I (D:=D) h3) Be)
  have hpw:∀s,decide (0<(JM ws s).getD 0)=decide (0<XZ gs (Nc done) s):= λs=>by rw[h1.wv]
  refine B8R (n:=n+77) (P:= λs=>decide (0<XZ gs (Nc done) s)) hv.wf hv.sl.rq (by omega) hL ⟨.fn (.func JH) [] [.iptr [.imap (GF iV ws)]],_,B9d (D:=depth-1) (Ay (hfp H2 (depth-3) os2.p1 os2.m1) Be),λs K=> ?_⟩ (λH' hk s K=> ?_) λv' H3 g1 g2 g3=> ?_
  ·rw[B5Y rfl rfl]
   have:=Ba (K:= λv=>K v []) (A9M (n:=n+76) (L:=L) (ws:=ws) (s:=s)) (Ay (q:=false) D2 (Ay (q:=false) (B0l (H:=[])) Be))
   rw[hpw] at this
   exact this
  ·rw[B5Y rfl rfl]
   have nr:∀u,u<5→¬AG v u:= λu hu hc=>by
    have g1:=hv.new u hc
    have g2:=h1.wf.lt h1.p3
    omega
   have a1:=hk.keep hv.wf _ _ os2.p1 (nr 2 (by decide))
   have a2:=hk.keep hv.wf _ _ os2.m1 (nr 1 (by decide))
   have:=Ba (K:= λv=>K v H') (A9M (n:=n+77) (L:=L) (ws:=ws) (s:=s)) (Ay (q:=false) D2 (Ay (hfp H' (depth-2) a1 a2) Be))
   rw[hpw] at this
   exact this
  ·have nr:∀u,AG v' u→A2 H1≤u:= λu hu=>hv.new u (g2 u hu)
   have h4:=h1.wf.lt h1.p3
   have os3:OsK gs ws ch b1 b3 (XZ gs (Nc done)) (XC gs (Nc done)) H3:=os2.kp (g3.wf hv.wf) λu y hu hy=>g3.keep hv.wf u y hy λhc=>by
    have b1:=hv.new u hc
    rcases hu with hu|⟨p,hp⟩
    ·omega
    ·have b2:=(h1.cv p).lt h1.wf hp
     omega
   have hR:Ri gs (Nc done) [] [] ((I9 (gs.map Cd.id)).filter λs=> !decide (0<XZ gs (Nc done) s)):=by
    refine⟨((CD _).symm.nodup hg.ids).sublist List.filter_sublist,λx=> ?_,by simp,by simp⟩
    rw[A9J,List.mem_filter,(CD _).mem_iff]
    refine and_congr Iff.rfl ?_
    constructor
    ·intro hh
     have:¬0<XZ gs (Nc done) x:=by simpa using hh
     exact⟨by simp,by omega⟩
    ·rintro⟨_,hh⟩
     simp[hh]
   rw[←A9J] at os3
   refine C2i (n:=n+75) (es:=Nc done) (r:=Kz gs) (ch:=ch) (b3:=b3) hes h8 hL hg.ids (B8j hg.ids hd) (λov H4 hov ho0 hnet=> ?_) gs.length (L+20) [] _ ws b1 v' AA H3 _ _ _ (by omega) (by simp) OrdK.nil ⟨os3,g1,.inl ⟨rfl,rfl,rfl⟩,λu hu=>⟨?_,Vn,λp hc=> ?_⟩,λu hu=>absurd hu Vn⟩ hR (λ_=>rfl) rfl
   ·rw[hov.rq.len]
    have en2:∀{K:AV→Aj},Ar AT (.ptr 0 0 0) H4 K=K (gV gs):= λ{K}=>by
     rw[AP (p:=0) rfl hnet (by simp)];rfl
    have em:∀{K:AV→Aj},A7g (gV gs) H4 K=K (I (gs.length:Int)):= λ{K}=>by
     show GP (GF P0 (gE gs)) 0 (λn=>K (.v (.int .i64 (.ofNat n))))=_
     rw[Co,KF]
     have:(GF P0 (gE gs)).length=gs.length:=by simp[gE]
     rw[this];rfl
    rw[en2,em]
    by_cases hlt:gs.length≤(Kz gs).length
    ·have er:ZO gs= .tup [Ep (Kz gs),.v (.int .i64 0)]:=by unfold ZO;rw[if_pos hlt]
     rw[FE (by omega),Bz]
     refine hK _ _ λbb=> ?_
     rw[er]
     obtain⟨q,hq⟩:=A0s (D:=depth-2) (b:=bb) hov ho0
     exact⟨_,UO (D:=depth-1) (Ay hq (Ay (q:=false) D2 Be))⟩
    ·have er:ZO gs= .tup [AA,.v (.int .i64 220)]:=by unfold ZO;rw[if_neg hlt]
     rw[FW (by omega),De]
     refine hK _ _ λbb=> ?_
     rw[er]
     exact⟨_,UO (D:=depth-1) (Ay (q:=false) D2 (Ay (q:=false) D2 Be))⟩
   ·have b1:=nr u hu
    omega
   ·have b1:=nr u hu
    have b2:=(h1.cv p).lt h1.wf hc
    omega
end
end
end Go.Abs
end
