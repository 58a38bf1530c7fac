import Derived.Test.YtlbhdmbfdcohhaaGreatDoorT49
set_option linter.all false
set_option maxHeartbeats 100000000
noncomputable section
namespace Go.Abs
open Go.RowKit Go.Proofs
set_option maxRecDepth 100000
section
variable {L n:Nat}
section
variable {α:Type} {f:α→AV} {b:List (Bp×α)} {x:Bp} {H:Hp}
def A2n (b:List (Bp×α)) (x:Bp):List (Bp×α):=match b with
 |[]=>[]
 |e::b=>if e.1=x then b else e::A2n b x
theorem B4K:∀(b:List (Bp×α)) (i:Nat),(match UT x b i with|none=>b|some (j,_)=>b.eraseIdx (j-i))=A2n b x∧(∀j w,UT x b i=some (j,w)→i≤j):=by
 intro b
 induction b with
 |nil=>intro i;exact⟨rfl,λj w h=>by cases h⟩
 |cons e b ih=>
  intro i
  rw[Vv]
  unfold A2n
  by_cases h:e.1=x
  ·refine⟨?_,λj w hj=> ?_⟩
   ·simp[h]
   ·simp[h] at hj;omega
  ·obtain⟨h1,h2⟩:=ih (i+1)
   refine⟨?_,λj w hj=> ?_⟩
   ·rw[if_neg h,if_neg h,←h1]
    cases hf:UT x b (i+1) with
    |none=>rfl
    |some p=>
     obtain⟨j,w⟩:=p
     have:=h2 j w hf
     have e1:j-i=(j-(i+1))+1:=by omega
     simp only[e1,List.eraseIdx_cons_succ]
   ·rw[if_neg h] at hj
    have:=h2 j w hj;omega
theorem B20:∀b:List (Bp×α),(b.map Prod.fst).Nodup→((A2n b x).map Prod.fst).Nodup∧∀y,y∈(A2n b x).map Prod.fst↔y∈b.map Prod.fst∧y≠x:=by
 intro b
 induction b with
 |nil=>intro _;exact⟨by simp[A2n],λy=>by simp[A2n]⟩
 |cons e b ih=>
  intro h
  rw[Vu,List.nodup_cons] at h
  obtain⟨h1,h2⟩:=ih h.2
  unfold A2n
  by_cases he:e.1=x
  ·rw[if_pos he]
   subst he
   refine⟨h.2,λy=> ?_⟩
   rw[Vu,TA]
   constructor
   ·intro hy
    exact⟨.inr hy,λe=>h.1 (e▸hy)⟩
   ·rintro⟨hy|hy,hn⟩
    ·exact absurd hy hn
    ·exact hy
  ·rw[if_neg he]
   refine⟨?_,λy=> ?_⟩
   ·rw[Vu,List.nodup_cons]
    exact⟨λhm=>h.1 ((h2 _).1 hm).1,h1⟩
   ·rw[Vu,TA,h2,Vu,TA]
    constructor
    ·rintro(rfl|⟨hy,hn⟩)
     ·exact⟨.inl rfl,he⟩
     ·exact⟨.inr hy,hn⟩
    ·rintro⟨hy|hy,hn⟩
     ·exact .inl hy
     ·exact .inr ⟨hy,hn⟩
theorem C2S {β:Type} (g:α→β):∀(l:List α) (i:Nat),(l.map g).eraseIdx i=(l.eraseIdx i).map g:=by
 intro l
 induction l with
 |nil=>intro i;rfl
 |cons a l ih=>
  intro i
  cases i with
  |zero=>rfl
  |succ i=>show g a::(l.map g).eraseIdx i=g a::(l.eraseIdx i).map g;rw[ih]
theorem B53 {r:Nat} (h:Aq H r=some (.map false (ES f b) none)):∃H',(∀K:Hp→Aj,A2h (.mp r) (SV x) H K=K H')∧Aq H' r=some (.map false (ES f (A2n b x)) none)∧Lat H H' (λu=>u=r):=by
 have e:∀K:Hp→Aj,A2h (.mp r) (SV x) H K=J3 H r λy=>A04 y λes bo=>K8 (SV x) es λq=>match q with
  |none=>K H
  |some (i,_)=>Lx H r (.map false (es.eraseIdx i) (C3h bo i)) K:= λK=>rfl
 obtain⟨h1,h2⟩:=B4K (x:=x) b 0
 cases hf:UT x b 0 with
 |none=>
  rw[hf] at h1
  refine⟨H,λK=> ?_,by rw[←h1];exact h,Lat.refl _ _⟩
  rw[e,B5 h]
  show K8 (SV x) (ES f b) _=_
  rw[kfK,hf];rfl
 |some p=>
  obtain⟨j,w⟩:=p
  rw[hf] at h1
  refine⟨upd H r (.map false (ES f (A2n b x)) none),λK=> ?_,(Dr h).trans rfl,Lat.upd _ _ _ rfl⟩
  rw[e,B5 h]
  show K8 (SV x) (ES f b) _=_
  rw[kfK,hf]
  show Lx H r (.map false ((ES f b).eraseIdx j) none) K=_
  rw[Db,←h1,ES,ES,C2S];rfl
end
theorem A5d {gs:List Cd} {e:Edg}:e∈Nb gs↔∃c∈gs,e.1=c.id∧e.2∈c.ps:=by
 unfold Nb
 rw[List.mem_flatMap]
 constructor
 ·rintro⟨c,hc,he⟩
  obtain⟨p,hp,rfl⟩:=Zp.1 he
  exact⟨c,hc,rfl,hp⟩
 ·rintro⟨c,hc,h1,h2⟩
  exact⟨c,hc,Zp.2 ⟨e.2,h2,by rw[←h1]⟩⟩
def lpH (gs:List Cd) (p:Option (Option Code)):Row:= .loop 32 [(2,AA),(3,gV gs),(5,.ptr 1 0 0),(8,.dk),(16,.it 2),(25,B8p gs),(27,.dk),(28,.dk),(29,.dk)] (Em).2.1 (Em).2.2.1 (Em).2.2.2 p
structure Hs (gs:List Cd) (es:List Edg) (b:List (Bp×Unit)) (H:Hp):Prop where
 mm:Aq H 0=some (.map false (ES uS b) none)
 st:Aq H 1=some (.cells true Dh [.mp 0])
 lp:Aq H 3=some (lpH gs (some none))
 wf:Wf H
 nd:(b.map Prod.fst).Nodup
 ky:∀x,x∈b.map Prod.fst↔x∈gs.map Cd.id∧∀e∈es,e.2≠x
section
variable {gs:List Cd} {K:KV} {x:Aj}
theorem C4Z {H1:Hp} {K:Hp→Aj} (h:Aq H1 3=some (lpH gs none)):EC H1 3 false (some none) K=K (upd H1 3 (lpH gs (some none))):=RL h
theorem B78:A2B (rt (L+20) (n+2)) L 3 4 (λes H=>∃b,Hs gs es b H):=by
 intro es s p H K x _ ⟨b,h⟩ hx
 show P0 (rt (L+20) (n+2)) 3 [S s,S p] H K=x
 rw[RB h.lp (by kernel_rfl)]
 have hrun:(rt (L+20) (n+2)).run= λcf=>Sz (E (L+20)) (rt (L+20) (n+1)) cf:=rfl
 rw[hrun,Yx,RM h.lp]
 have hm1:Aq (upd H 3 (lpH gs none)) 0=some (.map false (ES uS b) none):=by rw[Ap (by decide)];exact h.mm
 have hs1:Aq (upd H 3 (lpH gs none)) 1=some (.cells true Dh [.mp 0]):=by rw[Ap (by decide)];exact h.st
 have hl1:Aq (upd H 3 (lpH gs none)) 3=some (lpH gs none):=Hd h.lp
 have w1:Wf (upd H 3 (lpH gs none)):=BH h.wf
 have k1:∀y,Aq H 4=some y→Aq (upd H 3 (lpH gs none)) 4=some y:= λy hy=>by rw[Ap (by decide)];exact hy
 show Au Eh (.ptr 1 0 0) (upd H 3 (lpH gs none)) _=_
 rw[AK (p:=0) rfl hs1 (by simp)]
 have ek:∀(F:Value→Aj),Ix (S p) F=F (SV p):= λF=>id rfl
 rw[ek]
 obtain⟨H',d1,d2,d3⟩:=B53 (f:=uS) (x:=p) hm1
 show A2h (.mp 0) (SV p) (upd H 3 (lpH gs none)) _=_
 rw[d1]
 have hs2:=d3.keep w1 _ _ hs1 (by decide)
 have hl2:=d3.keep w1 _ _ hl1 (by decide)
 show EC H' 3 false (some none) _=_
 rw[C4Z hl2]
 obtain⟨n1,n2⟩:=B20 (x:=p) b h.nd
 refine hx _ ⟨A2n b p,?_,?_,Hd hl2,BH (d3.wf w1),n1,λz=> ?_⟩ λy hy=> ?_
 ·rw[Ap (by decide)];exact d2
 ·rw[Ap (by decide)];exact hs2
 ·rw[n2,h.ky]
  constructor
  ·rintro⟨⟨h1,h2⟩,h3⟩
   refine⟨h1,λe he=> ?_⟩
   rcases YD.1 he with he|he
   ·exact h2 e he
   ·rw[Zo] at he;subst he;exact Ne.symm h3
  ·rintro⟨h1,h2⟩
   exact⟨⟨h1,λe he=>h2 e (List.mem_append_left _ he)⟩,Ne.symm (h2 (s,p) (by simp))⟩
 ·rw[Ap (by decide)]
  exact d3.keep w1 _ _ (k1 y hy) (by decide)
theorem B4x {k35:AV→AV→AV→AV→AV→AV→AV→AV→Hp→Aj} {w a0 a1 d0 d2 d3 d4:AV} (hw:XV 6 w w=true) (hn:(gs.map Cd.id).Nodup)
 (hfin:∀b H,Aq H 0=some (.map false (ES uS b) none)→Aq H 1=some (.cells true Dh [.mp 0])→Wf H→A2 H=3→(b.map Prod.fst).Perm (gs.map Cd.id)→k35 a0 a1 (.ptr 1 0 0) d0 (.it 2) d2 d3 d4 H=some (w,[])):
 ∀(f:Nat) (rem:List Cd) (b:List (Bp×Unit)) (H:Hp) (o:Option (Value×AV)) (d1:AV),rem.length<f→(b.map Prod.fst++rem.map Cd.id).Perm (gs.map Cd.id)→Aq H 0=some (.map false (ES uS b) none)→Aq H 1=some (.cells true Dh [.mp 0])→Wf H→A2 H=3→Aq H 2=some (.iter (ES Kt (gE rem)) o)→
 MD (L+20) (rt (L+20) n) K k35 f a0 a1 (.ptr 1 0 0) d0 (.it 2) d1 d2 d3 d4 H=some (w,[]):=by
 intro f
 induction f with
 |zero=>intro rem b H o d1 h;omega
 |succ f ih=>
  intro rem b H o d1 hf hpm hm hs wf hnx hl
  rw[YM]
  unfold Qm
  refine A4M (f:=Kt) hw hl (λe=> ?_) (λa e c hec=> ?_)
  ·have e':rem=[]:=by
    cases rem with
    |nil=>rfl
    |cons _ _=>cases e
   subst e'
   rw[OP,Bx]
   rw[List.map_nil,Xn] at hpm
   exact hfin b H hm hs wf hnx hpm
  ·obtain⟨ra,cd,rc,rfl,rfl,rfl,rfl⟩:=A6R hec
   have e9:gE ra++gE rc=gE (ra++rc):=by simp[gE]
   have hl1:=Tj (es:=ES Kt (gE ra++gE rc)) (o:=some (.string ⟨⟨cd.id⟩⟩,Kt cd)) hl
   have hm1:Aq (upd H 2 (.iter (ES Kt (gE ra++gE rc)) (some (.string ⟨⟨cd.id⟩⟩,Kt cd)))) 0=some (.map false (ES uS b) none):=by rw[Ap (by decide)];exact hm
   have hs1:Aq (upd H 2 (.iter (ES Kt (gE ra++gE rc)) (some (.string ⟨⟨cd.id⟩⟩,Kt cd)))) 1=some (.cells true Dh [.mp 0]):=by rw[Ap (by decide)];exact hs
   have w1:Wf (upd H 2 (.iter (ES Kt (gE ra++gE rc)) (some (.string ⟨⟨cd.id⟩⟩,Kt cd)))):=BH wf
   have n1:A2 (upd H 2 (.iter (ES Kt (gE ra++gE rc)) (some (.string ⟨⟨cd.id⟩⟩,Kt cd))))=3:=by rw[BS];exact hnx
   show Bc (.tup [.v (.bool true),S cd.id,Kt cd]) 0 _=_
   rw[OP,Dc]
   show A2k (.it 2) (upd H 2 (.iter (ES Kt (gE ra++gE rc)) (some (.string ⟨⟨cd.id⟩⟩,Kt cd)))) _=_
   rw[Vx hl1,OP]
   generalize upd H 2 (.iter (ES Kt (gE ra++gE rc)) (some (.string ⟨⟨cd.id⟩⟩,Kt cd)))=H1 at hl1 hm1 hs1 w1 n1
   have eo:ofV (.string ⟨⟨cd.id⟩⟩)=S cd.id:=rfl
   have eb:∀{K:AV→Aj},B4 BV [] K=K (.agg []):= λ{K}=>id rfl
   have ek:∀(F:Value→Aj),Ix (S cd.id) F=F (SV cd.id):= λF=>id rfl
   rw[AK (p:=0) rfl hs1 (by simp),eb,eo,ek]
   show Pu (.mp 0) (SV cd.id) (uS ()) H1 _=_
   rw[Tu (f:=uS) (v:=()) hm1]
   have hnew:cd.id∉b.map Prod.fst:= λhc=>by
    have h2:=(hpm.nodup_iff).2 hn
    rw[List.nodup_append] at h2
    exact h2.2.2 _ hc cd.id (by simp) rfl
   rw[A3G hnew]
   rw[e9] at hl1
   refine ih (ra++rc) (b++[(cd.id,())]) _ (some (.string ⟨⟨cd.id⟩⟩,Kt cd)) _ (by simp at hf⊢;omega) ?_ ((Dr hm1).trans rfl) ?_ (BH w1) (by rw[BS];exact n1) ?_
   ·refine List.Perm.trans ?_ hpm
    simp only[YG,Vu,List.map_nil,l0k]
    refine List.Perm.append_left _ ?_
    show(cd.id::(ra.map Cd.id++rc.map Cd.id)).Perm _
    exact List.perm_middle.symm
   ·rw[Ap (by decide)];exact hs1
   ·rw[Ap (by decide)];exact hl1
theorem B6h {a:AV} (hg:GOk gs) (hL:40000<L) (hp:∀c∈gs,c.ps.length<100) (ha:LA gs a):CS (rt (L+20) (n+80)) Iv [a] (DV (DX gs)):=by
 intro K hK
 rw[T8]
 unfold Ob
 have hfx:OV true depth [a] [a] [] false:=by rcases ha with rfl|⟨_,rfl⟩<;>exact λK=>by kernel_rfl
 have of:∀{K:AV→Aj},Ai (rt (L+20) (n+79)) E0 [a] [] K=K (.tup [gV gs,Bo true]):= λ{K}=>Gz (λK hK=>B0P (n:=n+15) hg hL ha K hK) hfx
 have w0:XV 6 (DV (DX gs)) (DV (DX gs))=true:=XP 6 _ (B3U _)
 have h8:=hg.len
 rw[of,CZ,CY]
 have e0:∀{F:AV→Hp→Aj},(L9 BV [] λv4 H5=>AJ Dh Eh H5 λv6 H7=>CI Eh v6 v4 H7 λH8=>F v6 H8)=F (.ptr 1 0 0) [(1,.cells true Dh [.mp 0]),(0,.map false [] none)]:= λ{F}=>by kernel_rfl
 rw[e0]
 simp only[BW]
 rw[A0z]
 refine B4x (n:=n+79) w0 hg.ids (λb H hm hs wf hnx hpm=> ?_) (L+20) gs [] _ none _ (by omega) (List.Perm.refl _) rfl rfl (Bj (Bj (Bj F8))) rfl rfl
 rw[B2P (n:=n+78),WU,hnx]
 have hl3:A2 ((3,lpH gs (some none))::H)=4:=rfl
 have w3:Wf ((3,lpH gs (some none))::H):=by
  have:=Bj (x:=lpH gs (some none)) wf
  rw[hnx] at this
  exact this
 have hn3:Aq ((3,lpH gs (some none))::H) 3=some (lpH gs (some none)):=by
  have:=A1 (H:=H) (x:=lpH gs (some none)) (by simp[lpH])
  rw[hnx] at this
  exact this
 have ol:∀u y,Aq H u=some y→Aq ((3,lpH gs (some none))::H) u=some y:= λu y hu=>by
  have:=AM (x:=lpH gs (some none)) (wf.lt hu) hu
  rw[hnx] at this
  exact this
 have ol2:∀u y,Aq ((3,lpH gs (some none))::H) u=some y→Aq ((4,.iter (ES Kt (gE gs)) none)::(3,lpH gs (some none))::H) u=some y:= λu y hu=>AM (x:= .iter (ES Kt (gE gs)) none) (w3.lt hu) hu
 show(rt (L+20) (n+79)).call Cw [.yl 3,.iptr [gV gs]] ((3,lpH gs (some none))::H) _=_
 refine A9H (n:=n+76) (s0:=3) (Q:= λes H=>∃b,Hs gs es b H) w0 h8 hp (by omega) B78 (λes H1 H' ⟨b,h⟩ wf' k=>⟨b,k _ _ (show 0≠4 by decide) h.mm,k _ _ (show 1≠4 by decide) h.st,k _ _ (show 3≠4 by decide) h.lp,wf',h.nd,h.ky⟩) (λes H ⟨b,h⟩=>h.wf) ?_ (λdone H' hd ⟨b',h'⟩=> ?_)
 ·refine⟨b,ol2 _ _ (ol _ _ hm),ol2 _ _ (ol _ _ hs),ol2 _ _ hn3,Bj w3,hpm.symm.nodup hg.ids,λz=> ?_⟩
  rw[hpm.mem_iff]
  exact⟨λh=>⟨h,by simp⟩,λh=>h.1⟩
 ·show J3 H' 3 _=_
  rw[B5 h'.lp]
  show Lx H' 3 .gone _=_
  rw[Db]
  have hs:Aq (upd H' 3 .gone) 1=some (.cells true Dh [.mp 0]):=by rw[Ap (by decide)];exact h'.st
  have hmm:Aq (upd H' 3 .gone) 0=some (.map false (ES uS b') none):=by rw[Ap (by decide)];exact h'.mm
  show Au Eh (.ptr 1 0 0) (upd H' 3 .gone) _=_
  rw[AK (p:=0) rfl hs (by simp)]
  have hpm':(b'.map Prod.fst).Perm (DX gs):=by
   refine(List.perm_ext_iff_of_nodup h'.nd (A6N hg.ids)).2 λz=> ?_
   rw[h'.ky,Sf]
   refine and_congr Iff.rfl ⟨λh c hc hz=> ?_,λh e he=> ?_⟩
   ·exact h (c.id,z) (A5d.2 ⟨c,hd.mem_iff.2 hc,rfl,hz⟩) rfl
   ·obtain⟨c,hc,h1,h2⟩:=A5d.1 he
    exact λe'=>h c (hd.mem_iff.1 hc) (e'▸h2)
  have hbl:b'.length<1000:=by
   have h1:=hpm'.length_eq
   have h2:=A3Q (gs:=gs)
   rw[XU] at h1
   omega
  refine Zg (n:=n+73) w0 (by omega) (by omega) (BH h'.wf) hmm hpm' (GF _) λv H hv hv0=> ?_
  exact hK _ _ λbb=>by
   obtain⟨q,hq⟩:=Xy (D:=depth-1) (b:=bb) hv hv0
   exact⟨q,hq⟩
end
end
section
variable {L n:Nat}
abbrev iV:Nat→AV:= λk=>I (k:Int)
abbrev aV:AV→AV:= λa=>a
section
variable {H H':Hp} {K:KV} {x:Aj} {v:AV} {l:List Bp}
theorem B0m {α:Type} {f:α→AV} {b:List (Bp×α)} {x:Bp} {r:Nat} {v:α} {bo:Option (List Nat×Nat)} (h:Aq H r=some (.map false (ES f b) bo)):∃bo',∀K:Hp→Aj,Pu (.mp r) (SV x) (f v) H K=K (upd H r (.map false (ES f (G6 b x v)) bo')):=by
 have e:∀K:Hp→Aj,Pu (.mp r) (SV x) (f v) H K=J3 H r λy=>A04 y λes bo=>K8 (SV x) es λq=>match q with
  |none=>Lx H r (.map false (es++[(SV x,f v)]) (A4b bo)) K
  |some (i,_)=>Lx H r (.map false (es.set i (SV x,f v)) bo) K:= λK=>rfl
 obtain⟨h1,h2⟩:=A6V (x:=x) v b 0
 cases hf:UT x b 0 with
 |none=>
  rw[hf] at h1
  refine⟨A4b bo,λK=> ?_⟩
  rw[e,B5 h]
  show K8 (SV x) (ES f b) _=_
  rw[kfK,hf]
  show Lx H r (.map false (ES f b++[(SV x,f v)]) (A4b bo)) K=_
  rw[Db,←h1,ES,ES,YG];rfl
 |some p=>
  obtain⟨j,w⟩:=p
  rw[hf] at h1
  refine⟨bo,λK=> ?_⟩
  rw[e,B5 h]
  show K8 (SV x) (ES f b) _=_
  rw[kfK,hf]
  show Lx H r (.map false ((ES f b).set j (SV x,f v)) bo) K=_
  rw[Db,←h1,ES,ES,List.map_set,Nat.sub_zero]
theorem A1T {r:Nat} {x:Row} {es:List (Value×AV)} {bo:Option (List Nat×Nat)} (h:Aq H r=some x):Aq (upd H r (.map false es bo)) r=some (.map false es bo):=(Dr h).trans rfl
theorem Vo {u:Nat}:¬AF AA u:= λ⟨_,_,_,h⟩=>by cases h
theorem Bu.rq (h:Bu H Ar 1 v l.length (AL l)):VJ H v l:=by
 rcases h with⟨h1,h2,_⟩|⟨r,q,h1,h2,_⟩
 ·exact .inl ⟨h1,l1s h2⟩
 ·exact .inr ⟨r,q,[],h1,by rw[Xn];exact h2⟩
theorem B8I {e sz m:Nat} {cs:List AV} (h:Bu H e sz v m cs):Ww v v=true:=by
 rcases h with⟨rfl,_⟩|⟨r,q,rfl,_⟩
 ·rfl
 ·show(Nat.beq sz sz&&(Nat.beq r r&&(Nat.beq 0 0&&Nat.beq m m)))=true
  rw[Zq,Zq,Zq,Zq];rfl
theorem okS {a:AV} {K:Aj} (h:Ww a a=true):Pw (AX (some (a,H)) a) K=K:=by
 show Pw (some (.v (.bool (Ww a a)),[])) K=K
 rw[h];rfl
theorem C6l (b:Bp) (h:VJ H v l) (w:Wf H) (hn:l.length<1000000):∃v' H',(∀K:KV,(FG Ar 1 Ae 1 [(0,1,S b)] H λv1 H1=>DN Ar 1 Ae Ac v v1 H1 K)=K v' H')∧VJ H' v' (l++[b])∧Lat H H' (AF v)∧(∀u,AF v' u→A2 H≤u):=by
 have main:∃H1,(∀K:KV,DN Ar 1 Ae Ac v (.sl 1 (A2 H) 0 1) ((A2 H,.cells false Ar [S b])::H) K=DN Ar 1 Ae Ac v (.sl 1 (A2 H) 0 1) H1 K)∧Bu H1 Ar 1 v l.length (AL l)∧Lat ((A2 H,.cells false Ar [S b])::H) H1 (AF v)∧A2 H1=A2 H+1:=by
  rcases h with⟨rfl,rfl⟩|⟨r,q,tl,rfl,hl⟩
  ·exact⟨_,λK=>rfl,.inl ⟨rfl,rfl,rfl⟩,Lat.refl _ _,rfl⟩
  ·have hlt:=w.lt hl
   have hl1:=AM (x:= .cells false Ar [S b]) hlt hl
   cases tl with
   |nil=>
    rw[Xn] at hl1
    exact⟨_,λK=>rfl,.inr ⟨r,q,rfl,hl1,by rw[Cs];omega⟩,Lat.refl _ _,rfl⟩
   |cons t tl=>
    have hu:=A9 (q:=false) (e:=Ar) (cs:=AL l) hl1
    refine⟨upd ((A2 H,.cells false Ar [S b])::H) r (.cells false Ar (AL l)),λK=> ?_,.inr ⟨r,false,rfl,hu,by rw[Cs];omega⟩,Lat.upd _ _ _ ⟨1,0,_,rfl⟩,by rw[BS];rfl⟩
    have e:∀H,DN Ar 1 Ae Ac (.sl 1 r 0 l.length) (.sl 1 (A2 H) 0 1) H K=DN Ar 1 Ae Ac (.sl 1 r 0 l.length) (.sl 1 (A2 H) 0 1) H K:= λ_=>rfl
    have e1:∀(H2:Hp) (src:AV),DN Ar 1 Ae Ac (.sl 1 r 0 l.length) src H2 K=J3 H2 r λx=>Kw x λE cs=>GS cs 0 λcl=>@Bool.rec (λ_=>Aj) (Qo (Nat.add 0 (Nat.mul l.length 1)) cs λcs'=>Lx H2 r (.cells false E cs') λH1=>TW Ar 1 Ae Ac (.sl 1 r 0 l.length) src H1 K) (TW Ar 1 Ae Ac (.sl 1 r 0 l.length) src H2 K) (Nat.beq (Nat.add 0 (Nat.mul l.length 1)) cl):= λH2 src=>rfl
    have en:Nat.add 0 (Nat.mul l.length 1)=l.length:=by show 0+l.length*1=l.length;omega
    rw[e1,e1,B5 hl1,B5 hu,en]
    show(GS (AL l++t::tl) 0 λcl=>@Bool.rec (λ_=>Aj) (Qo l.length (AL l++t::tl) λcs'=>Lx _ r (.cells false Ar cs') λH1=>TW Ar 1 Ae Ac (.sl 1 r 0 l.length) _ H1 K) _ (Nat.beq l.length cl))=(GS (AL l) 0 λcl=>@Bool.rec (λ_=>Aj) _ (TW Ar 1 Ae Ac (.sl 1 r 0 l.length) _ _ K) (Nat.beq l.length cl))
    rw[Cq,Cq,KN,KN,Cs,Zq,XA2,Cs,K7]
    have hb:Nat.beq l.length (l.length+(tl.length+1))=false:=by
     cases hc:Nat.beq l.length (l.length+(tl.length+1)) with
     |false=>rfl
     |true=>have:=VG hc;omega
    rw[hb]
    show Qo l.length (AL l++t::tl) _=_
    rw[MF]
    have et:(AL l++t::tl).take l.length=AL l:=by
     have:=List.take_left (l₁:=AL l) (l₂:=t::tl)
     rw[Cs] at this
     exact this
    rw[et,Db]
 obtain⟨H1,m1,m2,m3,m4⟩:=main
 have hsrc0:=LO (H:=H) (e:=Ar) (n:=1) (cs:=[S b]) rfl
 have hne:∀u,AF (.sl 1 (A2 H) 0 1) u→¬AF v u:= λu ⟨_,_,_,h1⟩ hu=>by
  injection h1 with _ h1
  have:=h.lt w hu
  omega
 have hsrc:Bu H1 Ar 1 (.sl 1 (A2 H) 0 1) 1 [S b]:=hsrc0.kp λu y hu hy=>m3.keep (Bj w) u y hy (hne u hu)
 obtain⟨v',H',h1,h2,h3,h4⟩:=apt (ie:=Ae) (i2:=Ac) m2 (λK=>Pt (K:=K) hsrc) rfl rfl (by decide) rfl rfl (by show(l.length+1)*16≤_;omega) (by omega)
 refine⟨v',H',λK=> ?_,?_,((Lat.cons H _ (AF v)).trans m3 (R:=AF v) (λ_ _ h=>h) (λ_ _ h=>h)).trans h4 (λ_ _ h=>h) (λ_ _ h=>h),λu hu=> ?_⟩
 ·rw[A2u (z:=S []) (λ_=>rfl) (λ_=>rfl) rfl,m1]
  exact h1 K
 ·refine Bu.rq ?_
  rw[XA2,←Yh];exact h2
 ·rw[h3 u hu,m4];omega
end
section
variable {H:Hp} {K:KV} {D:Nat} {b:Bool}
theorem A56 {c:Nat} {q q':Bool} {e:TypeId} {cs cs':List AV} (hl:Aq H c=some (.cells q e cs)) (h:OV b D cs cs' H q'):Fx b (D+1) (.ptr c 0 0) (.iptr cs') H true:= λK=>by
 show J3 H c (λx=>Kw x λ_ cs=>Hz (HR b H D) (D4 (Nat.add 0 0) cs) λ_ c'=>K true (.iptr c'))=_
 rw[B5 hl]
 show Hz (HR b H D) cs _=_
 rw[h]
theorem B9d {f:Nat} {cs cs':List AV} {q:Bool} (h:OV b D cs cs' H q):Fx b (D+1) (.fn (.func f) [] cs) (.fn (.func f) [] cs') H q:= λK=>h _
theorem C2H {r:Nat} {ws:List (Bp×Nat)} {bo:Option (List Nat×Nat)} (h:Aq H r=some (.map false (ES iV ws) bo)):Fx true (D+1) (.mp r) (.imap (ES iV ws)) H true:= λK=>by
 show J3 H r (λx=>B49 x λes=>T9 (HR true H D) es λ_ es'=>K true (.imap es'))=_
 rw[B5 h]
 show T9 (HR true H D) (ES iV ws) _=_
 have e:∀(es:List (Bp×Nat)) (F:Bool→List (Value×AV)→Aj),T9 (HR true H D) (ES iV es) F=F false (ES iV es):=by
  intro es
  induction es with
  |nil=>intro F;rfl
  |cons a es ih=>
   intro F
   show HR true H D (.v (.int .i64 (a.2:Int))) (λq a'=>T9 (HR true H D) (ES iV es) λq' l'=>F (@Bool.rec (λ_=>Bool) q' true q) ((SV a.1,a')::l'))=_
   rw[D1,ih];rfl
 rw[e]
theorem B5Z {f N:Nat} {c:AV} {s:Bp} (h1:(E (L+20)).ne f=false) (h2:(E (L+20)).imp f=false):Dx (E (L+20)) (rt (L+20) N) (.fn (.func f) [] [c]) [S s] H K=Ai (rt (L+20) N) f [S s,c] H λv=>K v H:=by
 show UU [S s] [c] (λas'=>UU [] as' λall=>B4Q ((E (L+20)).ne f) all H K (@Bool.rec (λ_=>Aj) (Ai (rt (L+20) N) f all H λv=>K v H) ((rt (L+20) N).call f all H K) ((E (L+20)).imp f)))=_
 rw[KP,KP,h1,h2]
 rfl
theorem C3Y {m s:Bp}:CS (rt (L+20) (n+1)) HY [S s,.iptr [S m]] (Bo (decide (s=m))):=by
 intro K hK
 rw[VD]
 unfold Mx
 rw[Gf,LB]
 exact hK _ _ λb=>⟨false,D1⟩
theorem A9G {ws:List (Bp×Nat)} {s:Bp}:CS (rt (L+20) (n+1)) JG [S s,.iptr [.imap (ES iV ws)]] (Bo (decide (0<(JK ws s).getD 0))):=by
 intro K hK
 rw[VE]
 unfold My Av
 have el:∀{K:AV→Aj},Au Cr (.iptr [.imap (ES iV ws)]) [] K=K (.imap (ES iV ws)):= λ{K}=>NI rfl
 have ek:∀(F:Value→Aj),Ix (S s) F=F (SV s):= λF=>id rfl
 rw[el,ek,A0A (f:=iV) (b:=ws) (λK=>id rfl)]
 have eg:∀(k:Nat) (K:AV→Aj),Go.Abs.Al Ab .gtr (iV k) (AV.v (.int .i64 0)) K=K (Bo (decide (0<k))):= λk K=>by
  have e:decide ((0:Int)<(k:Int))=decide (0<k):=decide_eq_decide.2 (by omega)
  rw[D7,e]
 cases hf:JK ws s with
 |none=>
  rw[hf] at hK
  show Go.Abs.Al Ab .gtr (iV 0) (AV.v (.int .i64 0)) _=_
  rw[eg]
  exact hK _ _ λb=>⟨false,D1⟩
 |some k=>
  rw[hf] at hK
  show Go.Abs.Al Ab .gtr (iV k) (AV.v (.int .i64 0)) _=_
  rw[eg]
  exact hK _ _ λb=>⟨false,D1⟩
end
structure OsK (gs:List Cd) (ws:List (Bp×Nat)) (ch:List (Bp×AV)) (b1 b3:Option (List Nat×Nat)) (wt:Bp→Nat) (ct:Bp→List Bp) (H:Hp):Prop where
 net:Aq H 0=some (.cells true BD [gV gs])
 m1:Aq H 1=some (.map false (ES iV ws) b1)
 p1:Aq H 2=some (.cells true EJ [.mp 1])
 m3:Aq H 3=some (.map false (ES aV ch) b3)
 p3:Aq H 4=some (.cells true CU [.mp 3])
 wf:Wf H
 wv:∀x,(JK ws x).getD 0=wt x
 cv:∀p,Bu H Ar 1 ((JK ch p).getD AA) (ct p).length (AL (ct p))
 cr:∀p u,AF ((JK ch p).getD AA) u→6<u
 cd:∀p p' u,AF ((JK ch p).getD AA) u→AF ((JK ch p').getD AA) u→p=p'
section
variable {gs:List Cd} {ws:List (Bp×Nat)} {ch:List (Bp×AV)} {b1 b3:Option (List Nat×Nat)} {wt:Bp→Nat} {ct:Bp→List Bp} {H H':Hp} {s p:Bp}
theorem OsK.kp (h:OsK gs ws ch b1 b3 wt ct H) (w:Wf H') (k:∀u y,(u<5∨∃p,AF ((JK ch p).getD AA) u)→Aq H u=some y→Aq H' u=some y):OsK gs ws ch b1 b3 wt ct H':=
 ⟨k _ _ (.inl (by decide)) h.net,k _ _ (.inl (by decide)) h.m1,k _ _ (.inl (by decide)) h.p1,k _ _ (.inl (by decide)) h.m3,k _ _ (.inl (by decide)) h.p3,w,h.wv,λp=>(h.cv p).kp λu y hu hy=>k u y (.inr ⟨p,hu⟩) hy,h.cr,h.cd⟩
theorem OsK.ne (h:OsK gs ws ch b1 b3 wt ct H) {u:Nat} (hu:u<5∨∃p,AF ((JK ch p).getD AA) u):u≠5∧u≠6:=by
 rcases hu with hu|⟨q,hu⟩
 ·omega
 ·have:=h.cr q u hu
  omega
theorem OsK.lw (h:OsK gs ws ch b1 b3 wt ct H) {K:AV→Aj}:TE Ab false (.mp 1) (SV s) H K=K (I (wt s:Int)):=by
 rw[A0A (f:=iV) (b:=ws) (λK=>Pq h.m1),←h.wv s]
 cases JK ws s<;>rfl
theorem OsK.lc (h:OsK gs ws ch b1 b3 wt ct H) {K:AV→Aj}:TE Ac false (.mp 3) (SV p) H K=K ((JK ch p).getD AA):=by
 rw[A0A (f:=aV) (b:=ch) (λK=>Pq h.m3)]
 cases JK ch p<;>rfl
theorem OsK.put (h:OsK gs ws ch b1 b3 wt ct H) (k:Nat):∃b1' H',(∀K:Hp→Aj,Pu (.mp 1) (SV s) (I (k:Int)) H K=K H')∧OsK gs (G6 ws s k) ch b1' b3 (λx=>if s=x then k else wt x) ct H'∧H'=upd H 1 (.map false (ES iV (G6 ws s k)) b1'):=by
 obtain⟨b1',e⟩:=B0m (f:=iV) (x:=s) (v:=k) h.m1
 have n1:∀u,u≠1→Aq (upd H 1 (.map false (ES iV (G6 ws s k)) b1')) u=Aq H u:= λu hu=>Ap hu
 refine⟨b1',_,e,⟨by rw[n1 _ (by decide)];exact h.net,A1T h.m1,by rw[n1 _ (by decide)];exact h.p1,by rw[n1 _ (by decide)];exact h.m3,by rw[n1 _ (by decide)];exact h.p3,BH h.wf,λx=> ?_,λp=> ?_,h.cr,h.cd⟩,rfl⟩
 ·rw[Gb]
  by_cases hx:s=x
  ·rw[if_pos hx,if_pos hx];rfl
  ·rw[if_neg hx,if_neg hx];exact h.wv x
 ·exact(h.cv p).kp λu y hu hy=>by rw[n1 _ (by have:=h.cr p u hu;omega)];exact hy
end
def Yd (gs:List Cd) (es:List Edg) (x:Bp):Nat:=(es.filter λe=>decide (e.1=x)&&decide (e.2∈gs.map Cd.id)).length
def XH (gs:List Cd) (es:List Edg) (p:Bp):List Bp:=(es.filter λe=>decide (e.2=p)&&decide (p∈gs.map Cd.id)).map Prod.fst
theorem A9E {gs:List Cd} {es:List Edg} {s p x:Bp}:Yd gs (es++[(s,p)]) x=if p∈gs.map Cd.id then(if s=x then Yd gs es s+1 else Yd gs es x) else Yd gs es x:=by
 unfold Yd
 rw[List.filter_append,XA2]
 by_cases h1:p∈gs.map Cd.id
 ·rw[if_pos h1]
  by_cases h2:s=x
  ·subst h2
   rw[if_pos rfl,List.filter_cons_of_pos (by simp only[decide_eq_true h1,decide_true,Bool.and_self])];rfl
  ·rw[if_neg h2,List.filter_cons_of_neg (by simp only[decide_eq_false h2,Bool.false_and];simp)];rfl
 ·rw[if_neg h1,List.filter_cons_of_neg (by simp only[decide_eq_false h1,Bool.and_false];simp)];rfl
theorem B0s {gs:List Cd} {es:List Edg} {s p q:Bp}:XH gs (es++[(s,p)]) q=if p∈gs.map Cd.id then(if p=q then XH gs es p++[s] else XH gs es q) else XH gs es q:=by
 unfold XH
 rw[List.filter_append,YG]
 by_cases h1:p∈gs.map Cd.id
 ·rw[if_pos h1]
  by_cases h2:p=q
  ·subst h2
   rw[if_pos rfl,List.filter_cons_of_pos (by simp only[decide_eq_true h1,decide_true,Bool.and_self])];rfl
  ·rw[if_neg h2,List.filter_cons_of_neg (by simp only[decide_eq_false h2,Bool.false_and];simp)]
   exact Xn _
 ·rw[if_neg h1,List.filter_cons_of_neg (by
   by_cases h2:p=q
   ·subst h2;simp only[decide_eq_false h1,Bool.and_false];simp
   ·simp only[decide_eq_false h2,Bool.false_and];simp)]
  exact Xn _
theorem B9t {gs:List Cd} {es:List Edg} {x:Bp}:Yd gs es x≤es.length:=List.length_filter_le _ _
theorem A5l {gs:List Cd} {es:List Edg} {p:Bp}:(XH gs es p).length≤es.length:=by
 unfold XH
 rw[XU]
 exact List.length_filter_le _ _
def lpO (gs:List Cd) (p:Option (Option Code)):Row:= .loop 86 [(2,AA),(3,.v (.int .i64 0)),(4,.ptr 0 0 0),(6,.ptr 2 0 0),(7,.ptr 4 0 0),(8,.dk),(9,.dk),(10,.dk),(11,.dk),(25,B8p gs),(26,.dk),(27,.dk),(28,.dk),(29,.dk),(30,.dk),(31,.dk),(32,.dk),(33,.dk),(34,.dk),(35,.dk),(36,.dk),(37,.dk),(38,.dk),(39,.dk),(40,.dk),(41,.dk),(42,.dk),(61,.dk),(62,.dk),(63,.dk)] (El).2.1 (El).2.2.1 (El).2.2.2 p
def C6o (gs:List Cd) (es:List Edg) (H:Hp):Prop:=Aq H 5=some (lpO gs (some none))∧∃ws ch b1 b3,OsK gs ws ch b1 b3 (Yd gs es) (XH gs es) H
section
variable {gs:List Cd}
theorem B91 {H1:Hp} {K:Hp→Aj} (h:Aq H1 5=some (lpO gs none)):EC H1 5 false (some none) K=K (upd H1 5 (lpO gs (some none))):=RL h
theorem C4Y {H1:Hp} {K:Hp→Aj} (h:Aq H1 5=some (lpO gs (some none))):EC H1 5 true none K=K (upd H1 5 (lpO gs none)):=RM h
theorem B77:A2B (rt (L+20) (n+2)) L 5 6 (C6o gs):=by
 intro es s p H K x hlen ⟨hlp,ws,ch,b1,b3,h⟩ hx
 show P0 (rt (L+20) (n+2)) 5 [S s,S p] H K=x
 rw[RB hlp (by kernel_rfl)]
 have hrun:(rt (L+20) (n+2)).run= λcf=>Sz (E (L+20)) (rt (L+20) (n+1)) cf:=rfl
 rw[hrun,Yw,C4Y hlp]
 simp only[BW]
 have h1:OsK gs ws ch b1 b3 (Yd gs es) (XH gs es) (upd H 5 (lpO gs none)):=h.kp (BH h.wf) λu y hu hy=>by
  rw[Ap (h.ne hu).1];exact hy
 have hl1:Aq (upd H 5 (lpO gs none)) 5=some (lpO gs none):=Hd hlp
 have k1:∀y,Aq H 6=some y→Aq (upd H 5 (lpO gs none)) 6=some y:= λy hy=>by rw[Ap (by decide)];exact hy
 generalize upd H 5 (lpO gs none)=H1 at h1 hl1 k1
 show Au AS (.ptr 0 0 0) H1 _=_
 rw[AK (p:=0) rfl h1.net (by simp)]
 show Ai (rt (L+20) (n+1)) F5 [gV gs,S p] H1 _=_
 rw[A4s]
 by_cases hp:p∈gs.map Cd.id
 ·rw[decide_eq_true hp]
  show Aw (.v (.bool true)) _ _=_
  rw[Dc]
  show Au Cr (.ptr 2 0 0) H1 _=_
  have ek:∀(s:Bp) (F:Value→Aj),Ix (S s) F=F (SV s):= λs F=>id rfl
  rw[AK (p:=0) rfl h1.p1 (by simp),ek]
  show TE Ab false (.mp 1) (SV s) H1 _=_
  rw[h1.lw,Dv (by have:=B9t (gs:=gs) (es:=es) (x:=s);omega),ek]
  obtain⟨b1',H2,e2,h2,eq2⟩:=h1.put (s:=s) (Yd gs es s+1)
  show Pu (.mp 1) (SV s) (I ((Yd gs es s+1:Nat):Int)) H1 _=_
  rw[e2]
  have hl2:Aq H2 5=some (lpO gs none):=by rw[eq2,Ap (by decide)];exact hl1
  have k2:∀y,Aq H 6=some y→Aq H2 6=some y:= λy hy=>by rw[eq2,Ap (by decide)];exact k1 y hy
  clear eq2 e2
  have ep3:∀{H:Hp} {wt:Bp→Nat} {b1':Option (List Nat×Nat)} {ws':List (Bp×Nat)} {K:AV→Aj},OsK gs ws' ch b1' b3 wt (XH gs es) H→Au Bm (.ptr 4 0 0) H K=K (.mp 3):= λ{H wt b1' ws' K} h=>by
   rw[AK (p:=0) rfl h.p3 (by simp)];rfl
  rw[ep3 h2,BK,BK,ek]
  have hsv:=h2.cv p
  have hrv:∀u,AF ((JK ch p).getD AA) u→6<u:=h2.cr p
  rw[h2.lc,BK,A2u (z:=S []) (λ_=>rfl) (λ_=>rfl) rfl,Qz]
  have h3:OsK gs (G6 ws s (Yd gs es s+1)) ch b1' b3 (λx=>if s=x then Yd gs es s+1 else Yd gs es x) (XH gs es) ((A2 H2,.cells false Ar [S s])::H2):=h2.kp (Bj h2.wf) λu y _ hy=>AM (h2.wf.lt hy) hy
  have hn3:A2 ((A2 H2,Row.cells false Ar [S s])::H2)=A2 H2+1:=rfl
  have hn2:=h2.wf.lt hl2
  have hsrc:=LO (H:=H2) (e:=Ar) (n:=1) (cs:=[S s]) rfl
  obtain⟨v',H4,a1,a2,a3,a4⟩:=apt (ie:=Ae) (i2:=Ac) (h3.cv p) (λK=>Pt (K:=K) hsrc) rfl rfl (by decide) rfl rfl (by have:=A5l (gs:=gs) (es:=es) (p:=p);show((XH gs es p).length+1)*16≤_;omega) (by have:=A5l (gs:=gs) (es:=es) (p:=p);omega)
  rw[a1,Qz,ek]
  have nr:∀{u:Nat},u<7→¬AF ((JK ch p).getD AA) u:= λhu h=>by have:=hrv _ h;omega
  have h4m:=a4.keep h3.wf 3 _ h3.m3 (nr (by decide))
  obtain⟨b3',e5⟩:=B0m (f:=aV) (x:=p) (v:=v') h4m
  show Ed (Pu (.mp 3) (SV p) (aV v') H4 λH=>some (AV.v undef,H)) _=_
  rw[e5,Qz,ep3 h3]
  have okm:∀{K:Aj},Pw (AX (some (AV.mp 3,[])) (.mp 3)) K=K:= λ{K}=>okS rfl
  have h4p:Aq H4 4=some (.cells true CU [.mp 3]):=a4.keep h3.wf 4 _ h3.p3 (nr (by decide))
  have ep4:∀{K:AV→Aj},Au Bm (.ptr 4 0 0) H4 K=K (.mp 3):= λ{K}=>by
   rw[AK (p:=0) rfl h4p (by simp)];rfl
  rw[okm,ep4,okm,okm,ek,h3.lc,okS (B8I hsv)]
  have w4:=a4.wf h3.wf
  have hl3:=AM (x:= .cells false Ar [S s]) hn2 hl2
  have hl4:=a4.keep h3.wf 5 _ hl3 (nr (by decide))
  have hl5:Aq (upd H4 3 (.map false (ES aV (G6 ch p v')) b3')) 5=some (lpO gs none):=by rw[Ap (by decide)];exact hl4
  show EC (upd H4 3 (.map false (ES aV (G6 ch p v')) b3')) 5 false (some none) _=_
  rw[B91 hl5]
  have k6:∀u y,(u≠3∧u≠5)→Aq H4 u=some y→Aq (upd (upd H4 3 (.map false (ES aV (G6 ch p v')) b3')) 5 (lpO gs (some none))) u=some y:= λu y hu hy=>by
   rw[Ap hu.2,Ap hu.1];exact hy
  have k36:∀u y,u≠3∧u≠5→u<7→Aq ((A2 H2,Row.cells false Ar [S s])::H2) u=some y→Aq (upd (upd H4 3 (.map false (ES aV (G6 ch p v')) b3')) 5 (lpO gs (some none))) u=some y:= λu y hu h7 hy=>k6 u y hu (a4.keep h3.wf u y hy (nr h7))
  refine hx _ ⟨Hd hl5,G6 ws s (Yd gs es s+1),G6 ch p v',b1',b3',⟨k36 0 _ (by decide) (by decide) h3.net,k36 1 _ (by decide) (by decide) h3.m1,k36 2 _ (by decide) (by decide) h3.p1,?_,k36 4 _ (by decide) (by decide) h3.p3,BH (BH w4),λy=> ?_,λq=> ?_,λq u hu=> ?_,λq q' u hu hu'=> ?_⟩⟩ λy hy=> ?_
  ·rw[Ap (by decide)]
   exact A1T h4m
  ·rw[h3.wv,A9E,if_pos hp]
  ·rw[Gb,B0s,if_pos hp]
   by_cases hq:p=q
   ·subst hq
    rw[if_pos rfl,if_pos rfl,l1l,XA2,←Yh]
    refine a2.kp λu y hu hy=>k6 u y ?_ hy
    have:=a3 u hu
    omega
   ·rw[if_neg hq,if_neg hq]
    refine(h3.cv q).kp λu y hu hy=>k6 u y (by have:=h3.cr q u hu;omega) (a4.keep h3.wf u y hy λhc=>hq (h3.cd p q u hc hu))
  ·rw[Gb] at hu
   by_cases hq:p=q
   ·rw[if_pos hq,l1l] at hu
    have:=a3 u hu
    omega
   ·rw[if_neg hq] at hu
    exact h3.cr q u hu
  ·rw[Gb] at hu hu'
   by_cases hq:p=q
   ·by_cases hq':p=q'
    ·exact hq.symm.trans hq'
    ·rw[if_pos hq,l1l] at hu
     rw[if_neg hq'] at hu'
     have e1:=a3 u hu
     have e2:=(h3.cv q').lt h3.wf hu'
     omega
   ·rw[if_neg hq] at hu
    by_cases hq':p=q'
    ·rw[if_pos hq',l1l] at hu'
     have e1:=a3 u hu'
     have e2:=(h3.cv q).lt h3.wf hu
     omega
    ·rw[if_neg hq'] at hu'
     exact h3.cd q q' u hu hu'
  ·have a:=k2 y hy
   exact k36 6 _ (by decide) (by decide) (AM (h2.wf.lt a) a)
 ·rw[decide_eq_false hp]
  show Aw (.v (.bool false)) _ _=_
  rw[Bx]
  show EC H1 5 false (some none) _=_
  rw[B91 hl1]
  have e1:Yd gs (es++[(s,p)])=Yd gs es:=funext λy=>by rw[A9E,if_neg hp]
  have e2:XH gs (es++[(s,p)])=XH gs es:=funext λy=>by rw[B0s,if_neg hp]
  refine hx _ ⟨Hd hl1,ws,ch,b1,b3,?_⟩ λy hy=> ?_
  ·rw[e1,e2]
   refine h1.kp (BH h1.wf) λu y hu hy=> ?_
   rw[Ap (h1.ne hu).1];exact hy
  ·rw[Ap (by decide)];exact k1 y hy
end
end
section
variable {L n:Nat}
def S0 (gs:List Cd) (es:List Edg) (out rem:List Bp) (x:Bp):Nat:=(es.filter λe=>decide (e.1=x)&&(decide (e.2∈gs.map Cd.id)&&decide (e.2∉out))).length+rem.count x
section
variable {gs:List Cd} {es:List Edg} {out rem l:List Bp} {x c m:Bp}
theorem Ud:S0 gs es out (c::rem) x=S0 gs es out rem x+if c=x then 1 else 0:=by
 unfold S0
 rw[List.count_cons,Xo]
 congr 2
 by_cases h:c=x<;>simp[h]
theorem A9D:S0 gs es [] []=Yd gs es:=by
 funext x
 unfold S0 Yd
 simp
theorem B9s:S0 gs es out rem x≤es.length+rem.length:=by
 have h1:=List.length_filter_le (λe:Edg=>decide (e.1=x)&&(decide (e.2∈gs.map Cd.id)&&decide (e.2∉out))) es
 have h2:=List.count_le_length (a:=x) (l:=rem)
 unfold S0
 omega
theorem A9C (h1:m∈gs.map Cd.id) (h2:m∉out):S0 gs es (out++[m]) (XH gs es m)=S0 gs es out []:=by
 funext x
 unfold S0 XH
 rw[List.count_nil,Nat.add_zero]
 induction es with
 |nil=>rfl
 |cons e es ih=>
  rw[l2h,l2h,l2h]
  by_cases hm:e.2=m
  ·have e1:(decide (e.1=x)&&(decide (e.2∈gs.map Cd.id)&&decide (e.2∉out++[m])))=false:=by simp[hm]
   have e2:(decide (e.2=m)&&decide (m∈gs.map Cd.id))=true:=by rw[decide_eq_true hm,decide_eq_true h1];rfl
   by_cases hx:e.1=x
   ·have e3:(decide (e.1=x)&&(decide (e.2∈gs.map Cd.id)&&decide (e.2∉out)))=true:=by rw[decide_eq_true hx,hm,decide_eq_true h1,decide_eq_true h2];rfl
    have e4:(e.1==x)=true:=by simp[hx]
    simp only[e1,e2,e3,e4,l0z,if_false,if_true,Vu,K7,List.count_cons]
    omega
   ·have e3:(decide (e.1=x)&&(decide (e.2∈gs.map Cd.id)&&decide (e.2∉out)))=false:=by rw[decide_eq_false hx];rfl
    have e4:(e.1==x)=false:=by simp[hx]
    simp only[e1,e2,e3,e4,l0z,if_false,if_true,Vu,List.count_cons]
    omega
  ·have e2:(decide (e.2=m)&&decide (m∈gs.map Cd.id))=false:=by rw[decide_eq_false hm];rfl
   have e1:decide (e.2∉out++[m])=decide (e.2∉out):=by simp[hm]
   cases hb:(decide (e.1=x)&&(decide (e.2∈gs.map Cd.id)&&decide (e.2∉out))) with
   |true=>
    simp only[e1,e2,hb,l0z,if_false,if_true,K7]
    omega
   |false=>
    simp only[e1,e2,hb,l0z,if_false]
    exact ih
structure Ri (gs:List Cd) (es:List Edg) (out rem l:List Bp):Prop where
 nd:l.Nodup
 mem:∀x,x∈l↔x∈gs.map Cd.id∧x∉out∧S0 gs es out rem x=0
 jz:∀x∈out,S0 gs es out rem x=0
 rid:∀x∈rem,x∈gs.map Cd.id
theorem Ri.len (h:Ri gs es out rem l):l.length≤gs.length:=by
 have:=A8z h.nd λx hx=>((h.mem x).1 hx).1
 rw[XU] at this
 exact this
theorem Ri.pos:1≤S0 gs es out (c::rem) c:=by rw[Ud,if_pos rfl];omega
theorem Ri.dec:(λx=>if c=x then S0 gs es out (c::rem) c-1 else S0 gs es out (c::rem) x)=S0 gs es out rem:=by
 funext x
 by_cases h:c=x
 ·subst h
  rw[if_pos rfl,Ud,if_pos rfl];omega
 ·rw[if_neg h,Ud,if_neg h];rfl
theorem Ri.step (h:Ri gs es out (c::rem) l):(S0 gs es out rem c=0→Ri gs es out rem (l++[c]))∧(S0 gs es out rem c≠0→Ri gs es out rem l):=by
 have hp:1≤S0 gs es out (c::rem) c:=Ri.pos
 have hcl:c∉l:= λhc=>by have:=((h.mem c).1 hc).2.2;omega
 have hco:c∉out:= λhc=>by have:=h.jz c hc;omega
 have hci:=h.rid c (by simp)
 have hjz:∀x∈out,S0 gs es out rem x=0:= λx hx=>by
  have:=h.jz x hx
  rw[Ud] at this
  omega
 have hne:∀x,c≠x→S0 gs es out (c::rem) x=S0 gs es out rem x:= λx hx=>by rw[Ud,if_neg hx];rfl
 refine⟨λh0=>⟨List.nodup_append.2 ⟨h.nd,by simp,λa ha b hb=>by simp at hb;subst hb;exact λe=>hcl (e▸ha)⟩,λx=> ?_,hjz,λx hx=>h.rid x (by simp[hx])⟩,λh0=>⟨h.nd,λx=> ?_,hjz,λx hx=>h.rid x (by simp[hx])⟩⟩
 ·rw[YD,Zo]
  by_cases hx:c=x
  ·subst hx
   exact⟨λ_=>⟨hci,hco,h0⟩,λ_=> .inr rfl⟩
  ·rw[h.mem,hne x hx]
   exact⟨λhh=>hh.elim id λe=>absurd e.symm hx,.inl⟩
 ·by_cases hx:c=x
  ·subst hx
   exact⟨λhh=>absurd hh hcl,λhh=>absurd hh.2.2 h0⟩
  ·rw[h.mem,hne x hx]
theorem Ri.take (h:Ri gs es out [] l) (hes:∀e∈es,e.1∈gs.map Cd.id) (hm:m∈l):Ri gs es (out++[m]) (XH gs es m) (l.filter λs=> !decide (s=m)):=by
 obtain⟨h1,h2,h3⟩:=(h.mem m).1 hm
 have hw:S0 gs es (out++[m]) (XH gs es m)=S0 gs es out []:=A9C h1 h2
 refine⟨h.nd.sublist List.filter_sublist,λx=> ?_,λx hx=> ?_,λx hx=> ?_⟩
 ·rw[hw,List.mem_filter,h.mem,YD,Zo]
  constructor
  ·rintro⟨⟨a1,a2,a3⟩,a4⟩
   have a4':x≠m:=by simpa using a4
   exact⟨a1,λhh=>hh.elim a2 a4',a3⟩
  ·rintro⟨a1,a2,a3⟩
   refine⟨⟨a1,λhh=>a2 (.inl hh),a3⟩,?_⟩
   have:x≠m:= λhh=>a2 (.inr hh)
   simp[this]
 ·rw[hw]
  rcases YD.1 hx with hx|hx
  ·exact h.jz x hx
  ·rw[Zo] at hx;subst hx;exact h3
 ·obtain⟨e,he,rfl⟩:=Zp.1 hx
  exact hes e (List.mem_filter.1 he).1
theorem Ri.perm (h:Ri gs es out [] l) (hE:∀e:Edg,e∈es↔e.1∈gs.map Cd.id∧e.2∈Mj gs e.1) (hn:(gs.map Cd.id).Nodup):l.Perm (rdy gs out):=by
 refine(List.perm_ext_iff_of_nodup h.nd (hn.sublist List.filter_sublist)).2 λx=> ?_
 rw[h.mem]
 show _↔x∈rdy gs out
 rw[A0n]
 refine and_congr_right λhx=>and_congr_right λ_=> ?_
 unfold S0
 rw[List.count_nil,Nat.add_zero,List.length_eq_zero_iff,List.filter_eq_nil_iff]
 constructor
 ·intro hh p hp hi
  have:=hh (x,p) ((hE _).2 ⟨hx,hp⟩)
  apply Classical.byContradiction
  intro hc
  exact this (by rw[decide_eq_true rfl,decide_eq_true hi,decide_eq_true hc];rfl)
 ·intro hh e he
  obtain⟨h1,h2⟩:=(hE e).1 he
  intro hc
  simp only[Jq,decide_eq_true_eq] at hc
  obtain⟨c1,c2,c3⟩:=hc
  rw[c1] at h2
  exact c3 (hh _ h2 c2)
end
structure Mo (gs:List Cd) (out l:List Bp) (wt:Bp→Nat) (ct:Bp→List Bp) (ws:List (Bp×Nat)) (ch:List (Bp×AV)) (b1 b3:Option (List Nat×Nat)) (rv ov:AV) (H:Hp):Prop where
 os:OsK gs ws ch b1 b3 wt ct H
 rd:VJ H rv l
 ot:Bu H Ar 1 ov out.length (AL out)
 rr:∀u,AF rv u→4<u∧¬AF ov u∧∀p,¬AF ((JK ch p).getD AA) u
 oo:∀u,AF ov u→4<u∧∀p,¬AF ((JK ch p).getD AA) u
section
variable {H:Hp} {v:AV} {l:List Bp}
theorem Bu.ia (h:Bu H Ar 1 v l.length (AL l)) {i:Nat} (hi:i<l.length):∃a,(∀K:AV→Aj,BA Ac v (I (i:Int)) K=K a)∧∀K:AV→Aj,Au Ae a H K=K (S l[i]):=by
 rcases h with⟨_,h2,_⟩|⟨r,q,rfl,h2,_⟩
 ·omega
 ·exact⟨.ptr r i 0,λK=>X9 hi,λK=>A5e h2 hi⟩
end
section
variable {gs:List Cd} {es:List Edg} {out l:List Bp} {ws:List (Bp×Nat)} {ch:List (Bp×AV)} {b1 b3:Option (List Nat×Nat)} {rv ov:AV} {K:KV} {x:Aj} {ct:Bp→List Bp}
theorem C2e {R:Rt} {k150:AV→AV→AV→AV→AV→AV→AV→AV→AV→AV→AV→AV→AV→AV→AV→AV→AV→AV→AV→AV→AV→AV→AV→AV→AV→AV→AV→AV→AV→AV→Hp→Aj} {a0 a1 a2 d5 d6 e0 e1 e2 e3 e4 e5 e6 e7 e8 e9 f0 f1 f2 f3 f4 f5 f6 f7:AV} {m:Bp} (hb:es.length<1000) (hg:gs.length≤8) (hcb:(ct m).length<1000)
 (hx:∀l' ws' b1' rv' H',Mo gs out l' (S0 gs es out []) ct ws' ch b1' b3 rv' ov H'→Ri gs es out [] l'→k150 a0 a1 a2 (.ptr 2 0 0) (.ptr 4 0 0) d5 d6 rv' ov e0 e1 e2 e3 e4 e5 e6 e7 e8 e9 f0 f1 f2 f3 f4 f5 f6 f7 ((JK ch m).getD AA) (I (ct m).length) (I (ct m).length) H'=x):
 ∀(f i:Nat) (l:List Bp) (ws:List (Bp×Nat)) (b1:Option (List Nat×Nat)) (rv:AV) (H:Hp),i≤(ct m).length→(ct m).length-i<f→Mo gs out l (S0 gs es out ((ct m).drop i)) ct ws ch b1 b3 rv ov H→Ri gs es out ((ct m).drop i) l→
 MA (L+20) R K k150 f a0 a1 a2 (.ptr 2 0 0) (.ptr 4 0 0) d5 d6 rv ov e0 e1 e2 e3 e4 e5 e6 e7 e8 e9 f0 f1 f2 f3 f4 f5 f6 f7 ((JK ch m).getD AA) (I (ct m).length) (I i) H=x:=by
 intro f
 induction f with
 |zero=>intro i l ws b1 rv H _ h;omega
 |succ f ih=>
  intro i l ws b1 rv H hi hf h hr
  rw[YL]
  unfold Ql Av
  by_cases hlt:i<(ct m).length
  ·obtain⟨a,ea,el⟩:=(h.os.cv m).ia hlt
   rw[l11 hlt] at h hr
   have hwl:=B9s (gs:=gs) (es:=es) (out:=out) (rem:=(ct m)[i]::(ct m).drop (i+1)) (x:=(ct m)[i])
   have hpos:1≤S0 gs es out ((ct m)[i]::(ct m).drop (i+1)) (ct m)[i]:=Ri.pos
   have hdl:((ct m)[i]::(ct m).drop (i+1)).length≤(ct m).length:=by rw[K7,l0t];omega
   rw[FL (by omega),Dc]
   simp only[BW]
   have ek:∀(s:Bp) (F:Value→Aj),Ix (S s) F=F (SV s):= λs F=>id rfl
   rw[ea,el]
   rw[AK (p:=0) rfl h.os.p1 (by simp),ek]
   show TE Ab false (.mp 1) (SV (ct m)[i]) H _=_
   rw[h.os.lw,A15 (by omega) (by omega),ek]
   obtain⟨b1',H2,e2',h2,eq2⟩:=h.os.put (s:=(ct m)[i]) (S0 gs es out ((ct m)[i]::(ct m).drop (i+1)) (ct m)[i]-1)
   show Pu (.mp 1) (SV (ct m)[i]) (I ((S0 gs es out ((ct m)[i]::(ct m).drop (i+1)) (ct m)[i]-1:Nat):Int)) H _=_
   rw[e2']
   rw[Ri.dec] at h2
   have n1:∀u y,u≠1→Aq H u=some y→Aq H2 u=some y:= λu y hu hy=>by rw[eq2,Ap hu];exact hy
   rw[AK (p:=0) rfl h2.p1 (by simp),ek]
   show TE Ab false (.mp 1) (SV (ct m)[i]) H2 _=_
   rw[h2.lw]
   have hM:Mo gs out l (S0 gs es out ((ct m).drop (i+1))) ct (G6 ws (ct m)[i] (S0 gs es out ((ct m)[i]::(ct m).drop (i+1)) (ct m)[i]-1)) ch b1' b3 rv ov H2:=
    ⟨h2,h.rd.kp λu y hu hy=>n1 u y (by have:=(h.rr u hu).1;omega) hy,h.ot.kp λu y hu hy=>n1 u y (by have:=(h.oo u hu).1;omega) hy,h.rr,h.oo⟩
   have ee:∀(k:Nat) (K:AV→Aj),Go.Abs.Al Ab .eql (I (k:Int)) (AV.v (.int .i64 0)) K=K (Bo (decide (k=0))):= λk K=>by
    have e:decide ((k:Int)=0)=decide (k=0):=decide_eq_decide.2 (by omega)
    rw[Do,e]
   rw[ee]
   clear e2' eq2
   by_cases h0:S0 gs es out ((ct m).drop (i+1)) (ct m)[i]=0
   ·rw[decide_eq_true h0,Dc]
    have hl8:=hr.len
    obtain⟨v',H3,a1,a2,a3,a4⟩:=C6l (ct m)[i] hM.rd hM.os.wf (by omega)
    rw[a1,Dv (by omega)]
    have h4:=hM.os.wf.lt hM.os.p3
    refine ih (i+1) (l++[(ct m)[i]]) _ b1' v' H3 (by omega) (by omega) ⟨hM.os.kp (a3.wf hM.os.wf) λu y hu hy=>a3.keep hM.os.wf u y hy λhc=> ?_,a2,hM.ot.kp λu y hu hy=>a3.keep hM.os.wf u y hy λhc=>(hM.rr u hc).2.1 hu,λu hu=>⟨?_,λhc=> ?_,λp hc=> ?_⟩,hM.oo⟩ (hr.step.1 h0)
    ·rcases hu with hu|⟨p,hp⟩
     ·have:=(hM.rr u hc).1;omega
     ·exact(hM.rr u hc).2.2 p hp
    ·have:=a4 u hu;omega
    ·have g1:=a4 u hu
     have g2:=hM.ot.lt hM.os.wf hc
     omega
    ·have g1:=a4 u hu
     have g2:=(hM.os.cv p).lt hM.os.wf hc
     omega
   ·rw[decide_eq_false h0,Bx,Dv (by omega)]
    exact ih (i+1) l _ b1' rv H2 (by omega) (by omega) hM (hr.step.2 h0)
  ·rw[FE (by omega),Bx]
   have:i=(ct m).length:=by omega
   subst this
   rw[List.drop_length] at h hr
   exact hx l ws b1 rv H h hr
theorem B5h {H:Hp} {K:KV}:AJ Ar Ae H K=K (.ptr (A2 H) 0 0) ((A2 H,.cells true Ar [S []])::H):=by
 unfold AJ
 rw[CQ,Ca];rfl
theorem B44 (h:rdy gs out=[]):∀N,A33 gs N out=out:=by
 intro N
 cases N with
 |zero=>rfl
 |succ N=>
  unfold A33
  rw[h];rfl
theorem C2f {k64:AV→AV→Hp→Aj} {a0 a1 d5 d6 e0 e1 e2 e3 e4 e5 e6 e7 e8 e9 f0 f1 f2 f3 f4 f5 f6 f7:AV} (hb:es.length<1000) (hg:gs.length≤8) (hL:200000<L) (hn:(gs.map Cd.id).Nodup) (hE:∀e:Edg,e∈es↔e.1∈gs.map Cd.id∧e.2∈Mj gs e.1) {r:List Bp}
 (hx:∀ov H,Bu H Ar 1 ov r.length (AL r)→(r=[]→ov=AA)→Aq H 0=some (.cells true BD [gV gs])→k64 (.ptr 0 0 0) ov H=x):
 ∀(N f:Nat) (out l:List Bp) (ws:List (Bp×Nat)) (b1:Option (List Nat×Nat)) (rv ov:AV) (H:Hp) (z0 z1 z2:AV),N<f→gs.length≤out.length+N→OrdK gs out→Mo gs out l (S0 gs es out []) (XH gs es) ws ch b1 b3 rv ov H→Ri gs es out [] l→(out=[]→ov=AA)→A33 gs N out=r→
 MB (L+20) (rt (L+20) (n+4)) K k64 f a0 a1 (.ptr 0 0 0) (.ptr 2 0 0) (.ptr 4 0 0) d5 d6 rv ov e0 e1 e2 e3 e4 e5 e6 e7 e8 e9 f0 f1 f2 f3 f4 f5 f6 f7 z0 z1 z2 H=x:=by
 intro N
 induction N with
 |zero=>
  intro f out l ws b1 rv ov H z0 z1 z2 hf hlen ho h hr h0 hord
  cases f with
  |zero=>omega
  |succ f=>
   have hl:l=[]:=by
    have hp:=hr.perm hE hn
    rw[A6h ho (by omega)] at hp
    exact hp.eq_nil
   subst hl
   rw[Sg]
   unfold MC Av
   have el:∀{K:AV→Aj},AR Ac rv K=K (I ((0:Nat):Int)):= λ{K}=>h.rd.len
   have eg:∀{K:AV→Aj},Go.Abs.Al Ab .gtr (I ((0:Nat):Int)) (AV.v (.int .i64 0)) K=K (Bo false):= λ{K}=>by rw[D7];rfl
   rw[el,eg,Bx]
   rw[←hord] at hx
   exact hx ov H h.ot h0 h.os.net
 |succ N ih=>
  intro f out l ws b1 rv ov H z0 z1 z2 hf hlen ho h hr h0 hord
  cases f with
  |zero=>omega
  |succ f=>
   have hp:=hr.perm hE hn
   rw[Sg]
   unfold MC Av
   rw[h.rd.len]
   cases hs:IB (rdy gs out) with
   |nil=>
    have hrd:rdy gs out=[]:=by
     have:=(C5 (rdy gs out)).length_eq
     rw[hs] at this
     exact l1s this.symm
    have hl:l=[]:=by rw[hrd] at hp;exact hp.eq_nil
    subst hl
    have eg:∀{K:AV→Aj},Go.Abs.Al Ab .gtr (I (([]:List Bp).length:Int)) (AV.v (.int .i64 0)) K=K (Bo false):= λ{K}=>by rw[D7];rfl
    rw[eg,Bx]
    rw[B44 hrd] at hord
    subst hord
    exact hx ov H h.ot h0 h.os.net
   |cons m t=>
    have hord':A33 gs N (out++[m])=r:=by
     unfold A33 at hord
     rw[hs] at hord
     exact hord
    have hmr:m∈rdy gs out:=(C5 _).mem_iff.1 (by rw[hs];simp)
    have hm:m∈l:=hp.mem_iff.2 hmr
    have hmin:∀y∈l,m≤y:= λy hy=>by
     have h1:y∈m::t:=by rw[←hs];exact(C5 _).mem_iff.2 (hp.mem_iff.1 hy)
     have h2:=GF (rdy gs out)
     rw[hs,l2k] at h2
     rcases TA.1 h1 with rfl|h1
     ·exact(L3 _ _).elim id id
     ·exact h2.1 y h1
    have hl8:=hr.len
    have hlp:0<l.length:=List.length_pos_of_mem hm
    have eg:∀{K:AV→Aj},Go.Abs.Al Ab .gtr (I (l.length:Int)) (AV.v (.int .i64 0)) K=K (Bo true):= λ{K}=>by rw[D7,decide_eq_true (by omega)]
    rw[eg,Dc]
    simp only[BW]
    obtain⟨a,q,ha,hq⟩:=h.rd.fx (D:=depth-1)
    have ha':a=Ls l:=by
     rcases ha with rfl|⟨rfl,_⟩
     ·rfl
     ·simp at hm
    subst ha'
    rw[AT (C3W (n:=n+3) hm hmin (by omega) (by omega)) (Ax hq Ba)]
    obtain⟨H1,e1',hc1,w1,k1⟩:=Ev (e:=Ar) (zs:=[S []]) (vs:=[S m]) h.os.wf rfl
    rw[B5h,E4 (cs:=[S []]) (A1 (by simp)) (by simp) rfl rfl rfl]
    show(rt (L+20) (n+4)).call Cz [rv,.fn (.func HY) [] [.ptr (A2 H) 0 0]] (upd ((A2 H,.cells true Ar [S []])::H) (A2 H) (.cells true Ar [S m])) _=_
    rw[←e1']
    have hnx1:A2 H1=A2 H+1:=by rw[e1',BS];rfl
    have os1:OsK gs ws ch b1 b3 (S0 gs es out []) (XH gs es) H1:=h.os.kp w1 λu y _ hy=>(k1 u y hy).1
    have rd1:VJ H1 rv l:=h.rd.kp λu y _ hy=>(k1 u y hy).1
    have ot1:Bu H1 Ar 1 ov out.length (AL out):=h.ot.kp λu y _ hy=>(k1 u y hy).1
    have hrc:∀u,AF rv u→u<A2 H:= λu hu=>h.rd.lt h.os.wf hu
    clear e1'
    refine B8R (n:=n+2) (P:= λs=>decide (s=m)) w1 rd1 (by omega) hL ⟨.fn (.func HY) [] [.iptr [S m]],_,B9d (D:=depth-1) (Ax (A56 (D:=depth-2) hc1 (Ax (q:=false) D1 Ba)) Ba),λs K=> ?_⟩ (λH' hk s K=> ?_) λv' H2 g1 g2 g3=> ?_
    ·rw[B5Z rfl rfl]
     exact AT (C3Y (n:=n+1)) (Ax (q:=false) D1 (Ax (q:=false) B0h Ba))
    ·rw[B5Z rfl rfl]
     have hc2:=hk.keep w1 _ _ hc1 λhc=>by have:=hrc _ hc;omega
     exact AT (C3Y (n:=n+2)) (Ax (q:=false) D1 (Ax (A56 (D:=depth-1) hc2 (Ax (q:=false) D1 Ba)) Ba))
    ·have w2:=g3.wf w1
     have hc2:=g3.keep w1 _ _ hc1 λhc=>by have:=hrc _ hc;omega
     have os2:OsK gs ws ch b1 b3 (S0 gs es out []) (XH gs es) H2:=os1.kp w2 λu y hu hy=>g3.keep w1 u y hy λhc=>by
      rcases hu with hu|⟨p,hp⟩
      ·have:=(h.rr u hc).1;omega
      ·exact(h.rr u hc).2.2 p hp
     have ot2:Bu H2 Ar 1 ov out.length (AL out):=ot1.kp λu y hu hy=>g3.keep w1 u y hy λhc=>(h.rr u hc).2.1 hu
     have hol:=ho.len
     rw[AK (p:=0) rfl hc2 (by simp)]
     show(FG Ar 1 Ae 1 [(0,1,S m)] H2 λv1 H1=>DN Ar 1 Ae Ac ov v1 H1 _)=_
     obtain⟨ov',H3,j1,j2,j3,j4,j5,j6⟩:=B0y m ot2 w2 (by omega)
     rw[j1]
     have hnx2:=g3.nx
     have nov:∀u,(u<5∨∃p,AF ((JK ch p).getD AA) u)→¬AF ov u:= λu hu hc=>by
      rcases hu with hu|⟨p,hp⟩
      ·have:=(h.oo u hc).1;omega
      ·exact(h.oo u hc).2 p hp
     have os3:OsK gs ws ch b1 b3 (S0 gs es out []) (XH gs es) H3:=os2.kp j3 λu y hu hy=>j5 u y hy (nov u hu)
     have hc3:=j5 _ _ hc2 λhc=>by have:=h.ot.lt h.os.wf hc;omega
     have ek:∀(s:Bp) (F:Value→Aj),Ix (S s) F=F (SV s):= λs F=>id rfl
     rw[AK (p:=0) rfl os3.p3 (by simp),AK (p:=0) rfl hc3 (by simp)]
     show Ix (S m) (λq=>TE Ac false (.mp 3) q H3 _)=_
     rw[ek,os3.lc,(os3.cv m).rq.len]
     have hst:=(A0n.1 hmr)
     have hw:S0 gs es out []=S0 gs es (out++[m]) ((XH gs es m).drop 0):=by rw[l1n,A9C hst.1 hst.2.1]
     have h4:=h.os.wf.lt h.os.p3
     have e00:(AV.v (.int .i64 0))=I ((0:Nat):Int):=rfl
     rw[e00]
     refine C2e (L:=L) (es:=es) (out:=out++[m]) (ch:=ch) (b3:=b3) (ov:=ov') (ct:=XH gs es) (m:=m) hb hg (by have:=A5l (gs:=gs) (es:=es) (p:=m);omega) (λl' ws' b1' rv' H' hM hR=> ?_) (L+20) 0 (l.filter λs=> !decide (s=m)) ws b1 v' H3 (by omega) (by have:=A5l (gs:=gs) (es:=es) (p:=m);omega) ?_ ?_
     ·exact ih f (out++[m]) l' ws' b1' rv' ov' H' _ _ _ (by omega) (by rw[XA2,List.length_singleton];omega) (ho.step hmr) hM hR (by simp) hord'
     ·rw[←hw]
      refine⟨os3,g1.kp λu y hu hy=>j5 u y hy λhc=>(h.rr u (g2 u hu)).2.1 hc,j2,λu hu=>⟨(h.rr u (g2 u hu)).1,λhc=> ?_,(h.rr u (g2 u hu)).2.2⟩,λu hu=>⟨?_,λp hc=> ?_⟩⟩
      ·have b1:=j6 u hc
       have b2:=hrc u (g2 u hu)
       omega
      ·have b1:=j6 u hu
       omega
      ·have b1:=j6 u hu
       have b2:=(h.os.cv p).lt h.os.wf hc
       omega
     ·rw[l1n]
      exact hr.take (λe he=>((hE e).1 he).1) hm
end
end
end Go.Abs
end
