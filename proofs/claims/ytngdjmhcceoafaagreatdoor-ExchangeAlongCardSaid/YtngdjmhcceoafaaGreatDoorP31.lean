import Derived.Test.YtngdjmhcceoafaaGreatDoorP30
set_option linter.all false
set_option maxHeartbeats 100000000
noncomputable section
namespace Go.Abs
open Go.RowKit Go.Proofs
set_option maxRecDepth 100000
section
variable {q:Bool} {H1:Hp} {es:List vE} {f r u:Nat} {bo:Option (List Nat×Nat)}
variable {L n:Nat}
abbrev iV:Nat->AV:= λk=>I (k:Int)
abbrev aV:AV->AV:= λa=>a
section
variable {H H':Hp} {K:KV} {x:Af} {v:AV} {l:List AM}
def A5u {α:Type} {f:α->AV} {b:List (AM×α)} {x:AM} {v:α} (h:Aj H r=some (.map false (Dc f b) bo)):∃c,∀K:Hp->Af,Mh (.mp r) (SV x) (f v) H K=K (upd H r (.map false (Dc f (LJ b x v)) c)):=by
 have e:∀K:Hp->Af,Mh (.mp r) (SV x) (f v) H K=IJ H r λy=>kU y λes bo=>I3 (SV x) es λq=>match q with
  |none=>LC H r (.map false (es++[(SV x,f v)]) (uM bo)) K
  |some (i,_)=>LC H r (.map false (es.set i (SV x,f v)) bo) K:= λK=>rfl
 obtain⟨h1,h2⟩:=A1l (x:=x) v b 0;cases a:Yl x b 0 with
 |none=>
  rw[a] at h1;refine⟨uM bo,λK=> ?_⟩;rw[e,Bf h];show I3 (SV x) (Dc f b) _=_;rw[kfK,a];show LC H r (.map false (Dc f b++[(SV x,f v)]) (uM bo)) K=_;rw[Dh,<-h1,Dc,Dc,YN];rfl
 |some p=>
  obtain⟨j,w⟩:=p;rw[a] at h1;refine⟨bo,λK=> ?_⟩;rw[e,Bf h];show I3 (SV x) (Dc f b) _=_;rw[kfK,a];show LC H r (.map false ((Dc f b).set j (SV x,f v)) bo) K=_;rw[Dh,<-h1,Dc,Dc,List.map_set,Nat.sub_zero]
def tE {x:Row} {es:List (Value×AV)} (h:Aj H r=some x):Aj (upd H r (.map false es bo)) r=some (.map false es bo):=(BB h).trans rfl
def IF:¬A8 As u:= λ⟨_,_,_,h⟩=>by cases h
def B2.rq (h:B2 H Ar 1 v l.length (AG l)):Nh H v l:=by
 rcases h with⟨h1,h2,_⟩|⟨r,q,h1,h2,_⟩
 ·exact .inl ⟨h1,mL h2⟩
 ·exact .inr ⟨r,q,[],h1,by rw[Wi];exact h2⟩
def B56 {e sz m:Nat} {cs:List AV} (h:B2 H e sz v m cs):dP v v=true:=by
 rcases h with⟨rfl,_⟩|⟨r,q,rfl,_⟩
 ·rfl
 ·show(Nat.beq sz sz&&(Nat.beq r r&&(Nat.beq 0 0&&Nat.beq m m)))=true;rw[mK,mK,mK,mK];rfl
def okS {a:AV} {K:Af} (h:dP a a=true):QQ (Ba (some (a,H)) a) K=K:=by
 show QQ (some (.v (.bool (dP a a)),[])) K=K;rw[h];rfl
def C3l (b:AM) (h:Nh H v l) (w:Wf H) (hn:l.length<1000000):∃m H',(∀K:KV,(Hf Ar 1 Ai 1 [(0,1,S b)] H λv1 H1=>E9 Ar 1 Ai Ac v v1 H1 K)=K m H')/\Nh H' m (l++[b])/\Lat H H' (A8 v)/\(∀u,A8 m u->Ao H<=u):=by
 have main:∃H1,(∀K:KV,E9 Ar 1 Ai Ac v (.sl 1 (Ao H) 0 1) ((Ao H,.cells false Ar [S b])::H) K=E9 Ar 1 Ai Ac v (.sl 1 (Ao H) 0 1) H1 K)/\B2 H1 Ar 1 v l.length (AG l)/\Lat ((Ao H,.cells false Ar [S b])::H) H1 (A8 v)/\Ao H1=Ao H+1:=by
  rcases h with⟨rfl,rfl⟩|⟨r,q,c,rfl,F⟩
  ·exact⟨_,λK=>rfl,.inl ⟨rfl,rfl,rfl⟩,Lat.refl _ _,rfl⟩
  ·have A:=w.lt F;have a:=A4 (x:= .cells false Ar [S b]) A F;cases c with
   |nil=>
    rw[Wi] at a;exact⟨_,λK=>rfl,.inr ⟨r,q,rfl,a,by rw[AX];omega⟩,Lat.refl _ _,rfl⟩
   |cons t c=>
    have d:=AC (q:=false) (e:=Ar) (cs:=AG l) a;refine⟨upd ((Ao H,.cells false Ar [S b])::H) r (.cells false Ar (AG l)),λK=> ?_,.inr ⟨r,false,rfl,d,by rw[AX];omega⟩,Lat.upd _ _ _ ⟨1,0,_,rfl⟩,by rw[BC];rfl⟩;have e:∀H,E9 Ar 1 Ai Ac (.sl 1 r 0 l.length) (.sl 1 (Ao H) 0 1) H K=E9 Ar 1 Ai Ac (.sl 1 r 0 l.length) (.sl 1 (Ao H) 0 1) H K:= λ_=>rfl;have C:∀(j:Hp) (src:AV),E9 Ar 1 Ai Ac (.sl 1 r 0 l.length) src j K=IJ j r λx=>JV x λE cs=>HI cs 0 λcl=>@Bool.rec (λ_=>Af) (SB (Nat.add 0 (Nat.mul l.length 1)) cs λg=>LC j r (.cells false E g) λH1=>Ve Ar 1 Ai Ac (.sl 1 r 0 l.length) src H1 K) (Ve Ar 1 Ai Ac (.sl 1 r 0 l.length) src j K) (Nat.beq (Nat.add 0 (Nat.mul l.length 1)) cl):= λj src=>rfl;have J:Nat.add 0 (Nat.mul l.length 1)=l.length:=by show 0+l.length*1=l.length;omega
    rw[C,C,Bf a,Bf d,J];show(HI (AG l++t::c) 0 λcl=>@Bool.rec (λ_=>Af) (SB l.length (AG l++t::c) λg=>LC _ r (.cells false Ar g) λH1=>Ve Ar 1 Ai Ac (.sl 1 r 0 l.length) _ H1 K) _ (Nat.beq l.length cl))=(HI (AG l) 0 λcl=>@Bool.rec (λ_=>Af) _ (Ve Ar 1 Ai Ac (.sl 1 r 0 l.length) _ _ K) (Nat.beq l.length cl))
    rw[Co,Co,JQ,JQ,AX,mK,EY,AX,LP];have hb:Nat.beq l.length (l.length+(c.length+1))=false:=by
     cases hc:Nat.beq l.length (l.length+(c.length+1)) with
     |false=>rfl
     |true=>have:=YM hc;omega
    rw[hb];show SB l.length (AG l++t::c) _=_;rw[Oh];have M:(AG l++t::c).take l.length=AG l:=by
     have:=List.take_left (l₁:=AG l) (l₂:=t::c);rw[AX] at this;exact this
    rw[M,Dh]
 obtain⟨H1,m1,Q,m3,V⟩:=main;have i:=N9 (H:=H) (e:=Ar) (n:=1) (cs:=[S b]) rfl;have B:∀u,A8 (.sl 1 (Ao H) 0 1) u->¬A8 v u:= λu ⟨_,_,_,h1⟩ d=>by
  injection h1 with _ h1
  have:=h.lt w d;omega
 have k:B2 H1 Ar 1 (.sl 1 (Ao H) 0 1) 1 [S b]:=i.kp λu y d P=>m3.keep (AI w) u y P (B u d);obtain⟨m,H',h1,h2,N,O⟩:=apt (ie:=Ai) (i2:=Ac) Q (λK=>Rg (K:=K) k) rfl rfl (by decide) rfl rfl (by show(l.length+1)*16<=_;omega) (by omega);refine⟨m,H',λK=> ?_,?_,((Lat.cons H _ (A8 v)).trans m3 (R:=A8 v) (λ_ _ h=>h) (λ_ _ h=>h)).trans O (λ_ _ h=>h) (λ_ _ h=>h),λu d=> ?_⟩
 ·rw[uL (z:=S []) (λ_=>rfl) (λ_=>rfl) rfl,m1];exact h1 K
 ·refine B2.rq ?_;rw[EY,<-jH];exact h2
 ·rw[N u d,V];omega
end
section
variable {H:Hp} {K:KV} {D:Nat} {b:Bool}
def Wr {c:Nat} {q q':Bool} {e:TypeId} {cs cs':List AV} (d:Aj H c=some (.cells q e cs)) (h:Rr b D cs cs' H q'):Fx b (D+1) (.ptr c 0 0) (.iptr cs') H true:= λK=>by
 show IJ H c (λx=>JV x λ_ cs=>IB (HP b H D) (Di (Nat.add 0 0) cs) λ_ a=>K true (.iptr a))=_;rw[Bf d];show IB (HP b H D) cs _=_;rw[h]
def yG {cs cs':List AV} (h:Rr b D cs cs' H q):Fx b (D+1) (.fn (.func f) [] cs) (.fn (.func f) [] cs') H q:= λK=>h _
def B9s {ws:List (AM×Nat)} (h:Aj H r=some (.map false (Dc iV ws) bo)):Fx true (D+1) (.mp r) (.imap (Dc iV ws)) H true:= λK=>by
 show IJ H r (λx=>oM x λes=>QH (HP true H D) es λ_ c=>K true (.imap c))=_;rw[Bf h];show QH (HP true H D) (Dc iV ws) _=_;have e:∀(es:List (AM×Nat)) (F:Bool->List (Value×AV)->Af),QH (HP true H D) (Dc iV es) F=F false (Dc iV es):=by
  intro es
  induction es with
  |nil=>intro F;rfl
  |cons a es ih=>
   intro F;show HP true H D (.v (.int .i64 (a.2:Int))) (λq d=>QH (HP true H D) (Dc iV es) λi g=>F (@Bool.rec (λ_=>Bool) i true q) ((SV a.1,d)::g))=_;rw[C7,ih];rfl
 rw[e]
def zP {f N:Nat} {c:AV} {s:AM} (h1:(E (L+20)).ne f=false) (h2:(E (L+20)).imp f=false):Cr (E (L+20)) (rt (L+20) N) (.fn (.func f) [] [c]) [S s] H K=An (rt (L+20) N) f [S s,c] H λv=>K v H:=by
 show SD [S s] [c] (λa=>SD [] a λall=>A1r ((E (L+20)).ne f) all H K (@Bool.rec (λ_=>Af) (zpm (E (L+20)) f (rt (L+20) N) all H λv=>K v H) ((rt (L+20) N).call f all H K) ((E (L+20)).imp f)))=_;rw[Jt,Jt,h1,h2];show zpm (E (L+20)) f (rt (L+20) N) [S s,c] H (λv=>K v H)=_;rw[A2f (by simp)]
def C0R {m s:AM}:CS (r! L (n+1)) Jy [S s,.iptr [S m]] (Bo (decide (s=m))):=by
 intro K a;rw[Zo];unfold NZ Lo;rw[L5,LV];exact a _ _ λb=>⟨false,C7⟩
def A4A {ws:List (AM×Nat)} {s:AM}:CS (r! L (n+1)) KZ [S s,.iptr [.imap (Dc iV ws)]] (Bo (decide (0<(Mn ws s).getD 0))):=by
 intro K a;rw[Zp];unfold Oa Lo;have h:∀{K:AV->Af},AF DK (.iptr [.imap (Dc iV ws)]) [] K=K (.imap (Dc iV ws)):= λ{K}=>O0 rfl;have g:∀(F:Value->Af),LQ (S s) F=F (SV s):= λF=>id rfl;rw[h,g,pU (f:=iV) (b:=ws) (λK=>id rfl)];have c:∀(k:Nat) (K:AV->Af),Go.Abs.Ap Ab .gtr (iV k) (AV.v (.int .i64 0)) K=K (Bo (decide (0<k))):= λk K=>by
  have e:decide ((0:Int)<(k:Int))=decide (0<k):=decide_eq_decide.2 (by omega);rw[E5,e]
 cases d:Mn ws s with
 |none=>
  rw[d] at a;show Go.Abs.Ap Ab .gtr (iV 0) (AV.v (.int .i64 0)) _=_;rw[c];exact a _ _ λb=>⟨false,C7⟩
 |some k=>
  rw[d] at a;show Go.Abs.Ap Ab .gtr (iV k) (AV.v (.int .i64 0)) _=_;rw[c];exact a _ _ λb=>⟨false,C7⟩
end
structure OsK (gs:List Cd) (ws:List (AM×Nat)) (ch:List (AM×AV)) (b1 b3:Option (List Nat×Nat)) (wt:AM->Nat) (ct:AM->List AM) (H:Hp):Prop where
 net:Aj H 0=some (c_ C9 [gV gs])
 m1:Aj H 1=some (.map false (Dc iV ws) b1)
 p1:Aj H 2=some (c_ ID [.mp 1])
 m3:Aj H 3=some (.map false (Dc aV ch) b3)
 p3:Aj H 4=some (c_ EN [.mp 3])
 wf:Wf H
 wv:∀x,(Mn ws x).getD 0=wt x
 cv:∀p,B2 H Ar 1 ((Mn ch p).getD As) (ct p).length (AG (ct p))
 cr:∀p u,A8 ((Mn ch p).getD As) u->6<u
 cd:∀p p' u,A8 ((Mn ch p).getD As) u->A8 ((Mn ch p').getD As) u->p=p'
section
variable {gs:List Cd} {ws:List (AM×Nat)} {ch:List (AM×AV)} {b1 b3:Option (List Nat×Nat)} {wt:AM->Nat} {ct:AM->List AM} {H H':Hp} {s p:AM}
theorem OsK.kp (h:OsK gs ws ch b1 b3 wt ct H) (w:Wf H') (k:∀u y,(u<5\/∃p,A8 ((Mn ch p).getD As) u)->Aj H u=some y->Aj H' u=some y):OsK gs ws ch b1 b3 wt ct H':=
 ⟨k _ _ (.inl (by decide)) h.net,k _ _ (.inl (by decide)) h.m1,k _ _ (.inl (by decide)) h.p1,k _ _ (.inl (by decide)) h.m3,k _ _ (.inl (by decide)) h.p3,w,h.wv,λp=>(h.cv p).kp λu y a c=>k u y (.inr ⟨p,a⟩) c,h.cr,h.cd⟩
def OsK.ne (h:OsK gs ws ch b1 b3 wt ct H) (a:u<5\/∃p,A8 ((Mn ch p).getD As) u):u≠5/\u≠6:=by
 rcases a with a|⟨q,a⟩
 ·omega
 ·have:=h.cr q u a;omega
def OsK.lw (h:OsK gs ws ch b1 b3 wt ct H) {K:AV->Af}:YV Ab false (.mp 1) (SV s) H K=K (I (wt s:Int)):=by
 rw[pU (f:=iV) (b:=ws) (λK=>YR h.m1),<-h.wv s];cases Mn ws s<;>rfl
def OsK.lc (h:OsK gs ws ch b1 b3 wt ct H) {K:AV->Af}:YV Ac false (.mp 3) (SV p) H K=K ((Mn ch p).getD As):=by
 rw[pU (f:=aV) (b:=ch) (λK=>YR h.m3)];cases Mn ch p<;>rfl
def OsK.put (h:OsK gs ws ch b1 b3 wt ct H) (k:Nat):∃a H',(∀K:Hp->Af,Mh (.mp 1) (SV s) (I (k:Int)) H K=K H')/\OsK gs (LJ ws s k) ch a b3 (λx=>if s=x then k else wt x) ct H'/\H'=upd H 1 (.map false (Dc iV (LJ ws s k)) a):=by
 obtain⟨a,e⟩:=A5u (f:=iV) (x:=s) (v:=k) h.m1;have n1:∀u,u≠1->Aj (upd H 1 (.map false (Dc iV (LJ ws s k)) a)) u=Aj H u:= λu d=>Ag d;refine⟨a,_,e,⟨by rw[n1 _ (by decide)];exact h.net,tE h.m1,by rw[n1 _ (by decide)];exact h.p1,by rw[n1 _ (by decide)];exact h.m3,by rw[n1 _ (by decide)];exact h.p3,Bn h.wf,λx=> ?_,λp=> ?_,h.cr,h.cd⟩,rfl⟩
 ·rw[gO];by_cases c:s=x
  ·rw[Dj c,Dj c];rfl
  ·rw[C4 c,C4 c];exact h.wv x
 ·exact(h.cv p).kp λu y d g=>by rw[n1 _ (by have:=h.cr p u d;omega)];exact g
end
def jC (gs:List Cd) (es:List vE) (x:AM):Nat:=(es.filter λe=>decide (e.1=x)&&decide (e.2∈gs.map Cd.id)).length
def iG (gs:List Cd) (es:List vE) (p:AM):List AM:=(es.filter λe=>decide (e.2=p)&&decide (p∈gs.map Cd.id)).map Prod.fst
def A4y {gs:List Cd} {s p x:AM}:jC gs (es++[(s,p)]) x=if p∈gs.map Cd.id then(if s=x then jC gs es s+1 else jC gs es x) else jC gs es x:=by
 unfold jC;rw[List.filter_append,EY];by_cases h1:p∈gs.map Cd.id
 ·rw[Dj h1];by_cases h2:s=x
  ·subst h2;rw[Dj rfl,List.filter_cons_of_pos (by simp only[Iu h1,decide_true,Bool.and_self])];rfl
  ·rw[C4 h2,List.filter_cons_of_neg (by simp only[IG h2,Bool.false_and];simp)];rfl
 ·rw[C4 h1,List.filter_cons_of_neg (by simp only[IG h1,Bool.and_false];simp)];rfl
def A5A {gs:List Cd} {s p q:AM}:iG gs (es++[(s,p)]) q=if p∈gs.map Cd.id then(if p=q then iG gs es p++[s] else iG gs es q) else iG gs es q:=by
 unfold iG;rw[List.filter_append,YN];by_cases h1:p∈gs.map Cd.id
 ·rw[Dj h1];by_cases h2:p=q
  ·subst h2;rw[Dj rfl,List.filter_cons_of_pos (by simp only[Iu h1,decide_true,Bool.and_self])];rfl
  ·rw[C4 h2,List.filter_cons_of_neg (by simp only[IG h2,Bool.false_and];simp)];exact Wi _
 ·rw[C4 h1,List.filter_cons_of_neg (by
   by_cases h2:p=q
   ·subst h2;simp only[IG h1,Bool.and_false];simp
   ·simp only[IG h2,Bool.false_and];simp)]
  exact Wi _
def B69 {gs:List Cd} {x:AM}:jC gs es x<=es.length:=l32 _ _
def R! {gs:List Cd} {p:AM}:(iG gs es p).length<=es.length:=by
 unfold iG;rw[QI];exact l32 _ _
def pJ (gs:List Cd) (p:Option (Option Code)):Row:= .loop 86 [(2,As),(3,.v (.int .i64 0)),(4,.ptr 0 0 0),(6,.ptr 2 0 0),(7,.ptr 4 0 0),(8,.dk),(9,.dk),(10,.dk),(11,.dk),(25,B0S gs),(26,.dk),(27,.dk),(28,.dk),(29,.dk),(30,.dk),(31,.dk),(32,.dk),(33,.dk),(34,.dk),(35,.dk),(36,.dk),(37,.dk),(38,.dk),(39,.dk),(40,.dk),(41,.dk),(42,.dk),(61,.dk),(62,.dk),(63,.dk)] (XA0).2.1 (XA0).2.2.1 (XA0).2.2.2 p
def C3r (gs:List Cd) (es:List vE) (H:Hp):Prop:=Aj H 5=some (pJ gs (some none))/\∃ws ch b1 b3,OsK gs ws ch b1 b3 (jC gs es) (iG gs es) H
section
variable {gs:List Cd}
def B5C {K:Hp->Af} (h:Aj H1 5=some (pJ gs none)):E2 H1 5 false (some none) K=K (upd H1 5 (pJ gs (some none))):=OZ h
def C1T {K:Hp->Af} (h:Aj H1 5=some (pJ gs (some none))):E2 H1 5 true none K=K (upd H1 5 (pJ gs none)):=Pb h
def B3n:uV (r! L (n+2)) L 5 6 (C3r gs):=by
 intro es s p H K x ak ⟨J,ws,ch,b1,b3,h⟩ hx;show Nz (r! L (n+2)) 5 [S s,S p] H K=x;rw[OT J (by kernel_rfl)];have aa:(r! L (n+2)).run= λcf=>OG (E (L+20)) (r! L (n+1)) cf:=rfl;rw[aa,jY,C1T J];simp only[BK];have h1:OsK gs ws ch b1 b3 (jC gs es) (iG gs es) (upd H 5 (pJ gs none)):=h.kp (Bn h.wf) λu y c g=>by
  rw[Ag (h.ne c).1];exact g
 have A:Aj (upd H 5 (pJ gs none)) 5=some (pJ gs none):=XA1 J;have k1:∀y,Aj H 6=some y->Aj (upd H 5 (pJ gs none)) 6=some y:= λy g=>by rw[Ag (by decide)];exact g
 generalize upd H 5 (pJ gs none)=H1 at h1 A k1;show AF Ah (.ptr 0 0 0) H1 _=_;rw[AP (p:=0) rfl h1.net (by simp)];show An (r! L (n+1)) Fi [gV gs,S p] H1 _=_;rw[A4C];by_cases Q:p∈gs.map Cd.id
 ·rw[Iu Q];show Az (.v (.bool true)) _ _=_;rw[Cy];show AF DK (.ptr 2 0 0) H1 _=_;have R:∀(s:AM) (F:Value->Af),LQ (S s) F=F (SV s):= λs F=>id rfl;rw[AP (p:=0) rfl h1.p1 (by simp),R];show YV Ab false (.mp 1) (SV s) H1 _=_;rw[h1.lw,Dg (by have:=B69 (gs:=gs) (es:=es) (x:=s);omega),R];obtain⟨j,w,P,h2,C⟩:=h1.put (s:=s) (jC gs es s+1);show Mh (.mp 1) (SV s) (I ((jC gs es s+1:Nat):Int)) H1 _=_;rw[P];have Y:Aj w 5=some (pJ gs none):=by rw[C,Ag (by decide)];exact A
  have k2:∀y,Aj H 6=some y->Aj w 6=some y:= λy g=>by rw[C,Ag (by decide)];exact k1 y g
  clear C P;have V:∀{H:Hp} {wt:AM->Nat} {j:Option (List Nat×Nat)} {ac:List (AM×Nat)} {K:AV->Af},OsK gs ac ch j b3 wt (iG gs es) H->AF BD (.ptr 4 0 0) H K=K (.mp 3):= λ{H wt j ac K} h=>by
   rw[AP (p:=0) rfl h.p3 (by simp)];rfl
  rw[V h2,B7,B7,R];have aj:=h2.cv p;have ai:∀u,A8 ((Mn ch p).getD As) u->6<u:=h2.cr p;rw[h2.lc,B7,uL (z:=S []) (λ_=>rfl) (λ_=>rfl) rfl,SK];have d:OsK gs (LJ ws s (jC gs es s+1)) ch j b3 (λx=>if s=x then jC gs es s+1 else jC gs es x) (iG gs es) ((Ao w,.cells false Ar [S s])::w):=h2.kp (AI h2.wf) λu y _ g=>A4 (h2.wf.lt g) g;have am:Ao ((Ao w,Row.cells false Ar [S s])::w)=Ao w+1:=rfl;have ah:=h2.wf.lt Y;have ab:=N9 (H:=w) (e:=Ar) (n:=1) (cs:=[S s]) rfl;obtain⟨N,B,a1,a2,a3,O⟩:=apt (ie:=Ai) (i2:=Ac) (d.cv p) (λK=>Rg (K:=K) ab) rfl rfl (by decide) rfl rfl (by have:=R! (gs:=gs) (es:=es) (p:=p);show((iG gs es p).length+1)*16<=_;omega) (by have:=R! (gs:=gs) (es:=es) (p:=p);omega);rw[a1,SK,R];have nr:∀{u:Nat},u<7->¬A8 ((Mn ch p).getD As) u:= λc h=>by have:=ai _ h;omega
  have X:=O.keep d.wf 3 _ d.m3 (nr (by decide));obtain⟨k,e5⟩:=A5u (f:=aV) (x:=p) (v:=N) X;show Ef (Mh (.mp 3) (SV p) (aV N) B λH=>some (AV.v undef,H)) _=_;rw[e5,SK,V d];have M:∀{K:Af},QQ (Ba (some (AV.mp 3,[])) (.mp 3)) K=K:= λ{K}=>okS rfl;have ae:Aj B 4=some (c_ EN [.mp 3]):=O.keep d.wf 4 _ d.p3 (nr (by decide));have ad:∀{K:AV->Af},AF BD (.ptr 4 0 0) B K=K (.mp 3):= λ{K}=>by
   rw[AP (p:=0) rfl ae (by simp)];rfl
  rw[M,ad,M,M,R,d.lc,okS (B56 aj)];have w4:=O.wf d.wf;have af:=A4 (x:= .cells false Ar [S s]) ah Y;have ag:=O.keep d.wf 5 _ af (nr (by decide));have Z:Aj (upd B 3 (.map false (Dc aV (LJ ch p N)) k)) 5=some (pJ gs none):=by rw[Ag (by decide)];exact ag
  show E2 (upd B 3 (.map false (Dc aV (LJ ch p N)) k)) 5 false (some none) _=_;rw[B5C Z];have k6:∀u y,(u≠3/\u≠5)->Aj B u=some y->Aj (upd (upd B 3 (.map false (Dc aV (LJ ch p N)) k)) 5 (pJ gs (some none))) u=some y:= λu y c g=>by
   rw[Ag c.2,Ag c.1];exact g
  have t:∀u y,u≠3/\u≠5->u<7->Aj ((Ao w,Row.cells false Ar [S s])::w) u=some y->Aj (upd (upd B 3 (.map false (Dc aV (LJ ch p N)) k)) 5 (pJ gs (some none))) u=some y:= λu y c h7 g=>k6 u y c (O.keep d.wf u y g (nr h7));refine hx _ ⟨XA1 Z,LJ ws s (jC gs es s+1),LJ ch p N,j,k,⟨t 0 _ (by decide) (by decide) d.net,t 1 _ (by decide) (by decide) d.m1,t 2 _ (by decide) (by decide) d.p1,?_,t 4 _ (by decide) (by decide) d.p3,Bn (Bn w4),λy=> ?_,λq=> ?_,λq u c=> ?_,λq q' u c i=> ?_⟩⟩ λy g=> ?_
  ·rw[Ag (by decide)];exact tE X
  ·rw[d.wv,A4y,Dj Q]
  ·rw[gO,A5A,Dj Q];by_cases hq:p=q
   ·subst hq;rw[Dj rfl,Dj rfl,l1q,EY,<-jH];refine a2.kp λu y c g=>k6 u y ?_ g;have:=a3 u c;omega
   ·rw[C4 hq,C4 hq];refine(d.cv q).kp λu y c g=>k6 u y (by have:=d.cr q u c;omega) (O.keep d.wf u y g λhc=>hq (d.cd p q u hc c))
  ·rw[gO] at c;by_cases hq:p=q
   ·rw[Dj hq,l1q] at c;have:=a3 u c;omega
   ·rw[C4 hq] at c;exact d.cr q u c
  ·rw[gO] at c i;by_cases hq:p=q
   ·by_cases m:p=q'
    ·exact hq.symm.trans m
    ·rw[Dj hq,l1q] at c;rw[C4 m] at i;have e1:=a3 u c;have P:=(d.cv q').lt d.wf i;omega
   ·rw[C4 hq] at c;by_cases m:p=q'
    ·rw[Dj m,l1q] at i;have e1:=a3 u i;have P:=(d.cv q).lt d.wf c;omega
    ·rw[C4 m] at i;exact d.cd q q' u c i
  ·have a:=k2 y g;exact t 6 _ (by decide) (by decide) (A4 (h2.wf.lt a) a)
 ·rw[IG Q];show Az (.v (.bool false)) _ _=_;rw[Bj];show E2 H1 5 false (some none) _=_;rw[B5C A];have e1:jC gs (es++[(s,p)])=jC gs es:=funext λy=>by rw[A4y,C4 Q]
  have P:iG gs (es++[(s,p)])=iG gs es:=funext λy=>by rw[A5A,C4 Q]
  refine hx _ ⟨XA1 A,ws,ch,b1,b3,?_⟩ λy g=> ?_
  ·rw[e1,P];refine h1.kp (Bn h1.wf) λu y c g=> ?_;rw[Ag (h1.ne c).1];exact g
  ·rw[Ag (by decide)];exact k1 y g
end
end
section
variable {a0 a1 d5 d6 e0 e1 e2 e3 e4 e5 e6 e7 e8 e9 f0 f1 f2 f3 f4 f5 f6 f7:AV}
variable {L n:Nat}
def Vp (gs:List Cd) (es:List vE) (out rem:List AM) (x:AM):Nat:=(es.filter λe=>decide (e.1=x)&&(decide (e.2∈gs.map Cd.id)&&decide (e.2∉out))).length+rem.count x
section
variable {gs:List Cd} {es:List vE} {out rem l:List AM} {x c m:AM}
def Xp:Vp gs es out (c::rem) x=Vp gs es out rem x+if c=x then 1 else 0:=by
 unfold Vp;rw[List.count_cons,kX]
 congr 2
 by_cases h:c=x<;>simp[h]
def A4x:Vp gs es [] []=jC gs es:=by
 funext x
 unfold Vp jC;simp
def B68:Vp gs es out rem x<=es.length+rem.length:=by
 have h1:=l32 (λe:vE=>decide (e.1=x)&&(decide (e.2∈gs.map Cd.id)&&decide (e.2∉out))) es;have h2:=List.count_le_length (a:=x) (l:=rem);unfold Vp;omega
def A4w (h1:m∈gs.map Cd.id) (h2:m∉out):Vp gs es (out++[m]) (iG gs es m)=Vp gs es out []:=by
 funext x
 unfold Vp iG;rw[List.count_nil,Nat.add_zero]
 induction es with
 |nil=>rfl
 |cons e es ih=>
  rw[l2n,l2n,l2n];by_cases hm:e.2=m
  ·have e1:(decide (e.1=x)&&(decide (e.2∈gs.map Cd.id)&&decide (e.2∉out++[m])))=false:=by simp[hm]
   have e2:(decide (e.2=m)&&decide (m∈gs.map Cd.id))=true:=by rw[Iu hm,Iu h1];rfl
   by_cases a:e.1=x
   ·have e3:(decide (e.1=x)&&(decide (e.2∈gs.map Cd.id)&&decide (e.2∉out)))=true:=by rw[Iu a,hm,Iu h1,Iu h2];rfl
    have e4:(e.1==x)=true:=by simp[a]
    simp only[e1,e2,e3,e4,xY,if_false,if_true,WR,LP,List.count_cons];omega
   ·have e3:(decide (e.1=x)&&(decide (e.2∈gs.map Cd.id)&&decide (e.2∉out)))=false:=by rw[IG a];rfl
    have e4:(e.1==x)=false:=by simp[a]
    simp only[e1,e2,e3,e4,xY,if_false,if_true,WR,List.count_cons];omega
  ·have e2:(decide (e.2=m)&&decide (m∈gs.map Cd.id))=false:=by rw[IG hm];rfl
   have e1:decide (e.2∉out++[m])=decide (e.2∉out):=by simp[hm]
   cases hb:(decide (e.1=x)&&(decide (e.2∈gs.map Cd.id)&&decide (e.2∉out))) with
   |true=>
    simp only[e1,e2,hb,xY,if_false,if_true,LP];omega
   |false=>
    simp only[e1,e2,hb,xY,if_false];exact ih
structure Ri (gs:List Cd) (es:List vE) (out rem l:List AM):Prop where
 nd:l.Nodup
 mem:∀x,x∈l↔x∈gs.map Cd.id/\x∉out/\Vp gs es out rem x=0
 jz:∀x∈out,Vp gs es out rem x=0
 rid:∀x∈rem,x∈gs.map Cd.id
def Ri.len (h:Ri gs es out rem l):l.length<=gs.length:=by
 have:=VG h.nd λx a=>((h.mem x).1 a).1;rw[QI] at this;exact this
def Ri.pos:1<=Vp gs es out (c::rem) c:=by rw[Xp,Dj rfl];omega
def Ri.dec:(λx=>if c=x then Vp gs es out (c::rem) c-1 else Vp gs es out (c::rem) x)=Vp gs es out rem:=by
 funext x
 by_cases h:c=x
 ·subst h;rw[Dj rfl,Xp,Dj rfl];omega
 ·rw[C4 h,Xp,C4 h];rfl
def Ri.step (h:Ri gs es out (c::rem) l):(Vp gs es out rem c=0->Ri gs es out rem (l++[c]))/\(Vp gs es out rem c≠0->Ri gs es out rem l):=by
 have s:1<=Vp gs es out (c::rem) c:=Ri.pos;have f:c∉l:= λhc=>by have:=((h.mem c).1 hc).2.2;omega
 have q:c∉out:= λhc=>by have:=h.jz c hc;omega
 have p:=h.rid c (by simp);have i:∀x∈out,Vp gs es out rem x=0:= λx d=>by
  have:=h.jz x d;rw[Xp] at this;omega
 have j:∀x,c≠x->Vp gs es out (c::rem) x=Vp gs es out rem x:= λx d=>by rw[Xp,C4 d];rfl
 refine⟨λk=>⟨l38.2 ⟨h.nd,by simp,λa r b hb=>by simp at hb;subst hb;exact λe=>f (e▸r)⟩,λx=> ?_,i,λx d=>h.rid x (by simp[d])⟩,λk=>⟨h.nd,λx=> ?_,i,λx d=>h.rid x (by simp[d])⟩⟩
 ·rw[Zs,Ur];by_cases d:c=x
  ·subst d;exact⟨λ_=>⟨p,q,k⟩,λ_=> .inr rfl⟩
  ·rw[h.mem,j x d];exact⟨λg=>g.elim id λe=>absurd e.symm d,.inl⟩
 ·by_cases d:c=x
  ·subst d;exact⟨λg=>absurd g f,λg=>absurd g.2.2 k⟩
  ·rw[h.mem,j x d]
def Ri.take (h:Ri gs es out [] l) (g:∀e∈es,e.1∈gs.map Cd.id) (hm:m∈l):Ri gs es (out++[m]) (iG gs es m) (l.filter λs=> !decide (s=m)):=by
 obtain⟨h1,h2,k⟩:=(h.mem m).1 hm;have i:Vp gs es (out++[m]) (iG gs es m)=Vp gs es out []:=A4w h1 h2;refine⟨h.nd.sublist List.filter_sublist,λx=> ?_,λx a=> ?_,λx a=> ?_⟩
 ·rw[i,K_,h.mem,Zs,Ur];constructor
  ·rintro⟨⟨a1,a2,d⟩,j⟩;have f:x≠m:=by simpa using j
   exact⟨a1,λb=>b.elim a2 f,d⟩
  ·rintro⟨a1,a2,d⟩;refine⟨⟨a1,λb=>a2 (.inl b),d⟩,?_⟩;have:x≠m:= λb=>a2 (.inr b);simp[this]
 ·rw[i];rcases Zs.1 a with a|a
  ·exact h.jz x a
  ·rw[Ur] at a;subst a;exact k
 ·obtain⟨e,he,rfl⟩:=Ma.1 a;exact g e (K_.1 he).1
def Ri.perm (h:Ri gs es out [] l) (b:∀e:vE,e∈es↔e.1∈gs.map Cd.id/\e.2∈RW gs e.1) (hn:(gs.map Cd.id).Nodup):l.Perm (jX gs out):=by
 refine(l37 h.nd (hn.sublist List.filter_sublist)).2 λx=> ?_;rw[h.mem];show _↔x∈jX gs out;rw[VE];refine and_congr_right λg=>and_congr_right λ_=> ?_;unfold Vp;rw[List.count_nil,Nat.add_zero,List.length_eq_zero_iff,List.filter_eq_nil_iff];constructor
 ·intro a p f d;have:=a (x,p) ((b _).2 ⟨g,f⟩);apply l39;intro hc;exact this (by rw[Iu rfl,Iu d,Iu hc];rfl)
 ·intro a e he;obtain⟨h1,h2⟩:=(b e).1 he;intro hc;simp only[Kw,decide_eq_true_eq] at hc;obtain⟨c1,c2,c3⟩:=hc;rw[c1] at h2;exact c3 (a _ h2 c2)
end
structure Mo (gs:List Cd) (out l:List AM) (wt:AM->Nat) (ct:AM->List AM) (ws:List (AM×Nat)) (ch:List (AM×AV)) (b1 b3:Option (List Nat×Nat)) (rv ov:AV) (H:Hp):Prop where
 os:OsK gs ws ch b1 b3 wt ct H
 rd:Nh H rv l
 ot:B2 H Ar 1 ov out.length (AG out)
 rr:∀u,A8 rv u->4<u/\¬A8 ov u/\∀p,¬A8 ((Mn ch p).getD As) u
 oo:∀u,A8 ov u->4<u/\∀p,¬A8 ((Mn ch p).getD As) u
section
variable {H:Hp} {v:AV} {l:List AM}
def B2.ia (h:B2 H Ar 1 v l.length (AG l)) {i:Nat} (b:i<l.length):∃a,(∀K:AV->Af,Dw Ac v (I (i:Int)) K=K a)/\∀K:AV->Af,AF Ai a H K=K (S l[i]):=by
 rcases h with⟨_,h2,_⟩|⟨r,q,rfl,h2,_⟩
 ·omega
 ·exact⟨.ptr r i 0,λK=>Rh b,λK=>P? h2 b⟩
end
section
variable {gs:List Cd} {es:List vE} {out l:List AM} {ws:List (AM×Nat)} {ch:List (AM×AV)} {b1 b3:Option (List Nat×Nat)} {rv ov:AV} {K:KV} {x:Af} {ct:AM->List AM}
def B8T {R:Rt} {q:AV->AV->AV->AV->AV->AV->AV->AV->AV->AV->AV->AV->AV->AV->AV->AV->AV->AV->AV->AV->AV->AV->AV->AV->AV->AV->AV->AV->AV->AV->Hp->Af} {a0 a1 a2 d5 d6 e0 e1 e2 e3 e4 e5 e6 e7 e8 e9 f0 f1 f2 f3 f4 f5 f6 f7:AV} {m:AM} (hb:es.length<1000) (hg:gs.length<=8) (aa:(ct m).length<1000)
 (hx:∀Q N g A O,Mo gs out Q (Vp gs es out []) ct N ch g b3 A ov O->Ri gs es out [] Q->q a0 a1 a2 (.ptr 2 0 0) (.ptr 4 0 0) d5 d6 A ov e0 e1 e2 e3 e4 e5 e6 e7 e8 e9 f0 f1 f2 f3 f4 f5 f6 f7 ((Mn ch m).getD As) (I (ct m).length) (I (ct m).length) O=x):
 ∀(f i:Nat) (l:List AM) (ws:List (AM×Nat)) (b1:Option (List Nat×Nat)) (rv:AV) (H:Hp),i<=(ct m).length->(ct m).length-i<f->Mo gs out l (Vp gs es out ((ct m).drop i)) ct ws ch b1 b3 rv ov H->Ri gs es out ((ct m).drop i) l->
 Sw (L+20) R K q f a0 a1 a2 (.ptr 2 0 0) (.ptr 4 0 0) d5 d6 rv ov e0 e1 e2 e3 e4 e5 e6 e7 e8 e9 f0 f1 f2 f3 f4 f5 f6 f7 ((Mn ch m).getD As) (I (ct m).length) (I i) H=x:=by
 intro f
 induction f with
 |zero=>intro i l ws b1 rv H _ h;omega
 |succ f ih=>
  intro i l ws b1 rv H hi hf h hr;rw[lD];unfold Sy Iv A0;by_cases w:i<(ct m).length
  ·obtain⟨a,X,Z⟩:=(h.os.cv m).ia w;rw[vA w] at h hr;have ad:=B68 (gs:=gs) (es:=es) (out:=out) (rem:=(ct m)[i]::(ct m).drop (i+1)) (x:=(ct m)[i]);have P:1<=Vp gs es out ((ct m)[i]::(ct m).drop (i+1)) (ct m)[i]:=Ri.pos;have ab:((ct m)[i]::(ct m).drop (i+1)).length<=(ct m).length:=by rw[LP,l0u];omega
   rw[FR (by omega),Cy];simp only[BK];have M:∀(s:AM) (F:Value->Af),LQ (S s) F=F (SV s):= λs F=>id rfl;rw[X,Z];rw[AP (p:=0) rfl h.os.p1 (by simp),M];show YV Ab false (.mp 1) (SV (ct m)[i]) H _=_;rw[h.os.lw,eP (by omega) (by omega),M];obtain⟨g,B,r,h2,t⟩:=h.os.put (s:=(ct m)[i]) (Vp gs es out ((ct m)[i]::(ct m).drop (i+1)) (ct m)[i]-1);show Mh (.mp 1) (SV (ct m)[i]) (I ((Vp gs es out ((ct m)[i]::(ct m).drop (i+1)) (ct m)[i]-1:Nat):Int)) H _=_;rw[r];rw[Ri.dec] at h2;have n1:∀u y,u≠1->Aj H u=some y->Aj B u=some y:= λu y d j=>by rw[t,Ag d];exact j
   rw[AP (p:=0) rfl h2.p1 (by simp),M];show YV Ab false (.mp 1) (SV (ct m)[i]) B _=_;rw[h2.lw];have b:Mo gs out l (Vp gs es out ((ct m).drop (i+1))) ct (LJ ws (ct m)[i] (Vp gs es out ((ct m)[i]::(ct m).drop (i+1)) (ct m)[i]-1)) ch g b3 rv ov B:=
    ⟨h2,h.rd.kp λu y d j=>n1 u y (by have:=(h.rr u d).1;omega) j,h.ot.kp λu y d j=>n1 u y (by have:=(h.oo u d).1;omega) j,h.rr,h.oo⟩
   have Y:∀(k:Nat) (K:AV->Af),Go.Abs.Ap Ab .eql (I (k:Int)) (AV.v (.int .i64 0)) K=K (Bo (decide (k=0))):= λk K=>by
    have e:decide ((k:Int)=0)=decide (k=0):=decide_eq_decide.2 (by omega);rw[CP,e]
   rw[Y];clear r t;by_cases C:Vp gs es out ((ct m).drop (i+1)) (ct m)[i]=0
   ·rw[Iu C,Cy];have ac:=hr.len;obtain⟨v',V,a1,a2,D,J⟩:=C3l (ct m)[i] b.rd b.os.wf (by omega);rw[a1,Dg (by omega)];have h4:=b.os.wf.lt b.os.p3;refine ih (i+1) (l++[(ct m)[i]]) _ g v' V (by omega) (by omega) ⟨b.os.kp (D.wf b.os.wf) λu y d j=>D.keep b.os.wf u y j λhc=> ?_,a2,b.ot.kp λu y d j=>D.keep b.os.wf u y j λhc=>(b.rr u hc).2.1 d,λu d=>⟨?_,λhc=> ?_,λp hc=> ?_⟩,b.oo⟩ (hr.step.1 C)
    ·rcases d with d|⟨p,hp⟩
     ·have:=(b.rr u hc).1;omega
     ·exact(b.rr u hc).2.2 p hp
    ·have:=J u d;omega
    ·have g1:=J u d;have g2:=b.ot.lt b.os.wf hc;omega
    ·have g1:=J u d;have g2:=(b.os.cv p).lt b.os.wf hc;omega
   ·rw[IG C,Bj,Dg (by omega)];exact ih (i+1) l _ g rv B (by omega) (by omega) b (hr.step.2 C)
  ·rw[FP (by omega),Bj];have:i=(ct m).length:=by omega
   subst this;rw[List.drop_length] at h hr;exact hx l ws b1 rv H h hr
def B1l {H:Hp}:Bx Ar Ai H K=K (.ptr (Ao H) 0 0) ((Ao H,c_ Ar [S []])::H):=by
 unfold Bx;rw[CI,BV];rfl
def A9U (h:jX gs out=[]):∀N,kG gs N out=out:=by
 intro N;cases N with
 |zero=>rfl
 |succ N=>
  unfold kG;rw[h];rfl
def B8U {aa:AV->AV->Hp->Af} (hb:es.length<1000) (hg:gs.length<=8) (hL:200000<L) (hn:(gs.map Cd.id).Nodup) (hE:∀e:vE,e∈es↔e.1∈gs.map Cd.id/\e.2∈RW gs e.1) {r:List AM}
 (hx:∀ov H,B2 H Ar 1 ov r.length (AG r)->(r=[]->ov=As)->Aj H 0=some (c_ C9 [gV gs])->aa (.ptr 0 0 0) ov H=x):
 ∀(N f:Nat) (out l:List AM) (ws:List (AM×Nat)) (b1:Option (List Nat×Nat)) (rv ov:AV) (H:Hp) (z0 z1 z2:AV),N<f->gs.length<=out.length+N->OrdK gs out->Mo gs out l (Vp gs es out []) (iG gs es) ws ch b1 b3 rv ov H->Ri gs es out [] l->(out=[]->ov=As)->kG gs N out=r->
 Sx (L+20) (r! L (n+4)) K aa f a0 a1 (.ptr 0 0 0) (.ptr 2 0 0) (.ptr 4 0 0) d5 d6 rv ov e0 e1 e2 e3 e4 e5 e6 e7 e8 e9 f0 f1 f2 f3 f4 f5 f6 f7 z0 z1 z2 H=x:=by
 intro N
 induction N with
 |zero=>
  intro f out l ws b1 rv ov H z0 z1 z2 hf R ho h hr h0 b;cases f with
  |zero=>omega
  |succ f=>
   have hl:l=[]:=by
    have i:=hr.perm hE hn;rw[A0z ho (by omega)] at i;exact i.eq_nil
   subst hl;rw[UW];unfold Oe A0;have el:∀{K:AV->Af},Bq Ac rv K=K (I ((0:Nat):Int)):= λ{K}=>h.rd.len;have O:∀{K:AV->Af},Go.Abs.Ap Ab .gtr (I ((0:Nat):Int)) (AV.v (.int .i64 0)) K=K (Bo false):= λ{K}=>by rw[E5];rfl
   rw[el,O,Bj];rw[<-b] at hx;exact hx ov H h.ot h0 h.os.net
 |succ N ih=>
  intro f out l ws b1 rv ov H z0 z1 z2 hf R ho h hr h0 b;cases f with
  |zero=>omega
  |succ f=>
   have i:=hr.perm hE hn;rw[UW];unfold Oe A0;rw[h.rd.len];cases Y:DQ (jX gs out) with
   |nil=>
    have X:jX gs out=[]:=by
     have:=(Be (jX gs out)).length_eq;rw[Y] at this;exact mL this.symm
    have hl:l=[]:=by rw[X] at i;exact i.eq_nil
    subst hl;have O:∀{K:AV->Af},Go.Abs.Ap Ab .gtr (I (([]:List AM).length:Int)) (AV.v (.int .i64 0)) K=K (Bo false):= λ{K}=>by rw[E5];rfl
    rw[O,Bj];rw[A9U X] at b;subst b;exact hx ov H h.ot h0 h.os.net
   |cons m t=>
    have C:kG gs N (out++[m])=r:=by
     unfold kG at b;rw[Y] at b;exact b
    have B:m∈jX gs out:=(Be _).mem_iff.1 (by rw[Y];simp);have hm:m∈l:=i.mem_iff.2 B;have V:∀y∈l,m<=y:= λy g=>by
     have h1:y∈m::t:=by rw[<-Y];exact(Be _).mem_iff.2 (i.mem_iff.1 g)
     have h2:=Dy (jX gs out);rw[Y,l2q] at h2;rcases Uf.1 h1 with rfl|h1
     ·exact(Ni _ _).elim id id
     ·exact h2.1 y h1
    have ar:=hr.len;have ax:0<l.length:=List.length_pos_of_mem hm;have O:∀{K:AV->Af},Go.Abs.Ap Ab .gtr (I (l.length:Int)) (AV.v (.int .i64 0)) K=K (Bo true):= λ{K}=>by rw[E5,Iu (by omega)]
    rw[O,Cy];simp only[BK];obtain⟨a,q,ha,hq⟩:=h.rd.fx (D:=depth-1);have ae:a=Ls l:=by
     rcases ha with rfl|⟨rfl,_⟩
     ·rfl
     ·simp at hm
    subst ae;rw[AQ (C0P (n:=n+3) hm V (by omega) (by omega)) (Am hq AJ)];obtain⟨M,w,A,w1,k1⟩:=Ih (e:=Ar) (zs:=[S []]) (vs:=[S m]) h.os.wf rfl;rw[B1l,Ed (cs:=[S []]) (Aw (by simp)) (by simp) rfl rfl rfl];show(r! L (n+4)).call Bh [rv,.fn (.func Jy) [] [.ptr (Ao H) 0 0]] (upd ((Ao H,c_ Ar [S []])::H) (Ao H) (c_ Ar [S m])) _=_;rw[<-w];have ap:Ao M=Ao H+1:=by rw[w,BC];rfl
    have ah:OsK gs ws ch b1 b3 (Vp gs es out []) (iG gs es) M:=h.os.kp w1 λu y _ g=>(k1 u y g).1;have am:Nh M rv l:=h.rd.kp λu y _ g=>(k1 u y g).1;have aj:B2 M Ar 1 ov out.length (AG out):=h.ot.kp λu y _ g=>(k1 u y g).1;have J:∀u,A8 rv u->u<Ao H:= λu d=>h.rd.lt h.os.wf d;clear w;refine A8w (n:=n+2) (P:= λs=>decide (s=m)) w1 am (by omega) hL ⟨.fn (.func Jy) [] [.iptr [S m]],_,yG (D:=depth-1) (Am (Wr (D:=depth-2) A (Am (q:=false) C7 AJ)) AJ),λs K=> ?_⟩ (λH' hk s K=> ?_) λv' H2 g1 g2 Q=> ?_
    ·rw[zP rfl rfl];exact AQ (C0R (n:=n+1)) (Am (q:=false) C7 (Am (q:=false) QV AJ))
    ·rw[zP rfl rfl];have j:=hk.keep w1 _ _ A λhc=>by have:=J _ hc;omega
     exact AQ (C0R (n:=n+2)) (Am (q:=false) C7 (Am (Wr (D:=depth-1) j (Am (q:=false) C7 AJ)) AJ))
    ·have w2:=Q.wf w1;have j:=Q.keep w1 _ _ A λhc=>by have:=J _ hc;omega
     have ai:OsK gs ws ch b1 b3 (Vp gs es out []) (iG gs es) H2:=ah.kp w2 λu y d g=>Q.keep w1 u y g λhc=>by
      rcases d with d|⟨p,i⟩
      ·have:=(h.rr u hc).1;omega
      ·exact(h.rr u hc).2.2 p i
     have ak:B2 H2 Ar 1 ov out.length (AG out):=aj.kp λu y d g=>Q.keep w1 u y g λhc=>(h.rr u hc).2.1 d;have ay:=ho.len;rw[AP (p:=0) rfl j (by simp)];show(Hf Ar 1 Ai 1 [(0,1,S m)] H2 λv1 M=>E9 Ar 1 Ai Ac ov v1 M _)=_;obtain⟨ab,H3,j1,j2,j3,j4,j5,j6⟩:=A5H m ak w2 (by omega);rw[j1];have aq:=Q.nx;have ag:∀u,(u<5\/∃p,A8 ((Mn ch p).getD As) u)->¬A8 ov u:= λu d hc=>by
      rcases d with d|⟨p,i⟩
      ·have:=(h.oo u hc).1;omega
      ·exact(h.oo u hc).2 p i
     have k:OsK gs ws ch b1 b3 (Vp gs es out []) (iG gs es) H3:=ai.kp j3 λu y d g=>j5 u y g (ag u d);have af:=j5 _ _ j λhc=>by have:=h.ot.lt h.os.wf hc;omega
     have ek:∀(s:AM) (F:Value->Af),LQ (S s) F=F (SV s):= λs F=>id rfl;rw[AP (p:=0) rfl k.p3 (by simp),AP (p:=0) rfl af (by simp)];show LQ (S m) (λq=>YV Ac false (.mp 3) q H3 _)=_;rw[ek,k.lc,(k.cv m).rq.len];have Z:=(VE.1 B)
     have hw:Vp gs es out []=Vp gs es (out++[m]) ((iG gs es m).drop 0):=by rw[pM,A4w Z.1 Z.2.1]
     have h4:=h.os.wf.lt h.os.p3;have ad:(AV.v (.int .i64 0))=I ((0:Nat):Int):=rfl;rw[ad];refine B8T (L:=L) (es:=es) (out:=out++[m]) (ch:=ch) (b3:=b3) (ov:=ab) (ct:=iG gs es) (m:=m) hb hg (by have:=R! (gs:=gs) (es:=es) (p:=m);omega) (λl' ao ac an H' hM hR=> ?_) (L+20) 0 (l.filter λs=> !decide (s=m)) ws b1 v' H3 (by omega) (by have:=R! (gs:=gs) (es:=es) (p:=m);omega) ?_ ?_
     ·exact ih f (out++[m]) l' ao ac an ab H' _ _ _ (by omega) (by rw[EY,List.length_singleton];omega) (ho.step B) hM hR (by simp) C
     ·rw[<-hw];refine⟨k,g1.kp λu y d g=>j5 u y g λhc=>(h.rr u (g2 u d)).2.1 hc,j2,λu d=>⟨(h.rr u (g2 u d)).1,λhc=> ?_,(h.rr u (g2 u d)).2.2⟩,λu d=>⟨?_,λp hc=> ?_⟩⟩
      ·have b1:=j6 u hc;have b2:=J u (g2 u d);omega
      ·have b1:=j6 u d;omega
      ·have b1:=j6 u d;have b2:=(h.os.cv p).lt h.os.wf hc;omega
     ·rw[pM];exact hr.take (λe he=>((hE e).1 he).1) hm
end
end
section
variable {L n:Nat}
def fC (gs:List Cd):AV:=if gs.length<=(UL gs).length then .tup [DJ (UL gs),.v (.int .i64 0)] else .tup [As,.v (.int .i64 220)]
def B43 (gs:List Cd):pl 6 (fC gs)=true:=by
 unfold fC;split
 ·have:pl 5 (DJ (UL gs))=true:=by
   cases UL gs with
   |nil=>rfl
   |cons a l=>
    show(AG (a::l)).all (pl 4)=true;rw[GH];intro y b;obtain⟨s,_,rfl⟩:=Ma.1 b;rfl
  show[DJ (UL gs),AV.v (.int .i64 0)].all (pl 5)=true;simp only[pK,this,l3c];rfl
 ·rfl
section
variable {gs:List Cd} {x:Af}
def B4O (hn:(gs.map Cd.id).Nodup) {done:List Cd} (d:done.Perm gs) (e:vE):e∈OP done↔e.1∈gs.map Cd.id/\e.2∈RW gs e.1:=by
 rw[P!];constructor
 ·rintro⟨c,hc,h1,h2⟩;have a:=d.mem_iff.1 hc;obtain⟨i,b,rfl⟩:=List.getElem_of_mem a;rw[h1];exact⟨Ma.2 ⟨_,a,rfl⟩,by rw[G! hn b];exact h2⟩
 ·rintro⟨h1,h2⟩;obtain⟨c,hc,he⟩:=Ma.1 h1;obtain⟨i,b,rfl⟩:=List.getElem_of_mem hc;rw[<-he,G! hn b] at h2;exact⟨gs[i],d.mem_iff.2 hc,he.symm,h2⟩
def B2y {a:AV} (t:GOk gs) (hL:200000<L) (Y:∀c∈gs,c.ps.length<100) (ha:LA gs a):CS (r! L (n+80)) PQ [a] (fC gs):=by
 intro K V;rw[oJ];unfold TZ A0;have aj:Rr true depth [a] [a] [] false:=by rcases ha with rfl|⟨_,rfl⟩<;>exact λK=>by kernel_rfl
 have of:∀{K:AV->Af},An (r! L (n+79)) L0 [a] [] K=K (.tup [gV gs,Bo true]):= λ{K}=>Ky (λK V=>B6m (n:=n+15) t (by omega) ha K V) aj;have w0:Vn 6 (fC gs) (fC gs)=true:=SP 6 _ (B43 gs);have h8:=t.len;rw[of,F3,F2];have e0:∀{F:AV->Hp->Af},(Bx C9 Ah [] λv4 H5=>E0 Ah v4 (gV gs) H5 λH6=>F v4 H6)=F (.ptr 0 0 0) [(0,c_ C9 [gV gs])]:= λ{F}=>by kernel_rfl
 rw[e0,En];show Az (.v (.bool false)) _ _=_;rw[Bj];have e1:∀{F:AV->AV->Hp->Af},(L4 Ab [(0,c_ C9 [gV gs])] λv9 aa=>Bx ID DK aa λN ab=>E0 DK N v9 ab λac=>L4 Ac ac λam ad=>Bx EN BD ad λO ae=>E0 BD O am ae λaf=>F N O af)=
  F (.ptr 2 0 0) (.ptr 4 0 0) [(4,c_ EN [.mp 3]),(3,.map false [] (some ([],0))),(2,c_ ID [.mp 1]),(1,.map false [] (some ([],0))),(0,c_ C9 [gV gs])]:= λ{F}=>by kernel_rfl
 rw[e1];simp only[BK];generalize hH:([(4,c_ EN [.mp 3]),(3,.map false [] (some ([],0))),(2,c_ ID [.mp 1]),(1,.map false [] (some ([],0))),(0,c_ C9 [gV gs])]:Hp)=g;have X:OsK gs [] [] (some ([],0)) (some ([],0)) (jC gs []) (iG gs []) g:=by
  subst hH;exact⟨rfl,rfl,rfl,rfl,rfl,AI (AI (AI (AI (AI Fk)))),λx=>rfl,λp=> .inl ⟨rfl,rfl,rfl⟩,λp u d=>absurd d IF,λp p' u d=>absurd d IF⟩
 have i:Ao g=5:=by subst hH;rfl
 clear hH;have en:∀{K:AV->Af},AF Ah (.ptr 0 0 0) g K=K (gV gs):= λ{K}=>by
  rw[AP (p:=0) rfl X.net (by simp)];rfl
 rw[en,A8s (n:=n+78),Vw,i];have w:Aj ((5,pJ gs (some none))::g) 5=some (pJ gs (some none)):=by
  have:=Aw (H:=g) (x:=pJ gs (some none)) (by simp[pJ]);rw[i] at this;exact this
 have Z:Wf ((5,pJ gs (some none))::g):=by
  have:=AI (x:=pJ gs (some none)) X.wf;rw[i] at this;exact this
 have o5:OsK gs [] [] (some ([],0)) (some ([],0)) (jC gs []) (iG gs []) ((5,pJ gs (some none))::g):=X.kp Z λu y _ e=>by
  have:=A4 (x:=pJ gs (some none)) (X.wf.lt e) e;rw[i] at this;exact this
 have ao:Ao ((5,pJ gs (some none))::g)=6:=rfl;show(r! L (n+79)).call Fb [.yl 5,.iptr [gV gs]] ((5,pJ gs (some none))::g) _=_;refine A4H (n:=n+76) (s0:=5) (Q:=C3r gs) w0 h8 Y (by omega) B3n (λes R j ⟨hl,ws,ch,b1,b3,h⟩ an k=>⟨k _ _ (show 5≠6 by decide) hl,ws,ch,b1,b3,h.kp an λu y d e=>k u y ?_ e⟩) (λes H ⟨_,_,_,_,_,h⟩=>h.wf) ?_ (λdone H hd ⟨hl,ws,ch,b1,b3,h⟩=> ?_)
 ·exact(h.ne d).2
 ·refine⟨A4 (Z.lt w) w,[],[],_,_,o5.kp (AI Z) λu y _ e=>A4 (Z.lt e) e⟩
 ·show IJ H 5 _=_;rw[Bf hl];show LC H 5 .gone _=_;rw[Dh];have ai:(OP done).length<1000:=by
   have h1:=A1t done λc hc=>Y c (hd.mem_iff.1 hc);have h2:=hd.length_eq;omega
  have h1:OsK gs ws ch b1 b3 (jC gs (OP done)) (iG gs (OP done)) (upd H 5 .gone):=h.kp (Bn h.wf) λu y d e=>by
   rw[Ag (h.ne d).1];exact e
  generalize upd H 5 .gone=R at h1;show AF Ah (.ptr 0 0 0) R _=_;have ag:∀{K:AV->Af},AF Ah (.ptr 0 0 0) R K=K (gV gs):= λ{K}=>by
   rw[AP (p:=0) rfl h1.net (by simp)];rfl
  rw[ag];refine A8k (n:=n+73) w0 h8 (by omega) h1.wf λv H2 hv aq=> ?_;have f:OsK gs ws ch b1 b3 (jC gs (OP done)) (iG gs (OP done)) H2:=h1.kp hv.wf λu y _ e=>hv.keep u y e;have ap:(DQ (gs.map Cd.id)).length=gs.length:=by rw[(Be _).length_eq,QI]
  have m:∀(j:Hp) (D:Nat),Aj j 2=some (c_ ID [.mp 1])->Aj j 1=some (.map false (Dc iV ws) b1)->Fx true (D+2) (.ptr 2 0 0) (.iptr [.imap (Dc iV ws)]) j true:= λj D h2 h3=>
   Wr (D:=D+1) h2 (Am (B9s (D:=D) h3) AJ)
  have J:∀s,decide (0<(Mn ws s).getD 0)=decide (0<jC gs (OP done) s):= λs=>by rw[h1.wv]
  refine A8w (n:=n+77) (P:= λs=>decide (0<jC gs (OP done) s)) hv.wf hv.sl.rq (by omega) hL ⟨.fn (.func KZ) [] [.iptr [.imap (Dc iV ws)]],_,yG (D:=depth-1) (Am (m H2 (depth-3) f.p1 f.m1) AJ),λs K=> ?_⟩ (λj hk s K=> ?_) λv' H3 g1 g2 g3=> ?_
  ·rw[zP rfl rfl];have:=AQ (K:= λv=>K v []) (A4A (n:=n+76) (L:=L) (ws:=ws) (s:=s)) (Am (q:=false) C7 (Am (q:=false) (QV (H:=[])) AJ));rw[J] at this;exact this
  ·rw[zP rfl rfl];have nr:∀u,u<5->¬A8 v u:= λu d hc=>by
    have g1:=hv.new u hc;have g2:=h1.wf.lt h1.p3;omega
   have a1:=hk.keep hv.wf _ _ f.p1 (nr 2 (by decide));have a2:=hk.keep hv.wf _ _ f.m1 (nr 1 (by decide));have:=AQ (K:= λv=>K v j) (A4A (n:=n+77) (L:=L) (ws:=ws) (s:=s)) (Am (q:=false) C7 (Am (m j (depth-2) a1 a2) AJ));rw[J] at this;exact this
  ·have nr:∀u,A8 v' u->Ao R<=u:= λu d=>hv.new u (g2 u d);have h4:=h1.wf.lt h1.p3;have M:OsK gs ws ch b1 b3 (jC gs (OP done)) (iG gs (OP done)) H3:=f.kp (g3.wf hv.wf) λu y d e=>g3.keep hv.wf u y e λhc=>by
    have b1:=hv.new u hc;rcases d with d|⟨p,Y⟩
    ·omega
    ·have b2:=(h1.cv p).lt h1.wf Y;omega
   have hR:Ri gs (OP done) [] [] ((DQ (gs.map Cd.id)).filter λs=> !decide (0<jC gs (OP done) s)):=by
    refine⟨((Be _).symm.nodup t.ids).sublist List.filter_sublist,λx=> ?_,by simp,by simp⟩;rw[A4x,K_,(Be _).mem_iff];refine and_congr Iff.rfl ?_;constructor
    ·intro hh;have:¬0<jC gs (OP done) x:=by simpa using hh
     exact⟨by simp,by omega⟩
    ·rintro⟨_,hh⟩;simp[hh]
   rw[<-A4x] at M;refine B8U (n:=n+75) (es:=OP done) (r:=UL gs) (ch:=ch) (b3:=b3) ai h8 hL t.ids (B4O t.ids hd) (λov H4 C ak B=> ?_) gs.length (L+20) [] _ ws b1 v' As H3 _ _ _ (by omega) (by simp) OrdK.nil ⟨M,g1,.inl ⟨rfl,rfl,rfl⟩,λu d=>⟨?_,IF,λp hc=> ?_⟩,λu d=>absurd d IF⟩ hR (λ_=>rfl) rfl
   ·rw[C.rq.len];have ah:∀{K:AV->Af},AF Ah (.ptr 0 0 0) H4 K=K (gV gs):= λ{K}=>by
     rw[AP (p:=0) rfl B (by simp)];rfl
    have em:∀{K:AV->Af},Yq (gV gs) H4 K=K (I (gs.length:Int)):= λ{K}=>by
     show HI (Dc DF (gE gs)) 0 (λn=>K (.v (.int .i64 (.ofNat n))))=_;rw[Co,JQ];have:(Dc DF (gE gs)).length=gs.length:=by simp[gE]
     rw[this];rfl
    rw[ah,em];by_cases A:gs.length<=(UL gs).length
    ·have er:fC gs= .tup [DJ (UL gs),.v (.int .i64 0)]:=by unfold fC;rw[Dj A]
     rw[FP (by omega),Bj];refine V _ _ λbb=> ?_;rw[er];obtain⟨q,hq⟩:=gK (D:=depth-2) (b:=bb) C ak;exact⟨_,dG (D:=depth-1) (Am hq (Am (q:=false) C7 AJ))⟩
    ·have er:fC gs= .tup [As,.v (.int .i64 220)]:=by unfold fC;rw[C4 A]
     rw[FR (by omega),Cy];refine V _ _ λbb=> ?_;rw[er];exact⟨_,dG (D:=depth-1) (Am (q:=false) C7 (Am (q:=false) C7 AJ))⟩
   ·have b1:=nr u d;omega
   ·have b1:=nr u d;have b2:=(h1.cv p).lt h1.wf hc;omega
end
end
section
variable {gs ls S T:List Cd} {x y p:AM} {c:Cd}
def FC (hn:(gs.map Cd.id).Nodup) (hc:c∈gs):Mn (gE gs) c.id=some c:=by
 induction gs with
 |nil=>cases hc
 |cons d gs ih=>
  rw[WR,List.nodup_cons] at hn;show Mn ((d.id,d)::gE gs) c.id=some c;unfold Mn;rcases Uf.1 hc with rfl|hc
  ·rw[Dj rfl]
  ·have:d.id≠c.id:= λe=>hn.1 (e▸Ma.2 ⟨c,hc,rfl⟩);rw[C4 this];exact ih hn.2 hc
def eZ (hn:(gs.map Cd.id).Nodup) (hc:c∈gs):RW gs c.id=c.ps:=by
 unfold RW;rw[FC hn hc]
def sD (a:x∉gs.map Cd.id):RW gs x=[]:=by
 unfold RW;rw[Yj (by rw[Wp];exact a)]
def A6A (hn:(gs.map Cd.id).Nodup) (h:ls.Perm gs):RW ls x=RW gs x:=by
 have b:(ls.map Cd.id).Perm (gs.map Cd.id):=h.map _;by_cases a:x∈gs.map Cd.id
 ·obtain⟨c,hc,rfl⟩:=Ma.1 a;rw[eZ hn hc,eZ (b.symm.nodup hn) (h.mem_iff.2 hc)]
 ·rw[sD a,sD (λhc=>a (b.mem_iff.1 hc))]
def A95 (hn:(gs.map Cd.id).Nodup) (h:ls.Perm gs) {out:List AM}:(jX ls out).Perm (jX gs out):=by
 have a:(ls.map Cd.id).Perm (gs.map Cd.id):=h.map _;refine(l37 ((a.symm.nodup hn).sublist List.filter_sublist) (hn.sublist List.filter_sublist)).2 λx=> ?_;show x∈jX ls out↔x∈jX gs out;rw[VE,VE,a.mem_iff,A6A hn h];simp only[a.mem_iff]
def A6G (hn:(gs.map Cd.id).Nodup) (h:ls.Perm gs):∀(N:Nat) (out:List AM),kG ls N out=kG gs N out:=by
 intro N
 induction N with
 |zero=>intro out;rfl
 |succ N ih=>
  intro out;have e:DQ (jX ls out)=DQ (jX gs out):=I8 ((Be _).trans ((A95 hn h).trans (Be _).symm)) (Dy _) (Dy _);unfold kG;rw[e];cases DQ (jX gs out) with
  |nil=>rfl
  |cons m t=>exact ih _
def A6F (hn:(gs.map Cd.id).Nodup) (h:ls.Perm gs):UL ls=UL gs:=by
 unfold UL;rw[h.length_eq];exact A6G hn h _ _
def A6E (hn:(gs.map Cd.id).Nodup) (h:ls.Perm gs):fC ls=fC gs:=by
 unfold fC;rw[A6F hn h,h.length_eq]
def A3A (hn:(gs.map Cd.id).Nodup) (h:ls.Perm gs):EG ls=EG gs:=by
 have a:(ls.map Cd.id).Perm (gs.map Cd.id):=h.map _;refine I8 ?_ (Dy _) (Dy _);refine(l37 (tM (a.symm.nodup hn)) (tM hn)).2 λx=> ?_;rw[PA,PA,a.mem_iff];simp only[h.mem_iff]
def A3n (h:ls.Perm gs):IA ls=IA gs:=by
 have a:(ls.map Cd.id).Perm (gs.map Cd.id):=h.map _;refine I8 ?_ I_ I_;refine(l37 sZ sZ).2 λx=> ?_;rw[Jn,Jn,a.mem_iff];simp only[h.mem_iff]
inductive Cmp (S:List Cd):AM->Prop
 |mk {c:Cd}:c∈S->(∀p∈c.ps,Cmp S p)->Cmp S c.id
def Cmp.ids (h:Cmp S x):x∈S.map Cd.id:=by
 cases h with
 |mk h1 _=>exact Ma.2 ⟨_,h1,rfl⟩
def Cmp.par (hn:(S.map Cd.id).Nodup) (hc:c∈S) (h:Cmp S c.id):∀p∈c.ps,Cmp S p:=by
 generalize he:c.id=x at h;cases h with
 |@mk d h1 h2=>
  have e:d=c:=by
   have a1:=FC hn h1;have a2:=FC hn hc;rw[he,a1] at a2;exact l2c a2
  subst e;exact h2
open Classical in
def Eo (S:List Cd):List Cd:=S.filter λc=>decide (Cmp S c.id)
def OA:c∈Eo S↔c∈S/\Cmp S c.id:=by
 rw[Eo,K_,@decide_eq_true_iff _ (_)]
def L8:x∈(Eo S).map Cd.id↔Cmp S x:=by
 constructor
 ·intro h;obtain⟨c,hc,rfl⟩:=Ma.1 h;exact(OA.1 hc).2
 ·intro h;obtain⟨c,hc,rfl⟩:=Ma.1 h.ids;exact Ma.2 ⟨c,OA.2 ⟨hc,h⟩,rfl⟩
def Rk (hn:(S.map Cd.id).Nodup):((Eo S).map Cd.id).Nodup:=hn.sublist (List.filter_sublist.map _)
def B1u (hn:(S.map Cd.id).Nodup) (h:Cmp S x):¬Anc (Eo S) x x:=by
 have key:∀z,Cmp S z->∀y,Anc (Eo S) z y->¬Anc (Eo S) y y:=by
  intro z hz
  induction hz with
  |@mk c h1 h2 ih=>
   have hc:c∈Eo S:=OA.2 ⟨h1,.mk h1 h2⟩;intro y b;rw[A7r] at b;have a:RW (Eo S) c.id=c.ps:=eZ (Rk hn) hc;rw[a] at b;rcases b with⟨_,b⟩|⟨p,g,_,f⟩
   ·intro d;exact ih y b y d d
   ·exact ih p g y f
 intro e;exact key x h x e e
def uG (hn:(S.map Cd.id).Nodup):(Eo S).length<=(UL (Eo S)).length:=
 (A9S (Rk hn)).2 λ_ a=>B1u hn (L8.1 a)
end
section
variable {x:AM} {c:Cd} {A B:List Cd}
def PT:List AM->List AM
 |[]=>[]
 |a::l=>match PT l with
  |[]=>[a]
  |b::m=>if a=b then b::m else a::b::m
def Tu:∀{l:List AM},x∈PT l↔x∈l:=by
 intro l
 induction l with
 |nil=>exact Iff.rfl
 |cons a l ih=>
  unfold PT;cases h:PT l with
  |nil=>
   rw[h] at ih;simp only[Uf,List.not_mem_nil,or_false];exact⟨.inl,λf=>f.elim id λf=>absurd (ih.2 f) (by simp)⟩
  |cons b m=>
   rw[h] at ih;show x∈(if a=b then b::m else a::b::m)↔_;by_cases d:a=b
   ·rw[Dj d];subst d;rw[Uf (b:=a) (l:=l),<-ih];exact⟨.inr,λf=>f.elim (λe=>by simp[e]) id⟩
   ·rw[C4 d,Uf (b:=a) (l:=b::m),Uf (b:=a) (l:=l),ih]
def ZE (B:List Cd) (ex:List AM):List AM:=PT (DQ (ex++IA B))
def PJ {ex:List AM}:x∈ZE B ex↔x∈ex\/x∈IA B:=by
 rw[ZE,Tu,(Be _).mem_iff,Zs]
def WS (A:List Cd) (ws:List AM):List Cd:=(PT (DQ (ws.filter λx=>decide (x∈A.map Cd.id)))).filterMap λx=>Mn (gE A) x
def Yk (h:Mn (gE A) x=some c):c∈A/\c.id=x:=by
 induction A with
 |nil=>cases h
 |cons d A ih=>
  change Mn ((d.id,d)::gE A) x=some c at h;unfold Mn at h;by_cases a:d.id=x
  ·rw[Dj a] at h;cases h
   exact⟨by simp,a⟩
  ·rw[C4 a] at h;obtain⟨h1,h2⟩:=ih h;exact⟨by simp[h1],h2⟩
def Wn (hn:(A.map Cd.id).Nodup) {ws:List AM}:c∈WS A ws↔c∈A/\c.id∈ws:=by
 rw[WS,List.mem_filterMap];constructor
 ·rintro⟨x,a,h⟩;rw[Tu,(Be _).mem_iff,K_] at a;obtain⟨h1,rfl⟩:=Yk h;exact⟨h1,a.1⟩
 ·rintro⟨h1,h2⟩;refine⟨c.id,?_,FC hn h1⟩;rw[Tu,(Be _).mem_iff,K_,decide_eq_true_eq];exact⟨h2,Ma.2 ⟨c,h1,rfl⟩⟩
def Tb (B:List Cd):List Cd->List Cd
 |[]=>B
 |c::cs=>Tb (if c.id∈B.map Cd.id then B else B++[c]) cs
def A21:∀(cs B:List Cd),(∀c∈B,c∈Tb B cs)/\(∀c∈Tb B cs,c∈B\/c∈cs)/\(∀c∈cs,c.id∈(Tb B cs).map Cd.id)/\((B.map Cd.id).Nodup->((Tb B cs).map Cd.id).Nodup):=by
 intro cs
 induction cs with
 |nil=>intro B;exact⟨λ_ h=>h,λ_ h=> .inl h,λ_ h=>absurd h (by simp),λh=>h⟩
 |cons d cs ih=>
  intro B;show(∀c∈B,c∈Tb (if d.id∈B.map Cd.id then B else B++[d]) cs)/\(∀c∈Tb (if d.id∈B.map Cd.id then B else B++[d]) cs,c∈B\/c∈d::cs)/\(∀c∈d::cs,c.id∈(Tb (if d.id∈B.map Cd.id then B else B++[d]) cs).map Cd.id)/\((B.map Cd.id).Nodup->((Tb (if d.id∈B.map Cd.id then B else B++[d]) cs).map Cd.id).Nodup)
  by_cases h:d.id∈B.map Cd.id
  ·rw[Dj h];obtain⟨h1,h2,f,g⟩:=ih B;refine⟨h1,λc hc=>(h2 c hc).imp id λh=>by simp[h],λc hc=> ?_,g⟩;rcases Uf.1 hc with rfl|hc
   ·obtain⟨e,he,i⟩:=Ma.1 h;exact Ma.2 ⟨e,h1 e he,i⟩
   ·exact f c hc
  ·rw[C4 h];obtain⟨h1,h2,f,g⟩:=ih (B++[d]);refine⟨λc hc=>h1 c (by simp[hc]),λc hc=> ?_,λc hc=> ?_,λhn=>g ?_⟩
   ·rcases h2 c hc with h|h
    ·rcases Zs.1 h with h|h
     ·exact .inl h
     ·rw[Ur] at h;exact .inr (by simp[h])
    ·exact .inr (by simp[h])
   ·rcases Uf.1 hc with rfl|hc
    ·exact Ma.2 ⟨c,h1 c (by simp),rfl⟩
    ·exact f c hc
   ·rw[YN];refine l38.2 ⟨hn,by simp,λa j b hb=> ?_⟩;simp at hb;subst hb;exact λe=>h (e▸j)
def QG (A:List Cd):Nat->List Cd->List AM->List Cd×Bool
 |0,B,_=>(B,false)
 |n+1,B,a=>if a=[] then(B,true) else if WS A a=[] then(B,true) else QG A n (Tb B (WS A a)) (ZE (Tb B (WS A a)) [])
def lck (A B:List Cd):Nat:=(A.filter λc=>decide (c.id∉B.map Cd.id)).length
def A8K (i:(A.map Cd.id).Nodup):∀(n:Nat) (B:List Cd) (ws:List AM),(B.map Cd.id).Nodup->(∀x∈ws,x∉B.map Cd.id)->(∀x∈IA B,x∈ws)->lck A B<n->
 (QG A n B ws).2=true/\(∀c∈B,c∈(QG A n B ws).1)/\(∀c∈(QG A n B ws).1,c∈B\/c∈A)/\((QG A n B ws).1.map Cd.id).Nodup/\(∀x∈ws,x∈A.map Cd.id->x∈(QG A n B ws).1.map Cd.id)/\∀x∈IA (QG A n B ws).1,x∉A.map Cd.id:=by
 intro n
 induction n with
 |zero=>intro B ws _ _ _ h;omega
 |succ n ih=>
  intro B ws k y hm D;unfold QG;by_cases h1:ws=[]
  ·rw[Dj h1];subst h1;exact⟨rfl,λc h=>h,λc h=> .inl h,k,λx a=>absurd a (by simp),λx a=>absurd (hm x a) (by simp)⟩
  ·rw[C4 h1];by_cases h2:WS A ws=[]
   ·rw[Dj h2];have f:∀x∈ws,x∉A.map Cd.id:= λx a b=>by
     obtain⟨c,m,rfl⟩:=Ma.1 b;have:=(Wn i).2 ⟨m,a⟩;rw[h2] at this;cases this
    exact⟨rfl,λc h=>h,λc h=> .inl h,k,λx a hc=>absurd hc (f x a),λx a=>f x (hm x a)⟩
   ·rw[C4 h2];obtain⟨a1,a2,s,t⟩:=A21 (WS A ws) B;have g:∀x,x∈B.map Cd.id->x∈(Tb B (WS A ws)).map Cd.id:= λx a=>by
     obtain⟨c,hc,rfl⟩:=Ma.1 a;exact Ma.2 ⟨c,a1 c hc,rfl⟩
    have w:lck A (Tb B (WS A ws))<lck A B:=by
     obtain⟨c,hc⟩:=List.exists_mem_of_ne_nil _ h2;have e:=(Wn i).1 hc;refine yN (p:= λc=>decide (c.id∉(Tb B (WS A ws)).map Cd.id)) (q:= λc=>decide (c.id∉B.map Cd.id)) (λd _ j=> ?_) e.1 ?_ ?_
     ·rw[decide_eq_true_eq] at j⊢;exact λh=>j (g _ h)
     ·rw[decide_eq_true_eq];exact y _ e.2
     ·rw[decide_eq_false_iff_not,Classical.not_not];exact s c hc
    obtain⟨b1,b2,u,b4,C,b6⟩:=ih (Tb B (WS A ws)) (ZE (Tb B (WS A ws)) []) (t k) (λx a=>by
     rw[PJ] at a;rcases a with a|a
     ·cases a
     ·exact(Jn.1 a).1) (λx a=>PJ.2 (.inr a)) (by omega)
    refine⟨b1,λc hc=>b2 c (a1 c hc),λc hc=> ?_,b4,λx a b=> ?_,b6⟩
    ·rcases u c hc with h|h
     ·exact(a2 c h).imp id λh=>((Wn i).1 h).1
     ·exact .inr h
    ·obtain⟨c,hc,rfl⟩:=Ma.1 b;have v:=s c ((Wn i).2 ⟨hc,a⟩);obtain⟨d,j,r⟩:=Ma.1 v;rw[<-r];exact Ma.2 ⟨d,b2 d j,rfl⟩
def A45 (m:(A.map Cd.id).Nodup) (C:(B.map Cd.id).Nodup) (hc:∀c∈A,∀d∈B,c.id=d.id->c=d) (r:∀x∈EG (Eo A),x∈B.map Cd.id) (hm:∀x∈IA B,x∉A.map Cd.id) (t:Cmp A x):Cmp B x:=by
 have n:∀y,Cmp A y->y∈B.map Cd.id:=by
  have a:∀y∈(Eo A).map Cd.id,y∈UL (Eo A):= λy q=>(NN (gs:=Eo A)).1.all (uG m) q;have k:∀z y,z∈B.map Cd.id->Cmp A z->Anc (Eo A) z y->y∈B.map Cd.id:=by
   intro z y hz w h;have i:∀u v,u∈B.map Cd.id->v∈(Eo A).map Cd.id->v∈RW (Eo A) u->v∈B.map Cd.id:=by
    intro u v s hv j;have p:u∈(Eo A).map Cd.id:=by
     apply l39;intro hn;rw[sD hn] at j;cases j
    obtain⟨c,f,rfl⟩:=Ma.1 p;rw[eZ (Rk m) f] at j;obtain⟨d,g,b⟩:=Ma.1 s;have e:=hc c (OA.1 f).1 d g b.symm;subst e;apply l39;intro hn;exact hm v (Jn.2 ⟨hn,c,g,j⟩) (L8.1 hv).ids
   induction h with
   |one h1 h2=>exact i _ _ hz h1 h2
   |more _ h1 h2 ih=>exact i _ _ ih h1 h2
  intro y q;obtain⟨u,v,e⟩:=List.append_of_mem (a y (L8.2 q));rcases(NN (gs:=Eo A)).1.covered (Rk m) a _ y u v (Nat.lt_succ_self _) e with h|⟨z,h1,h2⟩
  ·exact r y h
  ·exact k z y (r z h1) (L8.1 (PA.1 h1).1) h2
 induction t with
 |@mk c h1 h2 ih=>
  obtain⟨d,g,b⟩:=Ma.1 (n c.id (.mk h1 h2));have e:=hc c h1 d g b.symm;subst e;exact .mk g ih
def B3d (g:(A.map Cd.id).Nodup) (m:(B.map Cd.id).Nodup) (hc:∀c∈A,∀d∈B,c.id=d.id->c=d) {n:Nat} (q:A.length<n):
 let W:=ZE B ((EG (Eo A)).filter λx=>decide (x∉B.map Cd.id))
 (QG A n B W).2=true/\(∀c∈B,c∈(QG A n B W).1)/\(∀c∈(QG A n B W).1,c∈B\/c∈A)/\((QG A n B W).1.map Cd.id).Nodup/\∀x,Cmp A x->Cmp (QG A n B W).1 x:=by
 intro W;have i:lck A B<n:=by
  have:=l32 (λc:Cd=>decide (c.id∉B.map Cd.id)) A;unfold lck;omega
 obtain⟨b1,b2,j,b4,k,b6⟩:=A8K g n B W m (λx a=>by
  rcases PJ.1 a with a|a
  ·have:=(K_.1 a).2
   rwa[decide_eq_true_eq] at this
  ·exact(Jn.1 a).1) (λx a=>PJ.2 (.inr a)) i
 refine⟨b1,b2,j,b4,λx a=>A45 g b4 (λc b d p e=> ?_) (λx a=> ?_) b6 a⟩
 ·rcases j d p with h|h
  ·exact hc c b d h e
  ·have a1:=FC g b;have a2:=FC g h;rw[e,a2] at a1;exact(l2c a1).symm
 ·by_cases f:x∈B.map Cd.id
  ·obtain⟨c,hc,rfl⟩:=Ma.1 f;exact Ma.2 ⟨c,b2 c hc,rfl⟩
  ·exact k x (PJ.2 (.inl (K_.2 ⟨a,by simp[f]⟩))) (L8.1 (PA.1 a).1).ids
end
section
variable {S T:List Cd} {x:AM}
def Xq (S:List Cd):List AM:=DQ ((S.map Cd.id).filter λx=>@decide (¬Cmp S x) (Classical.propDecidable _))
def Nx (S:List Cd):List Cd:=(UL (Eo S)).filterMap λx=>Mn (gE S) x
def uQ (d:(S.map Cd.id).Nodup):(Nx S).map Cd.id=UL (Eo S):=by
 have h:∀l:List AM,(∀x∈l,x∈S.map Cd.id)->(l.filterMap λx=>Mn (gE S) x).map Cd.id=l:=by
  intro l
  induction l with
  |nil=>intro _;rfl
  |cons a l ih=>
   intro h;obtain⟨c,hc,rfl⟩:=Ma.1 (h a (by simp));rw[List.filterMap_cons,FC d hc];show c.id::_=_;rw[ih λx b=>h x (by simp[b])]
 exact h _ λx b=>by
  have:=(NN (gs:=Eo S)).1.ids x b;exact(L8.1 this).ids
def A1X (a:(S.map Cd.id).Nodup) {c:Cd}:c∈Nx S↔c∈Eo S:=by
 rw[Nx,List.mem_filterMap];obtain⟨h1,h2⟩:=NN (gs:=Eo S);constructor
 ·rintro⟨x,d,h⟩;obtain⟨b,rfl⟩:=Yk h;exact OA.2 ⟨b,L8.1 (h1.ids _ d)⟩
 ·intro h;have hc:=OA.1 h;exact⟨c.id,h1.all (uG a) (L8.2 hc.2),FC a hc.1⟩
end
end Go.Abs
end
noncomputable section
end
noncomputable section
end
noncomputable section
namespace Go.Abs
open Go.RowKit Go.Proofs
set_option maxRecDepth 100000
section
variable {a v:AV} {b:Bool} {H:Hp} {D:Nat} {α:Type}
variable {L n:Nat}
def B9o (l:List AV) (h:l.all isV=true):Rr b D l l H false:=by
 have:=KO (b:=b) (D:=D) (H:=H) (λx:Value=>x) (l.map unV);rw[show((l.map unV).map λx=>AV.v x)=l from A5J h] at this;exact this
section
variable {e sz m:Nat} {ie i2:TI} {cs:List AV}
def C02 (hsz:sz≠0) (hz:(Bv ie.zero).length=sz) (j:∀K:KV,Hf e sz ie 0 [] [] K=K (.sl sz 0 0 0) [(0,.cells false e [])]) (hc:cs.length=m*sz) (h1:cs.all AV.one=true) (hv:cs.all isV=true) (s:(Zz i2.d&&Tf sz (.list m cs))=true)
 (p:∀(H:Hp) (K:Nat->List AV->Af),Ta H (.list m cs) K=K m cs) (hb:m*ie.bytes<=70368744177664) (hm:m<=70368744177664) (k:0<m):
 ∃f c,(∀K:KV,(Hf e sz ie 0 [] [] λt g=>E9 e sz ie i2 t (.list m cs) g K)=K f c)/\∀b,∃q,Fx b depth f (.list m cs) c q:=by
 have h:B2 [(0,.cells false e [])] e sz (.sl sz 0 0 0) 0 []:= .inr ⟨0,false,rfl,rfl,by simp⟩;obtain⟨f,c,a1,a2,u,w⟩:=apt (ie:=ie) (i2:=i2) h (λK=>p _ K) hc h1 hsz hz s (by rw[JQ];exact hb) (by rw[JQ];exact hm);rw[JQ,l3d] at a2;refine⟨f,c,λK=> ?_,λb=> ?_⟩
 ·rw[j];exact a1 K
 ·rcases a2 with⟨_,h2,_⟩|⟨r,q,rfl,h2,i⟩
  ·omega
  ·exact⟨_,WU (D:=depth-1) h2 i (B9o cs hv)⟩
def hbt {b m:Nat} (h:b<=1000) (c:m<999):(m+1)*b<=70368744177664:=by
 have:=Nat.mul_le_mul (show m+1<=1000 by omega) h;omega
def Pln (sz:Nat) (a:AV):Prop:=a=As\/∃m cs,a= .list (m+1) cs/\cs.length=(m+1)*sz/\cs.all AV.one=true/\cs.all isV=true/\m<999
def Pln.fx (h:Pln sz a):Fx true depth a a H false:=by
 rcases h with rfl|⟨m,cs,rfl,_⟩
 ·exact C7
 ·exact Of
end
def C4v (h:Pln 3 a):CS (r! L (n+1)) Fs [a] a:=by
 intro K c;rw[LN];unfold Fp Ip;rcases h with rfl|⟨m,cs,rfl,h1,h2,g,i⟩
 ·have e:∀{K:AV->Af},Go.Abs.Ap AA .eql As (AV.v (.slice none 0 0)) K=K (Bo true):= λ{K}=>id rfl;rw[e,Cy];exact c _ _ λb=>⟨false,C7⟩
 ·have e:∀{K:AV->Af},Go.Abs.Ap AA .eql (.list (m+1) cs) (AV.v (.slice none 0 0)) K=K (Bo false):= λ{K}=>id rfl;rw[e,Bj];obtain⟨k,j,d,f⟩:=C02 (e:=AY) (sz:=3) (ie:=BS) (i2:=AA) (by decide) rfl (λK=>by kernel_rfl) h1 h2 g rfl (λH K=>Va) (hbt (show BS.bytes<=1000 by decide) i) (by omega) (by omega);rw[d];exact c _ _ f
def C4u (h:Pln 20 a):CS (r! L (n+1)) DN [a] a:=by
 intro K c;rw[LM];unfold Fo Ip;rcases h with rfl|⟨m,cs,rfl,h1,h2,g,i⟩
 ·have e:∀{K:AV->Af},Go.Abs.Ap Al .eql As (AV.v (.slice none 0 0)) K=K (Bo true):= λ{K}=>id rfl;rw[e,Cy];exact c _ _ λb=>⟨false,C7⟩
 ·have e:∀{K:AV->Af},Go.Abs.Ap Al .eql (.list (m+1) cs) (AV.v (.slice none 0 0)) K=K (Bo false):= λ{K}=>id rfl;rw[e,Bj];obtain⟨k,j,d,f⟩:=C02 (e:=A6) (sz:=20) (ie:=Ay) (i2:=Al) (by decide) rfl (λK=>by kernel_rfl) h1 h2 g rfl (λH K=>Va) (hbt (show Ay.bytes<=1000 by decide) i) (by omega) (by omega);rw[d];exact c _ _ f
def C4w (h:Pln 26 a):CS (r! L (n+1)) DO [a] a:=by
 intro K c;rw[LO];unfold Fq Ip;rcases h with rfl|⟨m,cs,rfl,h1,h2,g,i⟩
 ·have e:∀{K:AV->Af},Go.Abs.Ap Ax .eql As (AV.v (.slice none 0 0)) K=K (Bo true):= λ{K}=>id rfl;rw[e,Cy];exact c _ _ λb=>⟨false,C7⟩
 ·have e:∀{K:AV->Af},Go.Abs.Ap Ax .eql (.list (m+1) cs) (AV.v (.slice none 0 0)) K=K (Bo false):= λ{K}=>id rfl;rw[e,Bj];obtain⟨k,j,d,f⟩:=C02 (e:=AT) (sz:=26) (ie:=AN) (i2:=Ax) (by decide) rfl (λK=>by kernel_rfl) h1 h2 g rfl (λH K=>Va) (hbt (show AN.bytes<=1000 by decide) i) (by omega) (by omega);rw[d];exact c _ _ f
def lU {K:KV}:(r! L (n+1)).call Bg [As] H K=K As H:=by
 rw[FO];unfold D9 Ip;have e:∀{K:AV->Af},Go.Abs.Ap Ac .eql As (AV.v (.slice none 0 0)) K=K (Bo true):= λ{K}=>id rfl;rw[e,Cy]
def A3D {f:α->List AV} (h:∀a,(f a).all isV=true) (l:List α):(l.flatMap f).all isV=true:=by
 rw[GH];intro x d;obtain⟨a,_,c⟩:=l3b.1 d;exact GH.1 (h a) x c
def N! {f:α->List AV} (h:∀a,(f a).all AV.one=true) (l:List α):(l.flatMap f).all AV.one=true:=by
 rw[GH];intro x d;obtain⟨a,_,c⟩:=l3b.1 d;exact GH.1 (h a) x c
def A3b {ts:iU} (h:ts.length<=6):Pln 3 (FD ts):=by
 cases ts with
 |nil=>exact .inl rfl
 |cons a l=>
  simp at h;exact .inr ⟨l.length,(a::l).flatMap OD,rfl,gP OD 3 (λ_=>rfl) (a::l),N! (λ_=>rfl) _,A3D (λ_=>rfl) _,by omega⟩
def A9J {ks:List Nat} (h1:1<=ks.length) (h2:ks.length<=6):Pln 20 (BO ks):=by
 cases ks with
 |nil=>simp at h1
 |cons a l=>
  simp at h2;exact .inr ⟨l.length,(a::l).flatMap HH,rfl,gP HH 20 (λ_=>rfl) (a::l),N! (λ_=>rfl) _,A3D (λ_=>rfl) _,by omega⟩
def A9I {xs:List Nd} (h1:1<=xs.length) (h2:xs.length<=9):Pln 26 (Cs xs):=by
 cases xs with
 |nil=>simp at h1
 |cons a l=>
  simp at h2;exact .inr ⟨l.length,(a::l).flatMap H!,rfl,gP H! 26 (λ_=>rfl) (a::l),N! (λ_=>rfl) _,A3D (λ_=>rfl) _,by omega⟩
def Cd.fT (c:Cd):AV:=(c.csP As).getD 28 .dk
def Cd.fI (c:Cd):AV:=(c.csP As).getD 33 .dk
def Cd.fN (c:Cd):AV:=(c.csP As).getD 34 .dk
def YY (c:Cd) (P:AV):(c.csP P).getD 28 .dk=c.fT/\(c.csP P).getD 31 .dk=P/\(c.csP P).getD 33 .dk=c.fI/\(c.csP P).getD 34 .dk=c.fN/\(c.csP P).getD 66 .dk=As/\(c.csP P).getD 67 .dk=As:=by
 match c with
 | .re b u=>exact⟨rfl,rfl,rfl,rfl,rfl,rfl⟩
 | .co b p ps none=>exact⟨rfl,rfl,rfl,rfl,rfl,rfl⟩
 | .co b p ps (some (k,vd))=>exact⟨rfl,rfl,rfl,rfl,rfl,rfl⟩
def YX (c:Cd) (P:AV):(c.csP P).set 28 c.fT=c.csP P/\(∀Q,(c.csP P).set 31 Q=c.csP Q)/\(c.csP P).set 33 c.fI=c.csP P/\(c.csP P).set 34 c.fN=c.csP P/\(c.csP P).set 66 As=c.csP P/\(c.csP P).set 67 As=c.csP P:=by
 match c with
 | .re b u=>exact⟨rfl,λQ=>rfl,rfl,rfl,rfl,rfl⟩
 | .co b p ps none=>exact⟨rfl,λQ=>rfl,rfl,rfl,rfl,rfl⟩
 | .co b p ps (some (k,vd))=>exact⟨rfl,λQ=>rfl,rfl,rfl,rfl,rfl⟩
def C03 {c:Cd} (h:c.Ok):Pln 3 c.fT/\Pln 20 c.fI/\Pln 26 c.fN:=by
 match c,h with
 | .re b u,⟨hb,_⟩=>exact⟨A3b hb.ts.len,.inl rfl,.inl rfl⟩
 | .co b p ps none,⟨hb,d,_⟩=>exact⟨A3b hb.ts.len,A9J d.k1 (by have:=d.k3;omega),A9I (by have:=d.k1;show 1<=(Li p.ks++p.x.nd).length;rw[EY,DR];omega) (by
  have:=d.k3;show(Li p.ks++p.x.nd).length<=9;rw[EY,DR];have:p.x.nd.length<=1:=by cases p.x<;>simp[Ex.nd]
  omega)⟩
 | .co b p ps (some (k,vd)),⟨hb,d,_⟩=>exact⟨A3b hb.ts.len,A9J d.k1 (by have:=d.k3;omega),A9I (by have:=d.k1;show 1<=(Li p.ks++p.x.nd).length;rw[EY,DR];omega) (by
  have:=d.k3;show(Li p.ks++p.x.nd).length<=9;rw[EY,DR];have:p.x.nd.length<=1:=by cases p.x<;>simp[Ex.nd]
  omega)⟩
def Pln.cell {sz:Nat} (h:Pln sz a):Bv a=[a]/\AV.one a=true:=by
 rcases h with rfl|⟨m,cs,rfl,_⟩<;>exact⟨rfl,rfl⟩
def Yz.cell {l:List AM} (h:Yz H v l):Bv v=[v]/\AV.one v=true:=by
 rcases h with⟨rfl,_⟩|⟨_,_,_,_,rfl,_⟩<;>exact⟨rfl,rfl⟩
def Yz.kp {H H':Hp} {l:List AM} (h:Yz H v l) (k:∀u y,A8 v u->Aj H u=some y->Aj H' u=some y):Yz H' v l:=by
 rcases h with h|⟨r,o,q,cs,rfl,h2,c,d⟩
 ·exact .inl h
 ·exact .inr ⟨r,o,q,cs,rfl,k r _ ⟨_,_,_,rfl⟩ h2,c,d⟩
def Yz.fxc {l:List AM} (h:Yz H v l) (c:l=[]->v=As):∃q,Fx b (D+1) v (DJ l) H q:=by
 cases l with
 |nil=>rw[c rfl];exact⟨false,C7⟩
 |cons a l=>
  rcases h with⟨_,h⟩|⟨r,o,q,cs,rfl,h2,d,f⟩
  ·cases h
  ·refine⟨true,Wq (q':=false) h2 (by rw[pL];omega) ?_⟩;rw[d,pL];have:(AG (a::l)).take (a::l).length=AG (a::l):=W! (by rw[AX];omega);rw[this];exact UX _
def A0l {c:Cd} (ae:c.Ok) (af:c.ps.length<100):CT (r! L (n+2)) La [.agg c.cs] (.agg c.cs):=by
 intro K hK;rw[Zq];unfold Ob Eh;obtain⟨pT,pI,pN⟩:=C03 ae;have e0:c.cs=c.csP (DJ c.ps):=(A43 c).symm;have one:∀P,AV.one P=true->(c.csP P).all AV.one=true:= λP h=>pX c h;have X:AV.one (DJ c.ps)=true:=by cases c.ps<;>rfl
 have l0:∀{H:Hp},Aj H 0=some (c_ Ad (c.csP (DJ c.ps)))->True:= λ_=>trivial;have same:∀{H:Hp} {P:AV} {p:Nat} {i:TI} {v:AV} {K:Hp->Af},Aj H 0=some (c_ Ad (c.csP P))->p<68->i.size=1->Bv v=[v]/\AV.one v=true->(c.csP P).set p v=c.csP P->E0 i (.ptr 0 p 0) v H K=K (upd H 0 (c_ Ad (c.csP P))):= λ{H P p i v K} hl hp hi hv hs=>by
  rw[Ed (cs:=c.csP P) hl (by rw[O8];exact hp) hi hv.1 hv.2,hs]
 have ld:∀{H:Hp} {P:AV} {p:Nat} {i:TI} {v:AV} {K:AV->Af},i.d.isAgg=false->Aj H 0=some (c_ Ad (c.csP P))->p<68->(c.csP P).getD p .dk=v->AF i (.ptr 0 p 0) H K=K v:= λ{H P p i v K} hi hl hp hv=>by
  rw[AP (p:=p) hi hl (by rw[O8];exact hp),hv]
 have eb:∀{K:KV},Ho Ad (.agg (c.csP (DJ c.ps))) [] K=K (.ptr 0 0 0) [(0,c_ Ad (c.csP (DJ c.ps)))]:= λ{K}=>Ei (one _ X);have ea:∀{K:KV},Bx Ad Ae [(0,c_ Ad (c.csP (DJ c.ps)))] K=K (.ptr 1 0 0) [(1,c_ Ad CH),(0,c_ Ad (c.csP (DJ c.ps)))]:= λ{K}=>B1 (cs:=CH) rfl;rw[e0,eb,ea];have h0:Aj [(1,c_ Ad CH),(0,c_ Ad (c.csP (DJ c.ps)))] 0=some (c_ Ad (c.csP (DJ c.ps))):=rfl;have h1:Aj [(1,c_ Ad CH),(0,c_ Ad (c.csP (DJ c.ps)))] 1=some (c_ Ad CH):=rfl;have w0:Wf [(1,c_ Ad CH),(0,c_ Ad (c.csP (DJ c.ps)))]:=AI (AI Fk);show CV 26 (.ptr 0 0 0) _=_;rw[fA,fA];show AF AA (.ptr 0 28 0) [(1,c_ Ad CH),(0,c_ Ad (c.csP (DJ c.ps)))] _=_;generalize [(1,c_ Ad CH),(0,c_ Ad (c.csP (DJ c.ps)))]=H at h0 h1 w0;rw[ld rfl h0 (by decide) (YY c _).1,AQ (C4v (n:=n) pT) (Am pT.fx AJ),fA,fA];show E0 AA (.ptr 0 28 0) c.fT H _=_;rw[same h0 (by decide) rfl pT.cell (YX c _).1];have Y:=AC (q:=true) (e:=Ad) (cs:=c.csP (DJ c.ps)) h0;have a1:Aj (upd H 0 (c_ Ad (c.csP (DJ c.ps)))) 1=some (c_ Ad CH):=by rw[Ag (by decide)];exact h1
 have aw:Wf (upd H 0 (c_ Ad (c.csP (DJ c.ps)))):=Bn w0;generalize upd H 0 (c_ Ad (c.csP (DJ c.ps)))=H1 at Y a1 aw;show CV 31 (.ptr 0 0 0) _=_;rw[fA];show AF Ac (.ptr 0 31 0) H1 _=_;rw[ld rfl Y (by decide) (YY c _).2.1];have main:∀v f,Yz f v c.ps->(c.ps=[]->v=As)->Aj f 0=some (c_ Ad (c.csP (DJ c.ps)))->Aj f 1=some (c_ Ad CH)->(∀u,A8 v u->1<u)->Wf f->
  (CV 31 (.ptr 0 0 0) λah=>E0 Ac ah v f λr=>CV 32 (.ptr 0 0 0) λai=>CV 1 ai λaj=>AF Al aj r λak=>An (r! L (n+1)) DN [ak] r λam=>
   CV 32 (.ptr 0 0 0) λan=>CV 1 an λao=>E0 Al ao am r λs=>CV 32 (.ptr 0 0 0) λap=>CV 2 ap λaq=>AF Ax aq s λar=>An (r! L (n+1)) DO [ar] s λax=>
   CV 32 (.ptr 0 0 0) λay=>CV 2 ay λaz=>E0 Ax az ax s λw=>CV 65 (.ptr 0 0 0) λa3=>CV 1 a3 λa4=>AF Ac a4 w λa5=>(r! L (n+1)).call Bg [a5] w λa6 aa=>
   CV 65 (.ptr 0 0 0) λa7=>CV 1 a7 λa8=>E0 Ac a8 a6 aa λx=>CV 65 (.ptr 0 0 0) λa9=>CV 2 a9 λba=>AF Ac ba x λbc=>(r! L (n+1)).call Bg [bc] x λbd ab=>
   CV 65 (.ptr 0 0 0) λbe=>CV 2 be λbf=>E0 Ac bf bd ab λC=>AF Ae (.ptr 0 0 0) C λbg=>E0 Ae (.ptr 1 0 0) bg C λF=>AF Ae (.ptr 1 0 0) F λbh=>K bh F)=some (.agg (c.csP (DJ c.ps)),[]):= λv f hv ag b0 b1 hr bw=>by
  rw[fA];show E0 Ac (.ptr 0 31 0) v f _=_;rw[Ed (cs:=c.csP (DJ c.ps)) b0 (by rw[O8];decide) rfl hv.cell.1 hv.cell.2,(YX c _).2.1 v];have J:Yz (upd f 0 (c_ Ad (c.csP v))) v c.ps:=hv.kp λu y j V=>by rw[Ag (by have:=hr u j;omega)];exact V
  have Z:=AC (q:=true) (e:=Ad) (cs:=c.csP v) b0;have c1:Aj (upd f 0 (c_ Ad (c.csP v))) 1=some (c_ Ad CH):=by rw[Ag (by decide)];exact b1
  have cw:Wf (upd f 0 (c_ Ad (c.csP v))):=Bn bw;generalize upd f 0 (c_ Ad (c.csP v))=H3 at J Z c1 cw;have k:∀{H:Hp},Aj H 0=some (c_ Ad (c.csP v))->Aj H 1=some (c_ Ad CH)->Yz H v c.ps->Aj (upd H 0 (c_ Ad (c.csP v))) 0=some (c_ Ad (c.csP v))/\Aj (upd H 0 (c_ Ad (c.csP v))) 1=some (c_ Ad CH)/\Yz (upd H 0 (c_ Ad (c.csP v))) v c.ps:= λ{H} t g1 g2=>
   ⟨AC t,by rw[Ag (by decide)];exact g1,g2.kp λu y j V=>by rw[Ag (by have:=hr u j;omega)];exact V⟩
  rw[fA,fA];show AF Al (.ptr 0 33 0) H3 _=_;rw[ld rfl Z (by decide) (YY c _).2.2.1,AQ (C4u (n:=n) pI) (Am pI.fx AJ),fA,fA];show E0 Al (.ptr 0 33 0) c.fI H3 _=_;rw[same Z (by decide) rfl pI.cell (YX c _).2.2.1];obtain⟨d0,d1,M⟩:=k Z c1 J;generalize upd H3 0 (c_ Ad (c.csP v))=H4 at d0 d1 M;rw[fA,fA];show AF Ax (.ptr 0 34 0) H4 _=_;rw[ld rfl d0 (by decide) (YY c _).2.2.2.1,AQ (C4w (n:=n) pN) (Am pN.fx AJ),fA,fA];show E0 Ax (.ptr 0 34 0) c.fN H4 _=_;rw[same d0 (by decide) rfl pN.cell (YX c _).2.2.2.1];obtain⟨f0,f1,N⟩:=k d0 d1 M;generalize upd H4 0 (c_ Ad (c.csP v))=H5 at f0 f1 N;rw[fA,fA];show AF Ac (.ptr 0 66 0) H5 _=_;rw[ld rfl f0 (by decide) (YY c _).2.2.2.2.1,lU,fA,fA];show E0 Ac (.ptr 0 66 0) As H5 _=_;rw[same f0 (by decide) rfl ⟨rfl,rfl⟩ (YX c _).2.2.2.2.1];obtain⟨t,g1,O⟩:=k f0 f1 N;generalize upd H5 0 (c_ Ad (c.csP v))=H6 at t g1 O;rw[fA,fA];show AF Ac (.ptr 0 67 0) H6 _=_;rw[ld rfl t (by decide) (YY c _).2.2.2.2.2,lU,fA,fA];show E0 Ac (.ptr 0 67 0) As H6 _=_;rw[same t (by decide) rfl ⟨rfl,rfl⟩ (YX c _).2.2.2.2.2];obtain⟨i0,i1,Q⟩:=k t g1 O;generalize upd H6 0 (c_ Ad (c.csP v))=H7 at i0 i1 Q;rw[Bu rfl (by exact(O8 c).symm) i0,Cc (cs:=CH) (vs:=c.csP v) i1 (by rw[O8];rfl) rfl (one v hv.cell.2)];have j1:=AC (q:=true) (e:=Ad) (cs:=c.csP v) i1;have R:Yz (upd H7 1 (c_ Ad (c.csP v))) v c.ps:=Q.kp λu y j V=>by rw[Ag (by have:=hr u j;omega)];exact V
  rw[Bu rfl (by exact(O8 c).symm) j1];rw[<-e0];refine hK _ _ ?_;generalize upd H7 1 (c_ Ad (c.csP v))=H8 at R;obtain⟨q,hq⟩:=R.fxc ag (b:=true) (D:=depth-2);obtain⟨A,B,e,ac,ad⟩:=lT c;rw[e0,e,e];exact⟨_,Lx (D:=depth-1) (M' (YO A ac) (Am hq (YO B ad)))⟩
 by_cases g:c.ps=[]
 ·have en:DJ c.ps=As:=by rw[g];rfl
  have:=main As H1 (.inl ⟨rfl,g⟩) (λ_=>rfl) Y a1 (λu j=>absurd j IF) aw;rw[en];rw[en] at this;rw[lU];exact this
 ·refine B2L (n:=n) aw af λv f hv hk hr hw=>main v f hv (λh=>absurd h g) (hk _ _ Y) (hk _ _ a1) (λu j=> ?_) hw;have b1:=hr u j;have b2:=aw.lt a1;omega
end
section
variable {L n:Nat}
def B1n {a b:AM}:∀m:List AM,PT (m++[a,b])=PT (m++[a])++if b=a then[] else[b]:=by
 intro m
 induction m with
 |nil=>
  show(match(match([]:List AM) with|[]=>[b]|c::q=>if b=c then c::q else b::c::q) with|[]=>[a]|c::q=>if a=c then c::q else a::c::q)=[a]++_;by_cases h:b=a
  ·subst h;simp
  ·simp[h,Ne.symm h]
 |cons x m ih=>
  have e:∀l:List AM,PT (x::l)=match PT l with|[]=>[x]|c::q=>if x=c then c::q else x::c::q:= λl=>rfl
  rw[List.cons_append,List.cons_append,e,e,ih];cases h:PT (m++[a]) with
  |nil=>
   have:a∈PT (m++[a]):=Tu.2 (by simp);rw[h] at this;cases this
  |cons c q=>
   show(if x=c then c::(q++_) else x::c::(q++_))=(if x=c then c::q else x::c::q)++_;by_cases d:x=c
   ·rw[Dj d,Dj d];rfl
   ·rw[C4 d,C4 d];rfl
def A1O {l:List AM} {j:Nat} (h1:1<=j) (h:j<l.length):PT (l.take (j+1))=PT (l.take j)++if l[j]=l[j-1] then[] else[l[j]]:=by
 have a:l.take j=l.take (j-1)++[l[j-1]]:=by
  have:=kY (l:=l) (i:=j-1) (by omega);rw[show j-1+1=j by omega] at this;exact this
 have b:l.take (j+1)=l.take (j-1)++[l[j-1],l[j]]:=by
  rw[kY h,a,dW];rfl
 rw[b,B1n,<-a]
def B9W (l:List AM):(PT l).length<=l.length:=by
 induction l with
 |nil=>exact Mb _
 |cons a l ih=>
  unfold PT;cases h:PT l with
  |nil=>simp
  |cons b m=>
   rw[h] at ih;show(if a=b then b::m else a::b::m).length<=_;split
   ·simp at ih⊢;omega
   ·simp at ih⊢;omega
section
variable {l:List AM} {H:Hp} {K:KV} {x:Af} {R:Rt}
def B18 {r o i m:Nat} {K:AV->Af} (h:i<m):Dw Ac (.sl 1 r o m) (I (i:Int)) K=K (.ptr r (o+i) 0):=by
 have a:Dw Ac (.sl 1 r o m) (I (i:Int)) K=iN (i:Int) λn=>ck (Nat.blt n m) (fN (Nat.add o (Nat.mul n 1)) λp=>K (.ptr r p 0)):=rfl;rw[a,JW,DT];have h1:Nat.blt i m=true:=by rw[Wj];exact h
 rw[h1];show K (.ptr r (o+i*1) 0)=_;rw[pL]
def C31 {k31:AV->AV->Hp->Af} {H0:Hp} {r B:Nat} {q:Bool} {tl:List AV} (hb:l.length<1000000) (V:1<=B) (O:B<l.length)
 (g:∀cs H',Aj H' r=some (.cells q Ar cs)->cs.length=l.length+tl.length->cs.take (PT l).length=AG (PT l)->Lat H0 H' (λu=>u=r)->k31 (.sl 1 r 0 l.length) (I (PT l).length) H'=x):
 ∀(f i:Nat) (cs:List AV) (H':Hp),1<=i->B+i<=l.length->l.length-(B+i)<f->Aj H' r=some (.cells q Ar cs)->cs.length=l.length+tl.length->cs.take (PT (l.take (B+i))).length=AG (PT (l.take (B+i)))->cs.drop (B+i-1)=AG (l.drop (B+i-1))++tl->(PT (l.take (B+i))).length<B+i->Lat H0 H' (λu=>u=r)->
 FA (L+20) R K k31 f (.sl 1 r 0 l.length) (I (PT (l.take (B+i))).length) (.sl 1 r B (l.length-B)) (I i) H'=x:=by
 intro f
 induction f with
 |zero=>intro i cs H' _ _ h;omega
 |succ f ih=>
  intro i cs H' Y Q X m b t y J D;rw[LX];unfold FB Iv OB A0;have N:∀K,Bq Ac (.sl 1 r B (l.length-B)) K=K (I ((l.length-B:Nat):Int)):= λK=>id rfl;rw[N];by_cases h:B+i<l.length
  ·have A:∀j,B+i-1<=j->(d:j<l.length)->(hc:j<cs.length)->cs[j]=S l[j]:= λj h1 d hc=>by
    have c:cs[j]?=(cs.drop (B+i-1))[j-(B+i-1)]?:=by rw[tH];congr 1;omega
    rw[y,l0m (by rw[AX,l0u];omega)] at c;have M:(AG (l.drop (B+i-1)))[j-(B+i-1)]?=some (S l[j]):=by
     unfold AG;rw[wR,tH,show B+i-1+(j-(B+i-1))=j by omega,K9 d];rfl
    rw[M,K9 hc] at c;exact l2c c
   have e:∀{j:Nat} {K:AV->Af},B+i-1<=j->(d:j<l.length)->AF Ai (.ptr r j 0) H' K=K (S l[j]):= λ{j K} h1 d=>by
    rw[AP (p:=j) rfl m (by omega),Vl,K9 (by omega:j<cs.length),l1q,A j h1 d (by omega)]
   have a:=A1O (l:=l) (j:=B+i) (by omega) h;rw[FR (by omega),Cy];simp only[BK];have k:∀{K:AV->Af},Dw Ac (.sl 1 r B (l.length-B)) (I (i:Int)) K=K (.ptr r (B+i) 0):= λ{K}=>B18 (by omega);have C:∀{K:AV->Af},Dw Ac (.sl 1 r B (l.length-B)) (I ((i-1:Nat):Int)) K=K (.ptr r (B+i-1) 0):= λ{K}=>by
    rw[B18 (by omega),show B+(i-1)=B+i-1 by omega]
   rw[k,B7,e (by omega) h,B7,eP (by omega) (by omega),B7,C,B7,e (Mb _) (by omega),B7,YW];by_cases he:l[B+i]=l[B+i-1]
   ·rw[Dj he,Wi] at a;rw[Iu he];show Aq (some (.v (.bool false),[])) _=_;rw[B7,Bj,Dg (by omega)];have:=ih (i+1) cs H' (by omega) (by omega) (by omega) m b (by rw[show B+(i+1)=B+i+1 by omega,a];exact t) (by
     have c:=congrArg (List.drop 1) y;rw[l1a,show B+i-1+1=B+(i+1)-1 by omega] at c;rw[c,l35 (by rw[AX,l0u];omega)]
     congr 1
     unfold AG;rw[<-List.map_drop,l1a,show B+i-1+1=B+(i+1)-1 by omega]) (by rw[show B+(i+1)=B+i+1 by omega,a];omega) D
    rw[show B+(i+1)=B+i+1 by omega,a] at this;exact this
   ·rw[C4 he] at a;rw[IG he];show Aq (some (.v (.bool true),[])) _=_;have F:(PT (l.take (B+i))).length<l.length:=by omega
    rw[B7,Cy,k,e (by omega) h,Rh F,Ed m (by omega) rfl rfl rfl,Dg (by omega),Dg (by omega)];have w:(PT (l.take (B+i+1))).length=(PT (l.take (B+i))).length+1:=by rw[a,EY];rfl
    have:=ih (i+1) (cs.set (PT (l.take (B+i))).length (S l[B+i])) (upd H' r (.cells q Ar (cs.set (PT (l.take (B+i))).length (S l[B+i])))) (by omega) (by omega) (by omega) (AC m) (by rw[List.length_set];exact b) (by
     rw[show B+(i+1)=B+i+1 by omega,w,a];have s:(PT (l.take (B+i))).length<(cs.set (PT (l.take (B+i))).length (S l[B+i])).length:=by rw[List.length_set];omega
     rw[kY s,List.getElem_set_self,List.take_set_of_le (Mb _),t];simp[AG]) (by
     rw[List.drop_set_of_lt (by omega)];have c:=congrArg (List.drop 1) y;rw[l1a,show B+i-1+1=B+(i+1)-1 by omega] at c;rw[c,l35 (by rw[AX,l0u];omega)]
     congr 1
     unfold AG;rw[<-List.map_drop,l1a,show B+i-1+1=B+(i+1)-1 by omega]) (by rw[show B+(i+1)=B+i+1 by omega,w];omega) (D.trans (Lat.upd _ _ _ (P:= λu=>u=r) rfl) (λ_ _ h=>h) (λ_ _ h=>h))
    rw[show B+(i+1)=B+i+1 by omega,w] at this;exact this
  ·have d:B+i=l.length:=by omega
   rw[FP (by omega),Bj];rw[d,W! (Mb _)] at t J⊢;exact g cs H' m b t D
def B5m {v:AV} (wf:Wf H) (h:Nh H v l) (hb:l.length<100000) (hL:200000<L)
 (D:∀N g,Nh g N (PT l)->(∀u,A8 N u->A8 v u)->(v=As->N=As)->Lat H g (A8 v)->K N g=x):(rt (L+20) (n+1)).call Cm [v] H K=x:=by
 rw[I9];unfold Ek A0;simp only[BK];rw[h.len];have e1:(AV.v (.int .i64 1))=I ((1:Nat):Int):=rfl;have e2:(AV.v (.int .i64 2))=I ((2:Nat):Int):=rfl;rw[e1,e2];by_cases h2:l.length<2
 ·rw[FR (by omega),Cy];have ec:PT l=l:=by
   match l,h2 with
   |[],_=>rfl
   |[a],_=>rfl
  rw[ec] at D;exact D v H h (λ_ h=>h) (λh=>h) (Lat.refl _ _)
 ·rw[FP (by omega),Bj];rcases h with⟨_,rfl⟩|⟨r,q,tl,rfl,V⟩
  ·simp at h2
  have C:∀u,A8 (.sl 1 r 0 l.length) u↔u=r:= λu=>⟨λ⟨_,_,_,h⟩=>by injection h with _ h;exact h.symm,λh=>h▸⟨1,0,_,rfl⟩⟩
  have lat:∀{g},Lat H g (λu=>u=r)->Lat H g (A8 (.sl 1 r 0 l.length)):= λk=>⟨k.wf,k.nx,λw u y X hn=>k.keep w u y X λe=>hn ((C u).2 e)⟩
  have s:∀{j:Nat} {K:AV->Af},(M:j<l.length)->AF Ai (.ptr r j 0) H K=K (S l[j]):= λ{j K} M=>by
   rw[AP (p:=j) rfl V (by rw[EY,AX];omega),Vl,l0m (by rw[AX];omega)];unfold AG;rw[wR,K9 M];rfl
  have lp:∀(f i:Nat) (d1 d2:AV),1<=i->i<=l.length->l.length-i<f->PT (l.take i)=l.take i->
   DV (L+20) (rt (L+20) n) K (λv H=>K v H) f (.sl 1 r 0 l.length) (I i) d1 d2 H=x:=by
   intro f
   induction f with
   |zero=>intro i d1 d2 _ _ h;omega
   |succ f ih=>
    intro i d1 d2 A hi hf hc;rw[Ir];unfold DW OB A0;have el:∀K,Bq Ac (.sl 1 r 0 l.length) K=K (I l.length):= λK=>id rfl;rw[el];by_cases d:i<l.length
    ·rw[FR (by omega),Cy,Rh d,B7,s d,B7,eP (by omega) (by omega),B7,Rh (by omega),B7,s (by omega),B7,LV];have b:=A1O (l:=l) (j:=i) A d;by_cases he:l[i]=l[i-1]
     ·rw[Dj he,Wi,hc] at b;rw[Iu he,B7,Cy,YT hi];simp only[BK];rw[e1];have c:(PT (l.take (i+1))).length=i:=by rw[b,l0h];omega
      have main:=C31 (L:=L) (R:=rt (L+20) n) (K:=K) (H0:=H) (r:=r) (B:=i) (q:=q) (tl:=tl) (x:=x)
       (k31:= λF J P=>Ee Ac F (some J) none none λY=>uA 1 Ai Y P λO=>Ee Ac F none (some J) none λZ=>K Z O)
       (by omega) A d (λcs g g1 g2 g3 g4=> ?_) (L+20) 1 (AG l++tl) H (by omega) (by omega) (by omega) V (by rw[EY,AX]) (by
        rw[c,b,l34 (by rw[AX];omega)];simp[AG,List.map_take]) (by
        rw[show i+1-1=i by omega,l35 (by rw[AX];omega)];simp[AG,List.map_drop]) (by rw[c];omega) (Lat.refl _ _)
      ·rw[c] at main;exact main
      ·have t:=B9W l;obtain⟨Q,H2,c1,c2,c3,c4⟩:=B1f (H:=g) (r:=r) (i:=(PT l).length) (m:=l.length-(PT l).length) g1 (by omega);show(Ee Ac (.sl 1 r 0 l.length) (some (I ((PT l).length:Nat))) none none _)=_;rw[YT t,c1,YU t];refine D _ H2 (.inr ⟨r,q,Q.drop (PT l).length,rfl,?_⟩) (λu X=> ?_) (λh=>by cases h) (lat (g4.trans c4 (λ_ _ h=>h) (λ_ _ h=>h)))
       ·rw[c2,<-g3,<-c3,l3a]
       ·obtain⟨_,_,_,h⟩:=X;injection h with _ h
        exact⟨1,0,_,by rw[h]⟩
     ·rw[C4 he,hc] at b;rw[IG he,B7,Bj,Dg (by omega)];exact ih (i+1) _ _ (by omega) (by omega) (by omega) (by rw[b,kY d])
    ·have M:i=l.length:=by omega
     subst M;rw[W! (Mb _)] at hc;rw[FP (by omega),Bj];rw[hc] at D;exact D _ H (.inr ⟨r,q,tl,rfl,V⟩) (λ_ h=>h) (λh=>h) (Lat.refl _ _)
  refine lp (L+20) 1 _ _ (by omega) (by omega) (by omega) ?_
  match l,h2 with
  |[],h2=>simp at h2
  |a::l,_=>rfl
end
end
section
variable {c:Cd} {H:Hp} {D:Nat}
variable {L n:Nat}
section
variable {l:List AM} {P:AM->Bool}
def B4F:(decide (0<=fiN P l 0))=l.any P:=by
 rcases A1o P l 0 with⟨h1,h2⟩|⟨i,d,h1,h2,_⟩
 ·have:l.any P=false:=by
   rw[List.any_eq_false];intro a b;rw[h2 a b];simp
  rw[this,h1];rfl
 ·have:l.any P=true:=List.any_eq_true.2 ⟨_,Qe d,h2⟩;rw[this,h1,Iu (by omega)]
def qU {a fn:AV} (f:SA l a) (i:∀(s:AM) (K:KV),Cr (E (L+20)) (r! L n) fn [S s] [] K=K (Bo (P s)) []) (d:Fx true depth fn fn [] false) (hb:l.length<1000000) (h:l.length<L):CS (r! L (n+2)) B0 [a,fn] (Bo (l.any P)):=by
 intro K g;rw[GG];unfold Dx Lo;rw[AQ (B5k (n:=n) f i hb h) (Am (f.fx []) (Am d AJ))];have e:∀{K:AV->Af},Go.Abs.Ap Ab .geq (I (fiN P l 0)) (AV.v (.int .i64 0)) K=K (Bo (l.any P)):= λ{K}=>by
  rw[L7,B4F]
 rw[e];exact g _ _ λb=>⟨false,C7⟩
end
def A3B {D r:Nat} {es:List Cd} {f:Option (List Nat×Nat)} (h:Aj H r=some (.map false (Dc DF (gE es)) f)):Fx true (D+4) (.mp r) (.imap (Dc DF (gE es))) H true:=by
 intro K;show IJ H r (λx=>oM x λes=>QH (HP true H (D+3)) es λ_ b=>K true (.imap b))=_;rw[Bf h];show QH (HP true H (D+3)) (Dc DF (gE es)) _=_;have e:∀(es:List (AM×Cd)) (F:Bool->List (Value×AV)->Af),QH (HP true H (D+3)) (Dc DF es) F=F false (Dc DF es):=by
  intro es
  induction es with
  |nil=>intro F;rfl
  |cons a es ih=>
   intro F;show HP true H (D+3) (.agg a.2.cs) (λq d=>QH (HP true H (D+3)) (Dc DF es) λi g=>F (@Bool.rec (λ_=>Bool) i true q) ((SV a.1,d)::g))=_;rw[A48,ih];rfl
 rw[e]
section
variable {S out:List Cd} {x:AM}
def B1t (a:∀c∈S,(∀p∈c.ps,p∈out.map Cd.id)->c.id∈out.map Cd.id) (b:Cmp S x):x∈out.map Cd.id:=by
 induction b with
 |mk h1 _ ih=>exact a _ h1 ih
def YJ {l:List Cd} (h:(l.map Cd.id).Nodup):l.Nodup:=List.Pairwise.of_map Cd.id (λa b d e=>d (e▸rfl)) h
structure Ps (S out:List Cd):Prop where
 nd:(out.map Cd.id).Nodup
 sub:∀c∈out,c∈S
 cmp:∀c∈out,Cmp S c.id
def Ps.nil:Ps S []:=⟨List.nodup_nil,by simp,by simp⟩
def Ps.add (h:Ps S out) (hc:c∈S) (m:∀p∈c.ps,p∈out.map Cd.id) (hn:c.id∉out.map Cd.id):Ps S (out++[c]):=by
 have g:Cmp S c.id:= .mk hc λp j=>by
  obtain⟨d,f,i⟩:=Ma.1 (m p j);rw[<-i];exact h.cmp d f
 refine⟨?_,λd f=> ?_,λd f=> ?_⟩
 ·rw[YN];refine l38.2 ⟨h.nd,by simp,λa k b hb=> ?_⟩;simp at hb;subst hb;exact λe=>hn (e▸k)
 ·rcases Zs.1 f with f|f
  ·exact h.sub d f
  ·rw[Ur] at f;subst f;exact hc
 ·rcases Zs.1 f with f|f
  ·exact h.cmp d f
  ·rw[Ur] at f;subst f;exact g
def Ps.done (a:(S.map Cd.id).Nodup) (h:Ps S out) (b:∀c∈S,(∀p∈c.ps,p∈out.map Cd.id)->c.id∈out.map Cd.id):out.Perm (Eo S):=by
 refine(l37 (YJ h.nd) (YJ (Rk a))).2 λc=> ?_;rw[OA];constructor
 ·exact λhc=>⟨h.sub c hc,h.cmp c hc⟩
 ·rintro⟨h1,h2⟩;obtain⟨d,f,e⟩:=Ma.1 (B1t b h2);have a1:=FC a h1;have a2:=FC a (h.sub d f);rw[e,a1] at a2;rw[l2c a2];exact f
def Ps.len (h:Ps S out):out.length<=S.length:=by
 have:=VG h.nd (l2:=S.map Cd.id) λx a=>by
  obtain⟨c,hc,rfl⟩:=Ma.1 a;exact Ma.2 ⟨c,h.sub c hc,rfl⟩
 rw[QI,QI] at this;exact this
def A6t {b:List (AM×Cd)} {k:AM} (h:Mn b k=some c):LJ b k c=b:=by
 induction b with
 |nil=>cases h
 |cons e b ih=>
  unfold Mn at h;unfold LJ;by_cases he:e.1=k
  ·rw[Dj he] at h⊢;cases h
   obtain⟨a,d⟩:=e;simp only at he;subst he;rfl
  ·rw[C4 he] at h⊢;rw[ih h]
end
def B9t {f:Nat} {cs:List AV}:Fx true (D+2) (.fn (.func f) [] [.iptr cs]) (.fn (.func f) [] [.iptr cs]) H false:=yG (D:=D+1) (Am (q:=false) QV AJ)
end
section
variable {A:List Cd}
inductive PC where
 |c (d:Cd)
 |z
def PC.cells:PC->List AV
 | .c d=>d.cs
 | .z=>CH
structure Pk where
 kd:Int
 ds:List AM
 cs:List PC
def Pk.Right (p:Pk):Prop:=p.ds.length<=64/\p.cs.length<=64/\(∀s∈p.ds,s.length=32)/\((p.cs=[]/\(p.kd=1\/p.kd=2))\/(p.ds=[]/\p.kd=3))
def Mm (S:List Cd):List PC->List Cd
 |[]=>S
 | .z::l=>Mm S l
 | .c d::l=>Mm (if d.id∈S.map Cd.id then S else S++[d]) l
def Tw (S:List Cd) (ex:List AM):List Pk:=if ZE S ex=[] then[] else[⟨2,ZE S ex,[]⟩]
def dC (S:List Cd) (ds:List AM):List Pk:=if WS S ds=[] then[] else[⟨3,[],(WS S ds).map .c⟩]
open Classical in
def D1 (S:List Cd) (p:Pk):List Cd×List Pk:=
 if p.Right then
  if p.kd=1 then(S,Tw S (p.ds.filter λx=>decide (x∉S.map Cd.id)))
  else if p.kd=2 then(S,dC S p.ds)
  else(Mm S p.cs,if(Mm S p.cs).length=S.length then[] else Tw (Mm S p.cs) [])
 else(S,[])
structure StIn (l S:List Cd):Prop where
 sub:∀c∈S,c∈l
 nd:(S.map Cd.id).Nodup
section
variable {l S T:List Cd} {c d:Cd} {p:Pk} {x:AM}
def StIn.len (h:StIn l S):S.length<=l.length:=by
 have:=VG h.nd (l2:=l.map Cd.id) λx a=>by
  obtain⟨c,hc,rfl⟩:=Ma.1 a;exact Ma.2 ⟨c,h.sub c hc,rfl⟩
 rw[QI,QI] at this;exact this
theorem StIn.ok (h:StIn l S) (a:GOk l):GOk S:=⟨λc hc=>a.ok c (h.sub c hc),λc hc=>a.nd c (h.sub c hc),h.nd,Z7 h.len a.len⟩
def StIn.add1 (h:StIn l S) (g:d∈l):StIn l (if d.id∈S.map Cd.id then S else S++[d]):=by
 split
 ·exact h
 ·rename_i hn;refine⟨λc hc=> ?_,?_⟩
  ·rcases Zs.1 hc with hc|hc
   ·exact h.sub c hc
   ·rw[Ur] at hc;subst hc;exact g
  ·rw[YN];refine l38.2 ⟨h.nd,by simp,λa f b hb=> ?_⟩;simp at hb;subst hb;exact λe=>hn (e▸f)
def A5L:∀(cs:List PC) {S:List Cd},StIn l S->(∀d,PC.c d∈cs->d∈l)->StIn l (Mm S cs):=by
 intro cs
 induction cs with
 |nil=>intro S h _;exact h
 |cons a cs ih=>
  intro S h hc;cases a with
  |z=>exact ih h λd b=>hc d (by simp[b])
  |c d=>exact ih (h.add1 (hc d (by simp))) λd b=>hc d (by simp[b])
def iO:∀(cs:List Cd) {S:List Cd},Mm S (cs.map .c)=Tb S cs:=by
 intro cs
 induction cs with
 |nil=>intro S;rfl
 |cons a cs ih=>intro S;exact ih
def A1Z:∀(cs:List PC) {S:List Cd},(∀c∈S,c∈Mm S cs)/\(∀c∈Mm S cs,c∈S\/PC.c c∈cs)/\S.length<=(Mm S cs).length:=by
 intro cs
 induction cs with
 |nil=>intro S;exact⟨λ_ h=>h,λ_ h=> .inl h,Mb _⟩
 |cons a cs ih=>
  intro S;cases a with
  |z=>
   obtain⟨h1,h2,b⟩:=ih (S:=S);exact⟨h1,λc hc=>(h2 c hc).imp id λh=>by simp[h],b⟩
  |c d=>
   obtain⟨h1,h2,b⟩:=ih (S:=if d.id∈S.map Cd.id then S else S++[d]);have e:Mm S (.c d::cs)=Mm (if d.id∈S.map Cd.id then S else S++[d]) cs:=rfl;rw[e];by_cases h:d.id∈S.map Cd.id
   ·rw[Dj h] at h1 h2 b⊢;exact⟨h1,λc hc=>(h2 c hc).imp id λh=>by simp[h],b⟩
   ·rw[C4 h] at h1 h2 b⊢;refine⟨λc hc=>h1 c (by simp[hc]),λc hc=> ?_,by simp at b;omega⟩;rcases h2 c hc with h|h
    ·rcases Zs.1 h with h|h
     ·exact .inl h
     ·rw[Ur] at h;exact .inr (by simp[h])
    ·exact .inr (by simp[h])
def B5a:∀(cs:List PC) {S:List Cd},(Mm S cs).length=S.length->Mm S cs=S:=by
 intro cs
 induction cs with
 |nil=>intro S _;rfl
 |cons a cs ih=>
  intro S h;cases a with
  |z=>exact ih h
  |c d=>
   have e:Mm S (.c d::cs)=Mm (if d.id∈S.map Cd.id then S else S++[d]) cs:=rfl;rw[e] at h⊢;by_cases b:d.id∈S.map Cd.id
   ·rw[Dj b] at h⊢;exact ih h
   ·rw[C4 b] at h;have:=(A1Z cs (S:=S++[d])).2.2;simp at this;omega
def A6X:∀(S:List Cd),(∀c∈S,c.ps.length<=3)->(S.flatMap Cd.ps).length<=S.length*3:=by
 intro a
 induction a with
 |nil=>intro _;simp
 |cons c a ih=>
  intro h;have h1:=h c (by simp);have h2:=ih λd b=>h d (by simp[b]);rw[pP,EY,LP,W_];omega
def WJ (h:c.Ok):c.ps.length<=3:=by
 match c,h with
 | .re b u,_=>exact W? _
 | .co b p ps none,⟨_,h2,a,_⟩=>have:=h2.k3;show ps.length<=3;omega
 | .co b p ps (some _),⟨_,h2,a,_⟩=>have:=h2.k3;show ps.length<=3;omega
def B01 (a:GOk S):(IA S).length<=24:=by
 have h1:=A20 (ids:=S.map Cd.id) (S.flatMap Cd.ps) [];have h2:=A6X S λc hc=>WJ (a.ok c hc);have b:=a.len;rw[IA,(Be _).length_eq,QI];simp at h1;simp at h2;omega
def A5y (l:List AM):(PT l).length<=l.length:=by
 induction l with
 |nil=>exact Mb _
 |cons a l ih=>
  unfold PT;cases h:PT l with
  |nil=>simp
  |cons b m=>
   rw[h] at ih;show(if a=b then b::m else a::b::m).length<=_;split
   ·simp at ih⊢;omega
   ·simp at ih⊢;omega
def oY (a:GOk S) {ex:List AM} (h:ex.length<=40):(ZE S ex).length<=64:=by
 have:=A5y (DQ (ex++IA S));rw[(Be _).length_eq,EY] at this;have:=B01 a;unfold ZE;omega
def B9V:∀{l:List AM},l.Pairwise (· <= ·)->(PT l).Pairwise (· < ·):=by
 intro l
 induction l with
 |nil=>intro _;exact .nil
 |cons a l ih=>
  intro h;rw[l2q] at h;have h2:=ih h.2;have hm:∀x,x∈PT l->a<=x:= λx f=>h.1 x (Tu.1 f);unfold PT;cases hc:PT l with
  |nil=>simp
  |cons b m=>
   rw[hc] at h2 hm;show(if a=b then b::m else a::b::m).Pairwise (· < ·);split
   ·exact h2
   ·rename_i g;refine l2q.2 ⟨λx f=> ?_,h2⟩;have hb:a<b:=by
     have:=hm b (by simp);exact(List.le_iff_lt_or_eq.1 this).elim id λe=>absurd e g
    rcases Uf.1 f with rfl|f
    ·exact hb
    ·exact List.lt_trans hb ((l2q.1 h2).1 x f)
def A5f {ws:List AM}:(WS S ws).length<=S.length:=by
 have a:(PT (DQ (ws.filter λx=>decide (x∈S.map Cd.id)))).Nodup:=(B9V (Dy _)).imp λh e=>by subst e;exact List.lt_irrefl _ h
 have h1:(WS S ws).length<=(PT (DQ (ws.filter λx=>decide (x∈S.map Cd.id)))).length:=List.length_filterMap_le _ _;have h2:=VG a (l2:=S.map Cd.id) λx b=>by
  rw[Tu,(Be _).mem_iff,K_,decide_eq_true_eq] at b;exact b.2
 rw[QI] at h2;omega
structure PkIn (l:List Cd) (p:Pk):Prop where
 right:p.Right
 mem:∀c∈p.cs,∃d∈l,c= .c d
 few:p.kd=1->p.ds.length<=40
def pF (k:GOk l) (h:StIn l S) (n:PkIn l p):StIn l (D1 S p).1/\(∀c∈S,c∈(D1 S p).1)/\∀q∈(D1 S p).2,PkIn l q:=by
 have u:=h.ok k;have hm:∀{T},StIn l T->∀x∈IA T,x.length=32:= λ{T} f x r=>by
  obtain⟨_,c,hc,a⟩:=Jn.1 r;have:=k.ok c (f.sub c hc)
  match c,this,a with
  | .re _ _,_,a=>cases a
  | .co _ _ ps none,⟨_,_,_,g,_⟩,a=>exact g x a
  | .co _ _ ps (some _),⟨_,_,_,g,_⟩,a=>exact g x a
 have t:∀{T ex},StIn l T->(∀x∈ex,x.length=32)->ex.length<=40->∀q∈Tw T ex,PkIn l q:= λ{T ex} f he j q hq=>by
  unfold Tw at hq;split at hq
  ·cases hq
  ·rw[Ur] at hq;subst hq;exact⟨⟨oY (f.ok k) j,by simp,λs w=>(PJ.1 w).elim (he s) (hm f s),.inl ⟨rfl,.inr rfl⟩⟩,by simp,λh=>by cases h⟩
 have hr:=n.right;unfold D1;rw[Dj hr];obtain⟨r1,r2,y,B⟩:=hr;split
 ·rename_i v;exact⟨h,λ_ h=>h,t h (λx r=>y x (K_.1 r).1) (Z7 (l32 _ _) (n.few v))⟩
 ·split
  ·refine⟨h,λ_ h=>h,λq hq=> ?_⟩;change q∈dC S p.ds at hq;unfold dC at hq;split at hq
   ·cases hq
   ·rw[Ur] at hq;subst hq;refine⟨⟨by simp,?_,by simp,.inr ⟨rfl,rfl⟩⟩,λc hc=> ?_,λh=>by cases h⟩
    ·show((WS S p.ds).map PC.c).length<=64;rw[QI];have:=A5f (S:=S) (ws:=p.ds);have:=u.len;omega
    ·obtain⟨d,i,rfl⟩:=Ma.1 hc;exact⟨d,h.sub d ((Wn h.nd).1 i).1,rfl⟩
  ·have b:StIn l (Mm S p.cs):=A5L p.cs h λd i=>by
    obtain⟨e,he,m⟩:=n.mem _ i;injection m with m
    exact m▸he
   refine⟨b,(A1Z p.cs).1,λq hq=> ?_⟩;change q∈(if(Mm S p.cs).length=S.length then[] else Tw (Mm S p.cs) []) at hq;split at hq
   ·cases hq
   ·exact t b (by simp) (by simp) q hq
def OS (A:List Cd):Nat->List Cd->List Pk->List Cd×Bool
 |0,B,_=>(B,false)
 |n+1,B,a=>match a with
  |[]=>(B,true)
  |w::_=>match(D1 A w).2 with
   |[]=>(B,true)
   |b::_=>OS A n (D1 B b).1 (D1 B b).2
def Me (A:List Cd):Pk:=⟨1,EG (Eo A),[]⟩
def wP (ws:List AM):List Pk:=if ws=[] then[] else[⟨2,ws,[]⟩]
def B5y (e:GOk l) (h:StIn l S) (f:x∈IA S):x.length=32:=by
 obtain⟨_,c,hc,a⟩:=Jn.1 f;have:=e.ok c (h.sub c hc)
 match c,this,a with
 | .re _ _,_,a=>cases a
 | .co _ _ ps none,⟨_,_,_,b,_⟩,a=>exact b x a
 | .co _ _ ps (some _),⟨_,_,_,b,_⟩,a=>exact b x a
def B3e (j:GOk l) (g:StIn l A):∀(n:Nat) (B:List Cd) (ws:List AM),StIn l B->ws.length<=64->(∀x∈ws,x.length=32)->(∀x∈ws,x∉B.map Cd.id)->OS A n B (wP ws)=QG A n B ws/\StIn l (QG A n B ws).1:=by
 intro n
 induction n with
 |zero=>intro B ws b _ _ _;exact⟨rfl,b⟩
 |succ n ih=>
  intro B ws b y i f;unfold OS QG wP;by_cases h1:ws=[]
  ·rw[Dj h1,Dj h1];exact⟨rfl,b⟩
  ·rw[C4 h1,C4 h1];have u:D1 A ⟨2,ws,[]⟩=(A,dC A ws):=by
    have hr:Pk.Right ⟨2,ws,[]⟩:=⟨y,by simp,i,.inl ⟨rfl,.inr rfl⟩⟩
    unfold D1;rw[Dj hr,C4 (show¬(2:Int)=1 by decide),Dj rfl]
   simp only[u];unfold dC;by_cases h2:WS A ws=[]
   ·rw[Dj h2,Dj h2];exact⟨rfl,b⟩
   ·rw[C4 h2,C4 h2];have a:StIn l (Tb B (WS A ws)):=by
     rw[<-iO];exact A5L _ b λd w=>by
      obtain⟨e,he,m⟩:=Ma.1 w;injection m with m
      subst m;exact g.sub _ ((Wn g.nd).1 he).1
    have v:D1 B ⟨3,[],(WS A ws).map .c⟩=(Tb B (WS A ws),if(Tb B (WS A ws)).length=B.length then[] else Tw (Tb B (WS A ws)) []):=by
     have k:((WS A ws).map PC.c).length<=64:=by
      rw[QI];have:=A5f (S:=A) (ws:=ws);have:=(g.ok j).len;omega
     have hr:Pk.Right ⟨3,[],(WS A ws).map .c⟩:=⟨by simp,k,by simp,.inr ⟨rfl,rfl⟩⟩
     unfold D1;rw[Dj hr,C4 (show¬(3:Int)=1 by decide),C4 (show¬(3:Int)=2 by decide),iO]
    simp only[v];have q:(Tb B (WS A ws)).length≠B.length:= λhe=>by
     rw[<-iO] at he;have he:=B5a _ he;rw[iO] at he;obtain⟨c,hc⟩:=List.exists_mem_of_ne_nil _ h2;have t:=(A21 (WS A ws) B).2.2.1 c hc;rw[he] at t;exact f _ ((Wn g.nd).1 hc).2 t
    rw[C4 q];have r:=oY (a.ok j) (ex:=[]) (by simp);exact ih _ _ a r (λx s=>(PJ.1 s).elim (λh=>by cases h) (B5y j a)) (λx s=>(PJ.1 s).elim (λh=>by cases h) λh=>(Jn.1 h).1)
def A1b (e:GOk l) (b:StIn l A):PkIn l (Me A)/\(EG (Eo A)).length<=8:=by
 have h1:=yF (gs:=Eo A);have h2:(Eo A).length<=A.length:=l32 _ _;have g:=(b.ok e).len;have a:(EG (Eo A)).length<=8:=by omega
 refine⟨⟨⟨by show(EG (Eo A)).length<=64;omega,by simp[Me],λs f=> ?_,.inl ⟨rfl,.inl rfl⟩⟩,by simp[Me],λ_=>by show(EG (Eo A)).length<=40;omega⟩,a⟩;obtain⟨c,_,rfl⟩:=Ma.1 (PA.1 f).1;exact R_ c
def D' (a:GOk l) {A B:List Cd} (b:StIn l A) (e:StIn l B) {n:Nat} (hn:8<n):(D1 B (Me A)).1=B/\(OS A n B (D1 B (Me A)).2).2=true/\StIn l (OS A n B (D1 B (Me A)).2).1/\(∀c∈B,c∈(OS A n B (D1 B (Me A)).2).1)/\
 ∀x,Cmp A x->Cmp (OS A n B (D1 B (Me A)).2).1 x:=by
 obtain⟨i,m⟩:=A1b a b;have r:((EG (Eo A)).filter λx=>decide (x∉B.map Cd.id)).length<=8:=Z7 (l32 _ _) m;have k:D1 B (Me A)=(B,wP (ZE B ((EG (Eo A)).filter λx=>decide (x∉B.map Cd.id)))):=by
  unfold D1;rw[Dj i.right,Dj (show(Me A).kd=1 from rfl)];rfl
 rw[k];have f:=oY (e.ok a) (ex:=(EG (Eo A)).filter λx=>decide (x∉B.map Cd.id)) (Z7 r (by decide));obtain⟨q1,q2⟩:=B3e a b n B _ e f (λx g=>(PJ.1 g).elim (λh=>i.right.2.2.1 x (K_.1 h).1) (B5y a e)) (λx g=>(PJ.1 g).elim (λh=>by
  have:=(K_.1 h).2
  rwa[decide_eq_true_eq] at this) λh=>(Jn.1 h).1)
 have j:=(b.ok a).len;obtain⟨s,t,v,w,u⟩:=B3d b.nd e.nd (λc hc d q he=>by
  have a1:=FC a.ids (b.sub c hc);have a2:=FC a.ids (e.sub d q);rw[he,a2] at a1;exact(l2c a1).symm) (n:=n) (by omega)
 refine⟨rfl,?_⟩;show(OS A n B (wP (ZE B ((EG (Eo A)).filter λx=>decide (x∉B.map Cd.id))))).2=true/\StIn l (OS A n B (wP (ZE B ((EG (Eo A)).filter λx=>decide (x∉B.map Cd.id))))).1/\(∀c∈B,c∈(OS A n B (wP (ZE B ((EG (Eo A)).filter λx=>decide (x∉B.map Cd.id))))).1)/\∀x,Cmp A x->Cmp (OS A n B (wP (ZE B ((EG (Eo A)).filter λx=>decide (x∉B.map Cd.id))))).1 x;rw[q1];exact⟨s,q2,t,u⟩
def B1P (h:StIn l S):StIn l (Nx S):=by
 refine⟨λc hc=>h.sub c (OA.1 ((A1X h.nd).1 hc)).1,?_⟩;rw[uQ h.nd];exact(NN (gs:=Eo S)).1.nd
end
end
end Go.Abs
end
