import Derived.Test.YtobbbklaopaiaaaGreatDoorP29
set_option linter.all false
set_option maxHeartbeats 100000000
noncomputable section
namespace Go.Abs
open Go.RowKit Go.Proofs
set_option maxRecDepth 100000
section
variable{q:Bool}{H1:Hp}{es:List vR}{f r u:Nat}{bo:Option (Hb×Nat)}
variable{L n:Nat}
abbrev iV:Nat->AV:=λk=>I (k:Int)
abbrev aV:AV->AV:=λa=>a
section
variable{H H':Hp}{K:KV}{x:Af}{v:AV}{l:List AN}
def A5M{α:Type}{f:α->AV}{b:List (AN×α)}{x:AN}{v:α}(h:Aj H r=some (.map false (Df f b) bo)):∃c,∀K:Ru,Mm (.mp r) (SV x) (f v) H K=K (upd H r (.map false (Df f (LP b x v)) c)):=by
 have e:∀K:Ru,Mm (.mp r) (SV x) (f v) H K=I6 H r λy=>lL y λes bo=>I5 (SV x) es λq=>match q with
  |none=>Ll H r (.map false (es++[(SV x,f v)]) (uZ bo)) K
  |some (i,_)=>Ll H r (.map false (es.set i (SV x,f v)) bo) K:=λK=>rfl
 obtain⟨h1,h2⟩:=A1v (x:=x) v b 0;cases a:Yx x b 0 with
 |none=>
  rw[a]at h1;refine⟨uZ bo,λK=>?_⟩;rw[e,AX h];show I5 (SV x) (Df f b) _=_;rw[kfK,a];show Ll H r (.map false (Df f b++[(SV x,f v)]) (uZ bo)) K=_;rw[Dh,<-h1,Df,Df,Za];rfl
 |some p=>
  obtain⟨j,w⟩:=p;rw[a]at h1;refine⟨bo,λK=>?_⟩;rw[e,AX h];show I5 (SV x) (Df f b) _=_;rw[kfK,a];show Ll H r (.map false ((Df f b).set j (SV x,f v)) bo) K=_;rw[Dh,<-h1,Df,Df,List.map_set,Nat.sub_zero]
def tQ{x:Row}{es:IH}(h:Aj H r=some x):Aj (upd H r (.map false es bo)) r=some (.map false es bo):=(B8 h).trans rfl
def HV:¬A8 Aw u:=λ⟨_,_,_,h⟩=>by cases h
def B0.rq(h:B0 H Av 1 v l.length (AG l)):Nn H v l:=by
 rcases h with⟨h1,h2,_⟩|⟨r,q,h1,h2,_⟩
 ·exact .inl ⟨h1,gL h2⟩
 ·exact .inr ⟨r,q,[],h1,by rw[UC];exact h2⟩
def B5g{e sz m:Nat}{cs:Is}(h:B0 H e sz v m cs):dZ v v=true:=by
 rcases h with⟨rfl,_⟩|⟨r,q,rfl,_⟩
 ·rfl
 ·show(Nat.beq sz sz&&(Nat.beq r r&&(Nat.beq 0 0&&Nat.beq m m)))=true;rw[jH,jH,jH,jH];rfl
def okS{a:AV}{K:Af}(h:dZ a a=true):Ra (Bc (some (a,H)) a) K=K:=by
 show Ra (some (.v (.bool (dZ a a)),[])) K=K;rw[h];rfl
def C3x(b:AN)(h:Nn H v l)(w:Wf H)(hn:l.length<1000000):∃m H',(∀K:KV,(GM Av 1 Ak 1 [(0,1,S b)] H λv1 H1=>E5 Av 1 Ak Ac v v1 H1 K)=K m H')/\Nn H' m (l++[b])/\Lat H H' (A8 v)/\(∀u,A8 m u->As H<=u):=by
 have main:∃H1,(∀K:KV,E5 Av 1 Ak Ac v (.sl 1 (As H) 0 1) ((As H,.cells false Av [S b])::H) K=E5 Av 1 Ak Ac v (.sl 1 (As H) 0 1) H1 K)/\B0 H1 Av 1 v l.length (AG l)/\Lat ((As H,.cells false Av [S b])::H) H1 (A8 v)/\As H1=As H+1:=by
  rcases h with⟨rfl,rfl⟩|⟨r,q,c,rfl,F⟩
  ·exact⟨_,λK=>rfl,.inl ⟨rfl,rfl,rfl⟩,Lat.refl _ _,rfl⟩
  ·have A:=w.lt F;have a:=A7 (x:=.cells false Av [S b]) A F;cases c with
   |nil=>
    rw[UC]at a;exact⟨_,λK=>rfl,.inr ⟨r,q,rfl,a,by rw[AZ];omega⟩,Lat.refl _ _,rfl⟩
   |cons t c=>
    have d:=AC (q:=false) (e:=Av) (cs:=AG l) a;refine⟨upd ((As H,.cells false Av [S b])::H) r (.cells false Av (AG l)),λK=>?_,.inr ⟨r,false,rfl,d,by rw[AZ];omega⟩,Lat.upd _ _ _ ⟨1,0,_,rfl⟩,by rw[BB];rfl⟩;have e:∀H,E5 Av 1 Ak Ac (.sl 1 r 0 l.length) (.sl 1 (As H) 0 1) H K=E5 Av 1 Ak Ac (.sl 1 r 0 l.length) (.sl 1 (As H) 0 1) H K:=λ_=>rfl;have C:∀(j:Hp)(src:AV),E5 Av 1 Ak Ac (.sl 1 r 0 l.length) src j K=I6 j r λx=>J6 x λE cs=>G6 cs 0 λcl=>@Bool.rec (λ_=>Af) (OW (Nat.add 0 (Nat.mul l.length 1)) cs λg=>Ll j r (.cells false E g) λH1=>Qw Av 1 Ak Ac (.sl 1 r 0 l.length) src H1 K) (Qw Av 1 Ak Ac (.sl 1 r 0 l.length) src j K) (Nat.beq (Nat.add 0 (Nat.mul l.length 1)) cl):=λj src=>rfl;have J:Nat.add 0 (Nat.mul l.length 1)=l.length:=by show 0+l.length*1=l.length;omega
    rw[C,C,AX a,AX d,J];show(G6 (AG l++t::c) 0 λcl=>@Bool.rec (λ_=>Af) (OW l.length (AG l++t::c) λg=>Ll _ r (.cells false Av g) λH1=>Qw Av 1 Ak Ac (.sl 1 r 0 l.length) _ H1 K) _ (Nat.beq l.length cl))=(G6 (AG l) 0 λcl=>@Bool.rec (λ_=>Af) _ (Qw Av 1 Ak Ac (.sl 1 r 0 l.length) _ _ K) (Nat.beq l.length cl))
    rw[Cl,Cl,Jt,Jt,AZ,jH,EC,AZ,LV];have hb:Nat.beq l.length (l.length+(c.length+1))=false:=by
     cases hc:Nat.beq l.length (l.length+(c.length+1)) with
     |false=>rfl
     |true=>have:=Yo hc;omega
    rw[hb];show OW l.length (AG l++t::c) _=_;rw[MD];have M:(AG l++t::c).take l.length=AG l:=by
     have:=List.take_left (l₁:=AG l) (l₂:=t::c);rw[AZ]at this;exact this
    rw[M,Dh]
 obtain⟨H1,m1,Q,m3,V⟩:=main;have i:=NI (H:=H) (e:=Av) (n:=1) (cs:=[S b]) rfl;have B:∀u,A8 (.sl 1 (As H) 0 1) u->¬A8 v u:=λu ⟨_,_,_,h1⟩ d=>by
  injection h1 with _ h1
  have:=h.lt w d;omega
 have k:B0 H1 Av 1 (.sl 1 (As H) 0 1) 1 [S b]:=i.kp λu y d P=>m3.keep (AJ w) u y P (B u d);obtain⟨m,H',h1,h2,N,O⟩:=apt (ie:=Ak) (i2:=Ac) Q (λK=>Rq (K:=K) k) rfl rfl (by decide) rfl rfl (by show(l.length+1)*16<=_;omega) (by omega);refine⟨m,H',λK=>?_,?_,((Lat.cons H _ (A8 v)).trans m3 (R:=A8 v) (λ_ _ h=>h) (λ_ _ h=>h)).trans O (λ_ _ h=>h) (λ_ _ h=>h),λu d=>?_⟩
 ·rw[uY (z:=S []) (λ_=>rfl) (λ_=>rfl) rfl,m1];exact h1 K
 ·refine B0.rq ?_;rw[EC,<-jW];exact h2
 ·rw[N u d,V];omega
end
section
variable{H:Hp}{K:KV}{D:Nat}{b:Bool}
def Wy{c:Nat}{q q':Bool}{e:TypeId}{cs cs':Is}(d:Aj H c=some (.cells q e cs))(h:R5 b D cs cs' H q'):Fx b (D+1) (.ptr c 0 0) (.iptr cs') H true:=λK=>by
 show I6 H c (λx=>J6 x λ_ cs=>IE (HQ b H D) (Dg (Nat.add 0 0) cs) λ_ a=>K true (.iptr a))=_;rw[AX d];show IE (HQ b H D) cs _=_;rw[h]
def yT{cs cs':Is}(h:R5 b D cs cs' H q):Fx b (D+1) (.fn (.func f) [] cs) (.fn (.func f) [] cs') H q:=λK=>h _
def B9E{ws:List (AN×Nat)}(h:Aj H r=some (.map false (Df iV ws) bo)):Fx true (D+1) (.mp r) (.imap (Df iV ws)) H true:=λK=>by
 show I6 H r (λx=>oZ x λes=>QS (HQ true H D) es λ_ c=>K true (.imap c))=_;rw[AX h];show QS (HQ true H D) (Df iV ws) _=_;have e:∀(es:List (AN×Nat))(F:Bool->IH->Af),QS (HQ true H D) (Df iV es) F=F false (Df iV es):=by
  intro es
  induction es with
  |nil=>intro F;rfl
  |cons a es ih=>
   intro F;show HQ true H D (.v (.int .i64 (a.2:Int))) (λq d=>QS (HQ true H D) (Df iV es) λi g=>F (@Bool.rec (λ_=>Bool) i true q) ((SV a.1,d)::g))=_;rw[C7,ih];rfl
 rw[e]
def A_{f N:Nat}{c:AV}{s:AN}(h1:(E (L+20)).ne f=false)(h2:(E (L+20)).imp f=false):Ct (E (L+20)) (rt (L+20) N) (.fn (.func f) [] [c]) [S s] H K=Ao (rt (L+20) N) f [S s,c] H λv=>K v H:=by
 show SN [S s] [c] (λa=>SN [] a λall=>A1B ((E (L+20)).ne f) all H K (@Bool.rec (λ_=>Af) (zpm (E (L+20)) f (rt (L+20) N) all H λv=>K v H) ((rt (L+20) N).call f all H K) ((E (L+20)).imp f)))=_;rw[Jv,Jv,h1,h2];show zpm (E (L+20)) f (rt (L+20) N) [S s,c] H (λv=>K v H)=_;rw[A2t (by simp)]
def C16{m s:AN}:CS (r! L (n+1)) J0 [S s,.iptr [S m]] (Bo (decide (s=m))):=by
 intro K a;rw[Z6];unfold Og Lr;rw[LD,Mb];exact a _ _ λb=>⟨false,C7⟩
def A4R{ws:List (AN×Nat)}{s:AN}:CS (r! L (n+1)) Lc [S s,.iptr [.imap (Df iV ws)]] (Bo (decide (0<(Mu ws s).getD 0))):=by
 intro K a;rw[Z7];unfold Oh Lr;have h:∀{K:K2},AD DP (.iptr [.imap (Df iV ws)]) [] K=K (.imap (Df iV ws)):=λ{K}=>Ni rfl;have g:∀(F:Value->Af),LW (S s) F=F (SV s):=λF=>id rfl;rw[h,g,qF (f:=iV) (b:=ws) (λK=>id rfl)];have c:∀(k:Nat)(K:K2),Ap Ab .gtr (iV k) (AV.v (.int .i64 0)) K=K (Bo (decide (0<k))):=λk K=>by
  have e:decide ((0:Int)<(k:Int))=decide (0<k):=decide_eq_decide.2 (by omega);rw[Eo,e]
 cases d:Mu ws s with
 |none=>
  rw[d]at a;show Ap Ab .gtr (iV 0) (AV.v (.int .i64 0)) _=_;rw[c];exact a _ _ λb=>⟨false,C7⟩
 |some k=>
  rw[d]at a;show Ap Ab .gtr (iV k) (AV.v (.int .i64 0)) _=_;rw[c];exact a _ _ λb=>⟨false,C7⟩
end
structure OsK(gs:ed)(ws:List (AN×Nat))(ch:List (AN×AV))(b1 b3:Option (Hb×Nat))(wt:AN->Nat)(ct:AN->List AN)(H:Hp):Prop where
 net:Aj H 0=some (c_ CC [gV gs])
 m1:Aj H 1=some (.map false (Df iV ws) b1)
 p1:Aj H 2=some (c_ IG [.mp 1])
 m3:Aj H 3=some (.map false (Df aV ch) b3)
 p3:Aj H 4=some (c_ EP [.mp 3])
 wf:Wf H
 wv:∀x,(Mu ws x).getD 0=wt x
 cv:∀p,B0 H Av 1 ((Mu ch p).getD Aw) (ct p).length (AG (ct p))
 cr:∀p u,A8 ((Mu ch p).getD Aw) u->6<u
 cd:∀p p' u,A8 ((Mu ch p).getD Aw) u->A8 ((Mu ch p').getD Aw) u->p=p'
section
variable{gs:ed}{ws:List (AN×Nat)}{ch:List (AN×AV)}{b1 b3:Option (Hb×Nat)}{wt:AN->Nat}{ct:AN->List AN}{H H':Hp}{s p:AN}
theorem OsK.kp(h:OsK gs ws ch b1 b3 wt ct H)(w:Wf H')(k:∀u y,(u<5\/∃p,A8 ((Mu ch p).getD Aw) u)->Aj H u=some y->Aj H' u=some y):OsK gs ws ch b1 b3 wt ct H':=
 ⟨k _ _ (.inl (by decide)) h.net,k _ _ (.inl (by decide)) h.m1,k _ _ (.inl (by decide)) h.p1,k _ _ (.inl (by decide)) h.m3,k _ _ (.inl (by decide)) h.p3,w,h.wv,λp=>(h.cv p).kp λu y a c=>k u y (.inr ⟨p,a⟩) c,h.cr,h.cd⟩
def OsK.ne(h:OsK gs ws ch b1 b3 wt ct H)(a:u<5\/∃p,A8 ((Mu ch p).getD Aw) u):u≠5/\u≠6:=by
 rcases a with a|⟨q,a⟩
 ·omega
 ·have:=h.cr q u a;omega
def OsK.lw(h:OsK gs ws ch b1 b3 wt ct H){K:K2}:Zi Ab false (.mp 1) (SV s) H K=K (I (wt s:Int)):=by
 rw[qF (f:=iV) (b:=ws) (λK=>Ze h.m1),<-h.wv s];cases Mu ws s<;>rfl
def OsK.lc(h:OsK gs ws ch b1 b3 wt ct H){K:K2}:Zi Ac false (.mp 3) (SV p) H K=K ((Mu ch p).getD Aw):=by
 rw[qF (f:=aV) (b:=ch) (λK=>Ze h.m3)];cases Mu ch p<;>rfl
def OsK.put(h:OsK gs ws ch b1 b3 wt ct H)(k:Nat):∃a H',(∀K:Ru,Mm (.mp 1) (SV s) (I (k:Int)) H K=K H')/\OsK gs (LP ws s k) ch a b3 (λx=>if s=x then k else wt x) ct H'/\H'=upd H 1 (.map false (Df iV (LP ws s k)) a):=by
 obtain⟨a,e⟩:=A5M (f:=iV) (x:=s) (v:=k) h.m1;have n1:∀u,u≠1->Aj (upd H 1 (.map false (Df iV (LP ws s k)) a)) u=Aj H u:=λu d=>Ag d;refine⟨a,_,e,⟨by rw[n1 _ (by decide)];exact h.net,tQ h.m1,by rw[n1 _ (by decide)];exact h.p1,by rw[n1 _ (by decide)];exact h.m3,by rw[n1 _ (by decide)];exact h.p3,Bq h.wf,λx=>?_,λp=>?_,h.cr,h.cd⟩,rfl⟩
 ·rw[iD];by_cases c:s=x
  ·rw[Dl c,Dl c];rfl
  ·rw[C5 c,C5 c];exact h.wv x
 ·exact(h.cv p).kp λu y d g=>by rw[n1 _ (by have:=h.cr p u d;omega)];exact g
end
def jR(gs:ed)(es:List vR)(x:AN):Nat:=(es.filter λe=>decide (e.1=x)&&decide (e.2∈gs.map Cd.id)).length
def iU(gs:ed)(es:List vR)(p:AN):List AN:=(es.filter λe=>decide (e.2=p)&&decide (p∈gs.map Cd.id)).map Prod.fst
def A4P{gs:ed}{s p x:AN}:jR gs (es++[(s,p)]) x=if p∈gs.map Cd.id then(if s=x then jR gs es s+1 else jR gs es x) else jR gs es x:=by
 unfold jR;rw[List.filter_append,EC];by_cases h1:p∈gs.map Cd.id
 ·rw[Dl h1];by_cases h2:s=x
  ·subst h2;rw[Dl rfl,List.filter_cons_of_pos (by simp only[Hj h1,decide_true,Bool.and_self])];rfl
  ·rw[C5 h2,List.filter_cons_of_neg (by simp only[HX h2,Bool.false_and];simp)];rfl
 ·rw[C5 h1,List.filter_cons_of_neg (by simp only[HX h1,Bool.and_false];simp)];rfl
def A5S{gs:ed}{s p q:AN}:iU gs (es++[(s,p)]) q=if p∈gs.map Cd.id then(if p=q then iU gs es p++[s] else iU gs es q) else iU gs es q:=by
 unfold iU;rw[List.filter_append,Za];by_cases h1:p∈gs.map Cd.id
 ·rw[Dl h1];by_cases h2:p=q
  ·subst h2;rw[Dl rfl,List.filter_cons_of_pos (by simp only[Hj h1,decide_true,Bool.and_self])];rfl
  ·rw[C5 h2,List.filter_cons_of_neg (by simp only[HX h2,Bool.false_and];simp)];exact UC _
 ·rw[C5 h1,List.filter_cons_of_neg (by
   by_cases h2:p=q
   ·subst h2;simp only[HX h1,Bool.and_false];simp
   ·simp only[HX h2,Bool.false_and];simp)]
  exact UC _
def B6j{gs:ed}{x:AN}:jR gs es x<=es.length:=l32 _ _
def U'{gs:ed}{p:AN}:(iU gs es p).length<=es.length:=by
 unfold iU;rw[Qa];exact l32 _ _
def pX(gs:ed)(p:Option (Option Code)):Row:=.loop 86 [(2,Aw),(3,.v (.int .i64 0)),(4,.ptr 0 0 0),(6,.ptr 2 0 0),(7,.ptr 4 0 0),(8,.dk),(9,.dk),(10,.dk),(11,.dk),(25,B17 gs),(26,.dk),(27,.dk),(28,.dk),(29,.dk),(30,.dk),(31,.dk),(32,.dk),(33,.dk),(34,.dk),(35,.dk),(36,.dk),(37,.dk),(38,.dk),(39,.dk),(40,.dk),(41,.dk),(42,.dk),(61,.dk),(62,.dk),(63,.dk)] (ES).2.1 (ES).2.2.1 (ES).2.2.2 p
def C3D(gs:ed)(es:List vR)(H:Hp):Prop:=Aj H 5=some (pX gs (some none))/\∃ws ch b1 b3,OsK gs ws ch b1 b3 (jR gs es) (iU gs es) H
section
variable{gs:ed}
def B5M{K:Ru}(h:Aj H1 5=some (pX gs none)):E7 H1 5 false (some none) K=K (upd H1 5 (pX gs (some none))):=Pg h
def C28{K:Ru}(h:Aj H1 5=some (pX gs (some none))):E7 H1 5 true none K=K (upd H1 5 (pX gs none)):=Ph h
def B3x:vH (r! L (n+2)) L 5 6 (C3D gs):=by
 intro es s p H K x ak ⟨J,ws,ch,b1,b3,h⟩ hx;show XA6 (r! L (n+2)) 5 [S s,S p] H K=x;rw[OY J (by kernel_rfl)];have aa:(r! L (n+2)).run= λcf=>OK (E (L+20)) (r! L (n+1)) cf:=rfl;rw[aa,kO,C28 J];simp only[BJ];have h1:OsK gs ws ch b1 b3 (jR gs es) (iU gs es) (upd H 5 (pX gs none)):=h.kp (Bq h.wf) λu y c g=>by
  rw[Ag (h.ne c).1];exact g
 have A:Aj (upd H 5 (pX gs none)) 5=some (pX gs none):=Ff J;have k1:∀y,Aj H 6=some y->Aj (upd H 5 (pX gs none)) 6=some y:=λy g=>by rw[Ag (by decide)];exact g
 generalize upd H 5 (pX gs none)=H1 at h1 A k1;show AD Ai (.ptr 0 0 0) H1 _=_;rw[AQ (p:=0) rfl h1.net (by simp)];show Ao (r! L (n+1)) Fj [gV gs,S p] H1 _=_;rw[A4T];by_cases Q:p∈gs.map Cd.id
 ·rw[Hj Q];show A2 (.v (.bool true)) _ _=_;rw[Cr];show AD DP (.ptr 2 0 0) H1 _=_;have R:∀(s:AN)(F:Value->Af),LW (S s) F=F (SV s):=λs F=>id rfl;rw[AQ (p:=0) rfl h1.p1 (by simp),R];show Zi Ab false (.mp 1) (SV s) H1 _=_;rw[h1.lw,Dd (by have:=B6j (gs:=gs) (es:=es) (x:=s);omega),R];obtain⟨j,w,P,h2,C⟩:=h1.put (s:=s) (jR gs es s+1);show Mm (.mp 1) (SV s) (I ((jR gs es s+1:Nat):Int)) H1 _=_;rw[P];have Y:Aj w 5=some (pX gs none):=by rw[C,Ag (by decide)];exact A
  have k2:∀y,Aj H 6=some y->Aj w 6=some y:=λy g=>by rw[C,Ag (by decide)];exact k1 y g
  clear C P;have V:∀{H:Hp}{wt:AN->Nat}{j:Option (Hb×Nat)}{ac:List (AN×Nat)}{K:K2},OsK gs ac ch j b3 wt (iU gs es) H->AD BD (.ptr 4 0 0) H K=K (.mp 3):=λ{H wt j ac K}h=>by
   rw[AQ (p:=0) rfl h.p3 (by simp)];rfl
  rw[V h2,B4,B4,R];have aj:=h2.cv p;have ai:∀u,A8 ((Mu ch p).getD Aw) u->6<u:=h2.cr p;rw[h2.lc,B4,uY (z:=S []) (λ_=>rfl) (λ_=>rfl) rfl,SW];have d:OsK gs (LP ws s (jR gs es s+1)) ch j b3 (λx=>if s=x then jR gs es s+1 else jR gs es x) (iU gs es) ((As w,.cells false Av [S s])::w):=h2.kp (AJ h2.wf) λu y _ g=>A7 (h2.wf.lt g) g;have am:As ((As w,Row.cells false Av [S s])::w)=As w+1:=rfl;have ah:=h2.wf.lt Y;have ab:=NI (H:=w) (e:=Av) (n:=1) (cs:=[S s]) rfl;obtain⟨N,B,a1,a2,a3,O⟩:=apt (ie:=Ak) (i2:=Ac) (d.cv p) (λK=>Rq (K:=K) ab) rfl rfl (by decide) rfl rfl (by have:=U' (gs:=gs) (es:=es) (p:=p);show((iU gs es p).length+1)*16<=_;omega) (by have:=U' (gs:=gs) (es:=es) (p:=p);omega);rw[a1,SW,R];have nr:∀{u:Nat},u<7->¬A8 ((Mu ch p).getD Aw) u:=λc h=>by have:=ai _ h;omega
  have X:=O.keep d.wf 3 _ d.m3 (nr (by decide));obtain⟨k,e5⟩:=A5M (f:=aV) (x:=p) (v:=N) X;show D5 (Mm (.mp 3) (SV p) (aV N) B λH=>some (AV.v undef,H)) _=_;rw[e5,SW,V d];have M:∀{K:Af},Ra (Bc (some (AV.mp 3,[])) (.mp 3)) K=K:=λ{K}=>okS rfl;have ae:Aj B 4=some (c_ EP [.mp 3]):=O.keep d.wf 4 _ d.p3 (nr (by decide));have ad:∀{K:K2},AD BD (.ptr 4 0 0) B K=K (.mp 3):=λ{K}=>by
   rw[AQ (p:=0) rfl ae (by simp)];rfl
  rw[M,ad,M,M,R,d.lc,okS (B5g aj)];have w4:=O.wf d.wf;have af:=A7 (x:=.cells false Av [S s]) ah Y;have ag:=O.keep d.wf 5 _ af (nr (by decide));have Z:Aj (upd B 3 (.map false (Df aV (LP ch p N)) k)) 5=some (pX gs none):=by rw[Ag (by decide)];exact ag
  show E7 (upd B 3 (.map false (Df aV (LP ch p N)) k)) 5 false (some none) _=_;rw[B5M Z];have k6:∀u y,(u≠3/\u≠5)->Aj B u=some y->Aj (upd (upd B 3 (.map false (Df aV (LP ch p N)) k)) 5 (pX gs (some none))) u=some y:=λu y c g=>by
   rw[Ag c.2,Ag c.1];exact g
  have t:∀u y,u≠3/\u≠5->u<7->Aj ((As w,Row.cells false Av [S s])::w) u=some y->Aj (upd (upd B 3 (.map false (Df aV (LP ch p N)) k)) 5 (pX gs (some none))) u=some y:=λu y c h7 g=>k6 u y c (O.keep d.wf u y g (nr h7));refine hx _ ⟨Ff Z,LP ws s (jR gs es s+1),LP ch p N,j,k,⟨t 0 _ (by decide) (by decide) d.net,t 1 _ (by decide) (by decide) d.m1,t 2 _ (by decide) (by decide) d.p1,?_,t 4 _ (by decide) (by decide) d.p3,Bq (Bq w4),λy=>?_,λq=>?_,λq u c=>?_,λq q' u c i=>?_⟩⟩ λy g=>?_
  ·rw[Ag (by decide)];exact tQ X
  ·rw[d.wv,A4P,Dl Q]
  ·rw[iD,A5S,Dl Q];by_cases hq:p=q
   ·subst hq;rw[Dl rfl,Dl rfl,l1q,EC,<-jW];refine a2.kp λu y c g=>k6 u y ?_ g;have:=a3 u c;omega
   ·rw[C5 hq,C5 hq];refine(d.cv q).kp λu y c g=>k6 u y (by have:=d.cr q u c;omega) (O.keep d.wf u y g λhc=>hq (d.cd p q u hc c))
  ·rw[iD]at c;by_cases hq:p=q
   ·rw[Dl hq,l1q]at c;have:=a3 u c;omega
   ·rw[C5 hq]at c;exact d.cr q u c
  ·rw[iD]at c i;by_cases hq:p=q
   ·by_cases m:p=q'
    ·exact hq.symm.trans m
    ·rw[Dl hq,l1q]at c;rw[C5 m]at i;have e1:=a3 u c;have P:=(d.cv q').lt d.wf i;omega
   ·rw[C5 hq]at c;by_cases m:p=q'
    ·rw[Dl m,l1q]at i;have e1:=a3 u i;have P:=(d.cv q).lt d.wf c;omega
    ·rw[C5 m]at i;exact d.cd q q' u c i
  ·have a:=k2 y g;exact t 6 _ (by decide) (by decide) (A7 (h2.wf.lt a) a)
 ·rw[HX Q];show A2 (.v (.bool false)) _ _=_;rw[Bh];show E7 H1 5 false (some none) _=_;rw[B5M A];have e1:jR gs (es++[(s,p)])=jR gs es:=funext λy=>by rw[A4P,C5 Q]
  have P:iU gs (es++[(s,p)])=iU gs es:=funext λy=>by rw[A5S,C5 Q]
  refine hx _ ⟨Ff A,ws,ch,b1,b3,?_⟩ λy g=>?_
  ·rw[e1,P];refine h1.kp (Bq h1.wf) λu y c g=>?_;rw[Ag (h1.ne c).1];exact g
  ·rw[Ag (by decide)];exact k1 y g
end
end
section
variable{a0 a1 d5 d6 e0 e1 e2 e3 e4 e5 e6 e7 e8 e9 f0 f1 f2 f3 f4 f5 f6 f7:AV}
variable{L n:Nat}
def Vy(gs:ed)(es:List vR)(out rem:List AN)(x:AN):Nat:=(es.filter λe=>decide (e.1=x)&&(decide (e.2∈gs.map Cd.id)&&decide (e.2∉out))).length+rem.count x
section
variable{gs:ed}{es:List vR}{out rem l:List AN}{x c m:AN}
def Xx:Vy gs es out (c::rem) x=Vy gs es out rem x+if c=x then 1 else 0:=by
 unfold Vy;rw[List.count_cons,lN]
 congr 2
 by_cases h:c=x<;>simp[h]
def A4O:Vy gs es [] []=jR gs es:=by
 funext x
 unfold Vy jR;simp
def B6i:Vy gs es out rem x<=es.length+rem.length:=by
 have h1:=l32 (λe:vR=>decide (e.1=x)&&(decide (e.2∈gs.map Cd.id)&&decide (e.2∉out))) es;have h2:=List.count_le_length (a:=x) (l:=rem);unfold Vy;omega
def A4N(h1:m∈gs.map Cd.id)(h2:m∉out):Vy gs es (out++[m]) (iU gs es m)=Vy gs es out []:=by
 funext x
 unfold Vy iU;rw[List.count_nil,Nat.add_zero]
 induction es with
 |nil=>rfl
 |cons e es ih=>
  rw[l2n,l2n,l2n];by_cases hm:e.2=m
  ·have e1:(decide (e.1=x)&&(decide (e.2∈gs.map Cd.id)&&decide (e.2∉out++[m])))=false:=by simp[hm]
   have e2:(decide (e.2=m)&&decide (m∈gs.map Cd.id))=true:=by rw[Hj hm,Hj h1];rfl
   by_cases a:e.1=x
   ·have e3:(decide (e.1=x)&&(decide (e.2∈gs.map Cd.id)&&decide (e.2∉out)))=true:=by rw[Hj a,hm,Hj h1,Hj h2];rfl
    have e4:(e.1==x)=true:=by simp[a]
    simp only[e1,e2,e3,e4,yM,if_false,if_true,Xa,LV,List.count_cons];omega
   ·have e3:(decide (e.1=x)&&(decide (e.2∈gs.map Cd.id)&&decide (e.2∉out)))=false:=by rw[HX a];rfl
    have e4:(e.1==x)=false:=by simp[a]
    simp only[e1,e2,e3,e4,yM,if_false,if_true,Xa,List.count_cons];omega
  ·have e2:(decide (e.2=m)&&decide (m∈gs.map Cd.id))=false:=by rw[HX hm];rfl
   have e1:decide (e.2∉out++[m])=decide (e.2∉out):=by simp[hm]
   cases hb:(decide (e.1=x)&&(decide (e.2∈gs.map Cd.id)&&decide (e.2∉out))) with
   |true=>
    simp only[e1,e2,hb,yM,if_false,if_true,LV];omega
   |false=>
    simp only[e1,e2,hb,yM,if_false];exact ih
structure Ri(gs:ed)(es:List vR)(out rem l:List AN):Prop where
 nd:l.Nodup
 mem:∀x,x∈l↔x∈gs.map Cd.id/\x∉out/\Vy gs es out rem x=0
 jz:∀x∈out,Vy gs es out rem x=0
 rid:∀x∈rem,x∈gs.map Cd.id
def Ri.len(h:Ri gs es out rem l):l.length<=gs.length:=by
 have:=VP h.nd λx a=>((h.mem x).1 a).1;rw[Qa]at this;exact this
def Ri.pos:1<=Vy gs es out (c::rem) c:=by rw[Xx,Dl rfl];omega
def Ri.dec:(λx=>if c=x then Vy gs es out (c::rem) c-1 else Vy gs es out (c::rem) x)=Vy gs es out rem:=by
 funext x
 by_cases h:c=x
 ·subst h;rw[Dl rfl,Xx,Dl rfl];omega
 ·rw[C5 h,Xx,C5 h];rfl
def Ri.step(h:Ri gs es out (c::rem) l):(Vy gs es out rem c=0->Ri gs es out rem (l++[c]))/\(Vy gs es out rem c≠0->Ri gs es out rem l):=by
 have s:1<=Vy gs es out (c::rem) c:=Ri.pos;have f:c∉l:=λhc=>by have:=((h.mem c).1 hc).2.2;omega
 have q:c∉out:=λhc=>by have:=h.jz c hc;omega
 have p:=h.rid c (by simp);have i:∀x∈out,Vy gs es out rem x=0:=λx d=>by
  have:=h.jz x d;rw[Xx]at this;omega
 have j:∀x,c≠x->Vy gs es out (c::rem) x=Vy gs es out rem x:=λx d=>by rw[Xx,C5 d];rfl
 refine⟨λk=>⟨l38.2 ⟨h.nd,by simp,λa r b hb=>by simp at hb;subst hb;exact λe=>f (e▸r)⟩,λx=>?_,i,λx d=>h.rid x (by simp[d])⟩,λk=>⟨h.nd,λx=>?_,i,λx d=>h.rid x (by simp[d])⟩⟩
 ·rw[Yn,Tx];by_cases d:c=x
  ·subst d;exact⟨λ_=>⟨p,q,k⟩,λ_=>.inr rfl⟩
  ·rw[h.mem,j x d];exact⟨λg=>g.elim id λe=>absurd e.symm d,.inl⟩
 ·by_cases d:c=x
  ·subst d;exact⟨λg=>absurd g f,λg=>absurd g.2.2 k⟩
  ·rw[h.mem,j x d]
def Ri.take(h:Ri gs es out [] l)(g:∀e∈es,e.1∈gs.map Cd.id)(hm:m∈l):Ri gs es (out++[m]) (iU gs es m) (l.filter λs=>!decide (s=m)):=by
 obtain⟨h1,h2,k⟩:=(h.mem m).1 hm;have i:Vy gs es (out++[m]) (iU gs es m)=Vy gs es out []:=A4N h1 h2;refine⟨h.nd.sublist List.filter_sublist,λx=>?_,λx a=>?_,λx a=>?_⟩
 ·rw[i,N_,h.mem,Yn,Tx];constructor
  ·rintro⟨⟨a1,a2,d⟩,j⟩;have f:x≠m:=by simpa using j
   exact⟨a1,λb=>b.elim a2 f,d⟩
  ·rintro⟨a1,a2,d⟩;refine⟨⟨a1,λb=>a2 (.inl b),d⟩,?_⟩;have:x≠m:=λb=>a2 (.inr b);simp[this]
 ·rw[i];rcases Yn.1 a with a|a
  ·exact h.jz x a
  ·rw[Tx]at a;subst a;exact k
 ·obtain⟨e,he,rfl⟩:=Mj.1 a;exact g e (N_.1 he).1
def Ri.perm(h:Ri gs es out [] l)(b:∀e:vR,e∈es↔e.1∈gs.map Cd.id/\e.2∈Sg gs e.1)(hn:(gs.map Cd.id).Nodup):l.Perm (kN gs out):=by
 refine(l37 h.nd (hn.sublist List.filter_sublist)).2 λx=>?_;rw[h.mem];show _↔x∈kN gs out;rw[VN];refine and_congr_right λg=>and_congr_right λ_=>?_;unfold Vy;rw[List.count_nil,Nat.add_zero,List.length_eq_zero_iff,List.filter_eq_nil_iff];constructor
 ·intro a p f d;have:=a (x,p) ((b _).2 ⟨g,f⟩);apply l39;intro hc;exact this (by rw[Hj rfl,Hj d,Hj hc];rfl)
 ·intro a e he;obtain⟨h1,h2⟩:=(b e).1 he;intro hc;simp only[K0,decide_eq_true_eq]at hc;obtain⟨c1,c2,c3⟩:=hc;rw[c1]at h2;exact c3 (a _ h2 c2)
end
structure Mo(gs:ed)(out l:List AN)(wt:AN->Nat)(ct:AN->List AN)(ws:List (AN×Nat))(ch:List (AN×AV))(b1 b3:Option (Hb×Nat))(rv ov:AV)(H:Hp):Prop where
 os:OsK gs ws ch b1 b3 wt ct H
 rd:Nn H rv l
 ot:B0 H Av 1 ov out.length (AG out)
 rr:∀u,A8 rv u->4<u/\¬A8 ov u/\∀p,¬A8 ((Mu ch p).getD Aw) u
 oo:∀u,A8 ov u->4<u/\∀p,¬A8 ((Mu ch p).getD Aw) u
section
variable{H:Hp}{v:AV}{l:List AN}
def B0.ia(h:B0 H Av 1 v l.length (AG l)){i:Nat}(b:i<l.length):∃a,(∀K:K2,Ds Ac v (I (i:Int)) K=K a)/\∀K:K2,AD Ak a H K=K (S l[i]):=by
 rcases h with⟨_,h2,_⟩|⟨r,q,rfl,h2,_⟩
 ·omega
 ·exact⟨.ptr r i 0,λK=>Rr b,λK=>S? h2 b⟩
end
section
variable{gs:ed}{es:List vR}{out l:List AN}{ws:List (AN×Nat)}{ch:List (AN×AV)}{b1 b3:Option (Hb×Nat)}{rv ov:AV}{K:KV}{x:Af}{ct:AN->List AN}
def B95{R:Rt}{q:AV->AV->AV->AV->AV->AV->AV->AV->AV->AV->AV->AV->AV->AV->AV->AV->AV->AV->AV->AV->AV->AV->AV->AV->AV->AV->AV->AV->AV->KV}{a0 a1 a2 d5 d6 e0 e1 e2 e3 e4 e5 e6 e7 e8 e9 f0 f1 f2 f3 f4 f5 f6 f7:AV}{m:AN}(hb:es.length<1000)(hg:gs.length<=8)(aa:(ct m).length<1000)(hx:∀Q N g A O,Mo gs out Q (Vy gs es out []) ct N ch g b3 A ov O->Ri gs es out [] Q->q a0 a1 a2 (.ptr 2 0 0) (.ptr 4 0 0) d5 d6 A ov e0 e1 e2 e3 e4 e5 e6 e7 e8 e9 f0 f1 f2 f3 f4 f5 f6 f7 ((Mu ch m).getD Aw) (I (ct m).length) (I (ct m).length) O=x):
 ∀(f i:Nat)(l:List AN)(ws:List (AN×Nat))(b1:Option (Hb×Nat))(rv:AV)(H:Hp),i<=(ct m).length->(ct m).length-i<f->Mo gs out l (Vy gs es out ((ct m).drop i)) ct ws ch b1 b3 rv ov H->Ri gs es out ((ct m).drop i) l->
 SH (L+20) R K q f a0 a1 a2 (.ptr 2 0 0) (.ptr 4 0 0) d5 d6 rv ov e0 e1 e2 e3 e4 e5 e6 e7 e8 e9 f0 f1 f2 f3 f4 f5 f6 f7 ((Mu ch m).getD Aw) (I (ct m).length) (I i) H=x:=by
 intro f
 induction f with
 |zero=>intro i l ws b1 rv H _ h;omega
 |succ f ih=>
  intro i l ws b1 rv H hi hf h hr;rw[lT];unfold SJ HR A3;by_cases w:i<(ct m).length
  ·obtain⟨a,X,Z⟩:=(h.os.cv m).ia w;rw[vM w]at h hr;have ad:=B6i (gs:=gs) (es:=es) (out:=out) (rem:=(ct m)[i]::(ct m).drop (i+1)) (x:=(ct m)[i]);have P:1<=Vy gs es out ((ct m)[i]::(ct m).drop (i+1)) (ct m)[i]:=Ri.pos;have ab:((ct m)[i]::(ct m).drop (i+1)).length<=(ct m).length:=by rw[LV,Z_];omega
   rw[FV (by omega),Cr];simp only[BJ];have M:∀(s:AN)(F:Value->Af),LW (S s) F=F (SV s):=λs F=>id rfl;rw[X,Z];rw[AQ (p:=0) rfl h.os.p1 (by simp),M];show Zi Ab false (.mp 1) (SV (ct m)[i]) H _=_;rw[h.os.lw,fB (by omega) (by omega),M];obtain⟨g,B,r,h2,t⟩:=h.os.put (s:=(ct m)[i]) (Vy gs es out ((ct m)[i]::(ct m).drop (i+1)) (ct m)[i]-1);show Mm (.mp 1) (SV (ct m)[i]) (I ((Vy gs es out ((ct m)[i]::(ct m).drop (i+1)) (ct m)[i]-1:Nat):Int)) H _=_;rw[r];rw[Ri.dec]at h2;have n1:∀u y,u≠1->Aj H u=some y->Aj B u=some y:=λu y d j=>by rw[t,Ag d];exact j
   rw[AQ (p:=0) rfl h2.p1 (by simp),M];show Zi Ab false (.mp 1) (SV (ct m)[i]) B _=_;rw[h2.lw];have b:Mo gs out l (Vy gs es out ((ct m).drop (i+1))) ct (LP ws (ct m)[i] (Vy gs es out ((ct m)[i]::(ct m).drop (i+1)) (ct m)[i]-1)) ch g b3 rv ov B:=
    ⟨h2,h.rd.kp λu y d j=>n1 u y (by have:=(h.rr u d).1;omega) j,h.ot.kp λu y d j=>n1 u y (by have:=(h.oo u d).1;omega) j,h.rr,h.oo⟩
   have Y:∀(k:Nat)(K:K2),Ap Ab .eql (I (k:Int)) (AV.v (.int .i64 0)) K=K (Bo (decide (k=0))):=λk K=>by
    have e:decide ((k:Int)=0)=decide (k=0):=decide_eq_decide.2 (by omega);rw[CQ,e]
   rw[Y];clear r t;by_cases C:Vy gs es out ((ct m).drop (i+1)) (ct m)[i]=0
   ·rw[Hj C,Cr];have ac:=hr.len;obtain⟨v',V,a1,a2,D,J⟩:=C3x (ct m)[i] b.rd b.os.wf (by omega);rw[a1,Dd (by omega)];have h4:=b.os.wf.lt b.os.p3;refine ih (i+1) (l++[(ct m)[i]]) _ g v' V (by omega) (by omega) ⟨b.os.kp (D.wf b.os.wf) λu y d j=>D.keep b.os.wf u y j λhc=>?_,a2,b.ot.kp λu y d j=>D.keep b.os.wf u y j λhc=>(b.rr u hc).2.1 d,λu d=>⟨?_,λhc=>?_,λp hc=>?_⟩,b.oo⟩ (hr.step.1 C)
    ·rcases d with d|⟨p,hp⟩
     ·have:=(b.rr u hc).1;omega
     ·exact(b.rr u hc).2.2 p hp
    ·have:=J u d;omega
    ·have g1:=J u d;have g2:=b.ot.lt b.os.wf hc;omega
    ·have g1:=J u d;have g2:=(b.os.cv p).lt b.os.wf hc;omega
   ·rw[HX C,Bh,Dd (by omega)];exact ih (i+1) l _ g rv B (by omega) (by omega) b (hr.step.2 C)
  ·rw[FT (by omega),Bh];have:i=(ct m).length:=by omega
   subst this;rw[List.drop_length]at h hr;exact hx l ws b1 rv H h hr
def B1y{H:Hp}:Bz Av Ak H K=K (.ptr (As H) 0 0) ((As H,c_ Av [S []])::H):=by
 unfold Bz;rw[CK,BW];rfl
def B09(h:kN gs out=[]):∀N,kV gs N out=out:=by
 intro N;cases N with
 |zero=>rfl
 |succ N=>
  unfold kV;rw[h];rfl
def B96{aa:AV->KV}(hb:es.length<1000)(hg:gs.length<=8)(hL:200000<L)(hn:(gs.map Cd.id).Nodup)(hE:∀e:vR,e∈es↔e.1∈gs.map Cd.id/\e.2∈Sg gs e.1){r:List AN}(hx:∀ov H,B0 H Av 1 ov r.length (AG r)->(r=[]->ov=Aw)->Aj H 0=some (c_ CC [gV gs])->aa (.ptr 0 0 0) ov H=x):
 ∀(N f:Nat)(out l:List AN)(ws:List (AN×Nat))(b1:Option (Hb×Nat))(rv ov:AV)(H:Hp)(z0 z1 z2:AV),N<f->gs.length<=out.length+N->OrdK gs out->Mo gs out l (Vy gs es out []) (iU gs es) ws ch b1 b3 rv ov H->Ri gs es out [] l->(out=[]->ov=Aw)->kV gs N out=r->
 SI (L+20) (r! L (n+4)) K aa f a0 a1 (.ptr 0 0 0) (.ptr 2 0 0) (.ptr 4 0 0) d5 d6 rv ov e0 e1 e2 e3 e4 e5 e6 e7 e8 e9 f0 f1 f2 f3 f4 f5 f6 f7 z0 z1 z2 H=x:=by
 intro N
 induction N with
 |zero=>
  intro f out l ws b1 rv ov H z0 z1 z2 hf R ho h hr h0 b;cases f with
  |zero=>omega
  |succ f=>
   have hl:l=[]:=by
    have i:=hr.perm hE hn;rw[A0K ho (by omega)]at i;exact i.eq_nil
   subst hl;rw[Vi];unfold Om A3;have el:∀{K:K2},Bm Ac rv K=K (I ((0:Nat):Int)):=λ{K}=>h.rd.len;have O:∀{K:K2},Ap Ab .gtr (I ((0:Nat):Int)) (AV.v (.int .i64 0)) K=K (Bo false):=λ{K}=>by rw[Eo];rfl
   rw[el,O,Bh];rw[<-b]at hx;exact hx ov H h.ot h0 h.os.net
 |succ N ih=>
  intro f out l ws b1 rv ov H z0 z1 z2 hf R ho h hr h0 b;cases f with
  |zero=>omega
  |succ f=>
   have i:=hr.perm hE hn;rw[Vi];unfold Om A3;rw[h.rd.len];cases Y:DW (kN gs out) with
   |nil=>
    have X:kN gs out=[]:=by
     have:=(Bg (kN gs out)).length_eq;rw[Y]at this;exact gL this.symm
    have hl:l=[]:=by rw[X]at i;exact i.eq_nil
    subst hl;have O:∀{K:K2},Ap Ab .gtr (I (([]:List AN).length:Int)) (AV.v (.int .i64 0)) K=K (Bo false):=λ{K}=>by rw[Eo];rfl
    rw[O,Bh];rw[B09 X]at b;subst b;exact hx ov H h.ot h0 h.os.net
   |cons m t=>
    have C:kV gs N (out++[m])=r:=by
     unfold kV at b;rw[Y]at b;exact b
    have B:m∈kN gs out:=(Bg _).mem_iff.1 (by rw[Y];simp);have hm:m∈l:=i.mem_iff.2 B;have V:∀y∈l,m<=y:=λy g=>by
     have h1:y∈m::t:=by rw[<-Y];exact(Bg _).mem_iff.2 (i.mem_iff.1 g)
     have h2:=D2 (kN gs out);rw[Y,l2q]at h2;rcases Tz.1 h1 with rfl|h1
     ·exact(No _ _).elim id id
     ·exact h2.1 y h1
    have ar:=hr.len;have ax:0<l.length:=List.length_pos_of_mem hm;have O:∀{K:K2},Ap Ab .gtr (I (l.length:Int)) (AV.v (.int .i64 0)) K=K (Bo true):=λ{K}=>by rw[Eo,Hj (by omega)]
    rw[O,Cr];simp only[BJ];obtain⟨a,q,ha,hq⟩:=h.rd.fx (D:=depth-1);have ae:a=Ls l:=by
     rcases ha with rfl|⟨rfl,_⟩
     ·rfl
     ·simp at hm
    subst ae;rw[AR (C14 (n:=n+3) hm V (by omega) (by omega)) (An hq AK)];obtain⟨M,w,A,w1,k1⟩:=Il (e:=Av) (zs:=[S []]) (vs:=[S m]) h.os.wf rfl;rw[B1y,Ei (cs:=[S []]) (Az (by simp)) (by simp) rfl rfl rfl];show(r! L (n+4)).call Bk [rv,.fn (.func J0) [] [.ptr (As H) 0 0]] (upd ((As H,c_ Av [S []])::H) (As H) (c_ Av [S m])) _=_;rw[<-w];have ap:As M=As H+1:=by rw[w,BB];rfl
    have ah:OsK gs ws ch b1 b3 (Vy gs es out []) (iU gs es) M:=h.os.kp w1 λu y _ g=>(k1 u y g).1;have am:Nn M rv l:=h.rd.kp λu y _ g=>(k1 u y g).1;have aj:B0 M Av 1 ov out.length (AG out):=h.ot.kp λu y _ g=>(k1 u y g).1;have J:∀u,A8 rv u->u<As H:=λu d=>h.rd.lt h.os.wf d;clear w;refine A8L (n:=n+2) (P:=λs=>decide (s=m)) w1 am (by omega) hL ⟨.fn (.func J0) [] [.iptr [S m]],_,yT (D:=depth-1) (An (Wy (D:=depth-2) A (An (q:=false) C7 AK)) AK),λs K=>?_⟩ (λH' hk s K=>?_) λv' H2 g1 g2 Q=>?_
    ·rw[A_ rfl rfl];exact AR (C16 (n:=n+1)) (An (q:=false) C7 (An (q:=false) Rg AK))
    ·rw[A_ rfl rfl];have j:=hk.keep w1 _ _ A λhc=>by have:=J _ hc;omega
     exact AR (C16 (n:=n+2)) (An (q:=false) C7 (An (Wy (D:=depth-1) j (An (q:=false) C7 AK)) AK))
    ·have w2:=Q.wf w1;have j:=Q.keep w1 _ _ A λhc=>by have:=J _ hc;omega
     have ai:OsK gs ws ch b1 b3 (Vy gs es out []) (iU gs es) H2:=ah.kp w2 λu y d g=>Q.keep w1 u y g λhc=>by
      rcases d with d|⟨p,i⟩
      ·have:=(h.rr u hc).1;omega
      ·exact(h.rr u hc).2.2 p i
     have ak:B0 H2 Av 1 ov out.length (AG out):=aj.kp λu y d g=>Q.keep w1 u y g λhc=>(h.rr u hc).2.1 d;have ay:=ho.len;rw[AQ (p:=0) rfl j (by simp)];show(GM Av 1 Ak 1 [(0,1,S m)] H2 λv1 M=>E5 Av 1 Ak Ac ov v1 M _)=_;obtain⟨ab,H3,j1,j2,j3,j4,j5,j6⟩:=A5Y m ak w2 (by omega);rw[j1];have aq:=Q.nx;have ag:∀u,(u<5\/∃p,A8 ((Mu ch p).getD Aw) u)->¬A8 ov u:=λu d hc=>by
      rcases d with d|⟨p,i⟩
      ·have:=(h.oo u hc).1;omega
      ·exact(h.oo u hc).2 p i
     have k:OsK gs ws ch b1 b3 (Vy gs es out []) (iU gs es) H3:=ai.kp j3 λu y d g=>j5 u y g (ag u d);have af:=j5 _ _ j λhc=>by have:=h.ot.lt h.os.wf hc;omega
     have ek:∀(s:AN)(F:Value->Af),LW (S s) F=F (SV s):=λs F=>id rfl;rw[AQ (p:=0) rfl k.p3 (by simp),AQ (p:=0) rfl af (by simp)];show LW (S m) (λq=>Zi Ac false (.mp 3) q H3 _)=_;rw[ek,k.lc,(k.cv m).rq.len];have Z:=(VN.1 B)
     have hw:Vy gs es out []=Vy gs es (out++[m]) ((iU gs es m).drop 0):=by rw[pE,A4N Z.1 Z.2.1]
     have h4:=h.os.wf.lt h.os.p3;have ad:(AV.v (.int .i64 0))=I ((0:Nat):Int):=rfl;rw[ad];refine B95 (L:=L) (es:=es) (out:=out++[m]) (ch:=ch) (b3:=b3) (ov:=ab) (ct:=iU gs es) (m:=m) hb hg (by have:=U' (gs:=gs) (es:=es) (p:=m);omega) (λl' ao ac an H' hM hR=>?_) (L+20) 0 (l.filter λs=>!decide (s=m)) ws b1 v' H3 (by omega) (by have:=U' (gs:=gs) (es:=es) (p:=m);omega) ?_ ?_
     ·exact ih f (out++[m]) l' ao ac an ab H' _ _ _ (by omega) (by rw[EC,List.length_singleton];omega) (ho.step B) hM hR (by simp) C
     ·rw[<-hw];refine⟨k,g1.kp λu y d g=>j5 u y g λhc=>(h.rr u (g2 u d)).2.1 hc,j2,λu d=>⟨(h.rr u (g2 u d)).1,λhc=>?_,(h.rr u (g2 u d)).2.2⟩,λu d=>⟨?_,λp hc=>?_⟩⟩
      ·have b1:=j6 u hc;have b2:=J u (g2 u d);omega
      ·have b1:=j6 u d;omega
      ·have b1:=j6 u d;have b2:=(h.os.cv p).lt h.os.wf hc;omega
     ·rw[pE];exact hr.take (λe he=>((hE e).1 he).1) hm
end
end
section
variable{L n:Nat}
def fQ(gs:ed):AV:=if gs.length<=(UW gs).length then .tup [DJ (UW gs),.v (.int .i64 0)] else .tup [Aw,.v (.int .i64 220)]
def B4d(gs:ed):pl 6 (fQ gs)=true:=by
 unfold fQ;split
 ·have:pl 5 (DJ (UW gs))=true:=by
   cases UW gs with
   |nil=>rfl
   |cons a l=>
    show(AG (a::l)).all (pl 4)=true;rw[GE];intro y b;obtain⟨s,_,rfl⟩:=Mj.1 b;rfl
  show[DJ (UW gs),AV.v (.int .i64 0)].all (pl 5)=true;simp only[pY,this,l3c];rfl
 ·rfl
section
variable{gs:ed}{x:Af}
def B4X(hn:(gs.map Cd.id).Nodup){done:ed}(d:done.Perm gs)(e:vR):e∈OT done↔e.1∈gs.map Cd.id/\e.2∈Sg gs e.1:=by
 rw[S!];constructor
 ·rintro⟨c,hc,h1,h2⟩;have a:=d.mem_iff.1 hc;obtain⟨i,b,rfl⟩:=List.getElem_of_mem a;rw[h1];exact⟨Mj.2 ⟨_,a,rfl⟩,by rw[J! hn b];exact h2⟩
 ·rintro⟨h1,h2⟩;obtain⟨c,hc,he⟩:=Mj.1 h1;obtain⟨i,b,rfl⟩:=List.getElem_of_mem hc;rw[<-he,J! hn b]at h2;exact⟨gs[i],d.mem_iff.2 hc,he.symm,h2⟩
def B2K{a:AV}(t:GOk gs)(hL:200000<L)(Y:∀c∈gs,c.ps.length<100)(ha:LA gs a):CS (r! L (n+80)) Qb [a] (fQ gs):=by
 intro K V;rw[oW];unfold Uk A3;have aj:R5 true depth [a] [a] [] false:=by rcases ha with rfl|⟨_,rfl⟩<;>exact λK=>by kernel_rfl
 have of:∀{K:K2},Ao (r! L (n+79)) L7 [a] [] K=K (.tup [gV gs,Bo true]):=λ{K}=>K1 (λK V=>B6x (n:=n+15) t (by omega) ha K V) aj;have w0:Vw 6 (fQ gs) (fQ gs)=true:=Tb 6 _ (B4d gs);have h8:=t.len;rw[of,F5,F4];have e0:∀{F:KV},(Bz CC Ai [] λv4 H5=>E4 Ai v4 (gV gs) H5 λH6=>F v4 H6)=F (.ptr 0 0 0) [(0,c_ CC [gV gs])]:=λ{F}=>by kernel_rfl
 rw[e0,Et];show A2 (.v (.bool false)) _ _=_;rw[Bh];have e1:∀{F:AV->KV},(LC Ab [(0,c_ CC [gV gs])] λv9 aa=>Bz IG DP aa λN ab=>E4 DP N v9 ab λac=>LC Ac ac λam ad=>Bz EP BD ad λO ae=>E4 BD O am ae λaf=>F N O af)=
  F (.ptr 2 0 0) (.ptr 4 0 0) [(4,c_ EP [.mp 3]),(3,.map false [] (some ([],0))),(2,c_ IG [.mp 1]),(1,.map false [] (some ([],0))),(0,c_ CC [gV gs])]:=λ{F}=>by kernel_rfl
 rw[e1];simp only[BJ];generalize hH:([(4,c_ EP [.mp 3]),(3,.map false [] (some ([],0))),(2,c_ IG [.mp 1]),(1,.map false [] (some ([],0))),(0,c_ CC [gV gs])]:Hp)=g;have X:OsK gs [] [] (some ([],0)) (some ([],0)) (jR gs []) (iU gs []) g:=by
  subst hH;exact⟨rfl,rfl,rfl,rfl,rfl,AJ (AJ (AJ (AJ (AJ Fl)))),λx=>rfl,λp=>.inl ⟨rfl,rfl,rfl⟩,λp u d=>absurd d HV,λp p' u d=>absurd d HV⟩
 have i:As g=5:=by subst hH;rfl
 clear hH;have en:∀{K:K2},AD Ai (.ptr 0 0 0) g K=K (gV gs):=λ{K}=>by
  rw[AQ (p:=0) rfl X.net (by simp)];rfl
 rw[en,A8H (n:=n+78),VE,i];have w:Aj ((5,pX gs (some none))::g) 5=some (pX gs (some none)):=by
  have:=Az (H:=g) (x:=pX gs (some none)) (by simp[pX]);rw[i]at this;exact this
 have Z:Wf ((5,pX gs (some none))::g):=by
  have:=AJ (x:=pX gs (some none)) X.wf;rw[i]at this;exact this
 have o5:OsK gs [] [] (some ([],0)) (some ([],0)) (jR gs []) (iU gs []) ((5,pX gs (some none))::g):=X.kp Z λu y _ e=>by
  have:=A7 (x:=pX gs (some none)) (X.wf.lt e) e;rw[i]at this;exact this
 have ao:As ((5,pX gs (some none))::g)=6:=rfl;show(r! L (n+79)).call Fc [.yl 5,.iptr [gV gs]] ((5,pX gs (some none))::g) _=_;refine A4X (n:=n+76) (s0:=5) (Q:=C3D gs) w0 h8 Y (by omega) B3x (λes R j ⟨hl,ws,ch,b1,b3,h⟩ an k=>⟨k _ _ (show 5≠6 by decide) hl,ws,ch,b1,b3,h.kp an λu y d e=>k u y ?_ e⟩) (λes H ⟨_,_,_,_,_,h⟩=>h.wf) ?_ (λdone H hd ⟨hl,ws,ch,b1,b3,h⟩=>?_)
 ·exact(h.ne d).2
 ·refine⟨A7 (Z.lt w) w,[],[],_,_,o5.kp (AJ Z) λu y _ e=>A7 (Z.lt e) e⟩
 ·show I6 H 5 _=_;rw[AX hl];show Ll H 5 .gone _=_;rw[Dh];have ai:(OT done).length<1000:=by
   have h1:=A1D done λc hc=>Y c (hd.mem_iff.1 hc);have h2:=hd.length_eq;omega
  have h1:OsK gs ws ch b1 b3 (jR gs (OT done)) (iU gs (OT done)) (upd H 5 .gone):=h.kp (Bq h.wf) λu y d e=>by
   rw[Ag (h.ne d).1];exact e
  generalize upd H 5 .gone=R at h1;show AD Ai (.ptr 0 0 0) R _=_;have ag:∀{K:K2},AD Ai (.ptr 0 0 0) R K=K (gV gs):=λ{K}=>by
   rw[AQ (p:=0) rfl h1.net (by simp)];rfl
  rw[ag];refine A8z (n:=n+73) w0 h8 (by omega) h1.wf λv H2 hv aq=>?_;have f:OsK gs ws ch b1 b3 (jR gs (OT done)) (iU gs (OT done)) H2:=h1.kp hv.wf λu y _ e=>hv.keep u y e;have ap:(DW (gs.map Cd.id)).length=gs.length:=by rw[(Bg _).length_eq,Qa]
  have m:∀(j:Hp)(D:Nat),Aj j 2=some (c_ IG [.mp 1])->Aj j 1=some (.map false (Df iV ws) b1)->Fx true (D+2) (.ptr 2 0 0) (.iptr [.imap (Df iV ws)]) j true:=λj D h2 h3=>
   Wy (D:=D+1) h2 (An (B9E (D:=D) h3) AK)
  have J:∀s,decide (0<(Mu ws s).getD 0)=decide (0<jR gs (OT done) s):=λs=>by rw[h1.wv]
  refine A8L (n:=n+77) (P:=λs=>decide (0<jR gs (OT done) s)) hv.wf hv.sl.rq (by omega) hL ⟨.fn (.func Lc) [] [.iptr [.imap (Df iV ws)]],_,yT (D:=depth-1) (An (m H2 (depth-3) f.p1 f.m1) AK),λs K=>?_⟩ (λj hk s K=>?_) λv' H3 g1 g2 g3=>?_
  ·rw[A_ rfl rfl];have:=AR (K:=λv=>K v []) (A4R (n:=n+76) (L:=L) (ws:=ws) (s:=s)) (An (q:=false) C7 (An (q:=false) (Rg (H:=[])) AK));rw[J]at this;exact this
  ·rw[A_ rfl rfl];have nr:∀u,u<5->¬A8 v u:=λu d hc=>by
    have g1:=hv.new u hc;have g2:=h1.wf.lt h1.p3;omega
   have a1:=hk.keep hv.wf _ _ f.p1 (nr 2 (by decide));have a2:=hk.keep hv.wf _ _ f.m1 (nr 1 (by decide));have:=AR (K:=λv=>K v j) (A4R (n:=n+77) (L:=L) (ws:=ws) (s:=s)) (An (q:=false) C7 (An (m j (depth-2) a1 a2) AK));rw[J]at this;exact this
  ·have nr:∀u,A8 v' u->As R<=u:=λu d=>hv.new u (g2 u d);have h4:=h1.wf.lt h1.p3;have M:OsK gs ws ch b1 b3 (jR gs (OT done)) (iU gs (OT done)) H3:=f.kp (g3.wf hv.wf) λu y d e=>g3.keep hv.wf u y e λhc=>by
    have b1:=hv.new u hc;rcases d with d|⟨p,Y⟩
    ·omega
    ·have b2:=(h1.cv p).lt h1.wf Y;omega
   have hR:Ri gs (OT done) [] [] ((DW (gs.map Cd.id)).filter λs=>!decide (0<jR gs (OT done) s)):=by
    refine⟨((Bg _).symm.nodup t.ids).sublist List.filter_sublist,λx=>?_,by simp,by simp⟩;rw[A4O,N_,(Bg _).mem_iff];refine and_congr Iff.rfl ?_;constructor
    ·intro hh;have:¬0<jR gs (OT done) x:=by simpa using hh
     exact⟨by simp,by omega⟩
    ·rintro⟨_,hh⟩;simp[hh]
   rw[<-A4O]at M;refine B96 (n:=n+75) (es:=OT done) (r:=UW gs) (ch:=ch) (b3:=b3) ai h8 hL t.ids (B4X t.ids hd) (λov H4 C ak B=>?_) gs.length (L+20) [] _ ws b1 v' Aw H3 _ _ _ (by omega) (by simp) OrdK.nil ⟨M,g1,.inl ⟨rfl,rfl,rfl⟩,λu d=>⟨?_,HV,λp hc=>?_⟩,λu d=>absurd d HV⟩ hR (λ_=>rfl) rfl
   ·rw[C.rq.len];have ah:∀{K:K2},AD Ai (.ptr 0 0 0) H4 K=K (gV gs):=λ{K}=>by
     rw[AQ (p:=0) rfl B (by simp)];rfl
    have em:∀{K:K2},YC (gV gs) H4 K=K (I (gs.length:Int)):=λ{K}=>by
     show G6 (Df DK (gE gs)) 0 (λn=>K (.v (.int .i64 (.ofNat n))))=_;rw[Cl,Jt];have:(Df DK (gE gs)).length=gs.length:=by simp[gE]
     rw[this];rfl
    rw[ah,em];by_cases A:gs.length<=(UW gs).length
    ·have er:fQ gs=.tup [DJ (UW gs),.v (.int .i64 0)]:=by unfold fQ;rw[Dl A]
     rw[FT (by omega),Bh];refine V _ _ λbb=>?_;rw[er];obtain⟨q,hq⟩:=hJ (D:=depth-2) (b:=bb) C ak;exact⟨_,dR (D:=depth-1) (An hq (An (q:=false) C7 AK))⟩
    ·have er:fQ gs=.tup [Aw,.v (.int .i64 220)]:=by unfold fQ;rw[C5 A]
     rw[FV (by omega),Cr];refine V _ _ λbb=>?_;rw[er];exact⟨_,dR (D:=depth-1) (An (q:=false) C7 (An (q:=false) C7 AK))⟩
   ·have b1:=nr u d;omega
   ·have b1:=nr u d;have b2:=(h1.cv p).lt h1.wf hc;omega
end
end
section
variable{gs ls S T:ed}{x y p:AN}{c:Cd}
def FE(hn:(gs.map Cd.id).Nodup)(hc:c∈gs):Mu (gE gs) c.id=some c:=by
 induction gs with
 |nil=>cases hc
 |cons d gs ih=>
  rw[Xa,List.nodup_cons]at hn;show Mu ((d.id,d)::gE gs) c.id=some c;unfold Mu;rcases Tz.1 hc with rfl|hc
  ·rw[Dl rfl]
  ·have:d.id≠c.id:=λe=>hn.1 (e▸Mj.2 ⟨c,hc,rfl⟩);rw[C5 this];exact ih hn.2 hc
def fM(hn:(gs.map Cd.id).Nodup)(hc:c∈gs):Sg gs c.id=c.ps:=by
 unfold Sg;rw[FE hn hc]
def sO(a:x∉gs.map Cd.id):Sg gs x=[]:=by
 unfold Sg;rw[Yv (by rw[Ww];exact a)]
def A6R(hn:(gs.map Cd.id).Nodup)(h:ls.Perm gs):Sg ls x=Sg gs x:=by
 have b:(ls.map Cd.id).Perm (gs.map Cd.id):=h.map _;by_cases a:x∈gs.map Cd.id
 ·obtain⟨c,hc,rfl⟩:=Mj.1 a;rw[fM hn hc,fM (b.symm.nodup hn) (h.mem_iff.2 hc)]
 ·rw[sO a,sO (λhc=>a (b.mem_iff.1 hc))]
def A9l(hn:(gs.map Cd.id).Nodup)(h:ls.Perm gs){out:List AN}:(kN ls out).Perm (kN gs out):=by
 have a:(ls.map Cd.id).Perm (gs.map Cd.id):=h.map _;refine(l37 ((a.symm.nodup hn).sublist List.filter_sublist) (hn.sublist List.filter_sublist)).2 λx=>?_;show x∈kN ls out↔x∈kN gs out;rw[VN,VN,a.mem_iff,A6R hn h];simp only[a.mem_iff]
def A6X(hn:(gs.map Cd.id).Nodup)(h:ls.Perm gs):∀(N:Nat)(out:List AN),kV ls N out=kV gs N out:=by
 intro N
 induction N with
 |zero=>intro out;rfl
 |succ N ih=>
  intro out;have e:DW (kN ls out)=DW (kN gs out):=IB ((Bg _).trans ((A9l hn h).trans (Bg _).symm)) (D2 _) (D2 _);unfold kV;rw[e];cases DW (kN gs out) with
  |nil=>rfl
  |cons m t=>exact ih _
def A6W(hn:(gs.map Cd.id).Nodup)(h:ls.Perm gs):UW ls=UW gs:=by
 unfold UW;rw[h.length_eq];exact A6X hn h _ _
def A6V(hn:(gs.map Cd.id).Nodup)(h:ls.Perm gs):fQ ls=fQ gs:=by
 unfold fQ;rw[A6W hn h,h.length_eq]
def A3P(hn:(gs.map Cd.id).Nodup)(h:ls.Perm gs):Ej ls=Ej gs:=by
 have a:(ls.map Cd.id).Perm (gs.map Cd.id):=h.map _;refine IB ?_ (D2 _) (D2 _);refine(l37 (tZ (a.symm.nodup hn)) (tZ hn)).2 λx=>?_;rw[PI,PI,a.mem_iff];simp only[h.mem_iff]
def A3B(h:ls.Perm gs):ID ls=ID gs:=by
 have a:(ls.map Cd.id).Perm (gs.map Cd.id):=h.map _;refine IB ?_ L_ L_;refine(l37 tK tK).2 λx=>?_;rw[Jn,Jn,a.mem_iff];simp only[h.mem_iff]
inductive Cmp(S:ed):AN->Prop
 |mk {c:Cd}:c∈S->(∀p∈c.ps,Cmp S p)->Cmp S c.id
def Cmp.ids(h:Cmp S x):x∈S.map Cd.id:=by
 cases h with
 |mk h1 _=>exact Mj.2 ⟨_,h1,rfl⟩
def Cmp.par(hn:(S.map Cd.id).Nodup)(hc:c∈S)(h:Cmp S c.id):∀p∈c.ps,Cmp S p:=by
 generalize he:c.id=x at h;cases h with
 |@mk d h1 h2=>
  have e:d=c:=by
   have a1:=FE hn h1;have a2:=FE hn hc;rw[he,a1]at a2;exact l2c a2
  subst e;exact h2
open Classical in
def DU(S:ed):ed:=S.filter λc=>decide (Cmp S c.id)
def OE:c∈DU S↔c∈S/\Cmp S c.id:=by
 rw[DU,N_,@decide_eq_true_iff _ (_)]
def LF:x∈(DU S).map Cd.id↔Cmp S x:=by
 constructor
 ·intro h;obtain⟨c,hc,rfl⟩:=Mj.1 h;exact(OE.1 hc).2
 ·intro h;obtain⟨c,hc,rfl⟩:=Mj.1 h.ids;exact Mj.2 ⟨c,OE.2 ⟨hc,h⟩,rfl⟩
def Rv(hn:(S.map Cd.id).Nodup):((DU S).map Cd.id).Nodup:=hn.sublist (List.filter_sublist.map _)
def B1G(hn:(S.map Cd.id).Nodup)(h:Cmp S x):¬Anc (DU S) x x:=by
 have key:∀z,Cmp S z->∀y,Anc (DU S) z y->¬Anc (DU S) y y:=by
  intro z hz
  induction hz with
  |@mk c h1 h2 ih=>
   have hc:c∈DU S:=OE.2 ⟨h1,.mk h1 h2⟩;intro y b;rw[A7G]at b;have a:Sg (DU S) c.id=c.ps:=fM (Rv hn) hc;rw[a]at b;rcases b with⟨_,b⟩|⟨p,g,_,f⟩
   ·intro d;exact ih y b y d d
   ·exact ih p g y f
 intro e;exact key x h x e e
def uT(hn:(S.map Cd.id).Nodup):(DU S).length<=(UW (DU S)).length:=
 (B07 (Rv hn)).2 λ_ a=>B1G hn (LF.1 a)
end
section
variable{x:AN}{c:Cd}{A B:ed}
def Qd:List AN->List AN
 |[]=>[]
 |a::l=>match Qd l with
  |[]=>[a]
  |b::m=>if a=b then b::m else a::b::m
def TA:∀{l:List AN},x∈Qd l↔x∈l:=by
 intro l
 induction l with
 |nil=>exact Iff.rfl
 |cons a l ih=>
  unfold Qd;cases h:Qd l with
  |nil=>
   rw[h]at ih;simp only[Tz,List.not_mem_nil,or_false];exact⟨.inl,λf=>f.elim id λf=>absurd (ih.2 f) (by simp)⟩
  |cons b m=>
   rw[h]at ih;show x∈(if a=b then b::m else a::b::m)↔_;by_cases d:a=b
   ·rw[Dl d];subst d;rw[Tz (b:=a) (l:=l),<-ih];exact⟨.inr,λf=>f.elim (λe=>by simp[e]) id⟩
   ·rw[C5 d,Tz (b:=a) (l:=b::m),Tz (b:=a) (l:=l),ih]
def ZR(B:ed)(ex:List AN):List AN:=Qd (DW (ex++ID B))
def PW{ex:List AN}:x∈ZR B ex↔x∈ex\/x∈ID B:=by
 rw[ZR,TA,(Bg _).mem_iff,Yn]
def Xb(A:ed)(ws:List AN):ed:=(Qd (DW (ws.filter λx=>decide (x∈A.map Cd.id)))).filterMap λx=>Mu (gE A) x
def Yw(h:Mu (gE A) x=some c):c∈A/\c.id=x:=by
 induction A with
 |nil=>cases h
 |cons d A ih=>
  change Mu ((d.id,d)::gE A) x=some c at h;unfold Mu at h;by_cases a:d.id=x
  ·rw[Dl a]at h;cases h
   exact⟨by simp,a⟩
  ·rw[C5 a]at h;obtain⟨h1,h2⟩:=ih h;exact⟨by simp[h1],h2⟩
def Wu(hn:(A.map Cd.id).Nodup){ws:List AN}:c∈Xb A ws↔c∈A/\c.id∈ws:=by
 rw[Xb,List.mem_filterMap];constructor
 ·rintro⟨x,a,h⟩;rw[TA,(Bg _).mem_iff,N_]at a;obtain⟨h1,rfl⟩:=Yw h;exact⟨h1,a.1⟩
 ·rintro⟨h1,h2⟩;refine⟨c.id,?_,FE hn h1⟩;rw[TA,(Bg _).mem_iff,N_,decide_eq_true_eq];exact⟨h2,Mj.2 ⟨c,h1,rfl⟩⟩
def Tn(B:ed):ed->ed
 |[]=>B
 |c::cs=>Tn (if c.id∈B.map Cd.id then B else B++[c]) cs
def A2d:∀(cs B:ed),(∀c∈B,c∈Tn B cs)/\(∀c∈Tn B cs,c∈B\/c∈cs)/\(∀c∈cs,c.id∈(Tn B cs).map Cd.id)/\((B.map Cd.id).Nodup->((Tn B cs).map Cd.id).Nodup):=by
 intro cs
 induction cs with
 |nil=>intro B;exact⟨λ_ h=>h,λ_ h=>.inl h,λ_ h=>absurd h (by simp),λh=>h⟩
 |cons d cs ih=>
  intro B;show(∀c∈B,c∈Tn (if d.id∈B.map Cd.id then B else B++[d]) cs)/\(∀c∈Tn (if d.id∈B.map Cd.id then B else B++[d]) cs,c∈B\/c∈d::cs)/\(∀c∈d::cs,c.id∈(Tn (if d.id∈B.map Cd.id then B else B++[d]) cs).map Cd.id)/\((B.map Cd.id).Nodup->((Tn (if d.id∈B.map Cd.id then B else B++[d]) cs).map Cd.id).Nodup)
  by_cases h:d.id∈B.map Cd.id
  ·rw[Dl h];obtain⟨h1,h2,f,g⟩:=ih B;refine⟨h1,λc hc=>(h2 c hc).imp id λh=>by simp[h],λc hc=>?_,g⟩;rcases Tz.1 hc with rfl|hc
   ·obtain⟨e,he,i⟩:=Mj.1 h;exact Mj.2 ⟨e,h1 e he,i⟩
   ·exact f c hc
  ·rw[C5 h];obtain⟨h1,h2,f,g⟩:=ih (B++[d]);refine⟨λc hc=>h1 c (by simp[hc]),λc hc=>?_,λc hc=>?_,λhn=>g ?_⟩
   ·rcases h2 c hc with h|h
    ·rcases Yn.1 h with h|h
     ·exact .inl h
     ·rw[Tx]at h;exact .inr (by simp[h])
    ·exact .inr (by simp[h])
   ·rcases Tz.1 hc with rfl|hc
    ·exact Mj.2 ⟨c,h1 c (by simp),rfl⟩
    ·exact f c hc
   ·rw[Za];refine l38.2 ⟨hn,by simp,λa j b hb=>?_⟩;simp at hb;subst hb;exact λe=>h (e▸j)
def QQ(A:ed):Nat->ed->List AN->ed×Bool
 |0,B,_=>(B,false)
 |n+1,B,a=>if a=[] then(B,true) else if Xb A a=[] then(B,true) else QQ A n (Tn B (Xb A a)) (ZR (Tn B (Xb A a)) [])
def lck(A B:ed):Nat:=(A.filter λc=>decide (c.id∉B.map Cd.id)).length
def A90(i:(A.map Cd.id).Nodup):∀(n:Nat)(B:ed)(ws:List AN),(B.map Cd.id).Nodup->(∀x∈ws,x∉B.map Cd.id)->(∀x∈ID B,x∈ws)->lck A B<n->
 (QQ A n B ws).2=true/\(∀c∈B,c∈(QQ A n B ws).1)/\(∀c∈(QQ A n B ws).1,c∈B\/c∈A)/\((QQ A n B ws).1.map Cd.id).Nodup/\(∀x∈ws,x∈A.map Cd.id->x∈(QQ A n B ws).1.map Cd.id)/\∀x∈ID (QQ A n B ws).1,x∉A.map Cd.id:=by
 intro n
 induction n with
 |zero=>intro B ws _ _ _ h;omega
 |succ n ih=>
  intro B ws k y hm D;unfold QQ;by_cases h1:ws=[]
  ·rw[Dl h1];subst h1;exact⟨rfl,λc h=>h,λc h=>.inl h,k,λx a=>absurd a (by simp),λx a=>absurd (hm x a) (by simp)⟩
  ·rw[C5 h1];by_cases h2:Xb A ws=[]
   ·rw[Dl h2];have f:∀x∈ws,x∉A.map Cd.id:=λx a b=>by
     obtain⟨c,m,rfl⟩:=Mj.1 b;have:=(Wu i).2 ⟨m,a⟩;rw[h2]at this;cases this
    exact⟨rfl,λc h=>h,λc h=>.inl h,k,λx a hc=>absurd hc (f x a),λx a=>f x (hm x a)⟩
   ·rw[C5 h2];obtain⟨a1,a2,s,t⟩:=A2d (Xb A ws) B;have g:∀x,x∈B.map Cd.id->x∈(Tn B (Xb A ws)).map Cd.id:=λx a=>by
     obtain⟨c,hc,rfl⟩:=Mj.1 a;exact Mj.2 ⟨c,a1 c hc,rfl⟩
    have w:lck A (Tn B (Xb A ws))<lck A B:=by
     obtain⟨c,hc⟩:=List.exists_mem_of_ne_nil _ h2;have e:=(Wu i).1 hc;refine yZ (p:=λc=>decide (c.id∉(Tn B (Xb A ws)).map Cd.id)) (q:=λc=>decide (c.id∉B.map Cd.id)) (λd _ j=>?_) e.1 ?_ ?_
     ·rw[decide_eq_true_eq]at j⊢;exact λh=>j (g _ h)
     ·rw[decide_eq_true_eq];exact y _ e.2
     ·rw[decide_eq_false_iff_not,Classical.not_not];exact s c hc
    obtain⟨b1,b2,u,b4,C,b6⟩:=ih (Tn B (Xb A ws)) (ZR (Tn B (Xb A ws)) []) (t k) (λx a=>by
     rw[PW]at a;rcases a with a|a
     ·cases a
     ·exact(Jn.1 a).1) (λx a=>PW.2 (.inr a)) (by omega)
    refine⟨b1,λc hc=>b2 c (a1 c hc),λc hc=>?_,b4,λx a b=>?_,b6⟩
    ·rcases u c hc with h|h
     ·exact(a2 c h).imp id λh=>((Wu i).1 h).1
     ·exact .inr h
    ·obtain⟨c,hc,rfl⟩:=Mj.1 b;have v:=s c ((Wu i).2 ⟨hc,a⟩);obtain⟨d,j,r⟩:=Mj.1 v;rw[<-r];exact Mj.2 ⟨d,b2 d j,rfl⟩
def A4m(m:(A.map Cd.id).Nodup)(C:(B.map Cd.id).Nodup)(hc:∀c∈A,∀d∈B,c.id=d.id->c=d)(r:∀x∈Ej (DU A),x∈B.map Cd.id)(hm:∀x∈ID B,x∉A.map Cd.id)(t:Cmp A x):Cmp B x:=by
 have n:∀y,Cmp A y->y∈B.map Cd.id:=by
  have a:∀y∈(DU A).map Cd.id,y∈UW (DU A):=λy q=>(NU (gs:=DU A)).1.all (uT m) q;have k:∀z y,z∈B.map Cd.id->Cmp A z->Anc (DU A) z y->y∈B.map Cd.id:=by
   intro z y hz w h;have i:∀u v,u∈B.map Cd.id->v∈(DU A).map Cd.id->v∈Sg (DU A) u->v∈B.map Cd.id:=by
    intro u v s hv j;have p:u∈(DU A).map Cd.id:=by
     apply l39;intro hn;rw[sO hn]at j;cases j
    obtain⟨c,f,rfl⟩:=Mj.1 p;rw[fM (Rv m) f]at j;obtain⟨d,g,b⟩:=Mj.1 s;have e:=hc c (OE.1 f).1 d g b.symm;subst e;apply l39;intro hn;exact hm v (Jn.2 ⟨hn,c,g,j⟩) (LF.1 hv).ids
   induction h with
   |one h1 h2=>exact i _ _ hz h1 h2
   |more _ h1 h2 ih=>exact i _ _ ih h1 h2
  intro y q;obtain⟨u,v,e⟩:=List.append_of_mem (a y (LF.2 q));rcases(NU (gs:=DU A)).1.covered (Rv m) a _ y u v (Nat.lt_succ_self _) e with h|⟨z,h1,h2⟩
  ·exact r y h
  ·exact k z y (r z h1) (LF.1 (PI.1 h1).1) h2
 induction t with
 |@mk c h1 h2 ih=>
  obtain⟨d,g,b⟩:=Mj.1 (n c.id (.mk h1 h2));have e:=hc c h1 d g b.symm;subst e;exact .mk g ih
def B3n(g:(A.map Cd.id).Nodup)(m:(B.map Cd.id).Nodup)(hc:∀c∈A,∀d∈B,c.id=d.id->c=d){n:Nat}(q:A.length<n):
 let W:=ZR B ((Ej (DU A)).filter λx=>decide (x∉B.map Cd.id))
 (QQ A n B W).2=true/\(∀c∈B,c∈(QQ A n B W).1)/\(∀c∈(QQ A n B W).1,c∈B\/c∈A)/\((QQ A n B W).1.map Cd.id).Nodup/\∀x,Cmp A x->Cmp (QQ A n B W).1 x:=by
 intro W;have i:lck A B<n:=by
  have:=l32 (λc:Cd=>decide (c.id∉B.map Cd.id)) A;unfold lck;omega
 obtain⟨b1,b2,j,b4,k,b6⟩:=A90 g n B W m (λx a=>by
  rcases PW.1 a with a|a
  ·have:=(N_.1 a).2
   rwa[decide_eq_true_eq]at this
  ·exact(Jn.1 a).1) (λx a=>PW.2 (.inr a)) i
 refine⟨b1,b2,j,b4,λx a=>A4m g b4 (λc b d p e=>?_) (λx a=>?_) b6 a⟩
 ·rcases j d p with h|h
  ·exact hc c b d h e
  ·have a1:=FE g b;have a2:=FE g h;rw[e,a2]at a1;exact(l2c a1).symm
 ·by_cases f:x∈B.map Cd.id
  ·obtain⟨c,hc,rfl⟩:=Mj.1 f;exact Mj.2 ⟨c,b2 c hc,rfl⟩
  ·exact k x (PW.2 (.inl (N_.2 ⟨a,by simp[f]⟩))) (LF.1 (PI.1 a).1).ids
end
section
variable{S T:ed}{x:AN}
def Xy(S:ed):List AN:=DW ((S.map Cd.id).filter λx=>@decide (¬Cmp S x) (Classical.propDecidable _))
def NB(S:ed):ed:=(UW (DU S)).filterMap λx=>Mu (gE S) x
def vD(d:(S.map Cd.id).Nodup):(NB S).map Cd.id=UW (DU S):=by
 have h:∀l:List AN,(∀x∈l,x∈S.map Cd.id)->(l.filterMap λx=>Mu (gE S) x).map Cd.id=l:=by
  intro l
  induction l with
  |nil=>intro _;rfl
  |cons a l ih=>
   intro h;obtain⟨c,hc,rfl⟩:=Mj.1 (h a (by simp));rw[List.filterMap_cons,FE d hc];show c.id::_=_;rw[ih λx b=>h x (by simp[b])]
 exact h _ λx b=>by
  have:=(NU (gs:=DU S)).1.ids x b;exact(LF.1 this).ids
def A28(a:(S.map Cd.id).Nodup){c:Cd}:c∈NB S↔c∈DU S:=by
 rw[NB,List.mem_filterMap];obtain⟨h1,h2⟩:=NU (gs:=DU S);constructor
 ·rintro⟨x,d,h⟩;obtain⟨b,rfl⟩:=Yw h;exact OE.2 ⟨b,LF.1 (h1.ids _ d)⟩
 ·intro h;have hc:=OE.1 h;exact⟨c.id,h1.all (uT a) (LF.2 hc.2),FE a hc.1⟩
end
end Go.Abs
end
noncomputable section
end
noncomputable section
end
noncomputable section
namespace Go.Abs
open Go.RowKit Go.Proofs
set_option maxRecDepth 100000
section
variable{a v:AV}{b:Bool}{H:Hp}{D:Nat}{α:Type}
variable{L n:Nat}
def B9A(l:Is)(h:l.all isV=true):R5 b D l l H false:=by
 have:=KS (b:=b) (D:=D) (H:=H) (λx:Value=>x) (l.map unV);rw[show((l.map unV).map λx=>AV.v x)=l from A60 h]at this;exact this
section
variable{e sz m:Nat}{ie i2:TI}{cs:Is}
def C0g(hsz:sz≠0)(hz:(Bw ie.zero).length=sz)(j:∀K:KV,GM e sz ie 0 [] [] K=K (.sl sz 0 0 0) [(0,.cells false e [])])(hc:cs.length=m*sz)(h1:cs.all AV.one=true)(hv:cs.all isV=true)(s:(XG i2.d&&RH sz (.list m cs))=true)(p:∀(H:Hp)(K:Nat->Is->Af),SS H (.list m cs) K=K m cs)(hb:m*ie.bytes<=70368744177664)(hm:m<=70368744177664)(k:0<m):
 ∃f c,(∀K:KV,(GM e sz ie 0 [] [] λt g=>E5 e sz ie i2 t (.list m cs) g K)=K f c)/\∀b,∃q,Fx b depth f (.list m cs) c q:=by
 have h:B0 [(0,.cells false e [])] e sz (.sl sz 0 0 0) 0 []:=.inr ⟨0,false,rfl,rfl,by simp⟩;obtain⟨f,c,a1,a2,u,w⟩:=apt (ie:=ie) (i2:=i2) h (λK=>p _ K) hc h1 hsz hz s (by rw[Jt];exact hb) (by rw[Jt];exact hm);rw[Jt,l3d]at a2;refine⟨f,c,λK=>?_,λb=>?_⟩
 ·rw[j];exact a1 K
 ·rcases a2 with⟨_,h2,_⟩|⟨r,q,rfl,h2,i⟩
  ·omega
  ·exact⟨_,Xd (D:=depth-1) h2 i (B9A cs hv)⟩
def hbt{b m:Nat}(h:b<=1000)(c:m<999):(m+1)*b<=70368744177664:=by
 have:=Nat.mul_le_mul (show m+1<=1000 by omega) h;omega
def Pln(sz:Nat)(a:AV):Prop:=a=Aw\/∃m cs,a=.list (m+1) cs/\cs.length=(m+1)*sz/\cs.all AV.one=true/\cs.all isV=true/\m<999
def Pln.fx(h:Pln sz a):Fx true depth a a H false:=by
 rcases h with rfl|⟨m,cs,rfl,_⟩
 ·exact C7
 ·exact On
end
def C4J(h:Pln 3 a):CS (r! L (n+1)) Ft [a] a:=by
 intro K c;rw[XA5];unfold Fq Iu;rcases h with rfl|⟨m,cs,rfl,h1,h2,g,i⟩
 ·have e:∀{K:K2},Ap AB .eql Aw (AV.v (.slice none 0 0)) K=K (Bo true):=λ{K}=>id rfl;rw[e,Cr];exact c _ _ λb=>⟨false,C7⟩
 ·have e:∀{K:K2},Ap AB .eql (.list (m+1) cs) (AV.v (.slice none 0 0)) K=K (Bo false):=λ{K}=>id rfl;rw[e,Bh];obtain⟨k,j,d,f⟩:=C0g (e:=Ba) (sz:=3) (ie:=BU) (i2:=AB) (by decide) rfl (λK=>by kernel_rfl) h1 h2 g rfl (λH K=>Vm) (hbt (show BU.bytes<=1000 by decide) i) (by omega) (by omega);rw[d];exact c _ _ f
def C4I(h:Pln 20 a):CS (r! L (n+1)) DS [a] a:=by
 intro K c;rw[LR];unfold Fp Iu;rcases h with rfl|⟨m,cs,rfl,h1,h2,g,i⟩
 ·have e:∀{K:K2},Ap Am .eql Aw (AV.v (.slice none 0 0)) K=K (Bo true):=λ{K}=>id rfl;rw[e,Cr];exact c _ _ λb=>⟨false,C7⟩
 ·have e:∀{K:K2},Ap Am .eql (.list (m+1) cs) (AV.v (.slice none 0 0)) K=K (Bo false):=λ{K}=>id rfl;rw[e,Bh];obtain⟨k,j,d,f⟩:=C0g (e:=AA) (sz:=20) (ie:=A1) (i2:=Am) (by decide) rfl (λK=>by kernel_rfl) h1 h2 g rfl (λH K=>Vm) (hbt (show A1.bytes<=1000 by decide) i) (by omega) (by omega);rw[d];exact c _ _ f
def C4K(h:Pln 26 a):CS (r! L (n+1)) DT [a] a:=by
 intro K c;rw[LU];unfold XA2 Iu;rcases h with rfl|⟨m,cs,rfl,h1,h2,g,i⟩
 ·have e:∀{K:K2},Ap A0 .eql Aw (AV.v (.slice none 0 0)) K=K (Bo true):=λ{K}=>id rfl;rw[e,Cr];exact c _ _ λb=>⟨false,C7⟩
 ·have e:∀{K:K2},Ap A0 .eql (.list (m+1) cs) (AV.v (.slice none 0 0)) K=K (Bo false):=λ{K}=>id rfl;rw[e,Bh];obtain⟨k,j,d,f⟩:=C0g (e:=AU) (sz:=26) (ie:=AO) (i2:=A0) (by decide) rfl (λK=>by kernel_rfl) h1 h2 g rfl (λH K=>Vm) (hbt (show AO.bytes<=1000 by decide) i) (by omega) (by omega);rw[d];exact c _ _ f
def mJ{K:KV}:(r! L (n+1)).call Bi [Aw] H K=K Aw H:=by
 rw[FR];unfold DD Iu;have e:∀{K:K2},Ap Ac .eql Aw (AV.v (.slice none 0 0)) K=K (Bo true):=λ{K}=>id rfl;rw[e,Cr]
def A3S{f:α->Is}(h:∀a,(f a).all isV=true)(l:List α):(l.flatMap f).all isV=true:=by
 rw[GE];intro x d;obtain⟨a,_,c⟩:=l3b.1 d;exact GE.1 (h a) x c
def Q!{f:α->Is}(h:∀a,(f a).all AV.one=true)(l:List α):(l.flatMap f).all AV.one=true:=by
 rw[GE];intro x d;obtain⟨a,_,c⟩:=l3b.1 d;exact GE.1 (h a) x c
def A3p{ts:jL}(h:ts.length<=6):Pln 3 (FF ts):=by
 cases ts with
 |nil=>exact .inl rfl
 |cons a l=>
  simp at h;exact .inr ⟨l.length,(a::l).flatMap OI,rfl,iE OI 3 (λ_=>rfl) (a::l),Q! (λ_=>rfl) _,A3S (λ_=>rfl) _,by omega⟩
def A9Z{ks:Hb}(h1:1<=ks.length)(h2:ks.length<=6):Pln 20 (BP ks):=by
 cases ks with
 |nil=>simp at h1
 |cons a l=>
  simp at h2;exact .inr ⟨l.length,(a::l).flatMap HJ,rfl,iE HJ 20 (λ_=>rfl) (a::l),Q! (λ_=>rfl) _,A3S (λ_=>rfl) _,by omega⟩
def A9Y{xs:List Nd}(h1:1<=xs.length)(h2:xs.length<=9):Pln 26 (Cu xs):=by
 cases xs with
 |nil=>simp at h1
 |cons a l=>
  simp at h2;exact .inr ⟨l.length,(a::l).flatMap K!,rfl,iE K! 26 (λ_=>rfl) (a::l),Q! (λ_=>rfl) _,A3S (λ_=>rfl) _,by omega⟩
def Cd.fT(c:Cd):AV:=(c.csP Aw).getD 28 .dk
def Cd.fI(c:Cd):AV:=(c.csP Aw).getD 33 .dk
def Cd.fN(c:Cd):AV:=(c.csP Aw).getD 34 .dk
def Zl(c:Cd)(P:AV):(c.csP P).getD 28 .dk=c.fT/\(c.csP P).getD 31 .dk=P/\(c.csP P).getD 33 .dk=c.fI/\(c.csP P).getD 34 .dk=c.fN/\(c.csP P).getD 66 .dk=Aw/\(c.csP P).getD 67 .dk=Aw:=by
 match c with
 |.re b u=>exact⟨rfl,rfl,rfl,rfl,rfl,rfl⟩
 |.co b p ps none=>exact⟨rfl,rfl,rfl,rfl,rfl,rfl⟩
 |.co b p ps (some (k,vd))=>exact⟨rfl,rfl,rfl,rfl,rfl,rfl⟩
def Zk(c:Cd)(P:AV):(c.csP P).set 28 c.fT=c.csP P/\(∀Q,(c.csP P).set 31 Q=c.csP Q)/\(c.csP P).set 33 c.fI=c.csP P/\(c.csP P).set 34 c.fN=c.csP P/\(c.csP P).set 66 Aw=c.csP P/\(c.csP P).set 67 Aw=c.csP P:=by
 match c with
 |.re b u=>exact⟨rfl,λQ=>rfl,rfl,rfl,rfl,rfl⟩
 |.co b p ps none=>exact⟨rfl,λQ=>rfl,rfl,rfl,rfl,rfl⟩
 |.co b p ps (some (k,vd))=>exact⟨rfl,λQ=>rfl,rfl,rfl,rfl,rfl⟩
def C0h{c:Cd}(h:c.Ok):Pln 3 c.fT/\Pln 20 c.fI/\Pln 26 c.fN:=by
 match c,h with
 |.re b u,⟨hb,_⟩=>exact⟨A3p hb.ts.len,.inl rfl,.inl rfl⟩
 |.co b p ps none,⟨hb,d,_⟩=>exact⟨A3p hb.ts.len,A9Z d.k1 (by have:=d.k3;omega),A9Y (by have:=d.k1;show 1<=(Lj p.ks++p.x.nd).length;rw[EC,DX];omega) (by
  have:=d.k3;show(Lj p.ks++p.x.nd).length<=9;rw[EC,DX];have:p.x.nd.length<=1:=by cases p.x<;>simp[Ex.nd]
  omega)⟩
 |.co b p ps (some (k,vd)),⟨hb,d,_⟩=>exact⟨A3p hb.ts.len,A9Z d.k1 (by have:=d.k3;omega),A9Y (by have:=d.k1;show 1<=(Lj p.ks++p.x.nd).length;rw[EC,DX];omega) (by
  have:=d.k3;show(Lj p.ks++p.x.nd).length<=9;rw[EC,DX];have:p.x.nd.length<=1:=by cases p.x<;>simp[Ex.nd]
  omega)⟩
def Pln.cell{sz:Nat}(h:Pln sz a):Bw a=[a]/\AV.one a=true:=by
 rcases h with rfl|⟨m,cs,rfl,_⟩<;>exact⟨rfl,rfl⟩
def YM.cell{l:List AN}(h:YM H v l):Bw v=[v]/\AV.one v=true:=by
 rcases h with⟨rfl,_⟩|⟨_,_,_,_,rfl,_⟩<;>exact⟨rfl,rfl⟩
def YM.kp{H H':Hp}{l:List AN}(h:YM H v l)(k:∀u y,A8 v u->Aj H u=some y->Aj H' u=some y):YM H' v l:=by
 rcases h with h|⟨r,o,q,cs,rfl,h2,c,d⟩
 ·exact .inl h
 ·exact .inr ⟨r,o,q,cs,rfl,k r _ ⟨_,_,_,rfl⟩ h2,c,d⟩
def YM.fxc{l:List AN}(h:YM H v l)(c:l=[]->v=Aw):∃q,Fx b (D+1) v (DJ l) H q:=by
 cases l with
 |nil=>rw[c rfl];exact⟨false,C7⟩
 |cons a l=>
  rcases h with⟨_,h⟩|⟨r,o,q,cs,rfl,h2,d,f⟩
  ·cases h
  ·refine⟨true,Wx (q':=false) h2 (by rw[pZ];omega) ?_⟩;rw[d,pZ];have:(AG (a::l)).take (a::l).length=AG (a::l):=Y? (by rw[AZ];omega);rw[this];exact Vj _
def A0w{c:Cd}(ae:c.Ok)(af:c.ps.length<100):CT (r! L (n+2)) Ld [.agg c.cs] (.agg c.cs):=by
 intro K hK;rw[Z8];unfold Oi Em;obtain⟨pT,pI,pN⟩:=C0h ae;have e0:c.cs=c.csP (DJ c.ps):=(A4k c).symm;have one:∀P,AV.one P=true->(c.csP P).all AV.one=true:=λP h=>qI c h;have X:AV.one (DJ c.ps)=true:=by cases c.ps<;>rfl
 have l0:∀{H:Hp},Aj H 0=some (c_ Ad (c.csP (DJ c.ps)))->True:=λ_=>trivial;have same:∀{H:Hp}{P:AV}{p:Nat}{i:TI}{v:AV}{K:Ru},Aj H 0=some (c_ Ad (c.csP P))->p<68->i.size=1->Bw v=[v]/\AV.one v=true->(c.csP P).set p v=c.csP P->E4 i (.ptr 0 p 0) v H K=K (upd H 0 (c_ Ad (c.csP P))):=λ{H P p i v K}hl hp hi hv hs=>by
  rw[Ei (cs:=c.csP P) hl (by rw[OC];exact hp) hi hv.1 hv.2,hs]
 have ld:∀{H:Hp}{P:AV}{p:Nat}{i:TI}{v:AV}{K:K2},i.d.isAgg=false->Aj H 0=some (c_ Ad (c.csP P))->p<68->(c.csP P).getD p .dk=v->AD i (.ptr 0 p 0) H K=K v:=λ{H P p i v K}hi hl hp hv=>by
  rw[AQ (p:=p) hi hl (by rw[OC];exact hp),hv]
 have eb:∀{K:KV},Hr Ad (.agg (c.csP (DJ c.ps))) [] K=K (.ptr 0 0 0) [(0,c_ Ad (c.csP (DJ c.ps)))]:=λ{K}=>En (one _ X);have ea:∀{K:KV},Bz Ad Ae [(0,c_ Ad (c.csP (DJ c.ps)))] K=K (.ptr 1 0 0) [(1,c_ Ad CJ),(0,c_ Ad (c.csP (DJ c.ps)))]:=λ{K}=>B3 (cs:=CJ) rfl;rw[e0,eb,ea];have h0:Aj [(1,c_ Ad CJ),(0,c_ Ad (c.csP (DJ c.ps)))] 0=some (c_ Ad (c.csP (DJ c.ps))):=rfl;have h1:Aj [(1,c_ Ad CJ),(0,c_ Ad (c.csP (DJ c.ps)))] 1=some (c_ Ad CJ):=rfl;have w0:Wf [(1,c_ Ad CJ),(0,c_ Ad (c.csP (DJ c.ps)))]:=AJ (AJ Fl);show CY 26 (.ptr 0 0 0) _=_;rw[fA,fA];show AD AB (.ptr 0 28 0) [(1,c_ Ad CJ),(0,c_ Ad (c.csP (DJ c.ps)))] _=_;generalize [(1,c_ Ad CJ),(0,c_ Ad (c.csP (DJ c.ps)))]=H at h0 h1 w0;rw[ld rfl h0 (by decide) (Zl c _).1,AR (C4J (n:=n) pT) (An pT.fx AK),fA,fA];show E4 AB (.ptr 0 28 0) c.fT H _=_;rw[same h0 (by decide) rfl pT.cell (Zk c _).1];have Y:=AC (q:=true) (e:=Ad) (cs:=c.csP (DJ c.ps)) h0;have a1:Aj (upd H 0 (c_ Ad (c.csP (DJ c.ps)))) 1=some (c_ Ad CJ):=by rw[Ag (by decide)];exact h1
 have aw:Wf (upd H 0 (c_ Ad (c.csP (DJ c.ps)))):=Bq w0;generalize upd H 0 (c_ Ad (c.csP (DJ c.ps)))=H1 at Y a1 aw;show CY 31 (.ptr 0 0 0) _=_;rw[fA];show AD Ac (.ptr 0 31 0) H1 _=_;rw[ld rfl Y (by decide) (Zl c _).2.1];have main:∀v f,YM f v c.ps->(c.ps=[]->v=Aw)->Aj f 0=some (c_ Ad (c.csP (DJ c.ps)))->Aj f 1=some (c_ Ad CJ)->(∀u,A8 v u->1<u)->Wf f->
  (CY 31 (.ptr 0 0 0) λah=>E4 Ac ah v f λr=>CY 32 (.ptr 0 0 0) λai=>CY 1 ai λaj=>AD Am aj r λak=>Ao (r! L (n+1)) DS [ak] r λam=>
   CY 32 (.ptr 0 0 0) λan=>CY 1 an λao=>E4 Am ao am r λs=>CY 32 (.ptr 0 0 0) λap=>CY 2 ap λaq=>AD A0 aq s λar=>Ao (r! L (n+1)) DT [ar] s λax=>
   CY 32 (.ptr 0 0 0) λay=>CY 2 ay λaz=>E4 A0 az ax s λw=>CY 65 (.ptr 0 0 0) λa3=>CY 1 a3 λa4=>AD Ac a4 w λa5=>(r! L (n+1)).call Bi [a5] w λa6 aa=>
   CY 65 (.ptr 0 0 0) λa7=>CY 1 a7 λa8=>E4 Ac a8 a6 aa λx=>CY 65 (.ptr 0 0 0) λa9=>CY 2 a9 λba=>AD Ac ba x λbc=>(r! L (n+1)).call Bi [bc] x λbd ab=>
   CY 65 (.ptr 0 0 0) λbe=>CY 2 be λbf=>E4 Ac bf bd ab λC=>AD Ae (.ptr 0 0 0) C λbg=>E4 Ae (.ptr 1 0 0) bg C λF=>AD Ae (.ptr 1 0 0) F λbh=>K bh F)=some (.agg (c.csP (DJ c.ps)),[]):=λv f hv ag b0 b1 hr bw=>by
  rw[fA];show E4 Ac (.ptr 0 31 0) v f _=_;rw[Ei (cs:=c.csP (DJ c.ps)) b0 (by rw[OC];decide) rfl hv.cell.1 hv.cell.2,(Zk c _).2.1 v];have J:YM (upd f 0 (c_ Ad (c.csP v))) v c.ps:=hv.kp λu y j V=>by rw[Ag (by have:=hr u j;omega)];exact V
  have Z:=AC (q:=true) (e:=Ad) (cs:=c.csP v) b0;have c1:Aj (upd f 0 (c_ Ad (c.csP v))) 1=some (c_ Ad CJ):=by rw[Ag (by decide)];exact b1
  have cw:Wf (upd f 0 (c_ Ad (c.csP v))):=Bq bw;generalize upd f 0 (c_ Ad (c.csP v))=H3 at J Z c1 cw;have k:∀{H:Hp},Aj H 0=some (c_ Ad (c.csP v))->Aj H 1=some (c_ Ad CJ)->YM H v c.ps->Aj (upd H 0 (c_ Ad (c.csP v))) 0=some (c_ Ad (c.csP v))/\Aj (upd H 0 (c_ Ad (c.csP v))) 1=some (c_ Ad CJ)/\YM (upd H 0 (c_ Ad (c.csP v))) v c.ps:=λ{H}t g1 g2=>
   ⟨AC t,by rw[Ag (by decide)];exact g1,g2.kp λu y j V=>by rw[Ag (by have:=hr u j;omega)];exact V⟩
  rw[fA,fA];show AD Am (.ptr 0 33 0) H3 _=_;rw[ld rfl Z (by decide) (Zl c _).2.2.1,AR (C4I (n:=n) pI) (An pI.fx AK),fA,fA];show E4 Am (.ptr 0 33 0) c.fI H3 _=_;rw[same Z (by decide) rfl pI.cell (Zk c _).2.2.1];obtain⟨d0,d1,M⟩:=k Z c1 J;generalize upd H3 0 (c_ Ad (c.csP v))=H4 at d0 d1 M;rw[fA,fA];show AD A0 (.ptr 0 34 0) H4 _=_;rw[ld rfl d0 (by decide) (Zl c _).2.2.2.1,AR (C4K (n:=n) pN) (An pN.fx AK),fA,fA];show E4 A0 (.ptr 0 34 0) c.fN H4 _=_;rw[same d0 (by decide) rfl pN.cell (Zk c _).2.2.2.1];obtain⟨f0,f1,N⟩:=k d0 d1 M;generalize upd H4 0 (c_ Ad (c.csP v))=H5 at f0 f1 N;rw[fA,fA];show AD Ac (.ptr 0 66 0) H5 _=_;rw[ld rfl f0 (by decide) (Zl c _).2.2.2.2.1,mJ,fA,fA];show E4 Ac (.ptr 0 66 0) Aw H5 _=_;rw[same f0 (by decide) rfl ⟨rfl,rfl⟩ (Zk c _).2.2.2.2.1];obtain⟨t,g1,O⟩:=k f0 f1 N;generalize upd H5 0 (c_ Ad (c.csP v))=H6 at t g1 O;rw[fA,fA];show AD Ac (.ptr 0 67 0) H6 _=_;rw[ld rfl t (by decide) (Zl c _).2.2.2.2.2,mJ,fA,fA];show E4 Ac (.ptr 0 67 0) Aw H6 _=_;rw[same t (by decide) rfl ⟨rfl,rfl⟩ (Zk c _).2.2.2.2.2];obtain⟨i0,i1,Q⟩:=k t g1 O;generalize upd H6 0 (c_ Ad (c.csP v))=H7 at i0 i1 Q;rw[Bv rfl (by exact(OC c).symm) i0,Ch (cs:=CJ) (vs:=c.csP v) i1 (by rw[OC];rfl) rfl (one v hv.cell.2)];have j1:=AC (q:=true) (e:=Ad) (cs:=c.csP v) i1;have R:YM (upd H7 1 (c_ Ad (c.csP v))) v c.ps:=Q.kp λu y j V=>by rw[Ag (by have:=hr u j;omega)];exact V
  rw[Bv rfl (by exact(OC c).symm) j1];rw[<-e0];refine hK _ _ ?_;generalize upd H7 1 (c_ Ad (c.csP v))=H8 at R;obtain⟨q,hq⟩:=R.fxc ag (b:=true) (D:=depth-2);obtain⟨A,B,e,ac,ad⟩:=mI c;rw[e0,e,e];exact⟨_,L2 (D:=depth-1) (P' (Zb A ac) (An hq (Zb B ad)))⟩
 by_cases g:c.ps=[]
 ·have en:DJ c.ps=Aw:=by rw[g];rfl
  have:=main Aw H1 (.inl ⟨rfl,g⟩) (λ_=>rfl) Y a1 (λu j=>absurd j HV) aw;rw[en];rw[en]at this;rw[mJ];exact this
 ·refine B2X (n:=n) aw af λv f hv hk hr hw=>main v f hv (λh=>absurd h g) (hk _ _ Y) (hk _ _ a1) (λu j=>?_) hw;have b1:=hr u j;have b2:=aw.lt a1;omega
end
section
variable{L n:Nat}
def B1z{a b:AN}:∀m:List AN,Qd (m++[a,b])=Qd (m++[a])++if b=a then[] else[b]:=by
 intro m
 induction m with
 |nil=>
  show(match(match([]:List AN) with|[]=>[b]|c::q=>if b=c then c::q else b::c::q) with|[]=>[a]|c::q=>if a=c then c::q else a::c::q)=[a]++_;by_cases h:b=a
  ·subst h;simp
  ·simp[h,Ne.symm h]
 |cons x m ih=>
  have e:∀l:List AN,Qd (x::l)=match Qd l with|[]=>[x]|c::q=>if x=c then c::q else x::c::q:=λl=>rfl
  rw[List.cons_append,List.cons_append,e,e,ih];cases h:Qd (m++[a]) with
  |nil=>
   have:a∈Qd (m++[a]):=TA.2 (by simp);rw[h]at this;cases this
  |cons c q=>
   show(if x=c then c::(q++_) else x::c::(q++_))=(if x=c then c::q else x::c::q)++_;by_cases d:x=c
   ·rw[Dl d,Dl d];rfl
   ·rw[C5 d,C5 d];rfl
def A1Z{l:List AN}{j:Nat}(h1:1<=j)(h:j<l.length):Qd (l.take (j+1))=Qd (l.take j)++if l[j]=l[j-1] then[] else[l[j]]:=by
 have a:l.take j=l.take (j-1)++[l[j-1]]:=by
  have:=lO (l:=l) (i:=j-1) (by omega);rw[show j-1+1=j by omega]at this;exact this
 have b:l.take (j+1)=l.take (j-1)++[l[j-1],l[j]]:=by
  rw[lO h,a,ZL];rfl
 rw[b,B1z,<-a]
def C0a(l:List AN):(Qd l).length<=l.length:=by
 induction l with
 |nil=>exact Me _
 |cons a l ih=>
  unfold Qd;cases h:Qd l with
  |nil=>simp
  |cons b m=>
   rw[h]at ih;show(if a=b then b::m else a::b::m).length<=_;split
   ·simp at ih⊢;omega
   ·simp at ih⊢;omega
section
variable{l:List AN}{H:Hp}{K:KV}{x:Af}{R:Rt}
def B1n{r o i m:Nat}{K:K2}(h:i<m):Ds Ac (.sl 1 r o m) (I (i:Int)) K=K (.ptr r (o+i) 0):=by
 have a:Ds Ac (.sl 1 r o m) (I (i:Int)) K=iN (i:Int) λn=>ck (Nat.blt n m) (fN (Nat.add o (Nat.mul n 1)) λp=>K (.ptr r p 0)):=rfl;rw[a,Ju,Dy];have h1:Nat.blt i m=true:=by rw[Wr];exact h
 rw[h1];show K (.ptr r (o+i*1) 0)=_;rw[pZ]
def C3e{k31:AV->KV}{H0:Hp}{r B:Nat}{q:Bool}{tl:Is}(hb:l.length<1000000)(V:1<=B)(O:B<l.length)(g:∀cs H',Aj H' r=some (.cells q Av cs)->cs.length=l.length+tl.length->cs.take (Qd l).length=AG (Qd l)->Lat H0 H' (λu=>u=r)->k31 (.sl 1 r 0 l.length) (I (Qd l).length) H'=x):
 ∀(f i:Nat)(cs:Is)(H':Hp),1<=i->B+i<=l.length->l.length-(B+i)<f->Aj H' r=some (.cells q Av cs)->cs.length=l.length+tl.length->cs.take (Qd (l.take (B+i))).length=AG (Qd (l.take (B+i)))->cs.drop (B+i-1)=AG (l.drop (B+i-1))++tl->(Qd (l.take (B+i))).length<B+i->Lat H0 H' (λu=>u=r)->
 FC (L+20) R K k31 f (.sl 1 r 0 l.length) (I (Qd (l.take (B+i))).length) (.sl 1 r B (l.length-B)) (I i) H'=x:=by
 intro f
 induction f with
 |zero=>intro i cs H' _ _ h;omega
 |succ f ih=>
  intro i cs H' Y Q X m b t y J D;rw[Mg];unfold FD HR OG A3;have N:∀K,Bm Ac (.sl 1 r B (l.length-B)) K=K (I ((l.length-B:Nat):Int)):=λK=>id rfl;rw[N];by_cases h:B+i<l.length
  ·have A:∀j,B+i-1<=j->(d:j<l.length)->(hc:j<cs.length)->cs[j]=S l[j]:=λj h1 d hc=>by
    have c:cs[j]?=(cs.drop (B+i-1))[j-(B+i-1)]?:=by rw[tT];congr 1;omega
    rw[y,l0m (by rw[AZ,Z_];omega)]at c;have M:(AG (l.drop (B+i-1)))[j-(B+i-1)]?=some (S l[j]):=by
     unfold AG;rw[xE,tT,show B+i-1+(j-(B+i-1))=j by omega,K8 d];rfl
    rw[M,K8 hc]at c;exact l2c c
   have e:∀{j:Nat}{K:K2},B+i-1<=j->(d:j<l.length)->AD Ak (.ptr r j 0) H' K=K (S l[j]):=λ{j K}h1 d=>by
    rw[AQ (p:=j) rfl m (by omega),Vf,K8 (by omega:j<cs.length),l1q,A j h1 d (by omega)]
   have a:=A1Z (l:=l) (j:=B+i) (by omega) h;rw[FV (by omega),Cr];simp only[BJ];have k:∀{K:K2},Ds Ac (.sl 1 r B (l.length-B)) (I (i:Int)) K=K (.ptr r (B+i) 0):=λ{K}=>B1n (by omega);have C:∀{K:K2},Ds Ac (.sl 1 r B (l.length-B)) (I ((i-1:Nat):Int)) K=K (.ptr r (B+i-1) 0):=λ{K}=>by
    rw[B1n (by omega),show B+(i-1)=B+i-1 by omega]
   rw[k,B4,e (by omega) h,B4,fB (by omega) (by omega),B4,C,B4,e (Me _) (by omega),B4,Zj];by_cases he:l[B+i]=l[B+i-1]
   ·rw[Dl he,UC]at a;rw[Hj he];show Ar (some (.v (.bool false),[])) _=_;rw[B4,Bh,Dd (by omega)];have:=ih (i+1) cs H' (by omega) (by omega) (by omega) m b (by rw[show B+(i+1)=B+i+1 by omega,a];exact t) (by
     have c:=congrArg (List.drop 1) y;rw[l1a,show B+i-1+1=B+(i+1)-1 by omega]at c;rw[c,l35 (by rw[AZ,Z_];omega)]
     congr 1
     unfold AG;rw[<-List.map_drop,l1a,show B+i-1+1=B+(i+1)-1 by omega]) (by rw[show B+(i+1)=B+i+1 by omega,a];omega) D
    rw[show B+(i+1)=B+i+1 by omega,a]at this;exact this
   ·rw[C5 he]at a;rw[HX he];show Ar (some (.v (.bool true),[])) _=_;have F:(Qd (l.take (B+i))).length<l.length:=by omega
    rw[B4,Cr,k,e (by omega) h,Rr F,Ei m (by omega) rfl rfl rfl,Dd (by omega),Dd (by omega)];have w:(Qd (l.take (B+i+1))).length=(Qd (l.take (B+i))).length+1:=by rw[a,EC];rfl
    have:=ih (i+1) (cs.set (Qd (l.take (B+i))).length (S l[B+i])) (upd H' r (.cells q Av (cs.set (Qd (l.take (B+i))).length (S l[B+i])))) (by omega) (by omega) (by omega) (AC m) (by rw[List.length_set];exact b) (by
     rw[show B+(i+1)=B+i+1 by omega,w,a];have s:(Qd (l.take (B+i))).length<(cs.set (Qd (l.take (B+i))).length (S l[B+i])).length:=by rw[List.length_set];omega
     rw[lO s,List.getElem_set_self,List.take_set_of_le (Me _),t];simp[AG]) (by
     rw[List.drop_set_of_lt (by omega)];have c:=congrArg (List.drop 1) y;rw[l1a,show B+i-1+1=B+(i+1)-1 by omega]at c;rw[c,l35 (by rw[AZ,Z_];omega)]
     congr 1
     unfold AG;rw[<-List.map_drop,l1a,show B+i-1+1=B+(i+1)-1 by omega]) (by rw[show B+(i+1)=B+i+1 by omega,w];omega) (D.trans (Lat.upd _ _ _ (P:=λu=>u=r) rfl) (λ_ _ h=>h) (λ_ _ h=>h))
    rw[show B+(i+1)=B+i+1 by omega,w]at this;exact this
  ·have d:B+i=l.length:=by omega
   rw[FT (by omega),Bh];rw[d,Y? (Me _)]at t J⊢;exact g cs H' m b t D
def B5v{v:AV}(wf:Wf H)(h:Nn H v l)(hb:l.length<100000)(hL:200000<L)(D:∀N g,Nn g N (Qd l)->(∀u,A8 N u->A8 v u)->(v=Aw->N=Aw)->Lat H g (A8 v)->K N g=x):(rt (L+20) (n+1)).call Cq [v] H K=x:=by
 rw[IC];unfold Ep A3;simp only[BJ];rw[h.len];have e1:(AV.v (.int .i64 1))=I ((1:Nat):Int):=rfl;have e2:(AV.v (.int .i64 2))=I ((2:Nat):Int):=rfl;rw[e1,e2];by_cases h2:l.length<2
 ·rw[FV (by omega),Cr];have ec:Qd l=l:=by
   match l,h2 with
   |[],_=>rfl
   |[a],_=>rfl
  rw[ec]at D;exact D v H h (λ_ h=>h) (λh=>h) (Lat.refl _ _)
 ·rw[FT (by omega),Bh];rcases h with⟨_,rfl⟩|⟨r,q,tl,rfl,V⟩
  ·simp at h2
  have C:∀u,A8 (.sl 1 r 0 l.length) u↔u=r:=λu=>⟨λ⟨_,_,_,h⟩=>by injection h with _ h;exact h.symm,λh=>h▸⟨1,0,_,rfl⟩⟩
  have lat:∀{g},Lat H g (λu=>u=r)->Lat H g (A8 (.sl 1 r 0 l.length)):=λk=>⟨k.wf,k.nx,λw u y X hn=>k.keep w u y X λe=>hn ((C u).2 e)⟩
  have s:∀{j:Nat}{K:K2},(M:j<l.length)->AD Ak (.ptr r j 0) H K=K (S l[j]):=λ{j K}M=>by
   rw[AQ (p:=j) rfl V (by rw[EC,AZ];omega),Vf,l0m (by rw[AZ];omega)];unfold AG;rw[xE,K8 M];rfl
  have lp:∀(f i:Nat)(d1 d2:AV),1<=i->i<=l.length->l.length-i<f->Qd (l.take i)=l.take i->
   Ea (L+20) (rt (L+20) n) K (λv H=>K v H) f (.sl 1 r 0 l.length) (I i) d1 d2 H=x:=by
   intro f
   induction f with
   |zero=>intro i d1 d2 _ _ h;omega
   |succ f ih=>
    intro i d1 d2 A hi hf hc;rw[Iw];unfold Eb OG A3;have el:∀K,Bm Ac (.sl 1 r 0 l.length) K=K (I l.length):=λK=>id rfl;rw[el];by_cases d:i<l.length
    ·rw[FV (by omega),Cr,Rr d,B4,s d,B4,fB (by omega) (by omega),B4,Rr (by omega),B4,s (by omega),B4,Mb];have b:=A1Z (l:=l) (j:=i) A d;by_cases he:l[i]=l[i-1]
     ·rw[Dl he,UC,hc]at b;rw[Hj he,B4,Cr,Zg hi];simp only[BJ];rw[e1];have c:(Qd (l.take (i+1))).length=i:=by rw[b,vN];omega
      have main:=C3e (L:=L) (R:=rt (L+20) n) (K:=K) (H0:=H) (r:=r) (B:=i) (q:=q) (tl:=tl) (x:=x)
       (k31:=λF J P=>C8 Ac F (some J) none none λY=>uN 1 Ak Y P λO=>C8 Ac F none (some J) none λZ=>K Z O)
       (by omega) A d (λcs g g1 g2 g3 g4=>?_) (L+20) 1 (AG l++tl) H (by omega) (by omega) (by omega) V (by rw[EC,AZ]) (by
        rw[c,b,l34 (by rw[AZ];omega)];simp[AG,List.map_take]) (by
        rw[show i+1-1=i by omega,l35 (by rw[AZ];omega)];simp[AG,List.map_drop]) (by rw[c];omega) (Lat.refl _ _)
      ·rw[c]at main;exact main
      ·have t:=C0a l;obtain⟨Q,H2,c1,c2,c3,c4⟩:=B1u (H:=g) (r:=r) (i:=(Qd l).length) (m:=l.length-(Qd l).length) g1 (by omega);show(C8 Ac (.sl 1 r 0 l.length) (some (I ((Qd l).length:Nat))) none none _)=_;rw[Zg t,c1,Zh t];refine D _ H2 (.inr ⟨r,q,Q.drop (Qd l).length,rfl,?_⟩) (λu X=>?_) (λh=>by cases h) (lat (g4.trans c4 (λ_ _ h=>h) (λ_ _ h=>h)))
       ·rw[c2,<-g3,<-c3,l3a]
       ·obtain⟨_,_,_,h⟩:=X;injection h with _ h
        exact⟨1,0,_,by rw[h]⟩
     ·rw[C5 he,hc]at b;rw[HX he,B4,Bh,Dd (by omega)];exact ih (i+1) _ _ (by omega) (by omega) (by omega) (by rw[b,lO d])
    ·have M:i=l.length:=by omega
     subst M;rw[Y? (Me _)]at hc;rw[FT (by omega),Bh];rw[hc]at D;exact D _ H (.inr ⟨r,q,tl,rfl,V⟩) (λ_ h=>h) (λh=>h) (Lat.refl _ _)
  refine lp (L+20) 1 _ _ (by omega) (by omega) (by omega) ?_
  match l,h2 with
  |[],h2=>simp at h2
  |a::l,_=>rfl
end
end
section
variable{c:Cd}{H:Hp}{D:Nat}
variable{L n:Nat}
section
variable{l:List AN}{P:AN->Bool}
def B4O:(decide (0<=fiN P l 0))=l.any P:=by
 rcases A1y P l 0 with⟨h1,h2⟩|⟨i,d,h1,h2,_⟩
 ·have:l.any P=false:=by
   rw[List.any_eq_false];intro a b;rw[h2 a b];simp
  rw[this,h1];rfl
 ·have:l.any P=true:=List.any_eq_true.2 ⟨_,PD d,h2⟩;rw[this,h1,Hj (by omega)]
def rH{a fn:AV}(f:SA l a)(i:∀(s:AN)(K:KV),Ct (E (L+20)) (r! L n) fn [S s] [] K=K (Bo (P s)) [])(d:Fx true depth fn fn [] false)(hb:l.length<1000000)(h:l.length<L):CS (r! L (n+2)) B2 [a,fn] (Bo (l.any P)):=by
 intro K g;rw[GI];unfold D1 Lr;rw[AR (B5t (n:=n) f i hb h) (An (f.fx []) (An d AK))];have e:∀{K:K2},Ap Ab .geq (I (fiN P l 0)) (AV.v (.int .i64 0)) K=K (Bo (l.any P)):=λ{K}=>by
  rw[KC,B4O]
 rw[e];exact g _ _ λb=>⟨false,C7⟩
end
def A3Q{D r:Nat}{es:ed}{f:Option (Hb×Nat)}(h:Aj H r=some (.map false (Df DK (gE es)) f)):Fx true (D+4) (.mp r) (.imap (Df DK (gE es))) H true:=by
 intro K;show I6 H r (λx=>oZ x λes=>QS (HQ true H (D+3)) es λ_ b=>K true (.imap b))=_;rw[AX h];show QS (HQ true H (D+3)) (Df DK (gE es)) _=_;have e:∀(es:List (AN×Cd))(F:Bool->IH->Af),QS (HQ true H (D+3)) (Df DK es) F=F false (Df DK es):=by
  intro es
  induction es with
  |nil=>intro F;rfl
  |cons a es ih=>
   intro F;show HQ true H (D+3) (.agg a.2.cs) (λq d=>QS (HQ true H (D+3)) (Df DK es) λi g=>F (@Bool.rec (λ_=>Bool) i true q) ((SV a.1,d)::g))=_;rw[A4p,ih];rfl
 rw[e]
section
variable{S out:ed}{x:AN}
def B1F(a:∀c∈S,(∀p∈c.ps,p∈out.map Cd.id)->c.id∈out.map Cd.id)(b:Cmp S x):x∈out.map Cd.id:=by
 induction b with
 |mk h1 _ ih=>exact a _ h1 ih
def YX{l:ed}(h:(l.map Cd.id).Nodup):l.Nodup:=List.Pairwise.of_map Cd.id (λa b d e=>d (e▸rfl)) h
structure Ps(S out:ed):Prop where
 nd:(out.map Cd.id).Nodup
 sub:∀c∈out,c∈S
 cmp:∀c∈out,Cmp S c.id
def Ps.nil:Ps S []:=⟨List.nodup_nil,by simp,by simp⟩
def Ps.add(h:Ps S out)(hc:c∈S)(m:∀p∈c.ps,p∈out.map Cd.id)(hn:c.id∉out.map Cd.id):Ps S (out++[c]):=by
 have g:Cmp S c.id:=.mk hc λp j=>by
  obtain⟨d,f,i⟩:=Mj.1 (m p j);rw[<-i];exact h.cmp d f
 refine⟨?_,λd f=>?_,λd f=>?_⟩
 ·rw[Za];refine l38.2 ⟨h.nd,by simp,λa k b hb=>?_⟩;simp at hb;subst hb;exact λe=>hn (e▸k)
 ·rcases Yn.1 f with f|f
  ·exact h.sub d f
  ·rw[Tx]at f;subst f;exact hc
 ·rcases Yn.1 f with f|f
  ·exact h.cmp d f
  ·rw[Tx]at f;subst f;exact g
def Ps.done(a:(S.map Cd.id).Nodup)(h:Ps S out)(b:∀c∈S,(∀p∈c.ps,p∈out.map Cd.id)->c.id∈out.map Cd.id):out.Perm (DU S):=by
 refine(l37 (YX h.nd) (YX (Rv a))).2 λc=>?_;rw[OE];constructor
 ·exact λhc=>⟨h.sub c hc,h.cmp c hc⟩
 ·rintro⟨h1,h2⟩;obtain⟨d,f,e⟩:=Mj.1 (B1F b h2);have a1:=FE a h1;have a2:=FE a (h.sub d f);rw[e,a1]at a2;rw[l2c a2];exact f
def Ps.len(h:Ps S out):out.length<=S.length:=by
 have:=VP h.nd (l2:=S.map Cd.id) λx a=>by
  obtain⟨c,hc,rfl⟩:=Mj.1 a;exact Mj.2 ⟨c,h.sub c hc,rfl⟩
 rw[Qa,Qa]at this;exact this
def A6K{b:List (AN×Cd)}{k:AN}(h:Mu b k=some c):LP b k c=b:=by
 induction b with
 |nil=>cases h
 |cons e b ih=>
  unfold Mu at h;unfold LP;by_cases he:e.1=k
  ·rw[Dl he]at h⊢;cases h
   obtain⟨a,d⟩:=e;simp only at he;subst he;rfl
  ·rw[C5 he]at h⊢;rw[ih h]
end
def B9F{f:Nat}{cs:Is}:Fx true (D+2) (.fn (.func f) [] [.iptr cs]) (.fn (.func f) [] [.iptr cs]) H false:=yT (D:=D+1) (An (q:=false) Rg AK)
end
section
variable{A:ed}
inductive PC where
 |c (d:Cd)
 |z
def PC.cells:PC->Is
 |.c d=>d.cs
 |.z=>CJ
structure Pk where
 kd:Int
 ds:List AN
 cs:List PC
def Pk.Right(p:Pk):Prop:=p.ds.length<=64/\p.cs.length<=64/\(∀s∈p.ds,s.length=32)/\((p.cs=[]/\(p.kd=1\/p.kd=2))\/(p.ds=[]/\p.kd=3))
def Mt(S:ed):List PC->ed
 |[]=>S
 |.z::l=>Mt S l
 |.c d::l=>Mt (if d.id∈S.map Cd.id then S else S++[d]) l
def Tf(S:ed)(ex:List AN):List Pk:=if ZR S ex=[] then[] else[⟨2,ZR S ex,[]⟩]
def ZB(S:ed)(ds:List AN):List Pk:=if Xb S ds=[] then[] else[⟨3,[],(Xb S ds).map .c⟩]
open Classical in
def Dx(S:ed)(p:Pk):ed×List Pk:=
 if p.Right then
  if p.kd=1 then(S,Tf S (p.ds.filter λx=>decide (x∉S.map Cd.id)))
  else if p.kd=2 then(S,ZB S p.ds)
  else(Mt S p.cs,if(Mt S p.cs).length=S.length then[] else Tf (Mt S p.cs) [])
 else(S,[])
structure StIn(l S:ed):Prop where
 sub:∀c∈S,c∈l
 nd:(S.map Cd.id).Nodup
section
variable{l S T:ed}{c d:Cd}{p:Pk}{x:AN}
def StIn.len(h:StIn l S):S.length<=l.length:=by
 have:=VP h.nd (l2:=l.map Cd.id) λx a=>by
  obtain⟨c,hc,rfl⟩:=Mj.1 a;exact Mj.2 ⟨c,h.sub c hc,rfl⟩
 rw[Qa,Qa]at this;exact this
theorem StIn.ok(h:StIn l S)(a:GOk l):GOk S:=⟨λc hc=>a.ok c (h.sub c hc),λc hc=>a.nd c (h.sub c hc),h.nd,ZK h.len a.len⟩
def StIn.add1(h:StIn l S)(g:d∈l):StIn l (if d.id∈S.map Cd.id then S else S++[d]):=by
 split
 ·exact h
 ·rename_i hn;refine⟨λc hc=>?_,?_⟩
  ·rcases Yn.1 hc with hc|hc
   ·exact h.sub c hc
   ·rw[Tx]at hc;subst hc;exact g
  ·rw[Za];refine l38.2 ⟨h.nd,by simp,λa f b hb=>?_⟩;simp at hb;subst hb;exact λe=>hn (e▸f)
def A62:∀(cs:List PC){S:ed},StIn l S->(∀d,PC.c d∈cs->d∈l)->StIn l (Mt S cs):=by
 intro cs
 induction cs with
 |nil=>intro S h _;exact h
 |cons a cs ih=>
  intro S h hc;cases a with
  |z=>exact ih h λd b=>hc d (by simp[b])
  |c d=>exact ih (h.add1 (hc d (by simp))) λd b=>hc d (by simp[b])
def jC:∀(cs:ed){S:ed},Mt S (cs.map .c)=Tn S cs:=by
 intro cs
 induction cs with
 |nil=>intro S;rfl
 |cons a cs ih=>intro S;exact ih
def A2b:∀(cs:List PC){S:ed},(∀c∈S,c∈Mt S cs)/\(∀c∈Mt S cs,c∈S\/PC.c c∈cs)/\S.length<=(Mt S cs).length:=by
 intro cs
 induction cs with
 |nil=>intro S;exact⟨λ_ h=>h,λ_ h=>.inl h,Me _⟩
 |cons a cs ih=>
  intro S;cases a with
  |z=>
   obtain⟨h1,h2,b⟩:=ih (S:=S);exact⟨h1,λc hc=>(h2 c hc).imp id λh=>by simp[h],b⟩
  |c d=>
   obtain⟨h1,h2,b⟩:=ih (S:=if d.id∈S.map Cd.id then S else S++[d]);have e:Mt S (.c d::cs)=Mt (if d.id∈S.map Cd.id then S else S++[d]) cs:=rfl;rw[e];by_cases h:d.id∈S.map Cd.id
   ·rw[Dl h]at h1 h2 b⊢;exact⟨h1,λc hc=>(h2 c hc).imp id λh=>by simp[h],b⟩
   ·rw[C5 h]at h1 h2 b⊢;refine⟨λc hc=>h1 c (by simp[hc]),λc hc=>?_,by simp at b;omega⟩;rcases h2 c hc with h|h
    ·rcases Yn.1 h with h|h
     ·exact .inl h
     ·rw[Tx]at h;exact .inr (by simp[h])
    ·exact .inr (by simp[h])
def B5k:∀(cs:List PC){S:ed},(Mt S cs).length=S.length->Mt S cs=S:=by
 intro cs
 induction cs with
 |nil=>intro S _;rfl
 |cons a cs ih=>
  intro S h;cases a with
  |z=>exact ih h
  |c d=>
   have e:Mt S (.c d::cs)=Mt (if d.id∈S.map Cd.id then S else S++[d]) cs:=rfl;rw[e]at h⊢;by_cases b:d.id∈S.map Cd.id
   ·rw[Dl b]at h⊢;exact ih h
   ·rw[C5 b]at h;have:=(A2b cs (S:=S++[d])).2.2;simp at this;omega
def A7c:∀(S:ed),(∀c∈S,c.ps.length<=3)->(S.flatMap Cd.ps).length<=S.length*3:=by
 intro a
 induction a with
 |nil=>intro _;simp
 |cons c a ih=>
  intro h;have h1:=h c (by simp);have h2:=ih λd b=>h d (by simp[b]);rw[qB,EC,LV,Z'];omega
def WR(h:c.Ok):c.ps.length<=3:=by
 match c,h with
 |.re b u,_=>exact Y_ _
 |.co b p ps none,⟨_,h2,a,_⟩=>have:=h2.k3;show ps.length<=3;omega
 |.co b p ps (some _),⟨_,h2,a,_⟩=>have:=h2.k3;show ps.length<=3;omega
def B0g(a:GOk S):(ID S).length<=24:=by
 have h1:=A2c (ids:=S.map Cd.id) (S.flatMap Cd.ps) [];have h2:=A7c S λc hc=>WR (a.ok c hc);have b:=a.len;rw[ID,(Bg _).length_eq,Qa];simp at h1;simp at h2;omega
def A5Q(l:List AN):(Qd l).length<=l.length:=by
 induction l with
 |nil=>exact Me _
 |cons a l ih=>
  unfold Qd;cases h:Qd l with
  |nil=>simp
  |cons b m=>
   rw[h]at ih;show(if a=b then b::m else a::b::m).length<=_;split
   ·simp at ih⊢;omega
   ·simp at ih⊢;omega
def pO(a:GOk S){ex:List AN}(h:ex.length<=40):(ZR S ex).length<=64:=by
 have:=A5Q (DW (ex++ID S));rw[(Bg _).length_eq,EC]at this;have:=B0g a;unfold ZR;omega
def C09:∀{l:List AN},l.Pairwise (· <= ·)->(Qd l).Pairwise (· < ·):=by
 intro l
 induction l with
 |nil=>intro _;exact .nil
 |cons a l ih=>
  intro h;rw[l2q]at h;have h2:=ih h.2;have hm:∀x,x∈Qd l->a<=x:=λx f=>h.1 x (TA.1 f);unfold Qd;cases hc:Qd l with
  |nil=>simp
  |cons b m=>
   rw[hc]at h2 hm;show(if a=b then b::m else a::b::m).Pairwise (· < ·);split
   ·exact h2
   ·rename_i g;refine l2q.2 ⟨λx f=>?_,h2⟩;have hb:a<b:=by
     have:=hm b (by simp);exact(List.le_iff_lt_or_eq.1 this).elim id λe=>absurd e g
    rcases Tz.1 f with rfl|f
    ·exact hb
    ·exact List.lt_trans hb ((l2q.1 h2).1 x f)
def A5x{ws:List AN}:(Xb S ws).length<=S.length:=by
 have a:(Qd (DW (ws.filter λx=>decide (x∈S.map Cd.id)))).Nodup:=(C09 (D2 _)).imp λh e=>by subst e;exact List.lt_irrefl _ h
 have h1:(Xb S ws).length<=(Qd (DW (ws.filter λx=>decide (x∈S.map Cd.id)))).length:=List.length_filterMap_le _ _;have h2:=VP a (l2:=S.map Cd.id) λx b=>by
  rw[TA,(Bg _).mem_iff,N_,decide_eq_true_eq]at b;exact b.2
 rw[Qa]at h2;omega
structure PkIn(l:ed)(p:Pk):Prop where
 right:p.Right
 mem:∀c∈p.cs,∃d∈l,c=.c d
 few:p.kd=1->p.ds.length<=40
def fG(k:GOk l)(h:StIn l S)(n:PkIn l p):StIn l (Dx S p).1/\(∀c∈S,c∈(Dx S p).1)/\∀q∈(Dx S p).2,PkIn l q:=by
 have u:=h.ok k;have hm:∀{T},StIn l T->∀x∈ID T,x.length=32:=λ{T}f x r=>by
  obtain⟨_,c,hc,a⟩:=Jn.1 r;have:=k.ok c (f.sub c hc)
  match c,this,a with
  |.re _ _,_,a=>cases a
  |.co _ _ ps none,⟨_,_,_,g,_⟩,a=>exact g x a
  |.co _ _ ps (some _),⟨_,_,_,g,_⟩,a=>exact g x a
 have t:∀{T ex},StIn l T->(∀x∈ex,x.length=32)->ex.length<=40->∀q∈Tf T ex,PkIn l q:=λ{T ex}f he j q hq=>by
  unfold Tf at hq;split at hq
  ·cases hq
  ·rw[Tx]at hq;subst hq;exact⟨⟨pO (f.ok k) j,by simp,λs w=>(PW.1 w).elim (he s) (hm f s),.inl ⟨rfl,.inr rfl⟩⟩,by simp,λh=>by cases h⟩
 have hr:=n.right;unfold Dx;rw[Dl hr];obtain⟨r1,r2,y,B⟩:=hr;split
 ·rename_i v;exact⟨h,λ_ h=>h,t h (λx r=>y x (N_.1 r).1) (ZK (l32 _ _) (n.few v))⟩
 ·split
  ·refine⟨h,λ_ h=>h,λq hq=>?_⟩;change q∈ZB S p.ds at hq;unfold ZB at hq;split at hq
   ·cases hq
   ·rw[Tx]at hq;subst hq;refine⟨⟨by simp,?_,by simp,.inr ⟨rfl,rfl⟩⟩,λc hc=>?_,λh=>by cases h⟩
    ·show((Xb S p.ds).map PC.c).length<=64;rw[Qa];have:=A5x (S:=S) (ws:=p.ds);have:=u.len;omega
    ·obtain⟨d,i,rfl⟩:=Mj.1 hc;exact⟨d,h.sub d ((Wu h.nd).1 i).1,rfl⟩
  ·have b:StIn l (Mt S p.cs):=A62 p.cs h λd i=>by
    obtain⟨e,he,m⟩:=n.mem _ i;injection m with m
    exact m▸he
   refine⟨b,(A2b p.cs).1,λq hq=>?_⟩;change q∈(if(Mt S p.cs).length=S.length then[] else Tf (Mt S p.cs) [])at hq;split at hq
   ·cases hq
   ·exact t b (by simp) (by simp) q hq
def Qh(A:ed):Nat->ed->List Pk->ed×Bool
 |0,B,_=>(B,false)
 |n+1,B,a=>match a with
  |[]=>(B,true)
  |w::_=>match(Dx A w).2 with
   |[]=>(B,true)
   |b::_=>Qh A n (Dx B b).1 (Dx B b).2
def Mk(A:ed):Pk:=⟨1,Ej (DU A),[]⟩
def wP(ws:List AN):List Pk:=if ws=[] then[] else[⟨2,ws,[]⟩]
def B5I(e:GOk l)(h:StIn l S)(f:x∈ID S):x.length=32:=by
 obtain⟨_,c,hc,a⟩:=Jn.1 f;have:=e.ok c (h.sub c hc)
 match c,this,a with
 |.re _ _,_,a=>cases a
 |.co _ _ ps none,⟨_,_,_,b,_⟩,a=>exact b x a
 |.co _ _ ps (some _),⟨_,_,_,b,_⟩,a=>exact b x a
def B3o(j:GOk l)(g:StIn l A):∀(n:Nat)(B:ed)(ws:List AN),StIn l B->ws.length<=64->(∀x∈ws,x.length=32)->(∀x∈ws,x∉B.map Cd.id)->Qh A n B (wP ws)=QQ A n B ws/\StIn l (QQ A n B ws).1:=by
 intro n
 induction n with
 |zero=>intro B ws b _ _ _;exact⟨rfl,b⟩
 |succ n ih=>
  intro B ws b y i f;unfold Qh QQ wP;by_cases h1:ws=[]
  ·rw[Dl h1,Dl h1];exact⟨rfl,b⟩
  ·rw[C5 h1,C5 h1];have u:Dx A ⟨2,ws,[]⟩=(A,ZB A ws):=by
    have hr:Pk.Right ⟨2,ws,[]⟩:=⟨y,by simp,i,.inl ⟨rfl,.inr rfl⟩⟩
    unfold Dx;rw[Dl hr,C5 (show¬(2:Int)=1 by decide),Dl rfl]
   simp only[u];unfold ZB;by_cases h2:Xb A ws=[]
   ·rw[Dl h2,Dl h2];exact⟨rfl,b⟩
   ·rw[C5 h2,C5 h2];have a:StIn l (Tn B (Xb A ws)):=by
     rw[<-jC];exact A62 _ b λd w=>by
      obtain⟨e,he,m⟩:=Mj.1 w;injection m with m
      subst m;exact g.sub _ ((Wu g.nd).1 he).1
    have v:Dx B ⟨3,[],(Xb A ws).map .c⟩=(Tn B (Xb A ws),if(Tn B (Xb A ws)).length=B.length then[] else Tf (Tn B (Xb A ws)) []):=by
     have k:((Xb A ws).map PC.c).length<=64:=by
      rw[Qa];have:=A5x (S:=A) (ws:=ws);have:=(g.ok j).len;omega
     have hr:Pk.Right ⟨3,[],(Xb A ws).map .c⟩:=⟨by simp,k,by simp,.inr ⟨rfl,rfl⟩⟩
     unfold Dx;rw[Dl hr,C5 (show¬(3:Int)=1 by decide),C5 (show¬(3:Int)=2 by decide),jC]
    simp only[v];have q:(Tn B (Xb A ws)).length≠B.length:=λhe=>by
     rw[<-jC]at he;have he:=B5k _ he;rw[jC]at he;obtain⟨c,hc⟩:=List.exists_mem_of_ne_nil _ h2;have t:=(A2d (Xb A ws) B).2.2.1 c hc;rw[he]at t;exact f _ ((Wu g.nd).1 hc).2 t
    rw[C5 q];have r:=pO (a.ok j) (ex:=[]) (by simp);exact ih _ _ a r (λx s=>(PW.1 s).elim (λh=>by cases h) (B5I j a)) (λx s=>(PW.1 s).elim (λh=>by cases h) λh=>(Jn.1 h).1)
def tY(e:GOk l)(b:StIn l A):PkIn l (Mk A)/\(Ej (DU A)).length<=8:=by
 have h1:=yS (gs:=DU A);have h2:(DU A).length<=A.length:=l32 _ _;have g:=(b.ok e).len;have a:(Ej (DU A)).length<=8:=by omega
 refine⟨⟨⟨by show(Ej (DU A)).length<=64;omega,by simp[Mk],λs f=>?_,.inl ⟨rfl,.inl rfl⟩⟩,by simp[Mk],λ_=>by show(Ej (DU A)).length<=40;omega⟩,a⟩;obtain⟨c,_,rfl⟩:=Mj.1 (PI.1 f).1;exact U? c
def A53(a:GOk l){A B:ed}(b:StIn l A)(e:StIn l B){n:Nat}(hn:8<n):(Dx B (Mk A)).1=B/\(Qh A n B (Dx B (Mk A)).2).2=true/\StIn l (Qh A n B (Dx B (Mk A)).2).1/\(∀c∈B,c∈(Qh A n B (Dx B (Mk A)).2).1)/\
 ∀x,Cmp A x->Cmp (Qh A n B (Dx B (Mk A)).2).1 x:=by
 obtain⟨i,m⟩:=tY a b;have r:((Ej (DU A)).filter λx=>decide (x∉B.map Cd.id)).length<=8:=ZK (l32 _ _) m;have k:Dx B (Mk A)=(B,wP (ZR B ((Ej (DU A)).filter λx=>decide (x∉B.map Cd.id)))):=by
  unfold Dx;rw[Dl i.right,Dl (show(Mk A).kd=1 from rfl)];rfl
 rw[k];have f:=pO (e.ok a) (ex:=(Ej (DU A)).filter λx=>decide (x∉B.map Cd.id)) (ZK r (by decide));obtain⟨q1,q2⟩:=B3o a b n B _ e f (λx g=>(PW.1 g).elim (λh=>i.right.2.2.1 x (N_.1 h).1) (B5I a e)) (λx g=>(PW.1 g).elim (λh=>by
  have:=(N_.1 h).2
  rwa[decide_eq_true_eq]at this) λh=>(Jn.1 h).1)
 have j:=(b.ok a).len;obtain⟨s,t,v,w,u⟩:=B3n b.nd e.nd (λc hc d q he=>by
  have a1:=FE a.ids (b.sub c hc);have a2:=FE a.ids (e.sub d q);rw[he,a2]at a1;exact(l2c a1).symm) (n:=n) (by omega)
 refine⟨rfl,?_⟩;show(Qh A n B (wP (ZR B ((Ej (DU A)).filter λx=>decide (x∉B.map Cd.id))))).2=true/\StIn l (Qh A n B (wP (ZR B ((Ej (DU A)).filter λx=>decide (x∉B.map Cd.id))))).1/\(∀c∈B,c∈(Qh A n B (wP (ZR B ((Ej (DU A)).filter λx=>decide (x∉B.map Cd.id))))).1)/\∀x,Cmp A x->Cmp (Qh A n B (wP (ZR B ((Ej (DU A)).filter λx=>decide (x∉B.map Cd.id))))).1 x;rw[q1];exact⟨s,q2,t,u⟩
def B21(h:StIn l S):StIn l (NB S):=by
 refine⟨λc hc=>h.sub c (OE.1 ((A28 h.nd).1 hc)).1,?_⟩;rw[vD h.nd];exact(NU (gs:=DU S)).1.nd
end
end
end Go.Abs
end
