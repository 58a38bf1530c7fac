import Derived.Test.YtjbpmepbnkbmfaaGreatDoorP26
set_option linter.all false
set_option maxHeartbeats 0
noncomputable section
namespace Go.Abs
open Go.RowKit Go.Proofs
set_option maxRecDepth 100000
section
variable{q:Bool}{H1:Hp}{es:List xK}{f r u:Nat}{bo:Option (Hb×Nat)}
variable{L n:Nat}
abbrev iV:Nat->AV:=λk=>I (k:Int)
abbrev aV:AV->AV:=λa=>a
section
variable{H H':Hp}{K:KV}{x:Af}{v:AV}{l:List AN}
def A6D{α:Type}{f:α->AV}{b:List (AN×α)}{x:AN}{v:α}(h:Ah H r=some (.map false (Dd f b) bo)):∃c,∀K:Ru,Mg (.mp r) (SV x) (f v) H K=K (upd H r (.map false (Dd f (Ku b x v)) c)):=by
 have e:∀K:Ru,Mg (.mp r) (SV x) (f v) H K=IP H r λy=>nI y λes bo=>I9 (SV x) es λq=>match q with
  |none=>LJ H r (.map false (es++[(SV x,f v)]) (wV bo)) K
  |some (i,_)=>LJ H r (.map false (es.set i (SV x,f v)) bo) K:=λK=>rfl
 have⟨h1,h2⟩:=A2n (x:=x) v b 0;cases a:Zt x b 0 with
 |none=>
  rw[a]at h1;refine⟨wV bo,λK=>?_⟩;rw[e,Bl h];show I9 (SV x) (Dd f b) _=_;rw[kfK,a];show LJ H r (.map false (Dd f b++[(SV x,f v)]) (wV bo)) K=_;rw[Dh,<-h1,Dd,Dd,dW];rfl
 |some p=>
  have⟨j,w⟩:=p;rw[a]at h1;refine⟨bo,λK=>?_⟩;rw[e,Bl h];show I9 (SV x) (Dd f b) _=_;rw[kfK,a];show LJ H r (.map false ((Dd f b).set j (SV x,f v)) bo) K=_;rw[Dh,<-h1,Dd,Dd,List.map_set,Nat.sub_zero]
def vQ{x:Row}{es:IH}(h:Ah H r=some x):Ah (upd H r (.map false es bo)) r=some (.map false es bo):=(BC h).trans rfl
def HY:¬A8 Aw u:=λ⟨_,_,_,h⟩=>by cases h
def Bp.rq(h:Bp H Au 1 v l.length (AF l)):MB H v l:=by
 rcases h with⟨h1,h2,_⟩|⟨r,q,h1,h2,_⟩
 ·exact .inl ⟨h1,gM h2⟩
 ·exact .inr ⟨r,q,[],h1,by rw[Vq];exact h2⟩
def B6v{e sz m:Nat}{cs:Is}(h:Bp H e sz v m cs):gF v v=true:=by
 rcases h with⟨rfl,_⟩|⟨r,q,rfl,_⟩
 ·rfl
 ·show(Nat.beq sz sz&&(Nat.beq r r&&(Nat.beq 0 0&&Nat.beq m m)))=true;rw[oW,oW,oW,oW];rfl
def okS{a:AV}{K:Af}(h:gF a a=true):RQ (Bj (some (a,H)) a) K=K:=by
 show RQ (some (.v (.bool (gF a a)),[])) K=K;rw[h];rfl
def C52(b:AN)(h:MB H v l)(w:Wf H)(hn:l.length<1000000):∃m H',(∀K:KV,(GF Au 1 Ai 1 [(0,1,S b)] H λv1 H1=>E0 Au 1 Ai Ac v v1 H1 K)=K m H')/\MB H' m (l++[b])/\Lat H H' (A8 v)/\(∀u,A8 m u->Ar H<=u):=by
 have main:∃H1,(∀K:KV,E0 Au 1 Ai Ac v (.sl 1 (Ar H) 0 1) ((Ar H,.cells false Au [S b])::H) K=E0 Au 1 Ai Ac v (.sl 1 (Ar H) 0 1) H1 K)/\Bp H1 Au 1 v l.length (AF l)/\Lat ((Ar H,.cells false Au [S b])::H) H1 (A8 v)/\Ar H1=Ar H+1:=by
  rcases h with⟨rfl,rfl⟩|⟨r,q,c,rfl,F⟩
  ·exact⟨_,λK=>rfl,.inl ⟨rfl,rfl,rfl⟩,Lat.refl _ _,rfl⟩
  ·have A:=w.lt F;have a:=A6 (x:=.cells false Au [S b]) A F;cases c with
   |nil=>
    rw[Vq]at a;exact⟨_,λK=>rfl,.inr ⟨r,q,rfl,a,by rw[Be];omega⟩,Lat.refl _ _,rfl⟩
   |cons t c=>
    have d:=AC (q:=false) (e:=Au) (cs:=AF l) a;refine⟨upd ((Ar H,.cells false Au [S b])::H) r (.cells false Au (AF l)),λK=>?_,.inr ⟨r,false,rfl,d,by rw[Be];omega⟩,Lat.upd _ _ _ ⟨1,0,_,rfl⟩,by rw[B9];rfl⟩;have e:∀H,E0 Au 1 Ai Ac (.sl 1 r 0 l.length) (.sl 1 (Ar H) 0 1) H K=E0 Au 1 Ai Ac (.sl 1 r 0 l.length) (.sl 1 (Ar H) 0 1) H K:=λ_=>rfl;have C:∀(j:Hp)(src:AV),E0 Au 1 Ai Ac (.sl 1 r 0 l.length) src j K=IP j r λx=>Kb x λE cs=>HN cs 0 λcl=>@Bool.rec (λ_=>Af) (To (Nat.add 0 (Nat.mul l.length 1)) cs λg=>LJ j r (.cells false E g) λH1=>Wa Au 1 Ai Ac (.sl 1 r 0 l.length) src H1 K) (Wa Au 1 Ai Ac (.sl 1 r 0 l.length) src j K) (Nat.beq (Nat.add 0 (Nat.mul l.length 1)) cl):=λj src=>rfl;have J:Nat.add 0 (Nat.mul l.length 1)=l.length:=by show 0+l.length*1=l.length;omega
    rw[C,C,Bl a,Bl d,J];show(HN (AF l++t::c) 0 λcl=>@Bool.rec (λ_=>Af) (To l.length (AF l++t::c) λg=>LJ _ r (.cells false Au g) λH1=>Wa Au 1 Ai Ac (.sl 1 r 0 l.length) _ H1 K) _ (Nat.beq l.length cl))=(HN (AF l) 0 λcl=>@Bool.rec (λ_=>Af) _ (Wa Au 1 Ai Ac (.sl 1 r 0 l.length) _ _ K) (Nat.beq l.length cl))
    rw[C4,C4,JZ,JZ,Be,oW,EN,Be,LI];have hb:Nat.beq l.length (l.length+(c.length+1))=false:=by
     cases hc:Nat.beq l.length (l.length+(c.length+1)) with
     |false=>rfl
     |true=>have:=ZR hc;omega
    rw[hb];show To l.length (AF l++t::c) _=_;rw[OY];have M:(AF l++t::c).take l.length=AF l:=by
     have:=List.take_left (l₁:=AF l) (l₂:=t::c);rw[Be]at this;exact this
    rw[M,Dh]
 have⟨H1,m1,Q,m3,V⟩:=main;have i:=Oo (H:=H) (e:=Au) (n:=1) (cs:=[S b]) rfl;have B:∀u,A8 (.sl 1 (Ar H) 0 1) u->¬A8 v u:=λu ⟨_,_,_,h1⟩ d=>by
  injection h1 with _ h1
  have:=h.lt w d;omega
 have k:Bp H1 Au 1 (.sl 1 (Ar H) 0 1) 1 [S b]:=i.kp λu y d P=>m3.keep (AG w) u y P (B u d);have⟨m,H',h1,h2,N,O⟩:=apt (ie:=Ai) (i2:=Ac) Q (λK=>RL (K:=K) k) rfl rfl (by decide) rfl rfl (by show(l.length+1)*16<=_;omega) (by omega);refine⟨m,H',λK=>?_,?_,((Lat.cons H _ (A8 v)).trans m3 (R:=A8 v) (λ_ _ h=>h) (λ_ _ h=>h)).trans O (λ_ _ h=>h) (λ_ _ h=>h),λu d=>?_⟩
 ·rw[wU (z:=S []) (λ_=>rfl) (λ_=>rfl) rfl,m1];exact h1 K
 ·refine Bp.rq ?_;rw[EN,<-lN];exact h2
 ·rw[N u d,V];omega
end
section
variable{H:Hp}{K:KV}{D:Nat}{b:Bool}
def XG{c:Nat}{q q':Bool}{e:TypeId}{cs cs':Is}(d:Ah H c=some (.cells q e cs))(h:RZ b D cs cs' H q'):Fx b (D+1) (.ptr c 0 0) (.iptr cs') H true:=λK=>by
 show IP H c (λx=>Kb x λ_ cs=>IG (HU b H D) (Dn (Nat.add 0 0) cs) λ_ a=>K true (.iptr a))=_;rw[Bl d];show IG (HU b H D) cs _=_;rw[h]
def F?{cs cs':Is}(h:RZ b D cs cs' H q):Fx b (D+1) (.fn (.func f) [] cs) (.fn (.func f) [] cs') H q:=λK=>h _
def C10{ws:List (AN×Nat)}(h:Ah H r=some (.map false (Dd iV ws) bo)):Fx true (D+1) (.mp r) (.imap (Dd iV ws)) H true:=λK=>by
 show IP H r (λx=>qT x λes=>Rs (HU true H D) es λ_ c=>K true (.imap c))=_;rw[Bl h];show Rs (HU true H D) (Dd iV ws) _=_;have e:∀(es:List (AN×Nat))(F:Bool->IH->Af),Rs (HU true H D) (Dd iV es) F=F false (Dd iV es):=by
  intro es
  induction es with
  |nil=>intro F;rfl
  |cons a es ih=>
   intro F;show HU true H D (.v (.int .i64 (a.2:Int))) (λq d=>Rs (HU true H D) (Dd iV es) λi g=>F (@Bool.rec (λ_=>Bool) i true q) ((SV a.1,d)::g))=_;rw[C7,ih];rfl
 rw[e]
def O_{f N:Nat}{c:AV}{s:AN}(h1:(E (L+20)).ne f=false)(h2:(E (L+20)).imp f=false):CH (E (L+20)) (rt (L+20) N) (.fn (.func f) [] [c]) [S s] H K=Ap (rt (L+20) N) f [S s,c] H λv=>K v H:=by
 show Tq [S s] [c] (λa=>Tq [] a λall=>A2t ((E (L+20)).ne f) all H K (@Bool.rec (λ_=>Af) (zpm (E (L+20)) f (rt (L+20) N) all H λv=>K v H) ((rt (L+20) N).call f all H K) ((E (L+20)).imp f)))=_;rw[J2,J2,h1,h2];show zpm (E (L+20)) f (rt (L+20) N) [S s,c] H (λv=>K v H)=_;rw[A3j (by simp)]
def C2s{m s:AN}:CS (r! L (n+1)) J8 [S s,.iptr [S m]] (Bo (decide (s=m))):=by
 intro K a;rw[dQ];unfold ON LF;rw[JS,MA];exact a _ _ λb=>⟨false,C7⟩
def A5H{ws:List (AN×Nat)}{s:AN}:CS (r! L (n+1)) LB [S s,.iptr [.imap (Dd iV ws)]] (Bo (decide (0<(Lg ws s).getD 0))):=by
 intro K a;rw[dR];unfold OO LF;have el:∀{K:K2},AE Eb (.iptr [.imap (Dd iV ws)]) [] K=K (.imap (Dd iV ws)):=λ{K}=>NI rfl;have g:∀(F:Value->Af),Kk (S s) F=F (SV s):=λF=>id rfl;rw[el,g,kD (f:=iV) (b:=ws) (λK=>id rfl)];have c:∀(k:Nat)(K:K2),Aq Ad .gtr (iV k) (AV.v (.int .i64 0)) K=K (Bo (decide (0<k))):=λk K=>by
  have e:decide ((0:Int)<(k:Int))=decide (0<k):=decide_eq_decide.2 (by omega);rw[Eh,e]
 cases d:Lg ws s with
 |none=>
  rw[d]at a;show Aq Ad .gtr (iV 0) (AV.v (.int .i64 0)) _=_;rw[c];exact a _ _ λb=>⟨false,C7⟩
 |some k=>
  rw[d]at a;show Aq Ad .gtr (iV k) (AV.v (.int .i64 0)) _=_;rw[c];exact a _ _ λb=>⟨false,C7⟩
end
structure OsK(gs:ed)(ws:List (AN×Nat))(ch:List (AN×AV))(b1 b3:Option (Hb×Nat))(wt:AN->Nat)(ct:AN->List AN)(H:Hp):Prop where
 net:Ah H 0=some (c_ CK [gV gs])
 m1:Ah H 1=some (.map false (Dd iV ws) b1)
 p1:Ah H 2=some (c_ IM [.mp 1])
 m3:Ah H 3=some (.map false (Dd aV ch) b3)
 p3:Ah H 4=some (c_ EU [.mp 3])
 wf:Wf H
 wv:∀x,(Lg ws x).getD 0=wt x
 cv:∀p,Bp H Au 1 ((Lg ch p).getD Aw) (ct p).length (AF (ct p))
 cr:∀p u,A8 ((Lg ch p).getD Aw) u->6<u
 cd:∀p p' u,A8 ((Lg ch p).getD Aw) u->A8 ((Lg ch p').getD Aw) u->p=p'
section
variable{gs:ed}{ws:List (AN×Nat)}{ch:List (AN×AV)}{b1 b3:Option (Hb×Nat)}{wt:AN->Nat}{ct:AN->List AN}{H H':Hp}{s p:AN}
def OsK.kp(h:OsK gs ws ch b1 b3 wt ct H)(w:Wf H')(k:∀u y,(u<5\/∃p,A8 ((Lg ch p).getD Aw) u)->Ah H u=some y->Ah H' u=some y):OsK gs ws ch b1 b3 wt ct H':=
 ⟨k _ _ (.inl (by decide)) h.net,k _ _ (.inl (by decide)) h.m1,k _ _ (.inl (by decide)) h.p1,k _ _ (.inl (by decide)) h.m3,k _ _ (.inl (by decide)) h.p3,w,h.wv,λp=>(h.cv p).kp λu y a c=>k u y (.inr ⟨p,a⟩) c,h.cr,h.cd⟩
def OsK.ne(h:OsK gs ws ch b1 b3 wt ct H)(a:u<5\/∃p,A8 ((Lg ch p).getD Aw) u):u≠5/\u≠6:=by
 rcases a with a|⟨q,a⟩
 ·omega
 ·have:=h.cr q u a;omega
def OsK.lw(h:OsK gs ws ch b1 b3 wt ct H){K:K2}:Ye Ad false (.mp 1) (SV s) H K=K (I (wt s:Int)):=by
 rw[kD (f:=iV) (b:=ws) (λK=>XM h.m1),<-h.wv s];cases Lg ws s<;>rfl
def OsK.lc(h:OsK gs ws ch b1 b3 wt ct H){K:K2}:Ye Ac false (.mp 3) (SV p) H K=K ((Lg ch p).getD Aw):=by
 rw[kD (f:=aV) (b:=ch) (λK=>XM h.m3)];cases Lg ch p<;>rfl
def OsK.put(h:OsK gs ws ch b1 b3 wt ct H)(k:Nat):∃a H',(∀K:Ru,Mg (.mp 1) (SV s) (I (k:Int)) H K=K H')/\OsK gs (Ku ws s k) ch a b3 (λx=>if s=x then k else wt x) ct H'/\H'=upd H 1 (.map false (Dd iV (Ku ws s k)) a):=by
 have⟨a,e⟩:=A6D (f:=iV) (x:=s) (v:=k) h.m1;have n1:∀u,u≠1->Ah (upd H 1 (.map false (Dd iV (Ku ws s k)) a)) u=Ah H u:=λu d=>Ag d;refine⟨a,_,e,⟨by rw[n1 _ (by decide)];exact h.net,vQ h.m1,by rw[n1 _ (by decide)];exact h.p1,by rw[n1 _ (by decide)];exact h.m3,by rw[n1 _ (by decide)];exact h.p3,Bm h.wf,λx=>?_,λp=>?_,h.cr,h.cd⟩,rfl⟩
 ·rw[jU];by_cases c:s=x
  ·rw[Dv c,Dv c];rfl
  ·rw[CL c,CL c];exact h.wv x
 ·exact(h.cv p).kp λu y d g=>by rw[n1 _ (by have:=h.cr p u d;omega)];exact g
end
def lI(gs:ed)(es:List xK)(x:AN):Nat:=(es.filter λe=>decide (e.1=x)&&decide (e.2∈gs.map Cd.id)).length
def kN(gs:ed)(es:List xK)(p:AN):List AN:=(es.filter λe=>decide (e.2=p)&&decide (p∈gs.map Cd.id)).map Prod.fst
def A5F{gs:ed}{s p x:AN}:lI gs (es++[(s,p)]) x=if p∈gs.map Cd.id then(if s=x then lI gs es s+1 else lI gs es x) else lI gs es x:=by
 unfold lI;rw[List.filter_append,EN];by_cases h1:p∈gs.map Cd.id
 ·rw[Dv h1];by_cases h2:s=x
  ·subst h2;rw[Dv rfl,List.filter_cons_of_pos (by simp only[Hu h1,decide_true,Bool.and_self])];rfl
  ·rw[CL h2,List.filter_cons_of_neg (by simp only[Ir h2,Bool.false_and];simp)];rfl
 ·rw[CL h1,List.filter_cons_of_neg (by simp only[Ir h1,Bool.and_false];simp)];rfl
def A6J{gs:ed}{s p q:AN}:kN gs (es++[(s,p)]) q=if p∈gs.map Cd.id then(if p=q then kN gs es p++[s] else kN gs es q) else kN gs es q:=by
 unfold kN;rw[List.filter_append,dW];by_cases h1:p∈gs.map Cd.id
 ·rw[Dv h1];by_cases h2:p=q
  ·subst h2;rw[Dv rfl,List.filter_cons_of_pos (by simp only[Hu h1,decide_true,Bool.and_self])];rfl
  ·rw[CL h2,List.filter_cons_of_neg (by simp only[Ir h2,Bool.false_and];simp)];exact Vq _
 ·rw[CL h1,List.filter_cons_of_neg (by
   by_cases h2:p=q
   ·subst h2;simp only[Ir h1,Bool.and_false];simp
   ·simp only[Ir h2,Bool.false_and];simp)]
  exact Vq _
def B7I{gs:ed}{x:AN}:lI gs es x<=es.length:=l30 _ _
def A0q{gs:ed}{p:AN}:(kN gs es p).length<=es.length:=by
 unfold kN;rw[QK];exact l30 _ _
def rS(gs:ed)(p:Option (Option Code)):Row:=.loop 86 [(2,Aw),(3,.v (.int .i64 0)),(4,.ptr 0 0 0),(6,.ptr 2 0 0),(7,.ptr 4 0 0),(8,.dk),(9,.dk),(10,.dk),(11,.dk),(25,B26 gs),(26,.dk),(27,.dk),(28,.dk),(29,.dk),(30,.dk),(31,.dk),(32,.dk),(33,.dk),(34,.dk),(35,.dk),(36,.dk),(37,.dk),(38,.dk),(39,.dk),(40,.dk),(41,.dk),(42,.dk),(61,.dk),(62,.dk),(63,.dk)] (EX).2.1 (EX).2.2.1 (EX).2.2.2 p
def C56(gs:ed)(es:List xK)(H:Hp):Prop:=Ah H 5=some (rS gs (some none))/\∃ws ch b1 b3,OsK gs ws ch b1 b3 (lI gs es) (kN gs es) H
section
variable{gs:ed}
def B77{K:Ru}(h:Ah H1 5=some (rS gs none)):EC H1 5 false (some none) K=K (upd H1 5 (rS gs (some none))):=PN h
def C3w{K:Ru}(h:Ah H1 5=some (rS gs (some none))):EC H1 5 true none K=K (upd H1 5 (rS gs none)):=PQ h
def B4z:xE (r! L (n+2)) L 5 6 (C56 gs):=by
 intro es s p H K x ak ⟨J,ws,ch,b1,b3,h⟩ hx;show Oj (r! L (n+2)) 5 [S s,S p] H K=x;rw[PG J (by kernel_rfl)];have aa:(r! L (n+2)).run= λcf=>MD (E (L+20)) (r! L (n+1)) cf:=rfl;rw[aa,mG,C3w J];simp only[BF];have h1:OsK gs ws ch b1 b3 (lI gs es) (kN gs es) (upd H 5 (rS gs none)):=h.kp (Bm h.wf) λu y c g=>by
  rw[Ag (h.ne c).1];exact g
 have A:Ah (upd H 5 (rS gs none)) 5=some (rS gs none):=Fl J;have k1:∀y,Ah H 6=some y->Ah (upd H 5 (rS gs none)) 6=some y:=λy g=>by rw[Ag (by decide)];exact g
 generalize upd H 5 (rS gs none)=H1 at h1 A k1;show AE Aj (.ptr 0 0 0) H1 _=_;rw[AL (p:=0) rfl h1.net (by simp)];show Ap (r! L (n+1)) EA [gV gs,S p] H1 _=_;rw[rJ];by_cases Q:p∈gs.map Cd.id
 ·rw[Hu Q];show A2 (.v (.bool true)) _ _=_;rw[Cy];show AE Eb (.ptr 2 0 0) H1 _=_;have R:∀(s:AN)(F:Value->Af),Kk (S s) F=F (SV s):=λs F=>id rfl;rw[AL (p:=0) rfl h1.p1 (by simp),R];show Ye Ad false (.mp 1) (SV s) H1 _=_;rw[h1.lw,CW (by have:=B7I (gs:=gs) (es:=es) (x:=s);omega),R];have⟨j,w,P,h2,C⟩:=h1.put (s:=s) (lI gs es s+1);show Mg (.mp 1) (SV s) (I ((lI gs es s+1:Nat):Int)) H1 _=_;rw[P];have Y:Ah w 5=some (rS gs none):=by rw[C,Ag (by decide)];exact A
  have k2:∀y,Ah H 6=some y->Ah w 6=some y:=λy g=>by rw[C,Ag (by decide)];exact k1 y g
  clear C P;have V:∀{H:Hp}{wt:AN->Nat}{j:Option (Hb×Nat)}{ac:List (AN×Nat)}{K:K2},OsK gs ac ch j b3 wt (kN gs es) H->AE BL (.ptr 4 0 0) H K=K (.mp 3):=λ{H wt j ac K}h=>by
   rw[AL (p:=0) rfl h.p3 (by simp)];rfl
  rw[V h2,B1,B1,R];have aj:=h2.cv p;have ai:∀u,A8 ((Lg ch p).getD Aw) u->6<u:=h2.cr p;rw[h2.lc,B1,wU (z:=S []) (λ_=>rfl) (λ_=>rfl) rfl,T3];have d:OsK gs (Ku ws s (lI gs es s+1)) ch j b3 (λx=>if s=x then lI gs es s+1 else lI gs es x) (kN gs es) ((Ar w,.cells false Au [S s])::w):=h2.kp (AG h2.wf) λu y _ g=>A6 (h2.wf.lt g) g;have am:Ar ((Ar w,Row.cells false Au [S s])::w)=Ar w+1:=rfl;have ah:=h2.wf.lt Y;have ab:=Oo (H:=w) (e:=Au) (n:=1) (cs:=[S s]) rfl;have⟨N,B,a1,a2,a3,O⟩:=apt (ie:=Ai) (i2:=Ac) (d.cv p) (λK=>RL (K:=K) ab) rfl rfl (by decide) rfl rfl (by have:=A0q (gs:=gs) (es:=es) (p:=p);show((kN gs es p).length+1)*16<=_;omega) (by have:=A0q (gs:=gs) (es:=es) (p:=p);omega);rw[a1,T3,R];have nr:∀{u:Nat},u<7->¬A8 ((Lg ch p).getD Aw) u:=λc h=>by have:=ai _ h;omega
  have X:=O.keep d.wf 3 _ d.m3 (nr (by decide));have⟨k,e5⟩:=A6D (f:=aV) (x:=p) (v:=N) X;show Ei (Mg (.mp 3) (SV p) (aV N) B λH=>some (AV.v undef,H)) _=_;rw[e5,T3,V d];have M:∀{K:Af},RQ (Bj (some (AV.mp 3,[])) (.mp 3)) K=K:=λ{K}=>okS rfl;have ae:Ah B 4=some (c_ EU [.mp 3]):=O.keep d.wf 4 _ d.p3 (nr (by decide));have ad:∀{K:K2},AE BL (.ptr 4 0 0) B K=K (.mp 3):=λ{K}=>by
   rw[AL (p:=0) rfl ae (by simp)];rfl
  rw[M,ad,M,M,R,d.lc,okS (B6v aj)];have w4:=O.wf d.wf;have af:=A6 (x:=.cells false Au [S s]) ah Y;have ag:=O.keep d.wf 5 _ af (nr (by decide));have Z:Ah (upd B 3 (.map false (Dd aV (Ku ch p N)) k)) 5=some (rS gs none):=by rw[Ag (by decide)];exact ag
  show EC (upd B 3 (.map false (Dd aV (Ku ch p N)) k)) 5 false (some none) _=_;rw[B77 Z];have k6:∀u y,(u≠3/\u≠5)->Ah B u=some y->Ah (upd (upd B 3 (.map false (Dd aV (Ku ch p N)) k)) 5 (rS gs (some none))) u=some y:=λu y c g=>by
   rw[Ag c.2,Ag c.1];exact g
  have t:∀u y,u≠3/\u≠5->u<7->Ah ((Ar w,Row.cells false Au [S s])::w) u=some y->Ah (upd (upd B 3 (.map false (Dd aV (Ku ch p N)) k)) 5 (rS gs (some none))) u=some y:=λu y c h7 g=>k6 u y c (O.keep d.wf u y g (nr h7));refine hx _ ⟨Fl Z,Ku ws s (lI gs es s+1),Ku ch p N,j,k,⟨t 0 _ (by decide) (by decide) d.net,t 1 _ (by decide) (by decide) d.m1,t 2 _ (by decide) (by decide) d.p1,?_,t 4 _ (by decide) (by decide) d.p3,Bm (Bm w4),λy=>?_,λq=>?_,λq u c=>?_,λq q' u c i=>?_⟩⟩ λy g=>?_
  ·rw[Ag (by decide)];exact vQ X
  ·rw[d.wv,A5F,Dv Q]
  ·rw[jU,A6J,Dv Q];by_cases hq:p=q
   ·subst hq;rw[Dv rfl,Dv rfl,l1q,EN,<-lN];refine a2.kp λu y c g=>k6 u y ?_ g;have:=a3 u c;omega
   ·rw[CL hq,CL hq];refine(d.cv q).kp λu y c g=>k6 u y (by have:=d.cr q u c;omega) (O.keep d.wf u y g λhc=>hq (d.cd p q u hc c))
  ·rw[jU]at c;by_cases hq:p=q
   ·rw[Dv hq,l1q]at c;have:=a3 u c;omega
   ·rw[CL hq]at c;exact d.cr q u c
  ·rw[jU]at c i;by_cases hq:p=q
   ·by_cases m:p=q'
    ·exact hq.symm.trans m
    ·rw[Dv hq,l1q]at c;rw[CL m]at i;have e1:=a3 u c;have P:=(d.cv q').lt d.wf i;omega
   ·rw[CL hq]at c;by_cases m:p=q'
    ·rw[Dv m,l1q]at i;have e1:=a3 u i;have P:=(d.cv q).lt d.wf c;omega
    ·rw[CL m]at i;exact d.cd q q' u c i
  ·have a:=k2 y g;exact t 6 _ (by decide) (by decide) (A6 (h2.wf.lt a) a)
 ·rw[Ir Q];show A2 (.v (.bool false)) _ _=_;rw[AY];show EC H1 5 false (some none) _=_;rw[B77 A];have e1:lI gs (es++[(s,p)])=lI gs es:=funext λy=>by rw[A5F,CL Q]
  have P:kN gs (es++[(s,p)])=kN gs es:=funext λy=>by rw[A6J,CL Q]
  refine hx _ ⟨Fl A,ws,ch,b1,b3,?_⟩ λy g=>?_
  ·rw[e1,P];refine h1.kp (Bm h1.wf) λu y c g=>?_;rw[Ag (h1.ne c).1];exact g
  ·rw[Ag (by decide)];exact k1 y g
end
end
section
variable{a0 a1 d5 d6 e0 e1 e2 e3 e4 e5 e6 e7 e8 e9 f0 f1 f2 f3 f4 f5 f6 f7:AV}
variable{L n:Nat}
def Wl(gs:ed)(es:List xK)(out rem:List AN)(x:AN):Nat:=(es.filter λe=>decide (e.1=x)&&(decide (e.2∈gs.map Cd.id)&&decide (e.2∉out))).length+rem.count x
section
variable{gs:ed}{es:List xK}{out rem l:List AN}{x c m:AN}
def Yx:Wl gs es out (c::rem) x=Wl gs es out rem x+if c=x then 1 else 0:=by
 unfold Wl;rw[List.count_cons,lB]
 congr 2
 by_cases h:c=x<;>simp[h]
def A5E:Wl gs es [] []=lI gs es:=by
 funext x
 unfold Wl lI;simp
def B7H:Wl gs es out rem x<=es.length+rem.length:=by
 have h1:=l30 (λe:xK=>decide (e.1=x)&&(decide (e.2∈gs.map Cd.id)&&decide (e.2∉out))) es;have h2:=List.count_le_length (a:=x) (l:=rem);unfold Wl;omega
def A5D(h1:m∈gs.map Cd.id)(h2:m∉out):Wl gs es (out++[m]) (kN gs es m)=Wl gs es out []:=by
 funext x
 unfold Wl kN;rw[List.count_nil,Nat.add_zero]
 induction es with
 |nil=>rfl
 |cons e es ih=>
  rw[l2m,l2m,l2m];by_cases hm:e.2=m
  ·have e1:(decide (e.1=x)&&(decide (e.2∈gs.map Cd.id)&&decide (e.2∉out++[m])))=false:=by simp[hm]
   have e2:(decide (e.2=m)&&decide (m∈gs.map Cd.id))=true:=by rw[Hu hm,Hu h1];rfl
   by_cases a:e.1=x
   ·have e3:(decide (e.1=x)&&(decide (e.2∈gs.map Cd.id)&&decide (e.2∉out)))=true:=by rw[Hu a,hm,Hu h1,Hu h2];rfl
    have e4:(e.1==x)=true:=by simp[a]
    simp only[e1,e2,e3,e4,D!,if_false,if_true,X0,LI,List.count_cons];omega
   ·have e3:(decide (e.1=x)&&(decide (e.2∈gs.map Cd.id)&&decide (e.2∉out)))=false:=by rw[Ir a];rfl
    have e4:(e.1==x)=false:=by simp[a]
    simp only[e1,e2,e3,e4,D!,if_false,if_true,X0,List.count_cons];omega
  ·have e2:(decide (e.2=m)&&decide (m∈gs.map Cd.id))=false:=by rw[Ir hm];rfl
   have e1:decide (e.2∉out++[m])=decide (e.2∉out):=by simp[hm]
   cases hb:(decide (e.1=x)&&(decide (e.2∈gs.map Cd.id)&&decide (e.2∉out))) with
   |true=>
    simp only[e1,e2,hb,D!,if_false,if_true,LI];omega
   |false=>
    simp only[e1,e2,hb,D!,if_false];exact ih
structure Ri(gs:ed)(es:List xK)(out rem l:List AN):Prop where
 nd:l.Nodup
 mem:∀x,x∈l↔x∈gs.map Cd.id/\x∉out/\Wl gs es out rem x=0
 jz:∀x∈out,Wl gs es out rem x=0
 rid:∀x∈rem,x∈gs.map Cd.id
def Ri.len(h:Ri gs es out rem l):l.length<=gs.length:=by
 have:=YV h.nd λx a=>((h.mem x).1 a).1;rw[QK]at this;exact this
def Ri.pos:1<=Wl gs es out (c::rem) c:=by rw[Yx,Dv rfl];omega
def Ri.dec:(λx=>if c=x then Wl gs es out (c::rem) c-1 else Wl gs es out (c::rem) x)=Wl gs es out rem:=by
 funext x
 by_cases h:c=x
 ·subst h;rw[Dv rfl,Yx,Dv rfl];omega
 ·rw[CL h,Yx,CL h];rfl
def Ri.step(h:Ri gs es out (c::rem) l):(Wl gs es out rem c=0->Ri gs es out rem (l++[c]))/\(Wl gs es out rem c≠0->Ri gs es out rem l):=by
 have s:1<=Wl gs es out (c::rem) c:=Ri.pos;have f:c∉l:=λhc=>by have:=((h.mem c).1 hc).2.2;omega
 have q:c∉out:=λhc=>by have:=h.jz c hc;omega
 have p:=h.rid c (by simp);have i:∀x∈out,Wl gs es out rem x=0:=λx d=>by
  have:=h.jz x d;rw[Yx]at this;omega
 have j:∀x,c≠x->Wl gs es out (c::rem) x=Wl gs es out rem x:=λx d=>by rw[Yx,CL d];rfl
 refine⟨λk=>⟨l36.2 ⟨h.nd,by simp,λa r b hb=>by simp at hb;subst hb;exact λe=>f (e▸r)⟩,λx=>?_,i,λx d=>h.rid x (by simp[d])⟩,λk=>⟨h.nd,λx=>?_,i,λx d=>h.rid x (by simp[d])⟩⟩
 ·rw[dV,XY];by_cases d:c=x
  ·subst d;exact⟨λ_=>⟨p,q,k⟩,λ_=>.inr rfl⟩
  ·rw[h.mem,j x d];exact⟨λg=>g.elim id λe=>absurd e.symm d,.inl⟩
 ·by_cases d:c=x
  ·subst d;exact⟨λg=>absurd g f,λg=>absurd g.2.2 k⟩
  ·rw[h.mem,j x d]
def Ri.take(h:Ri gs es out [] l)(g:∀e∈es,e.1∈gs.map Cd.id)(hm:m∈l):Ri gs es (out++[m]) (kN gs es m) (l.filter λs=>!decide (s=m)):=by
 have⟨h1,h2,k⟩:=(h.mem m).1 hm;have i:Wl gs es (out++[m]) (kN gs es m)=Wl gs es out []:=A5D h1 h2;refine⟨h.nd.sublist List.filter_sublist,λx=>?_,λx a=>?_,λx a=>?_⟩
 ·rw[i,l2z,h.mem,dV,XY];constructor
  ·rintro⟨⟨a1,a2,d⟩,j⟩;have f:x≠m:=by simpa using j
   exact⟨a1,λb=>b.elim a2 f,d⟩
  ·rintro⟨a1,a2,d⟩;refine⟨⟨a1,λb=>a2 (.inl b),d⟩,?_⟩;have:x≠m:=λb=>a2 (.inr b);simp[this]
 ·rw[i];rcases dV.1 a with a|a
  ·exact h.jz x a
  ·rw[XY]at a;subst a;exact k
 ·obtain⟨e,he,rfl⟩:=Pu.1 a;exact g e (l2z.1 he).1
def Ri.perm(h:Ri gs es out [] l)(b:∀e:xK,e∈es↔e.1∈gs.map Cd.id/\e.2∈JW gs e.1)(hn:(gs.map Cd.id).Nodup):l.Perm (mF gs out):=by
 refine(l35 h.nd (hn.sublist List.filter_sublist)).2 λx=>?_;rw[h.mem];show _↔x∈mF gs out;rw[WW];refine and_congr_right λf=>and_congr_right λ_=>?_;unfold Wl;rw[List.count_nil,Nat.add_zero,List.length_eq_zero_iff,List.filter_eq_nil_iff];constructor
 ·intro a p d hi;have:=a (x,p) ((b _).2 ⟨f,d⟩);apply l37;intro hc;exact this (by rw[Hu rfl,Hu hi,Hu hc];rfl)
 ·intro a e he;have⟨h1,h2⟩:=(b e).1 he;intro hc;simp only[KW,decide_eq_true_eq]at hc;have⟨c1,c2,c3⟩:=hc;rw[c1]at h2;exact c3 (a _ h2 c2)
end
structure Mo(gs:ed)(out l:List AN)(wt:AN->Nat)(ct:AN->List AN)(ws:List (AN×Nat))(ch:List (AN×AV))(b1 b3:Option (Hb×Nat))(rv ov:AV)(H:Hp):Prop where
 os:OsK gs ws ch b1 b3 wt ct H
 rd:MB H rv l
 ot:Bp H Au 1 ov out.length (AF out)
 rr:∀u,A8 rv u->4<u/\¬A8 ov u/\∀p,¬A8 ((Lg ch p).getD Aw) u
 oo:∀u,A8 ov u->4<u/\∀p,¬A8 ((Lg ch p).getD Aw) u
section
variable{H:Hp}{v:AV}{l:List AN}
def Bp.ia(h:Bp H Au 1 v l.length (AF l)){i:Nat}(hi:i<l.length):∃a,(∀K:K2,D4 Ac v (I (i:Int)) K=K a)/\∀K:K2,AE Ai a H K=K (S l[i]):=by
 rcases h with⟨_,h2,_⟩|⟨r,q,rfl,h2,_⟩
 ·omega
 ·exact⟨.ptr r i 0,λK=>RM hi,λK=>A0i h2 hi⟩
end
section
variable{gs:ed}{es:List xK}{out l:List AN}{ws:List (AN×Nat)}{ch:List (AN×AV)}{b1 b3:Option (Hb×Nat)}{rv ov:AV}{K:KV}{x:Af}{ct:AN->List AN}
def C0r{R:Rt}{q:AV->AV->AV->AV->AV->AV->AV->AV->AV->AV->AV->AV->AV->AV->AV->AV->AV->AV->AV->AV->AV->AV->AV->AV->AV->AV->AV->AV->AV->KV}{a0 a1 a2 d5 d6 e0 e1 e2 e3 e4 e5 e6 e7 e8 e9 f0 f1 f2 f3 f4 f5 f6 f7:AV}{m:AN}(hb:es.length<1000)(hg:gs.length<=8)(aa:(ct m).length<1000)(hx:∀Q N g A O,Mo gs out Q (Wl gs es out []) ct N ch g b3 A ov O->Ri gs es out [] Q->q a0 a1 a2 (.ptr 2 0 0) (.ptr 4 0 0) d5 d6 A ov e0 e1 e2 e3 e4 e5 e6 e7 e8 e9 f0 f1 f2 f3 f4 f5 f6 f7 ((Lg ch m).getD Aw) (I (ct m).length) (I (ct m).length) O=x):
 ∀(f i:Nat)(l:List AN)(ws:List (AN×Nat))(b1:Option (Hb×Nat))(rv:AV)(H:Hp),i<=(ct m).length->(ct m).length-i<f->Mo gs out l (Wl gs es out ((ct m).drop i)) ct ws ch b1 b3 rv ov H->Ri gs es out ((ct m).drop i) l->
 Ti (L+20) R K q f a0 a1 a2 (.ptr 2 0 0) (.ptr 4 0 0) d5 d6 rv ov e0 e1 e2 e3 e4 e5 e6 e7 e8 e9 f0 f1 f2 f3 f4 f5 f6 f7 ((Lg ch m).getD Aw) (I (ct m).length) (I i) H=x:=by
 intro f
 induction f with
 |zero=>intro i l ws b1 rv H _ h;omega
 |succ f ih=>
  intro i l ws b1 rv H hi hf h hr;rw[nS];unfold Tk Ia A4;by_cases w:i<(ct m).length
  ·have⟨a,X,el⟩:=(h.os.cv m).ia w;rw[rV w]at h hr;have ad:=B7H (gs:=gs) (es:=es) (out:=out) (rem:=(ct m)[i]::(ct m).drop (i+1)) (x:=(ct m)[i]);have P:1<=Wl gs es out ((ct m)[i]::(ct m).drop (i+1)) (ct m)[i]:=Ri.pos;have ab:((ct m)[i]::(ct m).drop (i+1)).length<=(ct m).length:=by rw[LI,l0u];omega
   rw[XA2 (by omega),Cy];simp only[BF];have M:∀(s:AN)(F:Value->Af),Kk (S s) F=F (SV s):=λs F=>id rfl;rw[X,el];rw[AL (p:=0) rfl h.os.p1 (by simp),M];show Ye Ad false (.mp 1) (SV (ct m)[i]) H _=_;rw[h.os.lw,iH (by omega) (by omega),M];have⟨g,B,r,h2,t⟩:=h.os.put (s:=(ct m)[i]) (Wl gs es out ((ct m)[i]::(ct m).drop (i+1)) (ct m)[i]-1);show Mg (.mp 1) (SV (ct m)[i]) (I ((Wl gs es out ((ct m)[i]::(ct m).drop (i+1)) (ct m)[i]-1:Nat):Int)) H _=_;rw[r];rw[Ri.dec]at h2;have n1:∀u y,u≠1->Ah H u=some y->Ah B u=some y:=λu y d j=>by rw[t,Ag d];exact j
   rw[AL (p:=0) rfl h2.p1 (by simp),M];show Ye Ad false (.mp 1) (SV (ct m)[i]) B _=_;rw[h2.lw];have b:Mo gs out l (Wl gs es out ((ct m).drop (i+1))) ct (Ku ws (ct m)[i] (Wl gs es out ((ct m)[i]::(ct m).drop (i+1)) (ct m)[i]-1)) ch g b3 rv ov B:=
    ⟨h2,h.rd.kp λu y d j=>n1 u y (by have:=(h.rr u d).1;omega) j,h.ot.kp λu y d j=>n1 u y (by have:=(h.oo u d).1;omega) j,h.rr,h.oo⟩
   have Y:∀(k:Nat)(K:K2),Aq Ad .eql (I (k:Int)) (AV.v (.int .i64 0)) K=K (Bo (decide (k=0))):=λk K=>by
    have e:decide ((k:Int)=0)=decide (k=0):=decide_eq_decide.2 (by omega);rw[CV,e]
   rw[Y];clear r t;by_cases C:Wl gs es out ((ct m).drop (i+1)) (ct m)[i]=0
   ·rw[Hu C,Cy];have ac:=hr.len;have⟨v',V,a1,a2,D,J⟩:=C52 (ct m)[i] b.rd b.os.wf (by omega);rw[a1,CW (by omega)];have h4:=b.os.wf.lt b.os.p3;refine ih (i+1) (l++[(ct m)[i]]) _ g v' V (by omega) (by omega) ⟨b.os.kp (D.wf b.os.wf) λu y d j=>D.keep b.os.wf u y j λhc=>?_,a2,b.ot.kp λu y d j=>D.keep b.os.wf u y j λhc=>(b.rr u hc).2.1 d,λu d=>⟨?_,λhc=>?_,λp hc=>?_⟩,b.oo⟩ (hr.step.1 C)
    ·rcases d with d|⟨p,hp⟩
     ·have:=(b.rr u hc).1;omega
     ·exact(b.rr u hc).2.2 p hp
    ·have:=J u d;omega
    ·have Z:=J u d;have g2:=b.ot.lt b.os.wf hc;omega
    ·have Z:=J u d;have g2:=(b.os.cv p).lt b.os.wf hc;omega
   ·rw[Ir C,AY,CW (by omega)];exact ih (i+1) l _ g rv B (by omega) (by omega) b (hr.step.2 C)
  ·rw[Fk (by omega),AY];have:i=(ct m).length:=by omega
   subst this;rw[List.drop_length]at h hr;exact hx l ws b1 rv H h hr
def B2w{H:Hp}:Bx Au Ai H K=K (.ptr (Ar H) 0 0) ((Ar H,c_ Au [S []])::H):=by
 unfold Bx;rw[CP,BS];rfl
def B19(h:mF gs out=[]):∀N,mO gs N out=out:=by
 intro N;cases N with
 |zero=>rfl
 |succ N=>
  unfold mO;rw[h];rfl
def C0s{aa:AV->KV}(hb:es.length<1000)(hg:gs.length<=8)(hL:200000<L)(hn:(gs.map Cd.id).Nodup)(hE:∀e:xK,e∈es↔e.1∈gs.map Cd.id/\e.2∈JW gs e.1){r:List AN}(hx:∀ov H,Bp H Au 1 ov r.length (AF r)->(r=[]->ov=Aw)->Ah H 0=some (c_ CK [gV gs])->aa (.ptr 0 0 0) ov H=x):
 ∀(N f:Nat)(out l:List AN)(ws:List (AN×Nat))(b1:Option (Hb×Nat))(rv ov:AV)(H:Hp)(z0 z1 z2:AV),N<f->gs.length<=out.length+N->OrdK gs out->Mo gs out l (Wl gs es out []) (kN gs es) ws ch b1 b3 rv ov H->Ri gs es out [] l->(out=[]->ov=Aw)->mO gs N out=r->
 Tj (L+20) (r! L (n+4)) K aa f a0 a1 (.ptr 0 0 0) (.ptr 2 0 0) (.ptr 4 0 0) d5 d6 rv ov e0 e1 e2 e3 e4 e5 e6 e7 e8 e9 f0 f1 f2 f3 f4 f5 f6 f7 z0 z1 z2 H=x:=by
 intro N
 induction N with
 |zero=>
  intro f out l ws b1 rv ov H z0 z1 z2 hf R ho h hr h0 b;cases f with
  |zero=>omega
  |succ f=>
   have hl:l=[]:=by
    have i:=hr.perm hE hn;rw[A1z ho (by omega)]at i;exact i.eq_nil
   subst hl;rw[VS];unfold OU A4;have el:∀{K:K2},Ba Ac rv K=K (I ((0:Nat):Int)):=λ{K}=>h.rd.len;have O:∀{K:K2},Aq Ad .gtr (I ((0:Nat):Int)) (AV.v (.int .i64 0)) K=K (Bo false):=λ{K}=>by rw[Eh];rfl
   rw[el,O,AY];rw[<-b]at hx;exact hx ov H h.ot h0 h.os.net
 |succ N ih=>
  intro f out l ws b1 rv ov H z0 z1 z2 hf R ho h hr h0 b;cases f with
  |zero=>omega
  |succ f=>
   have i:=hr.perm hE hn;rw[VS];unfold OU A4;rw[h.rd.len];cases Y:Eu (mF gs out) with
   |nil=>
    have X:mF gs out=[]:=by
     have:=(Bb (mF gs out)).length_eq;rw[Y]at this;exact gM this.symm
    have hl:l=[]:=by rw[X]at i;exact i.eq_nil
    subst hl;have O:∀{K:K2},Aq Ad .gtr (I (([]:List AN).length:Int)) (AV.v (.int .i64 0)) K=K (Bo false):=λ{K}=>by rw[Eh];rfl
    rw[O,AY];rw[B19 X]at b;subst b;exact hx ov H h.ot h0 h.os.net
   |cons m t=>
    have C:mO gs N (out++[m])=r:=by
     unfold mO at b;rw[Y]at b;exact b
    have B:m∈mF gs out:=(Bb _).mem_iff.1 (by rw[Y];simp);have hm:m∈l:=i.mem_iff.2 B;have V:∀y∈l,m<=y:=λy g=>by
     have h1:y∈m::t:=by rw[<-Y];exact(Bb _).mem_iff.2 (i.mem_iff.1 g)
     have h2:=Da (mF gs out);rw[Y,l2p]at h2;rcases Vp.1 h1 with rfl|h1
     ·exact(NP _ _).elim id id
     ·exact h2.1 y h1
    have ax:=hr.len;have ay:0<l.length:=List.length_pos_of_mem hm;have O:∀{K:K2},Aq Ad .gtr (I (l.length:Int)) (AV.v (.int .i64 0)) K=K (Bo true):=λ{K}=>by rw[Eh,Hu (by omega)]
    rw[O,Cy];simp only[BF];have⟨a,q,ha,hq⟩:=h.rd.fx (D:=depth-1);have ae:a=Ls l:=by
     rcases ha with rfl|⟨rfl,_⟩
     ·rfl
     ·simp at hm
    subst ae;rw[AO (C2q (n:=n+3) hm V (by omega) (by omega)) (Al hq AD)];have⟨M,w,A,w1,k1⟩:=GC (e:=Au) (zs:=[S []]) (vs:=[S m]) h.os.wf rfl;rw[B2w,DT (cs:=[S []]) (Ay (by simp)) (by simp) rfl rfl rfl];show(r! L (n+4)).call Bn [rv,.fn (.func J8) [] [.ptr (Ar H) 0 0]] (upd ((Ar H,c_ Au [S []])::H) (Ar H) (c_ Au [S m])) _=_;rw[<-w];have aq:Ar M=Ar H+1:=by rw[w,B9];rfl
    have ah:OsK gs ws ch b1 b3 (Wl gs es out []) (kN gs es) M:=h.os.kp w1 λu y _ g=>(k1 u y g).1;have am:MB M rv l:=h.rd.kp λu y _ g=>(k1 u y g).1;have aj:Bp M Au 1 ov out.length (AF out):=h.ot.kp λu y _ g=>(k1 u y g).1;have J:∀u,A8 rv u->u<Ar H:=λu d=>h.rd.lt h.os.wf d;clear w;refine A9K (n:=n+2) (P:=λs=>decide (s=m)) w1 am (by omega) hL ⟨.fn (.func J8) [] [.iptr [S m]],_,F? (D:=depth-1) (Al (XG (D:=depth-2) A (Al (q:=false) C7 AD)) AD),λs K=>?_⟩ (λH' hk s K=>?_) λv' H2 g1 g2 Q=>?_
    ·rw[O_ rfl rfl];exact AO (C2s (n:=n+1)) (Al (q:=false) C7 (Al (q:=false) RA AD))
    ·rw[O_ rfl rfl];have j:=hk.keep w1 _ _ A λhc=>by have:=J _ hc;omega
     exact AO (C2s (n:=n+2)) (Al (q:=false) C7 (Al (XG (D:=depth-1) j (Al (q:=false) C7 AD)) AD))
    ·have w2:=Q.wf w1;have j:=Q.keep w1 _ _ A λhc=>by have:=J _ hc;omega
     have ai:OsK gs ws ch b1 b3 (Wl gs es out []) (kN gs es) H2:=ah.kp w2 λu y d g=>Q.keep w1 u y g λhc=>by
      rcases d with d|⟨p,i⟩
      ·have:=(h.rr u hc).1;omega
      ·exact(h.rr u hc).2.2 p i
     have ak:Bp H2 Au 1 ov out.length (AF out):=aj.kp λu y d g=>Q.keep w1 u y g λhc=>(h.rr u hc).2.1 d;have az:=ho.len;rw[AL (p:=0) rfl j (by simp)];show(GF Au 1 Ai 1 [(0,1,S m)] H2 λv1 M=>E0 Au 1 Ai Ac ov v1 M _)=_;have⟨ab,H3,j1,j2,j3,j4,j5,j6⟩:=A31 m ak w2 (by omega);rw[j1];have ar:=Q.nx;have ag:∀u,(u<5\/∃p,A8 ((Lg ch p).getD Aw) u)->¬A8 ov u:=λu d hc=>by
      rcases d with d|⟨p,i⟩
      ·have:=(h.oo u hc).1;omega
      ·exact(h.oo u hc).2 p i
     have k:OsK gs ws ch b1 b3 (Wl gs es out []) (kN gs es) H3:=ai.kp j3 λu y d g=>j5 u y g (ag u d);have af:=j5 _ _ j λhc=>by have:=h.ot.lt h.os.wf hc;omega
     have ek:∀(s:AN)(F:Value->Af),Kk (S s) F=F (SV s):=λs F=>id rfl;rw[AL (p:=0) rfl k.p3 (by simp),AL (p:=0) rfl af (by simp)];show Kk (S m) (λq=>Ye Ac false (.mp 3) q H3 _)=_;rw[ek,k.lc,(k.cv m).rq.len];have Z:=(WW.1 B)
     have hw:Wl gs es out []=Wl gs es (out++[m]) ((kN gs es m).drop 0):=by rw[qV,A5D Z.1 Z.2.1]
     have h4:=h.os.wf.lt h.os.p3;have ad:(AV.v (.int .i64 0))=I ((0:Nat):Int):=rfl;rw[ad];refine C0r (L:=L) (es:=es) (out:=out++[m]) (ch:=ch) (b3:=b3) (ov:=ab) (ct:=kN gs es) (m:=m) hb hg (by have:=A0q (gs:=gs) (es:=es) (p:=m);omega) (λl' ap ac ao H' hM hR=>?_) (L+20) 0 (l.filter λs=>!decide (s=m)) ws b1 v' H3 (by omega) (by have:=A0q (gs:=gs) (es:=es) (p:=m);omega) ?_ ?_
     ·exact ih f (out++[m]) l' ap ac ao ab H' _ _ _ (by omega) (by rw[EN,List.length_singleton];omega) (ho.step B) hM hR (by simp) C
     ·rw[<-hw];refine⟨k,g1.kp λu y d g=>j5 u y g λhc=>(h.rr u (g2 u d)).2.1 hc,j2,λu d=>⟨(h.rr u (g2 u d)).1,λhc=>?_,(h.rr u (g2 u d)).2.2⟩,λu d=>⟨?_,λp hc=>?_⟩⟩
      ·have b1:=j6 u hc;have b2:=J u (g2 u d);omega
      ·have b1:=j6 u d;omega
      ·have b1:=j6 u d;have b2:=(h.os.cv p).lt h.os.wf hc;omega
     ·rw[qV];exact hr.take (λe he=>((hE e).1 he).1) hm
end
end
section
variable{L n:Nat}
def YS(gs:ed):AV:=if gs.length<=(R5 gs).length then .tup [Di (R5 gs),.v (.int .i64 0)] else .tup [Aw,.v (.int .i64 220)]
def B5j(gs:ed):pl 6 (YS gs)=true:=by
 unfold YS;split
 ·have:pl 5 (Di (R5 gs))=true:=by
   cases R5 gs with
   |nil=>rfl
   |cons a l=>
    show(AF (a::l)).all (pl 4)=true;rw[G9];intro y b;obtain⟨s,_,rfl⟩:=Pu.1 b;rfl
  show[Di (R5 gs),AV.v (.int .i64 0)].all (pl 5)=true;simp only[qU,this,l3a];rfl
 ·rfl
section
variable{gs:ed}{x:Af}
def B66(hn:(gs.map Cd.id).Nodup){done:ed}(b:done.Perm gs)(e:xK):e∈PD done↔e.1∈gs.map Cd.id/\e.2∈JW gs e.1:=by
 rw[A0h];constructor
 ·rintro⟨c,hc,h1,h2⟩;have a:=b.mem_iff.1 hc;obtain⟨i,hi,rfl⟩:=List.getElem_of_mem a;rw[h1];exact⟨Pu.2 ⟨_,a,rfl⟩,by rw[A64 hn hi];exact h2⟩
 ·rintro⟨h1,h2⟩;have⟨c,hc,he⟩:=Pu.1 h1;obtain⟨i,hi,rfl⟩:=List.getElem_of_mem hc;rw[<-he,A64 hn hi]at h2;exact⟨gs[i],b.mem_iff.2 hc,he.symm,h2⟩
def A5M{a:AV}(t:GOk gs)(hL:200000<L)(Y:∀c∈gs,c.ps.length<100)(ha:LA gs a):CS (r! L (n+80)) Li [a] (YS gs):=by
 intro K V;rw[qR];unfold UU A4;have aj:RZ true depth [a] [a] [] false:=by rcases ha with rfl|⟨_,rfl⟩<;>exact λK=>by kernel_rfl
 have of:∀{K:K2},Ap (r! L (n+79)) IZ [a] [] K=K (.tup [gV gs,Bo true]):=λ{K}=>Iw (λK V=>A9w (n:=n+15) t (by omega) ha K V) aj;have w0:Vo 6 (YS gs) (YS gs)=true:=TB 6 _ (B5j gs);have h8:=t.len;rw[of,EG,EF];have e0:∀{F:KV},(Bx CK Aj [] λv4 H5=>DE Aj v4 (gV gs) H5 λH6=>F v4 H6)=F (.ptr 0 0 0) [(0,c_ CK [gV gs])]:=λ{F}=>by kernel_rfl
 rw[e0,DK];show A2 (.v (.bool false)) _ _=_;rw[AY];have e1:∀{F:AV->KV},(Ld Ad [(0,c_ CK [gV gs])] λv9 aa=>Bx IM Eb aa λN ab=>DE Eb N v9 ab λac=>Ld Ac ac λam ad=>Bx EU BL ad λO ae=>DE BL O am ae λaf=>F N O af)=
  F (.ptr 2 0 0) (.ptr 4 0 0) [(4,c_ EU [.mp 3]),(3,.map false [] (some ([],0))),(2,c_ IM [.mp 1]),(1,.map false [] (some ([],0))),(0,c_ CK [gV gs])]:=λ{F}=>by kernel_rfl
 rw[e1];simp only[BF];generalize hH:([(4,c_ EU [.mp 3]),(3,.map false [] (some ([],0))),(2,c_ IM [.mp 1]),(1,.map false [] (some ([],0))),(0,c_ CK [gV gs])]:Hp)=g;have X:OsK gs [] [] (some ([],0)) (some ([],0)) (lI gs []) (kN gs []) g:=by
  subst hH;exact⟨rfl,rfl,rfl,rfl,rfl,AG (AG (AG (AG (AG Ft)))),λx=>rfl,λp=>.inl ⟨rfl,rfl,rfl⟩,λp u d=>absurd d HY,λp p' u d=>absurd d HY⟩
 have i:Ar g=5:=by subst hH;rfl
 clear hH;have en:∀{K:K2},AE Aj (.ptr 0 0 0) g K=K (gV gs):=λ{K}=>by
  rw[AL (p:=0) rfl X.net (by simp)];rfl
 rw[en,A9G (n:=n+78),Wt,i];have w:Ah ((5,rS gs (some none))::g) 5=some (rS gs (some none)):=by
  have:=Ay (H:=g) (x:=rS gs (some none)) (by simp[rS]);rw[i]at this;exact this
 have Z:Wf ((5,rS gs (some none))::g):=by
  have:=AG (x:=rS gs (some none)) X.wf;rw[i]at this;exact this
 have o5:OsK gs [] [] (some ([],0)) (some ([],0)) (lI gs []) (kN gs []) ((5,rS gs (some none))::g):=X.kp Z λu y _ e=>by
  have:=A6 (x:=rS gs (some none)) (X.wf.lt e) e;rw[i]at this;exact this
 have ap:Ar ((5,rS gs (some none))::g)=6:=rfl;show(r! L (n+79)).call Fi [.yl 5,.iptr [gV gs]] ((5,rS gs (some none))::g) _=_;refine A5N (n:=n+76) (s0:=5) (Q:=C56 gs) w0 h8 Y (by omega) B4z (λes R j ⟨hl,ws,ch,b1,b3,h⟩ ao k=>⟨k _ _ (show 5≠6 by decide) hl,ws,ch,b1,b3,h.kp ao λu y d e=>k u y ?_ e⟩) (λes H ⟨_,_,_,_,_,h⟩=>h.wf) ?_ (λdone H hd ⟨hl,ws,ch,b1,b3,h⟩=>?_)
 ·exact(h.ne d).2
 ·refine⟨A6 (Z.lt w) w,[],[],_,_,o5.kp (AG Z) λu y _ e=>A6 (Z.lt e) e⟩
 ·show IP H 5 _=_;rw[Bl hl];show LJ H 5 .gone _=_;rw[Dh];have ai:(PD done).length<1000:=by
   have h1:=A2u done λc hc=>Y c (hd.mem_iff.1 hc);have h2:=hd.length_eq;omega
  have h1:OsK gs ws ch b1 b3 (lI gs (PD done)) (kN gs (PD done)) (upd H 5 .gone):=h.kp (Bm h.wf) λu y d e=>by
   rw[Ag (h.ne d).1];exact e
  generalize upd H 5 .gone=R at h1;show AE Aj (.ptr 0 0 0) R _=_;have ag:∀{K:K2},AE Aj (.ptr 0 0 0) R K=K (gV gs):=λ{K}=>by
   rw[AL (p:=0) rfl h1.net (by simp)];rfl
  rw[ag];refine A9x (n:=n+73) w0 h8 (by omega) h1.wf λv H2 hv ar=>?_;have f:OsK gs ws ch b1 b3 (lI gs (PD done)) (kN gs (PD done)) H2:=h1.kp hv.wf λu y _ e=>hv.keep u y e;have aq:(Eu (gs.map Cd.id)).length=gs.length:=by rw[(Bb _).length_eq,QK]
  have m:∀(j:Hp)(D:Nat),Ah j 2=some (c_ IM [.mp 1])->Ah j 1=some (.map false (Dd iV ws) b1)->Fx true (D+2) (.ptr 2 0 0) (.iptr [.imap (Dd iV ws)]) j true:=λj D h2 h3=>
   XG (D:=D+1) h2 (Al (C10 (D:=D) h3) AD)
  have J:∀s,decide (0<(Lg ws s).getD 0)=decide (0<lI gs (PD done) s):=λs=>by rw[h1.wv]
  refine A9K (n:=n+77) (P:=λs=>decide (0<lI gs (PD done) s)) hv.wf hv.sl.rq (by omega) hL ⟨.fn (.func LB) [] [.iptr [.imap (Dd iV ws)]],_,F? (D:=depth-1) (Al (m H2 (depth-3) f.p1 f.m1) AD),λs K=>?_⟩ (λj hk s K=>?_) λv' H3 g1 g2 g3=>?_
  ·rw[O_ rfl rfl];have:=AO (K:=λv=>K v []) (A5H (n:=n+76) (L:=L) (ws:=ws) (s:=s)) (Al (q:=false) C7 (Al (q:=false) (RA (H:=[])) AD));rw[J]at this;exact this
  ·rw[O_ rfl rfl];have nr:∀u,u<5->¬A8 v u:=λu d hc=>by
    have g1:=hv.new u hc;have g2:=h1.wf.lt h1.p3;omega
   have a1:=hk.keep hv.wf _ _ f.p1 (nr 2 (by decide));have a2:=hk.keep hv.wf _ _ f.m1 (nr 1 (by decide));have:=AO (K:=λv=>K v j) (A5H (n:=n+77) (L:=L) (ws:=ws) (s:=s)) (Al (q:=false) C7 (Al (m j (depth-2) a1 a2) AD));rw[J]at this;exact this
  ·have nr:∀u,A8 v' u->Ar R<=u:=λu d=>hv.new u (g2 u d);have h4:=h1.wf.lt h1.p3;have M:OsK gs ws ch b1 b3 (lI gs (PD done)) (kN gs (PD done)) H3:=f.kp (g3.wf hv.wf) λu y d e=>g3.keep hv.wf u y e λhc=>by
    have b1:=hv.new u hc;rcases d with d|⟨p,Y⟩
    ·omega
    ·have b2:=(h1.cv p).lt h1.wf Y;omega
   have hR:Ri gs (PD done) [] [] ((Eu (gs.map Cd.id)).filter λs=>!decide (0<lI gs (PD done) s)):=by
    refine⟨((Bb _).symm.nodup t.ids).sublist List.filter_sublist,λx=>?_,by simp,by simp⟩;rw[A5E,l2z,(Bb _).mem_iff];refine and_congr Iff.rfl ?_;constructor
    ·intro hh;have:¬0<lI gs (PD done) x:=by simpa using hh
     exact⟨by simp,by omega⟩
    ·rintro⟨_,hh⟩;simp[hh]
   rw[<-A5E]at M;refine C0s (n:=n+75) (es:=PD done) (r:=R5 gs) (ch:=ch) (b3:=b3) ai h8 hL t.ids (B66 t.ids hd) (λov H4 C ak B=>?_) gs.length (L+20) [] _ ws b1 v' Aw H3 _ _ _ (by omega) (by simp) OrdK.nil ⟨M,g1,.inl ⟨rfl,rfl,rfl⟩,λu d=>⟨?_,HY,λp hc=>?_⟩,λu d=>absurd d HY⟩ hR (λ_=>rfl) rfl
   ·rw[C.rq.len];have ah:∀{K:K2},AE Aj (.ptr 0 0 0) H4 K=K (gV gs):=λ{K}=>by
     rw[AL (p:=0) rfl B (by simp)];rfl
    have em:∀{K:K2},Zy (gV gs) H4 K=K (I (gs.length:Int)):=λ{K}=>by
     show HN (Dd DU (gE gs)) 0 (λn=>K (.v (.int .i64 (.ofNat n))))=_;rw[C4,JZ];have:(Dd DU (gE gs)).length=gs.length:=by simp[gE]
     rw[this];rfl
    rw[ah,em];by_cases A:gs.length<=(R5 gs).length
    ·have er:YS gs=.tup [Di (R5 gs),.v (.int .i64 0)]:=by unfold YS;rw[Dv A]
     rw[Fk (by omega),AY];refine V _ _ λbb=>?_;rw[er];have⟨q,hq⟩:=jR (D:=depth-2) (b:=bb) C ak;exact⟨_,Zo (D:=depth-1) (Al hq (Al (q:=false) C7 AD))⟩
    ·have er:YS gs=.tup [Aw,.v (.int .i64 220)]:=by unfold YS;rw[CL A]
     rw[XA2 (by omega),Cy];refine V _ _ λbb=>?_;rw[er];exact⟨_,Zo (D:=depth-1) (Al (q:=false) C7 (Al (q:=false) C7 AD))⟩
   ·have b1:=nr u d;omega
   ·have b1:=nr u d;have b2:=(h1.cv p).lt h1.wf hc;omega
end
end
section
variable{gs ls S T:ed}{x y p:AN}{c:Cd}
def FH(hn:(gs.map Cd.id).Nodup)(hc:c∈gs):Lg (gE gs) c.id=some c:=by
 induction gs with
 |nil=>cases hc
 |cons d gs ih=>
  rw[X0,List.nodup_cons]at hn;show Lg ((d.id,d)::gE gs) c.id=some c;unfold Lg;rcases Vp.1 hc with rfl|hc
  ·rw[Dv rfl]
  ·have:d.id≠c.id:=λe=>hn.1 (e▸Pu.2 ⟨c,hc,rfl⟩);rw[CL this];exact ih hn.2 hc
def QB(hn:(gs.map Cd.id).Nodup)(hc:c∈gs):JW gs c.id=c.ps:=by
 unfold JW;rw[FH hn hc]
def A1S(a:x∉gs.map Cd.id):JW gs x=[]:=by
 unfold JW;rw[Zs (by rw[XD];exact a)]
def A7M(hn:(gs.map Cd.id).Nodup)(h:ls.Perm gs):JW ls x=JW gs x:=by
 have hi:(ls.map Cd.id).Perm (gs.map Cd.id):=h.map _;by_cases a:x∈gs.map Cd.id
 ·obtain⟨c,hc,rfl⟩:=Pu.1 a;rw[QB hn hc,QB (hi.symm.nodup hn) (h.mem_iff.2 hc)]
 ·rw[A1S a,A1S (λhc=>a (hi.mem_iff.1 hc))]
def B0k(hn:(gs.map Cd.id).Nodup)(h:ls.Perm gs){out:List AN}:(mF ls out).Perm (mF gs out):=by
 have hi:(ls.map Cd.id).Perm (gs.map Cd.id):=h.map _;refine(l35 ((hi.symm.nodup hn).sublist List.filter_sublist) (hn.sublist List.filter_sublist)).2 λx=>?_;show x∈mF ls out↔x∈mF gs out;rw[WW,WW,hi.mem_iff,A7M hn h];simp only[hi.mem_iff]
def A7R(hn:(gs.map Cd.id).Nodup)(h:ls.Perm gs):∀(N:Nat)(out:List AN),mO ls N out=mO gs N out:=by
 intro N
 induction N with
 |zero=>intro out;rfl
 |succ N ih=>
  intro out;have e:Eu (mF ls out)=Eu (mF gs out):=FZ ((Bb _).trans ((B0k hn h).trans (Bb _).symm)) (Da _) (Da _);unfold mO;rw[e];cases Eu (mF gs out) with
  |nil=>rfl
  |cons m t=>exact ih _
def B_(hn:(gs.map Cd.id).Nodup)(h:ls.Perm gs):R5 ls=R5 gs:=by
 unfold R5;rw[h.length_eq];exact A7R hn h _ _
def A7Q(hn:(gs.map Cd.id).Nodup)(h:ls.Perm gs):YS ls=YS gs:=by
 unfold YS;rw[B_ hn h,h.length_eq]
def A4G(hn:(gs.map Cd.id).Nodup)(h:ls.Perm gs):J1 ls=J1 gs:=by
 have hi:(ls.map Cd.id).Perm (gs.map Cd.id):=h.map _;refine FZ ?_ (Da _) (Da _);refine(l35 (vV (hi.symm.nodup hn)) (vV hn)).2 λx=>?_;rw[nP,nP,hi.mem_iff];simp only[h.mem_iff]
def A4t(h:ls.Perm gs):J0 ls=J0 gs:=by
 have hi:(ls.map Cd.id).Perm (gs.map Cd.id):=h.map _;refine FZ ?_ Y? Y?;refine(l35 vL vL).2 λx=>?_;rw[Qh,Qh,hi.mem_iff];simp only[h.mem_iff]
inductive Cmp(S:ed):AN->Prop
 |mk {c:Cd}:c∈S->(∀p∈c.ps,Cmp S p)->Cmp S c.id
def Cmp.ids(h:Cmp S x):x∈S.map Cd.id:=by
 cases h with
 |mk h1 _=>exact Pu.2 ⟨_,h1,rfl⟩
def Cmp.mono(a:∀c∈S,c∈T)(h:Cmp S x):Cmp T x:=by
 induction h with
 |mk h1 _ ih=>exact .mk (a _ h1) ih
def Cmp.par(hn:(S.map Cd.id).Nodup)(hc:c∈S)(h:Cmp S c.id):∀p∈c.ps,Cmp S p:=by
 generalize he:c.id=x at h;cases h with
 |@mk d h1 h2=>
  have e:d=c:=by
   have a1:=FH hn h1;have a2:=FH hn hc;rw[he,a1]at a2;exact l2b a2
  subst e;exact h2
open Classical in
def Hd(S:ed):ed:=S.filter λc=>decide (Cmp S c.id)
def Nb:c∈Hd S↔c∈S/\Cmp S c.id:=by
 rw[Hd,l2z,@decide_eq_true_iff _ (_)]
def QT:x∈(Hd S).map Cd.id↔Cmp S x:=by
 constructor
 ·intro h;obtain⟨c,hc,rfl⟩:=Pu.1 h;exact(Nb.1 hc).2
 ·intro h;obtain⟨c,hc,rfl⟩:=Pu.1 h.ids;exact Pu.2 ⟨c,Nb.2 ⟨hc,h⟩,rfl⟩
def Q6(hn:(S.map Cd.id).Nodup):((Hd S).map Cd.id).Nodup:=hn.sublist (List.filter_sublist.map _)
def B2E(hn:(S.map Cd.id).Nodup)(h:Cmp S x):¬Anc (Hd S) x x:=by
 have key:∀z,Cmp S z->∀y,Anc (Hd S) z y->¬Anc (Hd S) y y:=by
  intro z hz
  induction hz with
  |@mk c h1 h2 ih=>
   have hc:c∈Hd S:=Nb.2 ⟨h1,.mk h1 h2⟩;intro y b;rw[A8F]at b;have a:JW (Hd S) c.id=c.ps:=QB (Q6 hn) hc;rw[a]at b;rcases b with⟨_,b⟩|⟨p,g,_,f⟩
   ·intro d;exact ih y b y d d
   ·exact ih p g y f
 intro e;exact key x h x e e
def A2T(hn:(S.map Cd.id).Nodup):(Hd S).length<=(R5 (Hd S)).length:=
 (A1T (Q6 hn)).2 λ_ a=>B2E hn (QT.1 a)
end
section
variable{x:AN}
def RU:List AN->List AN
 |[]=>[]
 |a::l=>match RU l with
  |[]=>[a]
  |b::m=>if a=b then b::m else a::b::m
def A0p:∀{l:List AN},x∈RU l↔x∈l:=by
 intro l
 induction l with
 |nil=>exact Iff.rfl
 |cons a l ih=>
  unfold RU;cases h:RU l with
  |nil=>
   rw[h]at ih;simp only[Vp,List.not_mem_nil,or_false];exact⟨.inl,λd=>d.elim id λd=>absurd (ih.2 d) (by simp)⟩
  |cons b m=>
   rw[h]at ih;show x∈(if a=b then b::m else a::b::m)↔_;by_cases c:a=b
   ·rw[Dv c];subst c;rw[Vp (b:=a) (l:=l),<-ih];exact⟨.inr,λd=>d.elim (λe=>by simp[e]) id⟩
   ·rw[CL c,Vp (b:=a) (l:=b::m),Vp (b:=a) (l:=l),ih]
def xO(B:ed)(ex:List AN):List AN:=RU (Eu (ex++J0 B))
def gvn(A:ed)(ws:List AN):ed:=(RU (Eu (ws.filter λx=>decide (x∈A.map Cd.id)))).filterMap λx=>Lg (gE A) x
def oX{A:ed}{c:Cd}(h:Lg (gE A) x=some c):c∈A/\c.id=x:=by
 induction A with
 |nil=>cases h
 |cons d A ih=>
  change Lg ((d.id,d)::gE A) x=some c at h;unfold Lg at h;by_cases a:d.id=x
  ·rw[Dv a]at h;cases h
   exact⟨by simp,a⟩
  ·rw[CL a]at h;have⟨h1,h2⟩:=ih h;exact⟨by simp[h1],h2⟩
end
section
variable{S T:ed}{x:AN}
def A2S(h:∀c,c∈S↔c∈T):Cmp S x↔Cmp T x:=⟨Cmp.mono λc hc=>(h c).1 hc,Cmp.mono λc hc=>(h c).2 hc⟩
def B6i(hn:(S.map Cd.id).Nodup)(h:Cmp S x){y:AN}(d:Anc S x y):Cmp S y:=by
 have a:∀u v,Cmp S u->v∈JW S u->Cmp S v:=by
  intro u v b hv;obtain⟨c,hc,rfl⟩:=Pu.1 b.ids;rw[QB hn hc]at hv;exact b.par hn hc v hv
 induction d with
 |one _ h2=>exact a _ _ h h2
 |more _ _ h2 ih=>exact a _ _ ih h2
def B6h(hn:(S.map Cd.id).Nodup)(i:∀x∈S.map Cd.id,¬Anc S x x)(j:x∈S.map Cd.id):Cmp S x↔∀y,(y=x\/Anc S x y)->∀p∈JW S y,p∈S.map Cd.id:=by
 constructor
 ·intro h y b p f;have hc:Cmp S y:=by
   rcases b with rfl|b
   ·exact h
   ·exact B6i hn h b
  obtain⟨c,d,rfl⟩:=Pu.1 hc.ids;rw[QB hn d]at f;exact(hc.par hn d p f).ids
 ·have key:∀(n:Nat)(x:AN),(eB S x).length<n->x∈S.map Cd.id->(∀y,(y=x\/Anc S x y)->∀p∈JW S y,p∈S.map Cd.id)->Cmp S x:=by
   intro n
   induction n with
   |zero=>intro x h;omega
   |succ n ih=>
    intro x m j h;obtain⟨c,hc,rfl⟩:=Pu.1 j;refine .mk hc λp f=>?_;have e:p∈JW S c.id:=by rw[QB hn hc];exact f
    have a:=h c.id (.inl rfl) p e;have g:Anc S c.id p:=.one a e;have k:=A6Q (i p a) g;refine ih p (by omega) a λy b q hq=>h y (.inr ?_) q hq;rcases b with rfl|b
    ·exact g
    ·exact M! g b
  exact key _ x (Nat.lt_succ_self _) j
def NN(S:ed):List AN:=Eu ((S.map Cd.id).filter λx=>@decide (¬Cmp S x) (Classical.propDecidable _))
def lJ:x∈NN S↔x∈S.map Cd.id/\¬Cmp S x:=by
 rw[NN,(Bb _).mem_iff,l2z,@decide_eq_true_iff _ (_)]
def A15(hn:(S.map Cd.id).Nodup):(NN S).Nodup:=(Bb _).symm.nodup (hn.sublist List.filter_sublist)
def A3A(a:(S.map Cd.id).Nodup)(h:S.Perm T):NN S=NN T:=by
 have hi:(S.map Cd.id).Perm (T.map Cd.id):=h.map _;refine FZ ?_ (Da _) (Da _);refine(l35 (A15 a) (A15 (hi.nodup a))).2 λx=>?_;rw[lJ,lJ,hi.mem_iff,A2S λc=>h.mem_iff]
def L3(S:ed):ed:=(R5 (Hd S)).filterMap λx=>Lg (gE S) x
def T9(d:(S.map Cd.id).Nodup):(L3 S).map Cd.id=R5 (Hd S):=by
 have h:∀l:List AN,(∀x∈l,x∈S.map Cd.id)->(l.filterMap λx=>Lg (gE S) x).map Cd.id=l:=by
  intro l
  induction l with
  |nil=>intro _;rfl
  |cons a l ih=>
   intro h;obtain⟨c,hc,rfl⟩:=Pu.1 (h a (by simp));rw[List.filterMap_cons,FH d hc];show c.id::_=_;rw[ih λx b=>h x (by simp[b])]
 exact h _ λx b=>by
  have:=(QC (gs:=Hd S)).1.ids x b;exact(QT.1 this).ids
def A34(a:(S.map Cd.id).Nodup){c:Cd}:c∈L3 S↔c∈Hd S:=by
 rw[L3,List.mem_filterMap];have⟨h1,h2⟩:=QC (gs:=Hd S);constructor
 ·rintro⟨x,d,h⟩;obtain⟨b,rfl⟩:=oX h;exact Nb.2 ⟨b,QT.1 (h1.ids _ d)⟩
 ·intro h;have hc:=Nb.1 h;exact⟨c.id,h1.all (A2T a) (QT.2 hc.2),FH a hc.1⟩
def A8G(d:(S.map Cd.id).Nodup)(h:S.Perm T):(L3 S).map Cd.id=(L3 T).map Cd.id:=by
 have hi:(S.map Cd.id).Perm (T.map Cd.id):=h.map _;have f:=hi.nodup d;rw[T9 d,T9 f];have i:(Hd S).Perm (Hd T):=by
  have nd:∀{l:ed},(l.map Cd.id).Nodup->l.Nodup:=λ{l}h=>List.Pairwise.of_map Cd.id (λa b g e=>g (e▸rfl)) h;refine(l35 (nd (Q6 d)) (nd (Q6 f))).2 λc=>?_;rw[Nb,Nb,h.mem_iff,A2S λc=>h.mem_iff]
 exact B_ (Q6 f) i
end
end Go.Abs
end
noncomputable section
end
noncomputable section
end
noncomputable section
namespace Go.Abs
open Go.RowKit Go.Proofs
set_option maxRecDepth 100000
section
variable{a v:AV}{b:Bool}{H:Hp}{D:Nat}{α:Type}
variable{L n:Nat}
def C0W(l:Is)(h:l.all isV=true):RZ b D l l H false:=by
 have:=Lz (b:=b) (D:=D) (H:=H) (λx:Value=>x) (l.map unV);rw[show((l.map unV).map λx=>AV.v x)=l from A6R h]at this;exact this
section
variable{e sz m:Nat}{ie i2:TI}{cs:Is}
def C1C(hsz:sz≠0)(hz:(B4 ie.zero).length=sz)(j:∀K:KV,GF e sz ie 0 [] [] K=K (.sl sz 0 0 0) [(0,.cells false e [])])(hc:cs.length=m*sz)(h1:cs.all AV.one=true)(hv:cs.all isV=true)(s:(YD i2.d&&Sj sz (.list m cs))=true)(p:∀(H:Hp)(K:Nat->Is->Af),Tw H (.list m cs) K=K m cs)(hb:m*ie.bytes<=70368744177664)(hm:m<=70368744177664)(k:0<m):
 ∃f c,(∀K:KV,(GF e sz ie 0 [] [] λt g=>E0 e sz ie i2 t (.list m cs) g K)=K f c)/\∀b,∃q,Fx b depth f (.list m cs) c q:=by
 have h:Bp [(0,.cells false e [])] e sz (.sl sz 0 0 0) 0 []:=.inr ⟨0,false,rfl,rfl,by simp⟩;have⟨f,c,a1,a2,u,w⟩:=apt (ie:=ie) (i2:=i2) h (λK=>p _ K) hc h1 hsz hz s (by rw[JZ];exact hb) (by rw[JZ];exact hm);rw[JZ,l3b]at a2;refine⟨f,c,λK=>?_,λb=>?_⟩
 ·rw[j];exact a1 K
 ·rcases a2 with⟨_,h2,_⟩|⟨r,q,rfl,h2,i⟩
  ·omega
  ·exact⟨_,Yb (D:=depth-1) h2 i (C0W cs hv)⟩
def hbt{b m:Nat}(h:b<=1000)(c:m<999):(m+1)*b<=70368744177664:=by
 have:=Nat.mul_le_mul (show m+1<=1000 by omega) h;omega
def Pln(sz:Nat)(a:AV):Prop:=a=Aw\/∃m cs,a=.list (m+1) cs/\cs.length=(m+1)*sz/\cs.all AV.one=true/\cs.all isV=true/\m<999
def Pln.fx(h:Pln sz a):Fx true depth a a H false:=by
 rcases h with rfl|⟨m,cs,rfl,_⟩
 ·exact C7
 ·exact OW
end
def C4K(h:Pln 3 a):CS (r! L (n+1)) Ee [a] a:=by
 intro K c;rw[Mw];unfold Fz Ih;rcases h with rfl|⟨m,cs,rfl,h1,h2,g,i⟩
 ·have e:∀{K:K2},Aq A1 .eql Aw (AV.v (.slice none 0 0)) K=K (Bo true):=λ{K}=>id rfl;rw[e,Cy];exact c _ _ λb=>⟨false,C7⟩
 ·have e:∀{K:K2},Aq A1 .eql (.list (m+1) cs) (AV.v (.slice none 0 0)) K=K (Bo false):=λ{K}=>id rfl;rw[e,AY];have⟨k,j,d,f⟩:=C1C (e:=Bf) (sz:=3) (ie:=BJ) (i2:=A1) (by decide) rfl (λK=>by kernel_rfl) h1 h2 g rfl (λH K=>VX) (hbt (show BJ.bytes<=1000 by decide) i) (by omega) (by omega);rw[d];exact c _ _ f
def C4J(h:Pln 20 a):CS (r! L (n+1)) CE [a] a:=by
 intro K c;rw[Mv];unfold Fy Ih;rcases h with rfl|⟨m,cs,rfl,h1,h2,g,i⟩
 ·have e:∀{K:K2},Aq Ak .eql Aw (AV.v (.slice none 0 0)) K=K (Bo true):=λ{K}=>id rfl;rw[e,Cy];exact c _ _ λb=>⟨false,C7⟩
 ·have e:∀{K:K2},Aq Ak .eql (.list (m+1) cs) (AV.v (.slice none 0 0)) K=K (Bo false):=λ{K}=>id rfl;rw[e,AY];have⟨k,j,d,f⟩:=C1C (e:=AB) (sz:=20) (ie:=A0) (i2:=Ak) (by decide) rfl (λK=>by kernel_rfl) h1 h2 g rfl (λH K=>VX) (hbt (show A0.bytes<=1000 by decide) i) (by omega) (by omega);rw[d];exact c _ _ f
def C4L(h:Pln 26 a):CS (r! L (n+1)) CF [a] a:=by
 intro K c;rw[Mx];unfold F0 Ih;rcases h with rfl|⟨m,cs,rfl,h1,h2,g,i⟩
 ·have e:∀{K:K2},Aq Av .eql Aw (AV.v (.slice none 0 0)) K=K (Bo true):=λ{K}=>id rfl;rw[e,Cy];exact c _ _ λb=>⟨false,C7⟩
 ·have e:∀{K:K2},Aq Av .eql (.list (m+1) cs) (AV.v (.slice none 0 0)) K=K (Bo false):=λ{K}=>id rfl;rw[e,AY];have⟨k,j,d,f⟩:=C1C (e:=AX) (sz:=26) (ie:=AP) (i2:=Av) (by decide) rfl (λK=>by kernel_rfl) h1 h2 g rfl (λH K=>VX) (hbt (show AP.bytes<=1000 by decide) i) (by omega) (by omega);rw[d];exact c _ _ f
def RX{K:KV}:(r! L (n+1)).call AH [Aw] H K=K Aw H:=by
 rw[FU];unfold DM Ih;have e:∀{K:K2},Aq Ac .eql Aw (AV.v (.slice none 0 0)) K=K (Bo true):=λ{K}=>id rfl;rw[e,Cy]
def A4L{f:α->Is}(h:∀a,(f a).all isV=true)(l:List α):(l.flatMap f).all isV=true:=by
 rw[G9];intro x d;have⟨a,_,c⟩:=l39.1 d;exact G9.1 (h a) x c
def A09{f:α->Is}(h:∀a,(f a).all AV.one=true)(l:List α):(l.flatMap f).all AV.one=true:=by
 rw[G9];intro x d;have⟨a,_,c⟩:=l39.1 d;exact G9.1 (h a) x c
def A4g{ts:eO}(h:ts.length<=6):Pln 3 (E4 ts):=by
 cases ts with
 |nil=>exact .inl rfl
 |cons a l=>
  simp at h;exact .inr ⟨l.length,(a::l).flatMap NO,rfl,jW NO 3 (λ_=>rfl) (a::l),A09 (λ_=>rfl) _,A4L (λ_=>rfl) _,by omega⟩
def B10{ks:Hb}(h1:1<=ks.length)(h2:ks.length<=6):Pln 20 (BE ks):=by
 cases ks with
 |nil=>simp at h1
 |cons a l=>
  simp at h2;exact .inr ⟨l.length,(a::l).flatMap HM,rfl,jW HM 20 (λ_=>rfl) (a::l),A09 (λ_=>rfl) _,A4L (λ_=>rfl) _,by omega⟩
def B0Z{xs:List Nd}(h1:1<=xs.length)(h2:xs.length<=9):Pln 26 (Ck xs):=by
 cases xs with
 |nil=>simp at h1
 |cons a l=>
  simp at h2;exact .inr ⟨l.length,(a::l).flatMap X',rfl,jW X' 26 (λ_=>rfl) (a::l),A09 (λ_=>rfl) _,A4L (λ_=>rfl) _,by omega⟩
def Cd.fT(c:Cd):AV:=(c.csP Aw).getD 28 .dk
def Cd.fI(c:Cd):AV:=(c.csP Aw).getD 33 .dk
def Cd.fN(c:Cd):AV:=(c.csP Aw).getD 34 .dk
def Nm(c:Cd)(P:AV):(c.csP P).getD 28 .dk=c.fT/\(c.csP P).getD 31 .dk=P/\(c.csP P).getD 33 .dk=c.fI/\(c.csP P).getD 34 .dk=c.fN/\(c.csP P).getD 66 .dk=Aw/\(c.csP P).getD 67 .dk=Aw:=by
 match c with
 |.re b u=>exact⟨rfl,rfl,rfl,rfl,rfl,rfl⟩
 |.co b p ps none=>exact⟨rfl,rfl,rfl,rfl,rfl,rfl⟩
 |.co b p ps (some (k,vd))=>exact⟨rfl,rfl,rfl,rfl,rfl,rfl⟩
def Nl(c:Cd)(P:AV):(c.csP P).set 28 c.fT=c.csP P/\(∀Q,(c.csP P).set 31 Q=c.csP Q)/\(c.csP P).set 33 c.fI=c.csP P/\(c.csP P).set 34 c.fN=c.csP P/\(c.csP P).set 66 Aw=c.csP P/\(c.csP P).set 67 Aw=c.csP P:=by
 match c with
 |.re b u=>exact⟨rfl,λQ=>rfl,rfl,rfl,rfl,rfl⟩
 |.co b p ps none=>exact⟨rfl,λQ=>rfl,rfl,rfl,rfl,rfl⟩
 |.co b p ps (some (k,vd))=>exact⟨rfl,λQ=>rfl,rfl,rfl,rfl,rfl⟩
def B2G{c:Cd}(h:c.Ok):Pln 3 c.fT/\Pln 20 c.fI/\Pln 26 c.fN:=by
 match c,h with
 |.re b u,⟨hb,_⟩=>exact⟨A4g hb.ts.len,.inl rfl,.inl rfl⟩
 |.co b p ps none,⟨hb,d,_⟩=>exact⟨A4g hb.ts.len,B10 d.k1 (by have:=d.k3;omega),B0Z (by have:=d.k1;show 1<=(Ly p.ks++p.x.nd).length;rw[EN,DW];omega) (by
  have:=d.k3;show(Ly p.ks++p.x.nd).length<=9;rw[EN,DW];have:p.x.nd.length<=1:=by cases p.x<;>simp[Ex.nd]
  omega)⟩
 |.co b p ps (some (k,vd)),⟨hb,d,_⟩=>exact⟨A4g hb.ts.len,B10 d.k1 (by have:=d.k3;omega),B0Z (by have:=d.k1;show 1<=(Ly p.ks++p.x.nd).length;rw[EN,DW];omega) (by
  have:=d.k3;show(Ly p.ks++p.x.nd).length<=9;rw[EN,DW];have:p.x.nd.length<=1:=by cases p.x<;>simp[Ex.nd]
  omega)⟩
def Pln.cell{sz:Nat}(h:Pln sz a):B4 a=[a]/\AV.one a=true:=by
 rcases h with rfl|⟨m,cs,rfl,_⟩<;>exact⟨rfl,rfl⟩
def Mk.cell{l:List AN}(h:Mk H v l):B4 v=[v]/\AV.one v=true:=by
 rcases h with⟨rfl,_⟩|⟨_,_,_,_,rfl,_⟩<;>exact⟨rfl,rfl⟩
def Mk.kp{H H':Hp}{l:List AN}(h:Mk H v l)(k:∀u y,A8 v u->Ah H u=some y->Ah H' u=some y):Mk H' v l:=by
 rcases h with h|⟨r,o,q,cs,rfl,h2,c,d⟩
 ·exact .inl h
 ·exact .inr ⟨r,o,q,cs,rfl,k r _ ⟨_,_,_,rfl⟩ h2,c,d⟩
def Mk.fxc{l:List AN}(h:Mk H v l)(c:l=[]->v=Aw):∃q,Fx b (D+1) v (Di l) H q:=by
 cases l with
 |nil=>rw[c rfl];exact⟨false,C7⟩
 |cons a l=>
  rcases h with⟨_,h⟩|⟨r,o,q,cs,rfl,h2,d,f⟩
  ·cases h
  ·refine⟨true,XF (q':=false) h2 (by rw[rT];omega) ?_⟩;rw[d,rT];have:(AF (a::l)).take (a::l).length=AF (a::l):=l25 (by rw[Be];omega);rw[this];exact VT _
def A1i{c:Cd}(ae:c.Ok)(af:c.ps.length<100):CT (r! L (n+2)) LC [.agg c.cs] (.agg c.cs):=by
 intro K hK;rw[dT];unfold OQ DN;have⟨pT,pI,pN⟩:=B2G ae;have e0:c.cs=c.csP (Di c.ps):=(A0o c).symm;have one:∀P,AV.one P=true->(c.csP P).all AV.one=true:=λP h=>kM c h;have Y:AV.one (Di c.ps)=true:=by cases c.ps<;>rfl
 have l0:∀{H:Hp},Ah H 0=some (c_ Ab (c.csP (Di c.ps)))->True:=λ_=>trivial;have same:∀{H:Hp}{P:AV}{p:Nat}{i:TI}{v:AV}{K:Ru},Ah H 0=some (c_ Ab (c.csP P))->p<68->i.size=1->B4 v=[v]/\AV.one v=true->(c.csP P).set p v=c.csP P->DE i (.ptr 0 p 0) v H K=K (upd H 0 (c_ Ab (c.csP P))):=λ{H P p i v K}hl hp hi hv hs=>by
  rw[DT (cs:=c.csP P) hl (by rw[JC];exact hp) hi hv.1 hv.2,hs]
 have w:∀{H:Hp}{P:AV}{p:Nat}{i:TI}{v:AV}{K:K2},i.d.isAgg=false->Ah H 0=some (c_ Ab (c.csP P))->p<68->(c.csP P).getD p .dk=v->AE i (.ptr 0 p 0) H K=K v:=λ{H P p i v K}hi hl hp hv=>by
  rw[AL (p:=p) hi hl (by rw[JC];exact hp),hv]
 have eb:∀{K:KV},FV Ab (.agg (c.csP (Di c.ps))) [] K=K (.ptr 0 0 0) [(0,c_ Ab (c.csP (Di c.ps)))]:=λ{K}=>DZ (one _ Y);have ea:∀{K:KV},Bx Ab Ae [(0,c_ Ab (c.csP (Di c.ps)))] K=K (.ptr 1 0 0) [(1,c_ Ab BI),(0,c_ Ab (c.csP (Di c.ps)))]:=λ{K}=>Bv (cs:=BI) rfl;rw[e0,eb,ea];have h0:Ah [(1,c_ Ab BI),(0,c_ Ab (c.csP (Di c.ps)))] 0=some (c_ Ab (c.csP (Di c.ps))):=rfl;have h1:Ah [(1,c_ Ab BI),(0,c_ Ab (c.csP (Di c.ps)))] 1=some (c_ Ab BI):=rfl;have w0:Wf [(1,c_ Ab BI),(0,c_ Ab (c.csP (Di c.ps)))]:=AG (AG Ft);show CI 26 (.ptr 0 0 0) _=_;rw[fA,fA];show AE A1 (.ptr 0 28 0) [(1,c_ Ab BI),(0,c_ Ab (c.csP (Di c.ps)))] _=_;generalize [(1,c_ Ab BI),(0,c_ Ab (c.csP (Di c.ps)))]=H at h0 h1 w0;rw[w rfl h0 (by decide) (Nm c _).1,AO (C4K (n:=n) pT) (Al pT.fx AD),fA,fA];show DE A1 (.ptr 0 28 0) c.fT H _=_;rw[same h0 (by decide) rfl pT.cell (Nl c _).1];have Z:=AC (q:=true) (e:=Ab) (cs:=c.csP (Di c.ps)) h0;have a1:Ah (upd H 0 (c_ Ab (c.csP (Di c.ps)))) 1=some (c_ Ab BI):=by rw[Ag (by decide)];exact h1
 have aw:Wf (upd H 0 (c_ Ab (c.csP (Di c.ps)))):=Bm w0;generalize upd H 0 (c_ Ab (c.csP (Di c.ps)))=H1 at Z a1 aw;show CI 31 (.ptr 0 0 0) _=_;rw[fA];show AE Ac (.ptr 0 31 0) H1 _=_;rw[w rfl Z (by decide) (Nm c _).2.1];have main:∀v f,Mk f v c.ps->(c.ps=[]->v=Aw)->Ah f 0=some (c_ Ab (c.csP (Di c.ps)))->Ah f 1=some (c_ Ab BI)->(∀u,A8 v u->1<u)->Wf f->
  (CI 31 (.ptr 0 0 0) λah=>DE Ac ah v f λr=>CI 32 (.ptr 0 0 0) λai=>CI 1 ai λaj=>AE Ak aj r λak=>Ap (r! L (n+1)) CE [ak] r λam=>
   CI 32 (.ptr 0 0 0) λao=>CI 1 ao λap=>DE Ak ap am r λs=>CI 32 (.ptr 0 0 0) λaq=>CI 2 aq λar=>AE Av ar s λax=>Ap (r! L (n+1)) CF [ax] s λay=>
   CI 32 (.ptr 0 0 0) λaz=>CI 2 az λa3=>DE Av a3 ay s λx=>CI 65 (.ptr 0 0 0) λa4=>CI 1 a4 λa5=>AE Ac a5 x λa6=>(r! L (n+1)).call AH [a6] x λa7 aa=>
   CI 65 (.ptr 0 0 0) λa8=>CI 1 a8 λa9=>DE Ac a9 a7 aa λC=>CI 65 (.ptr 0 0 0) λba=>CI 2 ba λbc=>AE Ac bc C λbd=>(r! L (n+1)).call AH [bd] C λbe ab=>
   CI 65 (.ptr 0 0 0) λbf=>CI 2 bf λbg=>DE Ac bg be ab λF=>AE Ae (.ptr 0 0 0) F λbh=>DE Ae (.ptr 1 0 0) bh F λJ=>AE Ae (.ptr 1 0 0) J λbj=>K bj J)=some (.agg (c.csP (Di c.ps)),[]):=λv f hv ag b0 b1 hr bw=>by
  rw[fA];show DE Ac (.ptr 0 31 0) v f _=_;rw[DT (cs:=c.csP (Di c.ps)) b0 (by rw[JC];decide) rfl hv.cell.1 hv.cell.2,(Nl c _).2.1 v];have M:Mk (upd f 0 (c_ Ab (c.csP v))) v c.ps:=hv.kp λu y j X=>by rw[Ag (by have:=hr u j;omega)];exact X
  have c0:=AC (q:=true) (e:=Ab) (cs:=c.csP v) b0;have c1:Ah (upd f 0 (c_ Ab (c.csP v))) 1=some (c_ Ab BI):=by rw[Ag (by decide)];exact b1
  have cw:Wf (upd f 0 (c_ Ab (c.csP v))):=Bm bw;generalize upd f 0 (c_ Ab (c.csP v))=H3 at M c0 c1 cw;have k:∀{H:Hp},Ah H 0=some (c_ Ab (c.csP v))->Ah H 1=some (c_ Ab BI)->Mk H v c.ps->Ah (upd H 0 (c_ Ab (c.csP v))) 0=some (c_ Ab (c.csP v))/\Ah (upd H 0 (c_ Ab (c.csP v))) 1=some (c_ Ab BI)/\Mk (upd H 0 (c_ Ab (c.csP v))) v c.ps:=λ{H}t g1 g2=>
   ⟨AC t,by rw[Ag (by decide)];exact g1,g2.kp λu y j X=>by rw[Ag (by have:=hr u j;omega)];exact X⟩
  rw[fA,fA];show AE Ak (.ptr 0 33 0) H3 _=_;rw[w rfl c0 (by decide) (Nm c _).2.2.1,AO (C4J (n:=n) pI) (Al pI.fx AD),fA,fA];show DE Ak (.ptr 0 33 0) c.fI H3 _=_;rw[same c0 (by decide) rfl pI.cell (Nl c _).2.2.1];have⟨d0,d1,N⟩:=k c0 c1 M;generalize upd H3 0 (c_ Ab (c.csP v))=H4 at d0 d1 N;rw[fA,fA];show AE Av (.ptr 0 34 0) H4 _=_;rw[w rfl d0 (by decide) (Nm c _).2.2.2.1,AO (C4L (n:=n) pN) (Al pN.fx AD),fA,fA];show DE Av (.ptr 0 34 0) c.fN H4 _=_;rw[same d0 (by decide) rfl pN.cell (Nl c _).2.2.2.1];have⟨f0,f1,O⟩:=k d0 d1 N;generalize upd H4 0 (c_ Ab (c.csP v))=H5 at f0 f1 O;rw[fA,fA];show AE Ac (.ptr 0 66 0) H5 _=_;rw[w rfl f0 (by decide) (Nm c _).2.2.2.2.1,RX,fA,fA];show DE Ac (.ptr 0 66 0) Aw H5 _=_;rw[same f0 (by decide) rfl ⟨rfl,rfl⟩ (Nl c _).2.2.2.2.1];have⟨t,g1,Q⟩:=k f0 f1 O;generalize upd H5 0 (c_ Ab (c.csP v))=H6 at t g1 Q;rw[fA,fA];show AE Ac (.ptr 0 67 0) H6 _=_;rw[w rfl t (by decide) (Nm c _).2.2.2.2.2,RX,fA,fA];show DE Ac (.ptr 0 67 0) Aw H6 _=_;rw[same t (by decide) rfl ⟨rfl,rfl⟩ (Nl c _).2.2.2.2.2];have⟨i0,i1,R⟩:=k t g1 Q;generalize upd H6 0 (c_ Ab (c.csP v))=H7 at i0 i1 R;rw[Bu rfl (by exact(JC c).symm) i0,BO (cs:=BI) (vs:=c.csP v) i1 (by rw[JC];rfl) rfl (one v hv.cell.2)];have j1:=AC (q:=true) (e:=Ab) (cs:=c.csP v) i1;have V:Mk (upd H7 1 (c_ Ab (c.csP v))) v c.ps:=R.kp λu y j X=>by rw[Ag (by have:=hr u j;omega)];exact X
  rw[Bu rfl (by exact(JC c).symm) j1];rw[<-e0];refine hK _ _ ?_;generalize upd H7 1 (c_ Ab (c.csP v))=H8 at V;have⟨q,hq⟩:=V.fxc ag (b:=true) (D:=depth-2);have⟨A,B,e,ac,ad⟩:=ZZ c;rw[e0,e,e];exact⟨_,L0 (D:=depth-1) (rZ (TX A ac) (Al hq (TX B ad)))⟩
 by_cases g:c.ps=[]
 ·have en:Di c.ps=Aw:=by rw[g];rfl
  have:=main Aw H1 (.inl ⟨rfl,g⟩) (λ_=>rfl) Z a1 (λu j=>absurd j HY) aw;rw[en];rw[en]at this;rw[RX];exact this
 ·refine S_ (n:=n) aw af λv f hv hk hr hw=>main v f hv (λh=>absurd h g) (hk _ _ Z) (hk _ _ a1) (λu j=>?_) hw;have b1:=hr u j;have b2:=aw.lt a1;omega
end
section
variable{L n:Nat}
def B2y{a b:AN}:∀m:List AN,RU (m++[a,b])=RU (m++[a])++if b=a then[] else[b]:=by
 intro m
 induction m with
 |nil=>
  show(match(match([]:List AN) with|[]=>[b]|c::q=>if b=c then c::q else b::c::q) with|[]=>[a]|c::q=>if a=c then c::q else a::c::q)=[a]++_;by_cases h:b=a
  ·subst h;simp
  ·simp[h,Ne.symm h]
 |cons x m ih=>
  have e:∀l:List AN,RU (x::l)=match RU l with|[]=>[x]|c::q=>if x=c then c::q else x::c::q:=λl=>rfl
  rw[List.cons_append,List.cons_append,e,e,ih];cases h:RU (m++[a]) with
  |nil=>
   have:a∈RU (m++[a]):=A0p.2 (by simp);rw[h]at this;cases this
  |cons c q=>
   show(if x=c then c::(q++_) else x::c::(q++_))=(if x=c then c::q else x::c::q)++_;by_cases d:x=c
   ·rw[Dv d,Dv d];rfl
   ·rw[CL d,CL d];rfl
def A2R{l:List AN}{j:Nat}(h1:1<=j)(h:j<l.length):RU (l.take (j+1))=RU (l.take j)++if l[j]=l[j-1] then[] else[l[j]]:=by
 have a:l.take j=l.take (j-1)++[l[j-1]]:=by
  have:=nL (l:=l) (i:=j-1) (by omega);rw[show j-1+1=j by omega]at this;exact this
 have b:l.take (j+1)=l.take (j-1)++[l[j-1],l[j]]:=by
  rw[nL h,a,eI];rfl
 rw[b,B2y,<-a]
def C1w(l:List AN):(RU l).length<=l.length:=by
 induction l with
 |nil=>exact MC _
 |cons a l ih=>
  unfold RU;cases h:RU l with
  |nil=>simp
  |cons b m=>
   rw[h]at ih;show(if a=b then b::m else a::b::m).length<=_;split
   ·simp at ih⊢;omega
   ·simp at ih⊢;omega
section
variable{l:List AN}{H:Hp}{K:KV}{x:Af}{R:Rt}
def B2n{r o i m:Nat}{K:K2}(h:i<m):D4 Ac (.sl 1 r o m) (I (i:Int)) K=K (.ptr r (o+i) 0):=by
 have a:D4 Ac (.sl 1 r o m) (I (i:Int)) K=iN (i:Int) λn=>ck (Nat.blt n m) (fN (Nat.add o (Nat.mul n 1)) λp=>K (.ptr r p 0)):=rfl;rw[a,JU,DF];have h1:Nat.blt i m=true:=by rw[Wg];exact h
 rw[h1];show K (.ptr r (o+i*1) 0)=_;rw[rT]
def C4H{k31:AV->KV}{H0:Hp}{r B:Nat}{q:Bool}{tl:Is}(hb:l.length<1000000)(Q:1<=B)(N:B<l.length)(g:∀cs H',Ah H' r=some (.cells q Au cs)->cs.length=l.length+tl.length->cs.take (RU l).length=AF (RU l)->Lat H0 H' (λu=>u=r)->k31 (.sl 1 r 0 l.length) (I (RU l).length) H'=x):
 ∀(f i:Nat)(cs:Is)(H':Hp),1<=i->B+i<=l.length->l.length-(B+i)<f->Ah H' r=some (.cells q Au cs)->cs.length=l.length+tl.length->cs.take (RU (l.take (B+i))).length=AF (RU (l.take (B+i)))->cs.drop (B+i-1)=AF (l.drop (B+i-1))++tl->(RU (l.take (B+i))).length<B+i->Lat H0 H' (λu=>u=r)->
 FF (L+20) R K k31 f (.sl 1 r 0 l.length) (I (RU (l.take (B+i))).length) (.sl 1 r B (l.length-B)) (I i) H'=x:=by
 intro f
 induction f with
 |zero=>intro i cs H' _ _ h;omega
 |succ f ih=>
  intro i cs H' hi O V m b t y J D;rw[ME];unfold FG Ia Kx A4;have el:∀K,Ba Ac (.sl 1 r B (l.length-B)) K=K (I ((l.length-B:Nat):Int)):=λK=>id rfl;rw[el];by_cases h:B+i<l.length
  ·have A:∀j,B+i-1<=j->(d:j<l.length)->(hc:j<cs.length)->cs[j]=S l[j]:=λj h1 d hc=>by
    have c:cs[j]?=(cs.drop (B+i-1))[j-(B+i-1)]?:=by rw[qX];congr 1;omega
    rw[y,l0m (by rw[Be,l0u];omega)]at c;have M:(AF (l.drop (B+i-1)))[j-(B+i-1)]?=some (S l[j]):=by
     unfold AF;rw[yY,qX,show B+i-1+(j-(B+i-1))=j by omega,KJ d];rfl
    rw[M,KJ hc]at c;exact l2b c
   have e:∀{j:Nat}{K:K2},B+i-1<=j->(d:j<l.length)->AE Ai (.ptr r j 0) H' K=K (S l[j]):=λ{j K}h1 d=>by
    rw[AL (p:=j) rfl m (by omega),TV,KJ (by omega:j<cs.length),l1q,A j h1 d (by omega)]
   have a:=A2R (l:=l) (j:=B+i) (by omega) h;rw[XA2 (by omega),Cy];simp only[BF];have k:∀{K:K2},D4 Ac (.sl 1 r B (l.length-B)) (I (i:Int)) K=K (.ptr r (B+i) 0):=λ{K}=>B2n (by omega);have C:∀{K:K2},D4 Ac (.sl 1 r B (l.length-B)) (I ((i-1:Nat):Int)) K=K (.ptr r (B+i-1) 0):=λ{K}=>by
    rw[B2n (by omega),show B+(i-1)=B+i-1 by omega]
   rw[k,B1,e (by omega) h,B1,iH (by omega) (by omega),B1,C,B1,e (MC _) (by omega),B1,RS];by_cases he:l[B+i]=l[B+i-1]
   ·rw[Dv he,Vq]at a;rw[Hu he];show Ax (some (.v (.bool false),[])) _=_;rw[B1,AY,CW (by omega)];have:=ih (i+1) cs H' (by omega) (by omega) (by omega) m b (by rw[show B+(i+1)=B+i+1 by omega,a];exact t) (by
     have c:=congrArg (List.drop 1) y;rw[l1a,show B+i-1+1=B+(i+1)-1 by omega]at c;rw[c,l34 (by rw[Be,l0u];omega)]
     congr 1
     unfold AF;rw[<-List.map_drop,l1a,show B+i-1+1=B+(i+1)-1 by omega]) (by rw[show B+(i+1)=B+i+1 by omega,a];omega) D
    rw[show B+(i+1)=B+i+1 by omega,a]at this;exact this
   ·rw[CL he]at a;rw[Ir he];show Ax (some (.v (.bool true),[])) _=_;have F:(RU (l.take (B+i))).length<l.length:=by omega
    rw[B1,Cy,k,e (by omega) h,RM F,DT m (by omega) rfl rfl rfl,CW (by omega),CW (by omega)];have w:(RU (l.take (B+i+1))).length=(RU (l.take (B+i))).length+1:=by rw[a,EN];rfl
    have:=ih (i+1) (cs.set (RU (l.take (B+i))).length (S l[B+i])) (upd H' r (.cells q Au (cs.set (RU (l.take (B+i))).length (S l[B+i])))) (by omega) (by omega) (by omega) (AC m) (by rw[List.length_set];exact b) (by
     rw[show B+(i+1)=B+i+1 by omega,w,a];have s:(RU (l.take (B+i))).length<(cs.set (RU (l.take (B+i))).length (S l[B+i])).length:=by rw[List.length_set];omega
     rw[nL s,List.getElem_set_self,List.take_set_of_le (MC _),t];simp[AF]) (by
     rw[List.drop_set_of_lt (by omega)];have c:=congrArg (List.drop 1) y;rw[l1a,show B+i-1+1=B+(i+1)-1 by omega]at c;rw[c,l34 (by rw[Be,l0u];omega)]
     congr 1
     unfold AF;rw[<-List.map_drop,l1a,show B+i-1+1=B+(i+1)-1 by omega]) (by rw[show B+(i+1)=B+i+1 by omega,w];omega) (D.trans (Lat.upd _ _ _ (P:=λu=>u=r) rfl) (λ_ _ h=>h) (λ_ _ h=>h))
    rw[show B+(i+1)=B+i+1 by omega,w]at this;exact this
  ·have d:B+i=l.length:=by omega
   rw[Fk (by omega),AY];rw[d,l25 (MC _)]at t J⊢;exact g cs H' m b t D
def B6N{v:AV}(wf:Wf H)(h:MB H v l)(hb:l.length<100000)(hL:200000<L)(D:∀N g,MB g N (RU l)->(∀u,A8 N u->A8 v u)->(v=Aw->N=Aw)->Lat H g (A8 v)->K N g=x):(rt (L+20) (n+1)).call Cx [v] H K=x:=by
 rw[IF];unfold Ew A4;simp only[BF];rw[h.len];have e1:(AV.v (.int .i64 1))=I ((1:Nat):Int):=rfl;have e2:(AV.v (.int .i64 2))=I ((2:Nat):Int):=rfl;rw[e1,e2];by_cases h2:l.length<2
 ·rw[XA2 (by omega),Cy];have ec:RU l=l:=by
   match l,h2 with
   |[],_=>rfl
   |[a],_=>rfl
  rw[ec]at D;exact D v H h (λ_ h=>h) (λh=>h) (Lat.refl _ _)
 ·rw[Fk (by omega),AY];rcases h with⟨_,rfl⟩|⟨r,q,tl,rfl,V⟩
  ·simp at h2
  have C:∀u,A8 (.sl 1 r 0 l.length) u↔u=r:=λu=>⟨λ⟨_,_,_,h⟩=>by injection h with _ h;exact h.symm,λh=>h▸⟨1,0,_,rfl⟩⟩
  have lat:∀{g},Lat H g (λu=>u=r)->Lat H g (A8 (.sl 1 r 0 l.length)):=λk=>⟨k.wf,k.nx,λw u y X hn=>k.keep w u y X λe=>hn ((C u).2 e)⟩
  have s:∀{j:Nat}{K:K2},(M:j<l.length)->AE Ai (.ptr r j 0) H K=K (S l[j]):=λ{j K}M=>by
   rw[AL (p:=j) rfl V (by rw[EN,Be];omega),TV,l0m (by rw[Be];omega)];unfold AF;rw[yY,KJ M];rfl
  have lp:∀(f i:Nat)(d1 d2:AV),1<=i->i<=l.length->l.length-i<f->RU (l.take i)=l.take i->
   El (L+20) (rt (L+20) n) K (λv H=>K v H) f (.sl 1 r 0 l.length) (I i) d1 d2 H=x:=by
   intro f
   induction f with
   |zero=>intro i d1 d2 _ _ h;omega
   |succ f ih=>
    intro i d1 d2 A hi hf hc;rw[Ix];unfold Em Kx A4;have el:∀K,Ba Ac (.sl 1 r 0 l.length) K=K (I l.length):=λK=>id rfl;rw[el];by_cases d:i<l.length
    ·rw[XA2 (by omega),Cy,RM d,B1,s d,B1,iH (by omega) (by omega),B1,RM (by omega),B1,s (by omega),B1,MA];have b:=A2R (l:=l) (j:=i) A d;by_cases he:l[i]=l[i-1]
     ·rw[Dv he,Vq,hc]at b;rw[Hu he,B1,Cy,ZV hi];simp only[BF];rw[e1];have c:(RU (l.take (i+1))).length=i:=by rw[b,E!];omega
      have main:=C4H (L:=L) (R:=rt (L+20) n) (K:=K) (H0:=H) (r:=r) (B:=i) (q:=q) (tl:=tl) (x:=x)
       (k31:=λF J P=>D3 Ac F (some J) none none λY=>wI 1 Ai Y P λO=>D3 Ac F none (some J) none λZ=>K Z O)
       (by omega) A d (λcs g g1 g2 g3 g4=>?_) (L+20) 1 (AF l++tl) H (by omega) (by omega) (by omega) V (by rw[EN,Be]) (by
        rw[c,b,l32 (by rw[Be];omega)];simp[AF,List.map_take]) (by
        rw[show i+1-1=i by omega,l34 (by rw[Be];omega)];simp[AF,List.map_drop]) (by rw[c];omega) (Lat.refl _ _)
      ·rw[c]at main;exact main
      ·have t:=C1w l;have⟨Q,H2,c1,c2,c3,c4⟩:=B2s (H:=g) (r:=r) (i:=(RU l).length) (m:=l.length-(RU l).length) g1 (by omega);show(D3 Ac (.sl 1 r 0 l.length) (some (I ((RU l).length:Nat))) none none _)=_;rw[ZV t,c1,VY t];refine D _ H2 (.inr ⟨r,q,Q.drop (RU l).length,rfl,?_⟩) (λu X=>?_) (λh=>by cases h) (lat (g4.trans c4 (λ_ _ h=>h) (λ_ _ h=>h)))
       ·rw[c2,<-g3,<-c3,l38]
       ·have⟨_,_,_,h⟩:=X;injection h with _ h
        exact⟨1,0,_,by rw[h]⟩
     ·rw[CL he,hc]at b;rw[Ir he,B1,AY,CW (by omega)];exact ih (i+1) _ _ (by omega) (by omega) (by omega) (by rw[b,nL d])
    ·have M:i=l.length:=by omega
     subst M;rw[l25 (MC _)]at hc;rw[Fk (by omega),AY];rw[hc]at D;exact D _ H (.inr ⟨r,q,tl,rfl,V⟩) (λ_ h=>h) (λh=>h) (Lat.refl _ _)
  refine lp (L+20) 1 _ _ (by omega) (by omega) (by omega) ?_
  match l,h2 with
  |[],h2=>simp at h2
  |a::l,_=>rfl
end
end
section
variable{c:Cd}{H:Hp}{D:Nat}
variable{L n:Nat}
section
variable{l:List AN}{P:AN->Bool}
def B5X:(decide (0<=fiN P l 0))=l.any P:=by
 rcases A2q P l 0 with⟨h1,h2⟩|⟨i,hi,h1,h2,_⟩
 ·have:l.any P=false:=by
   rw[List.any_eq_false];intro a b;rw[h2 a b];simp
  rw[this,h1];rfl
 ·have:l.any P=true:=List.any_eq_true.2 ⟨_,Ql hi,h2⟩;rw[this,h1,Hu (by omega)]
def sZ{a fn:AV}(f:SA l a)(i:∀(s:AN)(K:KV),CH (E (L+20)) (r! L n) fn [S s] [] K=K (Bo (P s)) [])(d:Fx true depth fn fn [] false)(hb:l.length<1000000)(h:l.length<L):CS (r! L (n+2)) B8 [a,fn] (Bo (l.any P)):=by
 intro K g;rw[GK];unfold D8 LF;rw[AO (B6M (n:=n) f i hb h) (Al (f.fx []) (Al d AD))];have e:∀{K:K2},Aq Ad .geq (I (fiN P l 0)) (AV.v (.int .i64 0)) K=K (Bo (l.any P)):=λ{K}=>by
  rw[Mi,B5X]
 rw[e];exact g _ _ λb=>⟨false,C7⟩
end
def A4H{D r:Nat}{es:ed}{f:Option (Hb×Nat)}(h:Ah H r=some (.map false (Dd DU (gE es)) f)):Fx true (D+4) (.mp r) (.imap (Dd DU (gE es))) H true:=by
 intro K;show IP H r (λx=>qT x λes=>Rs (HU true H (D+3)) es λ_ b=>K true (.imap b))=_;rw[Bl h];show Rs (HU true H (D+3)) (Dd DU (gE es)) _=_;have e:∀(es:List (AN×Cd))(F:Bool->IH->Af),Rs (HU true H (D+3)) (Dd DU es) F=F false (Dd DU es):=by
  intro es
  induction es with
  |nil=>intro F;rfl
  |cons a es ih=>
   intro F;show HU true H (D+3) (.agg a.2.cs) (λq d=>Rs (HU true H (D+3)) (Dd DU es) λi g=>F (@Bool.rec (λ_=>Bool) i true q) ((SV a.1,d)::g))=_;rw[wS,ih];rfl
 rw[e]
section
variable{S out:ed}{x:AN}
def B2D(a:∀c∈S,(∀p∈c.ps,p∈out.map Cd.id)->c.id∈out.map Cd.id)(b:Cmp S x):x∈out.map Cd.id:=by
 induction b with
 |mk h1 _ ih=>exact a _ h1 ih
def ZP{l:ed}(h:(l.map Cd.id).Nodup):l.Nodup:=List.Pairwise.of_map Cd.id (λa b d e=>d (e▸rfl)) h
structure Ps(S out:ed):Prop where
 nd:(out.map Cd.id).Nodup
 sub:∀c∈out,c∈S
 cmp:∀c∈out,Cmp S c.id
def Ps.nil:Ps S []:=⟨List.nodup_nil,by simp,by simp⟩
def Ps.add(h:Ps S out)(hc:c∈S)(m:∀p∈c.ps,p∈out.map Cd.id)(hn:c.id∉out.map Cd.id):Ps S (out++[c]):=by
 have g:Cmp S c.id:=.mk hc λp j=>by
  have⟨d,f,i⟩:=Pu.1 (m p j);rw[<-i];exact h.cmp d f
 refine⟨?_,λd f=>?_,λd f=>?_⟩
 ·rw[dW];refine l36.2 ⟨h.nd,by simp,λa k b hb=>?_⟩;simp at hb;subst hb;exact λe=>hn (e▸k)
 ·rcases dV.1 f with f|f
  ·exact h.sub d f
  ·rw[XY]at f;subst f;exact hc
 ·rcases dV.1 f with f|f
  ·exact h.cmp d f
  ·rw[XY]at f;subst f;exact g
def Ps.done(a:(S.map Cd.id).Nodup)(h:Ps S out)(b:∀c∈S,(∀p∈c.ps,p∈out.map Cd.id)->c.id∈out.map Cd.id):out.Perm (Hd S):=by
 refine(l35 (ZP h.nd) (ZP (Q6 a))).2 λc=>?_;rw[Nb];constructor
 ·exact λhc=>⟨h.sub c hc,h.cmp c hc⟩
 ·rintro⟨h1,h2⟩;have⟨d,f,e⟩:=Pu.1 (B2D b h2);have a1:=FH a h1;have a2:=FH a (h.sub d f);rw[e,a1]at a2;rw[l2b a2];exact f
def Ps.len(h:Ps S out):out.length<=S.length:=by
 have:=YV h.nd (l2:=S.map Cd.id) λx a=>by
  obtain⟨c,hc,rfl⟩:=Pu.1 a;exact Pu.2 ⟨c,h.sub c hc,rfl⟩
 rw[QK,QK]at this;exact this
def A7F{b:List (AN×Cd)}{k:AN}(h:Lg b k=some c):Ku b k c=b:=by
 induction b with
 |nil=>cases h
 |cons e b ih=>
  unfold Lg at h;unfold Ku;by_cases he:e.1=k
  ·rw[Dv he]at h⊢;cases h
   have⟨a,d⟩:=e;simp only at he;subst he;rfl
  ·rw[CL he]at h⊢;rw[ih h]
end
def C11{f:Nat}{cs:Is}:Fx true (D+2) (.fn (.func f) [] [.iptr cs]) (.fn (.func f) [] [.iptr cs]) H false:=F? (D:=D+1) (Al (q:=false) RA AD)
end
inductive PC where
 |c (d:Cd)
 |z
def PC.cells:PC->Is
 |.c d=>d.cs
 |.z=>BI
structure Pk where
 kd:Int
 ds:List AN
 cs:List PC
def Pk.Right(p:Pk):Prop:=p.ds.length<=64/\p.cs.length<=64/\(∀s∈p.ds,s.length=32)/\((p.cs=[]/\(p.kd=1\/p.kd=2))\/(p.ds=[]/\p.kd=3))
def XT(S:ed):List PC->ed
 |[]=>S
 |.z::l=>XT S l
 |.c d::l=>XT (if d.id∈S.map Cd.id then S else S++[d]) l
def eQ(S:ed)(ex:List AN):List Pk:=if xO S ex=[] then[] else[⟨2,xO S ex,[]⟩]
def A05(S:ed)(ds:List AN):List Pk:=if gvn S ds=[] then[] else[⟨3,[],(gvn S ds).map .c⟩]
open Classical in
def NQ(S:ed)(p:Pk):ed×List Pk:=
 if p.Right then
  if p.kd=1 then(S,eQ S (p.ds.filter λx=>decide (x∉S.map Cd.id)))
  else if p.kd=2 then(S,A05 S p.ds)
  else(XT S p.cs,if(XT S p.cs).length=S.length then[] else eQ (XT S p.cs) [])
 else(S,[])
structure StIn(l S:ed):Prop where
 sub:∀c∈S,c∈l
 nd:(S.map Cd.id).Nodup
section
variable{l S:ed}{c d:Cd}{p:Pk}
def StIn.len(h:StIn l S):S.length<=l.length:=by
 have:=YV h.nd (l2:=l.map Cd.id) λx a=>by
  obtain⟨c,hc,rfl⟩:=Pu.1 a;exact Pu.2 ⟨c,h.sub c hc,rfl⟩
 rw[QK,QK]at this;exact this
def StIn.ok(h:StIn l S)(a:GOk l):GOk S:=⟨λc hc=>a.ok c (h.sub c hc),λc hc=>a.nd c (h.sub c hc),h.nd,fR h.len a.len⟩
def StIn.nil:StIn l []:=⟨by simp,List.nodup_nil⟩
def StIn.own(h:StIn l S)(b:GOk l)(hc:c∈l)(hi:c.id∈S.map Cd.id):c∈S:=by
 have⟨d,a,e⟩:=Pu.1 hi;have a1:=FH b.ids hc;have a2:=FH b.ids (h.sub d a);rw[e,a1]at a2;rw[l2b a2];exact a
def A8c:∀(S:ed),(∀c∈S,c.ps.length<=3)->(S.flatMap Cd.ps).length<=S.length*3:=by
 intro a
 induction a with
 |nil=>intro _;simp
 |cons c a ih=>
  intro h;have h1:=h c (by simp);have h2:=ih λd b=>h d (by simp[b]);rw[nM,EN,LI,l1e];omega
def Q7(h:c.Ok):c.ps.length<=3:=by
 match c,h with
 |.re b u,_=>exact l1h _
 |.co b p ps none,⟨_,h2,a,_⟩=>have:=h2.k3;show ps.length<=3;omega
 |.co b p ps (some _),⟨_,h2,a,_⟩=>have:=h2.k3;show ps.length<=3;omega
def A4u(a:GOk S):(J0 S).length<=24:=by
 have h1:=A37 (ids:=S.map Cd.id) (S.flatMap Cd.ps) [];have h2:=A8c S λc hc=>Q7 (a.ok c hc);have b:=a.len;rw[J0,(Bb _).length_eq,QK];simp at h1;simp at h2;omega
def A6H(l:List AN):(RU l).length<=l.length:=by
 induction l with
 |nil=>exact MC _
 |cons a l ih=>
  unfold RU;cases h:RU l with
  |nil=>simp
  |cons b m=>
   rw[h]at ih;show(if a=b then b::m else a::b::m).length<=_;split
   ·simp at ih⊢;omega
   ·simp at ih⊢;omega
def B3v(a:GOk S){ex:List AN}(h:ex.length<=40):(xO S ex).length<=64:=by
 have:=A6H (Eu (ex++J0 S));rw[(Bb _).length_eq,EN]at this;have:=A4u a;unfold xO;omega
def wP(ws:List AN):List Pk:=if ws=[] then[] else[⟨2,ws,[]⟩]
def B30(h:StIn l S):StIn l (L3 S):=by
 refine⟨λc hc=>h.sub c (Nb.1 ((A34 h.nd).1 hc)).1,?_⟩;rw[T9 h.nd];exact(QC (gs:=Hd S)).1.nd
end
section
variable{F:AV->KV}{H0:Hp}{b:List (AN×Cd)}{m rb:Nat}
variable{L n:Nat}
section
variable{A out:ed}{s:AN}{H:Hp}{K:KV}{x:Af}
def B5U(h:s∉out.map Cd.id):Lg (gE out) s=none:=Zs (by rw[XD];exact h)
def A08(h:s∈out.map Cd.id):∃c,Lg (gE out) s=some c:=by
 rcases A6s (gs:=out) (s:=s) with⟨_,k,a,h1,_⟩|⟨h1,_⟩
 ·exact⟨_,h1⟩
 ·exact absurd h h1
def A02{F:Value->Af}:Kk (S s) F=F (SV s):=id rfl
def C1k{es:IH}{F:K2}:AE Aj (.iptr [.imap es]) H F=F (.imap es):=by kernel_rfl
def A6f{P:Af->Prop}{m:AV}(hm:∀K,zC m H K=K (Dd DU b))(d:∀a,(∃c:Is,a=upd ((Ar H,c_ Ab BI)::H) (Ar H) (c_ Ab c))->P (F (Bo (Lg b s).isSome) (.ptr (Ar H) 0 0) a)):
 P (Kk (S s) λq=>Ye Ae true m q H λv=>C9 v 0 λi=>C9 v 1 λj=>Bx Ab Ae H λe g=>DE Ae e i g λh=>F j e h):=by
 rw[A02,wG (f:=DU) (b:=b) hm];cases hc:Lg b s with
 |some c=>
  simp only[];rw[EG,EF,Bv (cs:=BI) rfl,BO (cs:=BI) (vs:=c.cs) (Ay (by simp)) CY rfl Ja];have:=d _ ⟨c.cs,rfl⟩;rw[hc]at this;exact this
 |none=>
  simp only[];rw[EG,EF,Bv (cs:=BI) rfl]
  erw[BO (cs:=BI) (vs:=BI) (Ay (by simp)) rfl rfl rfl]
  have:=d _ ⟨BI,rfl⟩;rw[hc]at this;exact this
def A4w{m:AV}(hm:∀K,zC m H K=K (Dd DU b))(h:∀d,(∃c:Is,d=upd ((Ar H,c_ Ab BI)::H) (Ar H) (c_ Ab c))->F (Bo (Lg b s).isSome) (.ptr (Ar H) 0 0) d=x):
 (Kk (S s) λq=>Ye Ae true m q H λv=>C9 v 0 λi=>C9 v 1 λj=>Bx Ab Ae H λe f=>DE Ae e i f λg=>F j e g)=x:=
 A6f (P:=λa=>a=x) hm h
def jT:(Lg (gE out) s).isSome=decide (s∈out.map Cd.id):=by
 by_cases h:s∈out.map Cd.id
 ·have⟨c,hc⟩:=A08 h;rw[hc,Hu h];rfl
 ·rw[B5U h,Ir h];rfl
def C2t:CS (r! L (n+1)) Dj [S s,.iptr [.imap (Dd DU (gE out))]] (Bo (decide (s∉out.map Cd.id))):=by
 intro K d;rw[Og];unfold GE LF;rw[C1k];refine A4w (b:=gE out) (F:=λe _ c=>MJ .not e λa=>K a c) (λK=>id rfl) λf _=>?_;rw[jT,DK];have:(!decide (s∈out.map Cd.id))=decide (s∉out.map Cd.id):=by by_cases h:s∈out.map Cd.id<;>simp[h]
 rw[this];exact d _ _ λb=>⟨false,C7⟩
structure Cp(H0:Hp)(m rb:Nat)(out:ed)(H:Hp):Prop where
 mm:Ah H m=some (.map false (Dd DU (gE out)) none)
 bb:Ah H rb=some (c_ Az [.mp m])
 wf:Wf H
 keep:∀u y,Ah H0 u=some y->Ah H u=some y
 m0:Ar H0<=m
 b0:Ar H0<=rb
 w0:Wf H0
def Cp.ne(h:Cp H0 m rb out H):m≠rb:=λe=>by
 have:=h.mm;rw[e,h.bb]at this;cases this
def Cp.lat{H0 H':Hp}(h:Cp H0 m rb out H)(w:Wf H')(k:∀u y,Ah H u=some y->Ah H' u=some y):Cp H0 m rb out H':=
 ⟨k _ _ h.mm,k _ _ h.bb,w,λu y a=>k u y (h.keep u y a),h.m0,h.b0,h.w0⟩
def Cp.it{H0:Hp}{m rb it:Nat}(h:Cp H0 m rb out H)(y:Row)(h1:it≠m/\it≠rb/\Ar H0<=it):Cp H0 m rb out (upd H it y):=
 ⟨by rw[Ag h1.1.symm];exact h.mm,by rw[Ag h1.2.1.symm];exact h.bb,Bm h.wf,λu z a=>by rw[Ag (by have:=h.w0.lt a;omega)];exact h.keep u z a,h.m0,h.b0,h.w0⟩
def Cp.put(h:Cp H0 m rb out H)(a:ed):Cp H0 m rb a (upd H m (.map false (Dd DU (gE a)) none)):=
 ⟨(BC h.mm).trans rfl,by rw[Ag h.ne.symm];exact h.bb,Bm h.wf,λu z c=>by rw[Ag (by have:=h.w0.lt c;have:=h.m0;omega)];exact h.keep u z c,h.m0,h.b0,h.w0⟩
def B1J(out:ed)(c:Cd):gE out++[(c.id,c)]=gE (out++[c]):=by simp[gE]
def C1x{m rb it:Nat}{a0 v8 w:AV}{out0:ed}{ad:AV->AV->AV->KV}(hw:Vo 6 w w=true)(hg:GOk A)(hL:40000<L)(ac:∀out H,Cp H0 m rb out H->Ps A out->(∀c∈out0,c∈out)->(∀c∈A,(∀p∈c.ps,p∈out0.map Cd.id)->c.id∈out.map Cd.id)->ad a0 (.ptr rb 0 0) v8 (.it it) H=some (w,[]))(O:it≠m/\it≠rb/\Ar H0<=it):
 ∀(f:Nat)(es:List (AN×Cd))(out:ed)(H:Hp)(o:Option (Value×AV)),es.length<f->(∀e∈es,e∈gE A)->Cp H0 m rb out H->Ps A out->(∀c∈out0,c∈out)->
 (∀c∈A,(c.id,c)∈es\/((∀p∈c.ps,p∈out0.map Cd.id)->c.id∈out.map Cd.id))->Ah H it=some (.iter (Dd DU es) o)->
 Ik (L+20) (r! L (n+3)) K ad f a0 (.ptr rb 0 0) v8 (.it it) H=some (w,[]):=by
 intro f
 induction f with
 |zero=>intro es out H o h;omega
 |succ f ih=>
  intro es out H o hf he hc V Z B hl;rw[PW];unfold Il DN;refine YU (f:=DU) hw hl (λe=>?_) (λa e b ae=>?_)
  ·subst e;rw[Fm,AY];exact ac out H hc V Z λc i=>(B c i).elim (λh=>by cases h) id
  ·subst ae;have⟨cd,N,ag⟩:=Pu.1 (he e (by simp));subst ag;have P:=LY (es:=Dd DU (a++b)) (o:=some (.string ⟨⟨cd.id⟩⟩,DU cd)) hl;have M:=hc.it (.iter (Dd DU (a++b)) (some (.string ⟨⟨cd.id⟩⟩,DU cd))) O;have am:=Q7 (hg.ok cd N);rw[Fm,Cy];simp only[BF];rw[NW P,Fm,Pq];generalize upd H it (.iter (Dd DU (a++b)) (some (.string ⟨⟨cd.id⟩⟩,DU cd)))=H1 at P M;have⟨Y,e2,aa,w2,k2⟩:=GC (e:=Ab) (zs:=BI) (vs:=cd.cs) M.wf CY;rw[Bv (cs:=BI) rfl,BO (cs:=BI) (vs:=cd.cs) (Ay (by simp)) CY rfl Ja,<-e2,fA,JZ,B2L aa];have j:=M.lat w2 λu y hu=>(k2 u y hu).1;have Q:=(k2 _ _ P).1;have ah:RZ true depth [Di cd.ps,.fn (.func Dj) [] [.ptr rb 0 0]] [Di cd.ps,.fn (.func Dj) [] [.iptr [.imap (Dd DU (gE out))]]] Y true:=
    Al (q:=false) ((Lo cd.ps).fx Y) (Al (q:=true) (q':=false) (F? (D:=11) (Al (q:=true) (q':=false) (XG (D:=10) j.bb (Al (q:=true) (q':=false) (A4H (D:=6) j.mm) AD)) AD)) AD)
   have ab:∀{F:K2},Ap (r! L (n+3)) B8 [Di cd.ps,.fn (.func Dj) [] [.ptr rb 0 0]] Y F=F (Bo (cd.ps.any λs=>decide (s∉out.map Cd.id))):=λ{F}=>
    AO (sZ (n:=n+1) (Lo cd.ps) (λs K=>by
     rw[O_ rfl rfl];exact AO C2t (Al (q:=false) C7 (Al (q:=false) RA AD))) (C11 (D:=10)) (by omega) (by omega)) ah
   rw[ab,DK];have k:∀e∈a++b,e∈gE A:=λe X=>he e (by simp at X⊢;rcases X with X|X;exact .inl X;exact .inr (.inr X));have t:(a++b).length<f:=by simp at hf⊢;omega
   by_cases g:∀p∈cd.ps,p∈out.map Cd.id
   ·have e1:(cd.ps.any λs=>decide (s∉out.map Cd.id))=false:=by
     rw[List.any_eq_false];intro p J;simp[g p J]
    rw[e1];show A2 (.v (.bool true)) _ _=_;rw[Cy];have lm:∀{F:K2},AE Aj (.ptr rb 0 0) Y F=F (.mp m):=λ{F}=>AL (p:=0) rfl j.bb (by simp);rw[lm,Bu rfl CY.symm aa];show Kk (S cd.id) _=_;rw[A02];show Mg (.mp m) (SV cd.id) (DU cd) Y _=_;rw[ZW (f:=DU) (b:=gE out) (v:=cd) j.mm];by_cases r:cd.id∈out.map Cd.id
    ·have⟨c',ak⟩:=A08 r;have⟨d,hd,C⟩:=Pu.1 r;have e3:Lg (gE out) cd.id=some cd:=by
      have a1:=FH V.nd hd;rw[C]at a1;have a2:=FH hg.ids (V.sub d hd);have a3:=FH hg.ids N;rw[C,a3]at a2;rw[a1,l2b a2]
     rw[A7F e3];refine ih (a++b) out _ _ t k (j.put out) V Z (λc i=>?_) (by rw[Ag O.1];exact Q);rcases B c i with h|h
     ·simp at h;rcases h with h|h|h
      ·exact .inl (by simp[h])
      ·exact .inr λ_=>by rw[h.1];exact r
      ·exact .inl (by simp[h])
     ·exact .inr h
    ·rw[ZM (by rw[XD];exact r),B1J];refine ih (a++b) (out++[cd]) _ _ t k (j.put (out++[cd])) (V.add N g r) (λc af=>by simp[Z c af]) (λc i=>?_) (by rw[Ag O.1];exact Q);rcases B c i with h|h
     ·simp at h;rcases h with h|h|h
      ·exact .inl (by simp[h])
      ·exact .inr λ_=>by rw[h.1];simp
      ·exact .inl (by simp[h])
     ·exact .inr λR=>by
       have:=h R;rw[dW];exact dV.2 (.inl this)
   ·have e1:(cd.ps.any λs=>decide (s∉out.map Cd.id))=true:=by
     rw[List.any_eq_true];simp only[Classical.not_forall]at g;have⟨p,ai,aj⟩:=g;exact⟨p,ai,by simp only[decide_eq_true_eq];exact aj⟩
    rw[e1];show A2 (.v (.bool false)) _ _=_;rw[AY];refine ih (a++b) out _ _ t k j V Z (λc i=>?_) Q;rcases B c i with h|h
    ·simp at h;rcases h with h|h|h
     ·exact .inl (by simp[h])
     ·refine .inr λR=>absurd (λp J=>?_) g;rw[<-h.2]at J;have⟨d,hd,C⟩:=Pu.1 (R p J);exact Pu.2 ⟨d,Z d hd,C⟩
     ·exact .inl (by simp[h])
    ·exact .inr h
end
end
section
variable{w:AV}{F:K2}{es:IH}{m:Nat}
variable{L n:Nat}
section
variable{A out:ed}{s:AN}{H:Hp}{K:KV}{x:Af}
def wF{a:Option (Hb×Nat)}(h:Ah H m=some (.map false es a)):Zy (.mp m) H F=F (I es.length):=by
 unfold Zy;rw[XM h,C4,JZ];rfl
def A2P{ty:Nat}{i:TI}{v:Value}(hz:i.zero=.v v):Bx ty i H K=K (.ptr (Ar H) 0 0) ((Ar H,c_ ty [.v v])::H):=by
 unfold Bx;rw[hz,CP,BS];rfl
def A12:(LG (.iptr [.imap es]) λv=>CI 0 v λv=>AE Aj v H F)=F (.imap es):=by kernel_rfl
def B09{l m:ed}(b:(l.map Cd.id).Nodup)(hm:(m.map Cd.id).Nodup)(e:∀c∈l,c∈m)(he:m.length=l.length):∀c∈m,c∈l:=by
 intro c hc;apply l37;intro hn;have h1:(c::l).Nodup:=List.nodup_cons.2 ⟨hn,ZP b⟩;have h2:=YV h1 (l2:=m) λd a=>by
  rcases Vp.1 a with rfl|a
  ·exact hc
  ·exact e d a
 simp at h2;omega
def C1y{H0:Hp}{m rb:Nat}(R:Vo 6 w w=true)(t:GOk A)(O:40000<L)(V:∀out H,Cp H0 m rb out H->out.Perm (Hd A)->K (.mp m) H=some (w,[])):
 ∀(f:Nat)(out:ed)(H:Hp)(d1 d2:AV),A.length-out.length<f->Cp H0 m rb out H->Ps A out->
 FB (L+20) (r! L (n+3)) K f (.iptr [.imap (Dd DU (gE A))]) (.ptr rb 0 0) d1 d2 H=some (w,[]):=by
 intro f
 induction f with
 |zero=>intro out H d1 d2 h;omega
 |succ f ih=>
  intro out H d1 d2 X hc B;rw[PX];unfold Im DN;have lm:∀{out H}{F:K2},Cp H0 m rb out H->AE Aj (.ptr rb 0 0) H F=F (.mp m):=λ{out H F}hc=>AL (p:=0) rfl hc.bb (by simp);have N:∀{out:ed},(Dd DU (gE out)).length=out.length:=λ{out}=>by simp[gE]
  simp only[BF];rw[lm hc,wF hc.mm,N,A12,XO];have v:Ah ((Ar H,Row.iter (Dd DU (gE A)) none)::H) (Ar H)=some (.iter (Dd DU (gE A)) none):=Ay (by simp);have k:Cp H0 m rb out ((Ar H,Row.iter (Dd DU (gE A)) none)::H):=hc.lat (AG hc.wf) λu y M=>A6 (hc.wf.lt M) M;have m1:=hc.wf.lt hc.mm;have Y:=hc.wf.lt hc.bb;have m3:=hc.m0;refine C1x (n:=n) (out0:=out) R t O (λa D b g J q=>?_) ⟨by omega,by omega,by omega⟩ (L+20) (gE A) out _ none (by have:=t.len;simp[gE];omega) (λe he=>he) k B (λc h=>h) (λc i=>.inl (Pu.2 ⟨c,i,rfl⟩)) v;rw[lm b,wF b.mm,N,CV];have Q:out.length<=a.length:=by
   have:=YV (ZP B.nd) (l2:=a) J;exact this
  by_cases he:a.length=out.length
  ·rw[Hu (by omega),Cy,lm b];refine V a D b (g.done t.ids λc i j=>q c i λp C=>?_);have⟨d,P,r⟩:=Pu.1 (j p C);exact Pu.2 ⟨d,B09 B.nd g.nd J he d P,r⟩
  ·rw[Ir (by omega),AY];have:=g.len;exact ih a D _ _ (by omega) b g
def tB(i:Vo 6 w w=true)(e:GOk A)(g:40000<L)(wf:Wf H)(j:∀out m a,out.Perm (Hd A)->Ah a m=some (.map false (Dd DU (gE out)) none)->Ar H<=m->Wf a->(∀u y,Ah H u=some y->Ah a u=some y)->Ar H<=Ar a->K (.mp m) a=some (w,[])):
 (r! L (n+4)).call FO [.iptr [.imap (Dd DU (gE A))]] H K=some (w,[]):=by
 rw[QG];unfold I7;have em:∀(H:Hp)(K:KV),Ld Ae H K=K (.mp (Ar H)) ((Ar H,.map false [] none)::H):=λH K=>by
  show HE H (λs=>K (.mp s) ((s,.map false [] (fL Ae.d))::H))=_;rw[BS];rfl
 rw[em,A2P (v:=.map none) rfl];have w1:=AG (x:=.map false [] none) wf;have h1:Ah ((Ar H,Row.map false [] none)::H) (Ar H)=some (.map false [] none):=Ay (by simp);have c:Ar ((Ar H,Row.map false [] none)::H)=Ar H+1:=rfl;rw[c];have h2:Ah ((Ar H+1,c_ Az [.v (.map none)])::(Ar H,Row.map false [] none)::H) (Ar H+1)=some (c_ Az [.v (.map none)]):=Ay (H:=(Ar H,Row.map false [] none)::H) (by simp);rw[DT (cs:=[.v (.map none)]) h2 (by simp) rfl rfl rfl];have p:Wf ((Ar H+1,c_ Az [.v (.map none)])::(Ar H,Row.map false [] none)::H):=AG (x:=.cells true Az [.v (.map none)]) w1;have k:∀u y,Ah H u=some y->Ah ((Ar H+1,c_ Az [.v (.map none)])::(Ar H,Row.map false [] none)::H) u=some y:=λu y b=>by
  have a1:=A6 (x:=.map false [] none) (wf.lt b) b;exact A6 (w1.lt a1) a1
 have f:Ah ((Ar H+1,c_ Az [.v (.map none)])::(Ar H,Row.map false [] none)::H) (Ar H)=some (.map false [] none):=A6 (H:=(Ar H,Row.map false [] none)::H) (by rw[c];omega) h1;refine C1y (n:=n) (H0:=H) (m:=Ar H) (rb:=Ar H+1) i e g (λout a hc h=>?_) (L+20) [] _ _ _ (by have:=e.len;simp;omega) ⟨by rw[Ag (by omega)];exact f,AC h2,Bm p,λu y b=>by rw[Ag (by have:=wf.lt b;omega)];exact k u y b,by omega,by omega,wf⟩ .nil;have:=hc.wf.lt hc.mm;exact j out (Ar H) a h hc.mm (MC _) hc.wf hc.keep (by omega)
end
end
section
variable{v w:AV}{H H0:Hp}{A:ed}{m:Nat}
variable{L n:Nat}
def vP(c2 c6:AV)(p:Option (Option Code)):Row:=.loop 13 [(2,c2),(4,Aw),(5,AV.dk),(6,c6),(7,AV.dk),(8,AV.dk),(9,AV.dk),(10,AV.dk),(11,AV.dk)] (AK).2.1 (AK).2.2.1 (AK).2.2.2 p
structure CollC(H0:Hp)(r0 s:Nat)(q0:Bool)(e0:Nat)(c6:AV)(l:ed)(v:AV)(H:Hp):Prop where
 at_:Ah H r0=some (.cells q0 e0 [v])
 sl:Bp H Ab 68 v l.length (l.flatMap Cd.cs)
 lp:Ah H s=some (vP (.ptr r0 0 0) c6 (some none))
 new:∀u,A8 v u->u≠r0/\u≠s/\Ar H0<=u
 wf:Wf H
 keep:∀u y,Ah H0 u=some y->Ah H u=some y
 ne:r0≠s
 r0n:Ar H0<=r0
 sn:Ar H0<=s
 w0:Wf H0
def Bp.co{e sz m:Nat}{cs:Is}(h:Bp H e sz v m cs):B4 v=[v]/\AV.one v=true:=by
 rcases h with⟨rfl,_⟩|⟨_,_,rfl,_⟩<;>exact⟨rfl,rfl⟩
variable{K:KV}{x:Af}
def A5W{r0 s e0:Nat}{q0:Bool}{c6 v:AV}{l:ed}{b:Cd}(h:CollC H0 r0 s q0 e0 c6 l v H)(hn:l.length<1000)(hx:∀f g,CollC H0 r0 s q0 e0 c6 (l++[b]) f g->(∀u y,u≠r0->u≠s->¬A8 v u->Ah H u=some y->Ah g u=some y)->(∀u,A8 f u->Ar H<=u)->K (Bo true) g=x):CH (E (L+20)) (r! L (n+1)) (.yl s) [.agg b.cs] H K=x:=by
 show Oj (r! L (n+1)) s [.agg b.cs] H K=x;rw[PG h.lp (by kernel_rfl)];have J:(r! L (n+1)).run= λcf=>MD (E (L+20)) (r! L n) cf:=rfl;rw[J,HB,Bv (cs:=BI) rfl,BO (cs:=BI) (vs:=b.cs) (Ay (by simp)) CY rfl Ja];have⟨d,e1,V,w1,k1⟩:=GC (e:=Ab) (zs:=BI) (vs:=b.cs) h.wf CY;rw[<-e1];have n1:Ar d=Ar H+1:=by rw[e1,B9];rfl
 have ae:=h.wf.lt h.at_;have slt:=h.wf.lt h.lp;have j:Ah d s=some (vP (.ptr r0 0 0) c6 (some none)):=(k1 _ _ h.lp).1;have C:Ah d r0=some (.cells q0 e0 [v]):=(k1 _ _ h.at_).1;have ad:∀u,A8 v u->u<Ar H:=λu c=>by
  rcases h.sl with⟨rfl,_⟩|⟨r,q,rfl,h2,_⟩
  ·exact absurd c HY
  ·have⟨_,_,_,X⟩:=c;injection X with _ X
   subst X;exact h.wf.lt h2
 have N:Bp d Ab 68 v l.length (l.flatMap Cd.cs):=by
  rcases h.sl with h1|⟨r,q,rfl,h2,t⟩
  ·exact .inl h1
  ·exact .inr ⟨r,q,rfl,(k1 _ _ h2).1,t⟩
 rw[PQ j];have ab:=Bm (r:=s) (y:=vP (.ptr r0 0 0) c6 none) w1;have D:Ah (upd d s (vP (.ptr r0 0 0) c6 none)) r0=some (.cells q0 e0 [v]):=by rw[Ag h.ne];exact C
 have Y:Ah (upd d s (vP (.ptr r0 0 0) c6 none)) s=some (vP (.ptr r0 0 0) c6 none):=Fl j;have aa:Bp (upd d s (vP (.ptr r0 0 0) c6 none)) Ab 68 v l.length (l.flatMap Cd.cs):=N.lat w1 (Lat.upd d s _ (P:=λu=>u=s) rfl) (λu c=>(h.new u c).2.1);have R:Ah (upd d s (vP (.ptr r0 0 0) c6 none)) (Ar H)=some (c_ Ab b.cs):=by rw[Ag (by omega)];exact V
 show AE Am (.ptr r0 0 0) (upd d s (vP (.ptr r0 0 0) c6 none)) _=_;rw[AL (p:=0) rfl D (by simp)];show AE Ae (.ptr (Ar H) 0 0) (upd d s (vP (.ptr r0 0 0) c6 none)) _=_;rw[Bu rfl CY.symm R];show GF Ab 68 Ae 1 [(0,68,.agg b.cs)] (upd d s (vP (.ptr r0 0 0) c6 none)) (λac O=>E0 Ab 68 Ae Am v ac O _)=_;have⟨f,g,h1,h2,t,h4,Q,h6⟩:=zG (ie:=Ae) (i2:=Am) (ys:=b.cs) aa ab CY Ja (by decide) rfl (λ_=>rfl) (by show(_+1)*800<=_;omega) (by omega);rw[C1I CY Ja,h1];have n0:¬A8 v r0:=λc=>(h.new r0 c).1 rfl;have ns:¬A8 v s:=λc=>(h.new s c).2.1 rfl;have F:=Q r0 _ D n0;have Z:=Q s _ Y ns;rw[DT (q:=q0) (e:=e0) (cs:=[v]) F (by simp) rfl h2.co.1 h2.co.2];have ah:Ar H0<=Ar H:=by have:=h.r0n;omega
 have ag:Ar (upd d s (vP (.ptr r0 0 0) c6 none))=Ar H+1:=by rw[B9,n1]
 have i:∀u,A8 f u->Ar H<=u:=λu c=>by have:=h6 u c;omega
 have B:∀u,A8 f u->u≠r0/\u≠s/\Ar H0<=u:=λu c=>by
  have a1:=i u c;exact⟨by omega,by omega,by omega⟩
 have M:Ah (upd g r0 (.cells q0 e0 [f])) s=some (vP (.ptr r0 0 0) c6 none):=by rw[Ag h.ne.symm];exact Z
 show EC (upd g r0 (.cells q0 e0 [f])) s false (some none) _=_;have k:=M;unfold vP at k;rw[PN k];have kp:∀u y,u≠r0->u≠s->¬A8 v u->Ah H u=some y->Ah (upd (upd g r0 (.cells q0 e0 [f])) s (vP (.ptr r0 0 0) c6 (some none))) u=some y:=λu y h1 h2 t c=>by
  rw[Ag h2,Ag h1];exact Q u y (by rw[Ag h2];exact(k1 _ _ c).1) t
 have e2:(l++[b]).flatMap Cd.cs=l.flatMap Cd.cs++b.cs:=by simp
 refine hx f _ ⟨?_,?_,?_,B,Bm (Bm t),λu y c=>?_,h.ne,h.r0n,h.sn,h.w0⟩ kp i
 ·rw[Ag h.ne];exact AC F
 ·rw[EN,e2];have a:=h2.lat t (Lat.upd g r0 (.cells q0 e0 [f]) (P:=λu=>u=r0) rfl) (λu c=>(B u c).1);exact a.lat (Bm t) (Lat.upd _ s _ (P:=λu=>u=s) rfl) (λu c=>(B u c).2.1)
 ·exact Fl M
 ·have af:=h.w0.lt c;have b1:=h.r0n;have b2:=h.sn;exact kp u y (by omega) (by omega) (λhv=>by have:=(h.new u hv).2.2;omega) (h.keep u y c)
def CollC.it{H0 H:Hp}{r0 s e0 it:Nat}{q0:Bool}{c6 v:AV}{l:ed}(h:CollC H0 r0 s q0 e0 c6 l v H)(y:Row)(h1:it≠r0/\it≠s/\Ar H0<=it)(h2:¬A8 v it):CollC H0 r0 s q0 e0 c6 l v (upd H it y):=
 ⟨by rw[Ag h1.1.symm];exact h.at_,h.sl.lat h.wf (Lat.upd H it y (P:=λu=>u=it) rfl) (λu a e=>h2 (e▸a)),by rw[Ag h1.2.1.symm];exact h.lp,h.new,Bm h.wf,λu z a=>by rw[Ag (by have:=h.w0.lt a;omega)];exact h.keep u z a,h.ne,h.r0n,h.sn,h.w0⟩
def CollC.more{H0 H H':Hp}{r0 s e0:Nat}{q0:Bool}{c6 v:AV}{l:ed}(h:CollC H0 r0 s q0 e0 c6 l v H)(w:Wf H')(k:∀u y,Ah H u=some y->Ah H' u=some y):CollC H0 r0 s q0 e0 c6 l v H':=
 ⟨k _ _ h.at_,by
  rcases h.sl with h1|⟨r,q,rfl,h2,a⟩
  ·exact .inl h1
  ·exact .inr ⟨r,q,rfl,k _ _ h2,a⟩,k _ _ h.lp,h.new,w,λu y b=>k u y (h.keep u y b),h.ne,h.r0n,h.sn,h.w0⟩
structure NewC(H0:Hp)(l:ed)(v:AV)(H:Hp):Prop where
 sl:Bp H Ab 68 v l.length (l.flatMap Cd.cs)
 nil:l=[]->v=Aw
 new:∀u,A8 v u->Ar H0<=u
 wf:Wf H
 keep:∀u y,Ah H0 u=some y->Ah H u=some y
 nx:Ar H0<=Ar H
def eU{Q:ed->AV->Prop}{Hs H0:Hp}{g:Nat}{cap:Is}(ws:Wf Hs)(w0:Wf H0)(hn:Ar H0=Ar Hs)(i:∀u y,Ah H0 u=some y->Ah Hs u=some y)(h:∀(H:Hp)(F:KV),CollC H0 (Ar Hs) (Ar Hs+1) true Bz (.fn (.func g) [] cap) [] Aw H->Ar H=Ar Hs+2->(∀u y,Ah Hs u=some y->Ah H u=some y)->
  (∀l v b,Q l v->(l=[]->v=Aw)->CollC H0 (Ar Hs) (Ar Hs+1) true Bz (.fn (.func g) [] cap) l v b->F (.tup []) b=x)->(r! L (n+1)).call g (.yl (Ar Hs+1)::cap) H F=x)(k:∀l v b,Q l v->NewC H0 l v b->K v b=x):
 (r! L (n+3)).call BG [.fn (.func g) [] cap] Hs K=x:=by
 rw[N0];unfold Gh;rw[HS];unfold De;simp only[BF];rw[oG (by rfl),Wt];have w1:=AG (x:=.cells true Bz [Aw]) ws;have c:=Ay (H:=Hs) (x:=.cells true Bz [Aw]) (by simp);have j:Ar ((Ar Hs,c_ Bz [Aw])::Hs)=Ar Hs+1:=rfl;have q:Wf ((Ar Hs+1,vP (.ptr (Ar Hs) 0 0) (.fn (.func g) [] cap) (some none))::(Ar Hs,c_ Bz [Aw])::Hs):=AG (x:=vP (.ptr (Ar Hs) 0 0) (.fn (.func g) [] cap) (some none)) w1;have e:Ah ((Ar Hs+1,vP (.ptr (Ar Hs) 0 0) (.fn (.func g) [] cap) (some none))::(Ar Hs,c_ Bz [Aw])::Hs) (Ar Hs+1)=some (vP (.ptr (Ar Hs) 0 0) (.fn (.func g) [] cap) (some none)):=Ay (H:=((Ar Hs,c_ Bz [Aw])::Hs)) (x:=vP (.ptr (Ar Hs) 0 0) (.fn (.func g) [] cap) (some none)) (by simp[vP]);have ol:∀u y,Ah Hs u=some y->Ah ((Ar Hs+1,vP (.ptr (Ar Hs) 0 0) (.fn (.func g) [] cap) (some none))::(Ar Hs,c_ Bz [Aw])::Hs) u=some y:=λu y a=>by
  have a1:=A6 (x:=.cells true Bz [Aw]) (ws.lt a) a;exact A6 (w1.lt a1) a1
 have d:Ah ((Ar Hs+1,vP (.ptr (Ar Hs) 0 0) (.fn (.func g) [] cap) (some none))::(Ar Hs,c_ Bz [Aw])::Hs) (Ar Hs)=some (c_ Bz [Aw]):=A6 (w1.lt c) c;refine h _ _ ⟨d,.inl ⟨rfl,rfl,rfl⟩,e,λu a=>absurd a HY,q,λu y a=>ol u y (i u y a),by omega,by omega,by omega,w0⟩ rfl ol ?_;intro l v b hq f hc;show IP b (Ar Hs+1) _=_;rw[Bl hc.lp];show LJ b (Ar Hs+1) .gone _=_;rw[Dh];have hr:Ah (upd b (Ar Hs+1) .gone) (Ar Hs)=some (c_ Bz [v]):=by rw[Ag (by omega)];exact hc.at_
 show AE Am (.ptr (Ar Hs) 0 0) (upd b (Ar Hs+1) .gone) _=_;rw[AL (p:=0) rfl hr (by simp)];refine k l _ _ hq ⟨?_,f,λu a=>(hc.new u a).2.2,Bm hc.wf,λu y a=>?_,?_⟩
 ·exact hc.sl.lat hc.wf (Lat.upd b _ _ (P:=λu=>u=Ar Hs+1) rfl) (λu a=>(hc.new u a).2.1)
 ·have:=w0.lt a;rw[Ag (by omega)];exact hc.keep u y a
 ·rw[B9];have:=hc.wf.lt hc.at_;omega
def zU{r0 s it:Nat}{c6 w:AV}{J:Ru}(V:Vo 6 w w=true)(D:A.length<1000)(i:∀l v H,l.Perm A->(l=[]->v=Aw)->CollC H0 r0 s true Bz c6 l v H->J H=some (w,[]))(d:it≠r0/\it≠s/\Ar H0<=it):
 ∀(f:Nat)(es:List (AN×Cd))(l:ed)(v:AV)(H:Hp)(o:Option (Value×AV)),es.length<f->(l++es.map Prod.snd).Perm A->(l=[]->v=Aw)->CollC H0 r0 s true Bz c6 l v H->¬A8 v it->Ah H it=some (.iter (Dd DU es) o)->
 Ch (L+20) (r! L (n+1)) K J f (.yl s) (.it it) H=some (w,[]):=by
 intro f
 induction f with
 |zero=>intro es l v H o h;omega
 |succ f ih=>
  intro es l v H o Q t P hc hv C;rw[XA1];unfold Ci;refine YU (f:=DU) V C (λe=>?_) (λa e b he=>?_)
  ·subst e;rw[Fm,AY];exact i l v H (by simpa using t) P hc
  ·subst he;have c:=hc.it (.iter (Dd DU (a++b)) (some (.string ⟨⟨e.1⟩⟩,DU e.2))) d hv;have g:=LY (es:=Dd DU (a++b)) (o:=some (.string ⟨⟨e.1⟩⟩,DU e.2)) C;have r:(l++(a++e::b).map Prod.snd).length=A.length:=t.length_eq;simp at r;rw[Fm,Cy,NW g,Pq];generalize upd H it (.iter (Dd DU (a++b)) (some (.string ⟨⟨e.1⟩⟩,DU e.2)))=Y at g c;have⟨Z,O,p,M,F⟩:=GC (e:=Ab) (zs:=BI) (vs:=e.2.cs) c.wf CY;rw[Bv (cs:=BI) rfl,BO (cs:=BI) (vs:=e.2.cs) (Ay (by simp)) CY rfl Ja,<-O,Bu rfl CY.symm p];have q:=c.more M λu y B=>(F u y B).1;have j:=(F _ _ g).1;refine A5W q (by omega) λX N k R hr=>?_;rw[DK];show A2 (.v (.bool false)) _ _=_;rw[AY];refine ih (a++b) (l++[e.2]) X N _ (by simp at Q⊢;omega) ?_ (by simp) k (λB=>?_) (R it _ d.1 d.2.1 hv j)
   ·refine List.Perm.trans ?_ t;simp only[dW,X0,eI];refine List.Perm.append_left l ?_;show(e.2::(a.map Prod.snd++b.map Prod.snd)).Perm _;exact List.perm_middle.symm
   ·have g1:=hr it B;have g2:=M.lt j;omega
def B1I(A:ed):(gE A).map Prod.snd=A:=by
 unfold gE;rw[List.map_map];exact List.map_id A
def B2M(es:List (AN×Cd)):(Dd DU es).all (λp=>dA 3 p.2)=true:=by
 rw[G9];intro p g;obtain⟨e,_,rfl⟩:=Pu.1 g;show e.2.cs.all (dA 2)=true;have d:∀l:Is,l.all fixB=true->l.all (dA 2)=true:=λl h=>by
  rw[G9]at h⊢;intro a f;have:=h a f;cases a<;>first|rfl|(simp[fixB]at this)
 have h1:∀c:Cd,c.cs.all (dA 2)=true:=λc=>by
  have⟨a,b,e,h1,h2⟩:=ZZ c;rw[<-A0o c,e,List.all_append,d a h1,qU,d b h2];cases c.ps<;>rfl
 exact h1 _
def A9i{Hs:Hp}(V:Vo 6 w w=true)(j:A.length<1000)(hL:40000<L)(ws:Wf Hs)(hm:Ah Hs m=some (.map false (Dd DU (gE A)) none))(X:∀l v g,l.Perm A->NewC (upd Hs m .gone) l v g->K v g=some (w,[])):
 (r! L (n+4)).call Br [.mp m] Hs (λv H=>(r! L (n+4)).call BG [v] H K)=some (w,[]):=by
 rw[Du];unfold BD Ih;rw[A57];have w1:=AG (x:=.cells true Az [.mp m]) ws;have mlt:=ws.lt hm;have hb:Ah ((Ar Hs,c_ Az [.mp m])::Hs) (Ar Hs)=some (c_ Az [.mp m]):=Ay (by simp);have t:∀u y,Ah Hs u=some y->Ah ((Ar Hs,c_ Az [.mp m])::Hs) u=some y:=λu y c=>A6 (ws.lt c) c;have f:=t _ _ hm;have M:Ar ((Ar Hs,c_ Az [.mp m])::Hs)=Ar Hs+1:=rfl;generalize ((Ar Hs,c_ Az [.mp m])::Hs:Hp)=B at w1 hb t f M;refine eU (n:=n+1) (Q:=λl _=>l.Perm A) (H0:=upd B m .gone) w1 (Bm w1) (B9 _ _ _) (λu y c=>?_) (λH F hc P i O=>?_) (λl v g hq h=>?_)
 ·have d:u≠m:=λe=>by subst e;rw[BC f]at c;cases c
  rwa[Ag d]at c
 ·rw[Df];unfold B5;simp only[BF];rw[AL (p:=0) rfl (i _ _ hb) (by simp)];show XP (.mp m) H _=_;have q:=i _ _ f;rw[A6C q (B2M _)];have Z:=hc.wf;have J:Wf (upd H m .gone):=Bm Z;have s:Ar (upd H m .gone)=Ar H:=B9 _ _ _;have r:Ah ((Ar H,Row.iter (Dd DU (gE A)) none)::upd H m .gone) (Ar H)=some (.iter (Dd DU (gE A)) none):=by
   have:=Ay (H:=upd H m .gone) (x:=.iter (Dd DU (gE A)) none) (by simp)
   rwa[s]at this
  have up:∀u y,u≠m->Ah H u=some y->Ah ((Ar H,Row.iter (Dd DU (gE A)) none)::upd H m .gone) u=some y:=λu y c Y=>by
   have a:Ah (upd H m .gone) u=some y:=by rw[Ag c];exact Y
   have b:=A6 (x:=.iter (Dd DU (gE A)) none) (J.lt a) a
   rwa[s]at b
  have D:=AG (x:=.iter (Dd DU (gE A)) none) J;rw[s]at D;have C:=w1.lt f;refine zU (n:=n) (A:=A) (H0:=upd B m .gone) V j (λl v g R N k=>O l v g R N k) ⟨by omega,by omega,by rw[B9];omega⟩ (L+20) (gE A) [] Aw _ none (by simp[gE];omega) (by rw[B1I];simp) (λ_=>rfl)
   ⟨up _ _ (by omega) hc.at_,.inl ⟨rfl,rfl,rfl⟩,up _ _ (by omega) hc.lp,λu c=>absurd c HY,D,λu y c=>?_,hc.ne,hc.r0n,hc.sn,hc.w0⟩ HY r
  have d:u≠m:=λe=>by subst e;rw[BC f]at c;cases c
  exact up u y d (hc.keep u y c)
 ·refine X l v g hq ⟨h.sl,h.nil,λu c=>?_,h.wf,λu y c=>?_,?_⟩
  ·have:=h.new u c;rw[B9]at this⊢;omega
  ·have d:u≠m:=λe=>by subst e;rw[BC hm]at c;cases c
   rw[Ag d]at c;exact h.keep u y (by rw[Ag d];exact t u y c)
  ·have:=h.nx;rw[B9]at this⊢;omega
end
section
variable{F:K2}{x0:Af}
variable{L n:Nat}
def A58{ty:Nat}{v:AV}{H:Hp}{K:KV}(h:B4 v=[v]/\AV.one v=true):FV ty v H K=K (.ptr (Ar H) 0 0) ((Ar H,c_ ty [v])::H):=by
 unfold FV;rw[CP,h.1,FM,BS];have:[v].all AV.one=true:=by simp[h.2]
 rw[this];rfl
def sF(H:Hp)(x:AV)(A:ed):Prop:=x=.iptr [.imap (Dd DU (gE A))]\/∃r m,x=.ptr r 0 0/\Ah H r=some (c_ D6 [.mp m])/\Ah H m=some (.map false (Dd DU (gE A)) none)
def sF.one{H:Hp}{x:AV}{A:ed}(h:sF H x A):B4 x=[x]/\AV.one x=true:=by
 rcases h with rfl|⟨_,_,rfl,_⟩<;>exact⟨rfl,rfl⟩
def sF.keep{H H':Hp}{x:AV}{A:ed}(h:sF H x A)(k:∀u y,Ah H u=some y->Ah H' u=some y):sF H' x A:=by
 rcases h with rfl|⟨r,m,rfl,h1,h2⟩
 ·exact .inl rfl
 ·exact .inr ⟨r,m,rfl,k _ _ h1,k _ _ h2⟩
def A3y{H:Hp}{r m:Nat}(h:Ah H r=some (c_ D6 [.mp m])):(LG (.ptr r 0 0) λv=>CI 0 v λv=>AE Aj v H F)=F (.mp m):=by
 rw[Iy,fA,JZ,AL (p:=0) rfl h (by simp)];rfl
def sF.fld{H:Hp}{x:AV}{A:ed}(h:sF H x A):∃mm,(∀F:K2,(LG x λv=>CI 0 v λv=>AE Aj v H F)=F mm)/\∀K,zC mm H K=K (Dd DU (gE A)):=by
 rcases h with rfl|⟨r,m,rfl,h1,h2⟩
 ·exact⟨_,λF=>A12,λK=>id rfl⟩
 ·exact⟨.mp m,λF=>A3y h1,λK=>XM h2⟩
def sF.nn{H:Hp}{x:AV}{A:ed}(h:sF H x A):RN BP CZ .eql x (.v (.pointer none)) F=F (Bo false):=by
 rcases h with rfl|⟨r,m,rfl,_⟩<;>kernel_rfl
def sF.fx{H:Hp}{x:AV}{A:ed}(h:sF H x A){D:Nat}:∃q,Fx true (D+5) x (.iptr [.imap (Dd DU (gE A))]) H q:=by
 rcases h with rfl|⟨r,m,rfl,h1,h2⟩
 ·exact⟨false,RA⟩
 ·exact⟨true,XG (D:=D+4) h1 (Al (q:=true) (q':=false) (A4H (D:=D) h2) AD)⟩
def rG(H:Hp)(v:AV)(l:List AN):Prop:=SA l v\/MB H v l
section
variable{H H' H0:Hp}{v x iv:AV}{l ids:List AN}{A:ed}{K:KV}
def rG.one(h:rG H v l):B4 v=[v]/\AV.one v=true:=by
 rcases h with h|h
 ·rcases h with rfl|⟨_,rfl⟩<;>exact⟨rfl,rfl⟩
 ·rcases h with⟨rfl,_⟩|⟨_,_,_,rfl,_⟩<;>exact⟨rfl,rfl⟩
def rG.keep(h:rG H v l)(k:∀u y,Ah H u=some y->Ah H' u=some y):rG H' v l:=h.imp id λh=>h.kp λu y _ a=>k u y a
def rG.len(h:rG H v l):Ba Ac v F=F (I l.length):=by
 rcases h with h|h
 ·exact h.len
 ·exact h.len
def rG.get(h:rG H v l){i:Nat}(hi:i<l.length):(D4 Ac v (I i) λp=>AE Ai p H F)=F (S l[i]):=by
 rcases h with h|h
 ·rw[h.ia hi,JS]
 ·rcases h with⟨rfl,rfl⟩|⟨r,q,a,rfl,h2⟩
  ·simp at hi
  ·rw[RM hi,AL (p:=i) rfl h2 (by rw[EN,Be];omega),TV,l0m (by rw[Be];exact hi)];unfold AF;rw[yY,KJ hi];rfl
def VF(A:ed)(ids:List AN):ed:=ids.filterMap λy=>Lg (gE A) y
def A7L:(VF A ids).length<=ids.length:=List.length_filterMap_le _ _
def B69{r0 s m:Nat}{c6:AV}{k3:Ru}(t:GOk A)(g:∀y∈ids,y∈A.map Cd.id)(u:ids.length<900)(k:Ah H0 m=some (c_ AW [x]))(C:sF H0 x A)(hv:rG H0 iv ids)(e:∀v H,CollC H0 r0 s true Bz c6 (VF A ids) v H->(VF A ids=[]->v=Aw)->k3 H=x0):
 ∀(f i:Nat)(v:AV)(H:Hp),i<=ids.length->ids.length-i<f->CollC H0 r0 s true Bz c6 (VF A (ids.take i)) v H->(VF A (ids.take i)=[]->v=Aw)->
 Ii (L+20) (r! L (n+2)) K k3 f (.yl s) (.ptr m 0 0) iv (I ids.length) (I i) H=x0:=by
 intro f
 induction f with
 |zero=>intro i v H _ h;omega
 |succ f ih=>
  intro i v H hi M hc r;rw[PU];unfold Ij DN Ia A4;by_cases h:i<ids.length
  ·obtain⟨c,a⟩:∃c,Lg (gE A) ids[i]=some c:=A08 (g _ (Ql h));have⟨d,_⟩:=oX a;have B:=Q7 (t.ok c d);have D:∀{F:K2},AE BP (.ptr m 0 0) H F=F x:=λ{F}=>AL (p:=0) rfl (hc.keep _ _ k) (by simp);have⟨mm,f1,f2⟩:=(C.keep hc.keep).fld;rw[XA2 (by omega),Cy,(hv.keep hc.keep).get h,D,f1,A02,kD (f:=DU) (b:=gE A) f2,a];simp only[];rw[CT.z (A1i (n:=n) (t.ok c d) (by omega)) (wT H)];have q:VF A (ids.take (i+1))=VF A (ids.take i)++[c]:=by
    unfold VF;rw[nL h,List.filterMap_append,List.filterMap_cons,a];rfl
   have O:(VF A (ids.take i)).length<=i:=by
    have:=A7L (A:=A) (ids:=ids.take i);rw[E!]at this;omega
   refine A5W hc (by omega) λJ H' j N hr=>?_;rw[DK];show A2 (.v (.bool false)) _ _=_;rw[AY,CW (by omega)];exact ih (i+1) J H' (by omega) (by omega) (by rw[q];exact j) (by rw[q];simp)
  ·have:i=ids.length:=by omega
   subst this;rw[rW]at hc r;rw[Fk (by omega),AY];exact e v H hc r
def A9H(D:GOk A)(c:∀y∈ids,y∈A.map Cd.id)(e:ids.length<900)(M:40000<L)(wf:Wf H)(q:sF H x A)(hv:rG H iv ids)(C:∀v H',NewC H (VF A ids) v H'->K v H'=x0):
 (r! L (n+6)).call Ie [x,iv] H (λv H=>(r! L (n+6)).call BG [v] H K)=x0:=by
 rw[TM];unfold Kj LF;rw[A58 q.one,A58 hv.one];have w1:=AG (x:=.cells true AW [x]) wf;have m:Ar ((Ar H,c_ AW [x])::H)=Ar H+1:=rfl;rw[m];have j:Wf ((Ar H+1,c_ A7 [iv])::(Ar H,c_ AW [x])::H):=AG (x:=.cells true A7 [iv]) w1;have f:∀u y,Ah H u=some y->Ah ((Ar H+1,c_ A7 [iv])::(Ar H,c_ AW [x])::H) u=some y:=λu y a=>by
  have a1:=A6 (x:=.cells true AW [x]) (wf.lt a) a;exact A6 (w1.lt a1) a1
 have b1:Ah ((Ar H+1,c_ A7 [iv])::(Ar H,c_ AW [x])::H) (Ar H)=some (c_ AW [x]):=A6 (H:=(Ar H,c_ AW [x])::H) (by rw[m];omega) (Ay (by simp));have b2:Ah ((Ar H+1,c_ A7 [iv])::(Ar H,c_ AW [x])::H) (Ar H+1)=some (c_ A7 [iv]):=Ay (H:=(Ar H,c_ AW [x])::H) (by simp);have t:Ar ((Ar H+1,c_ A7 [iv])::(Ar H,c_ AW [x])::H)=Ar H+2:=rfl;generalize ((Ar H+1,c_ A7 [iv])::(Ar H,c_ AW [x])::H:Hp)=g at j f b1 b2 t;refine eU (n:=n+3) (Q:=λl _=>l=VF A ids) (H0:=g) j j rfl (λu y a=>a) (λk F hc J d B=>?_) (λl v H' hq b=>?_)
 ·rw[QF];unfold I6 A4;simp only[BF];have li:∀{F:K2},AE Ac (.ptr (Ar H+1) 0 0) k F=F iv:=λ{F}=>AL (p:=0) rfl (d _ _ b2) (by simp);have r:(AV.v (.int .i64 0))=I ((0:Nat):Int):=rfl;rw[li,(hv.keep f).keep d|>.len,r];exact B69 (n:=n+1) (r0:=Ar g) (s:=Ar g+1) (H0:=g) D c e b1 (q.keep f) (hv.keep f) (λv H' i h=>B _ v H' rfl h i) (L+20) 0 Aw k (by omega) (by omega) (by simpa [VF] using hc) (λ_=>rfl)
 ·subst hq;refine C v H' ⟨b.sl,b.nil,λu a=>?_,b.wf,λu y a=>b.keep u y (f u y a),?_⟩
  ·have:=b.new u a;omega
  ·have:=b.nx;omega
end
end
section
variable{v:AV}{F:K2}{p q:AV->Bool}
variable{L n:Nat}
def C1v(c:Cd)(hi:∀z,p (I z)=true)(g:∀s,p (S s)=true)(hn:p Aw=true)(a:p c.fT=true)(d:p c.fI=true)(e:p c.fN=true)(f:p (Di c.ps)=true):c.cs.all p=true:=by
 match c,a,d,e,f with
 |.re b u,a,_,_,_=>
  have a:p (E4 b.ts)=true:=a;show(Ea 1 b.m (uu u) (qn b.c) (qd b.c) (E4 b.ts) (qn b.r) (qd b.r) Aw 0 Aw Aw u0 r0 0).all p=true;simp only[qU,l3a,hi,g,hn,a,l1g]
 |.co b q ps none,a,d,e,f=>
  have a:p (E4 b.ts)=true:=a;have d:p (BE q.ks)=true:=d;have e:p (Ck q.xs)=true:=e;have f:p (Di ps)=true:=f;show(Ea 2 b.m (uu q.out) (qn b.c) (qd b.c) (E4 b.ts) (qn b.r) (qd b.r) (Di ps) q.id (BE q.ks) (Ck q.xs) (uu q.out) r0 0).all p=true;simp only[qU,l3a,hi,g,hn,a,d,e,f,l1g]
 |.co b q ps (some (k,vd)),a,d,e,f=>
  have a:p (E4 b.ts)=true:=a;have d:p (BE q.ks)=true:=d;have e:p (Ck q.xs)=true:=e;have f:p (Di ps)=true:=f;show(Ea 3 b.m (uu q.out) (qn b.c) (qd b.c) (E4 b.ts) (qn b.r) (qd b.r) (Di ps) q.id (BE q.ks) (Ck q.xs) (uu q.out) (rr k) vd).all p=true;simp only[qU,l3a,hi,g,hn,a,d,e,f,l1g]
def A9W(h:∀t:Int×Int,(NO t).all q=true)(ts:eO):(ts.flatMap NO).all q=true:=by
 rw[G9];intro x c;have⟨a,_,b⟩:=l39.1 c;exact G9.1 (h a) x b
def B1C(h:∀k:Nat,(HM k).all q=true)(ks:Hb):(ks.flatMap HM).all q=true:=by
 rw[G9];intro x c;have⟨a,_,b⟩:=l39.1 c;exact G9.1 (h a) x b
def B1e(h:∀y:Nd,(X' y).all q=true)(xs:List Nd):(xs.flatMap X').all q=true:=by
 rw[G9];intro x c;have⟨a,_,b⟩:=l39.1 c;exact G9.1 (h a) x b
def lQ(h:∀s,q (S s)=true)(l:List AN):(AF l).all q=true:=by
 rw[G9];intro x b;obtain⟨a,_,rfl⟩:=Pu.1 b;exact h a
def fl1(a:AV):Bool:=match a with
 |.v _=>true
 |.list _ cs=>cs.all Tp
 |_=>false
def A9V(hn:p Aw=true)(a:∀n l,l.all Tp=true->l.all (pl 4)=true->p (.list n l)=true)(ts:eO):p (E4 ts)=true:=by
 cases ts with
 |nil=>exact hn
 |cons t ts=>exact a _ _ (A9W (λ_=>rfl) _) (A9W (λ_=>rfl) _)
def B7h(hn:p Aw=true)(a:∀n l,l.all Tp=true->l.all (pl 4)=true->p (.list n l)=true)(ks:Hb):p (BE ks)=true:=by
 cases ks with
 |nil=>exact a _ _ rfl rfl
 |cons t ts=>exact a _ _ (B1C (λ_=>rfl) _) (B1C (λ_=>rfl) _)
def B74(hn:p Aw=true)(a:∀n l,l.all Tp=true->l.all (pl 4)=true->p (.list n l)=true)(xs:List Nd):p (Ck xs)=true:=by
 cases xs with
 |nil=>exact a _ _ rfl rfl
 |cons t ts=>exact a _ _ (B1e (λ_=>rfl) _) (B1e (λ_=>rfl) _)
def B6Z(hn:p Aw=true)(a:∀n l,l.all Tp=true->l.all (pl 4)=true->p (.list n l)=true)(ps:List AN):p (Di ps)=true:=by
 cases ps with
 |nil=>exact hn
 |cons t ts=>exact a _ _ (lQ (λ_=>rfl) _) (lQ (λ_=>rfl) _)
def B2x(c:Cd)(hi:∀z,p (I z)=true)(d:∀s,p (S s)=true)(hn:p Aw=true)(a:∀n l,l.all Tp=true->l.all (pl 4)=true->p (.list n l)=true):c.cs.all p=true:=by
 refine C1v c hi d hn ?_ ?_ ?_ (B6Z hn a _)
 ·match c with
  |.re b u=>exact A9V hn a b.ts
  |.co b q ps none=>exact A9V hn a b.ts
  |.co b q ps (some (k,vd))=>exact A9V hn a b.ts
 ·match c with
  |.re b u=>exact hn
  |.co b q ps none=>exact B7h hn a q.ks
  |.co b q ps (some (k,vd))=>exact B7h hn a q.ks
 ·match c with
  |.re b u=>exact hn
  |.co b q ps none=>exact B74 hn a q.xs
  |.co b q ps (some (k,vd))=>exact B74 hn a q.xs
def C1E(c:Cd):c.cs.all fl1=true:=B2x c (λ_=>rfl) (λ_=>rfl) rfl λ_ _ h _=>h
def C1D(c:Cd):c.cs.all (pl 5)=true:=B2x c (λ_=>rfl) (λ_=>rfl) rfl λ_ _ _ h=>h
def B5p(l:ed):pl 6 (Xy l)=true:=by
 cases l with
 |nil=>rfl
 |cons c l=>
  show((c::l).flatMap Cd.cs).all (pl 5)=true;rw[G9];intro x d;have⟨a,_,b⟩:=l39.1 d;exact G9.1 (C1D a) x b
section
variable{H:Hp}{D:Nat}
def C3C{a:AV}(h:fl1 a=true):NT H D a F=F a:=by
 cases a with
 |v x=>cases D<;>rfl
 |list n cs=>
  have h:cs.all Tp=true:=h;have e:NT H D (.list n cs) F=ck (cs.all Tp) (F (.list n cs)):=by cases D<;>rfl
  rw[e,h];rfl
 |_=>simp[fl1]at h
def B1l:∀(l:Is),l.all fl1=true->∀F:Is->Af,Tg (NT H D) l F=F l:=by
 intro l
 induction l with
 |nil=>intro _ F;rfl
 |cons a l ih=>
  intro h F;simp only[qU,KW]at h;show NT H D a (λb=>Tg (NT H D) l λc=>F (b::c))=_;rw[C3C h.1,ih h.2]
def B1m{l:ed}(h:Bp H Ab 68 v l.length (l.flatMap Cd.cs))(f:l=[]->v=Aw):NT H (D+1) v F=F (Xy l):=by
 cases l with
 |nil=>rw[f rfl];rfl
 |cons c l=>
  rcases h with⟨_,h1,_⟩|⟨r,q,rfl,h2,j⟩
  ·simp at h1
  ·have e:NT H (D+1) (.sl 68 r 0 (c::l).length) F=IP H r λx=>Kb x λ_ cs=>E9 (Nat.mul (c::l).length 68) (Dn 0 cs) λd=>Tg (NT H D) d λb=>F (.list (c::l).length b):=rfl;rw[e,Bl h2];show E9 ((c::l).length*68) (Dn 0 ((c::l).flatMap Cd.cs)) (λd=>Tg (NT H D) d λb=>F (.list (c::l).length b))=_;rw[CA,qV,Km _ _ _ (by omega),l25 (by omega),B1l _ (by
    rw[G9];intro x i;have⟨a,_,g⟩:=l39.1 i;exact G9.1 (C1E a) x g)]
   rfl
end
def vW{D:Nat}{H:Hp}{l:ed}(h:Bp H Ab 68 v l.length (l.flatMap Cd.cs))(b:l=[]->v=Aw):∃q,Fx true (D+1) v (Xy l) H q:=by
 cases l with
 |nil=>exact⟨false,by rw[b rfl];exact C7⟩
 |cons c l=>
  rcases h with⟨_,h1,_⟩|⟨r,q,rfl,h2,d⟩
  ·simp at h1
  ·exact⟨true,Yb (q':=false) h2 d (TX _ (by
    rw[G9];intro x f;have⟨a,_,e⟩:=l39.1 f;exact G9.1 (B2x (p:=fixB) a (λ_=>rfl) (λ_=>rfl) rfl λ_ _ _ _=>rfl) x e))⟩
section
variable{A:ed}{H:Hp}{x:AV}{w:AV}{K:KV}
def B17(a:GOk A){out:ed}(b:out.Perm (Hd A)):YS out=.tup [Di (R5 (Hd A)),I 0]:=by
 rw[A7Q (Q6 a.ids) b];unfold YS;rw[Dv (A2T a.ids)]
def A5d(a:GOk A){out:ed}(b:out.Perm (Hd A)):GOk out:=by
 have d:∀c∈out,c∈A:=λc hc=>(Nb.1 (b.mem_iff.1 hc)).1;refine⟨λc hc=>a.ok c (d c hc),λc hc=>a.nd c (d c hc),(b.map _).symm.nodup (Q6 a.ids),?_⟩;have h1:(Hd A).length<=A.length:=l30 _ _;have h2:=a.len;rw[b.length_eq];omega
def A9O(k:Vo 6 w w=true)(b:GOk A)(t:200000<L)(s:∀v H,NewC [] (L3 A) v H->K v H=some (w,[])):
 (r! L (n+82)).call Bt [.iptr [.imap (Dd DU (gE A))]] [] K=some (w,[]):=by
 rw[UR];unfold K8;have C:sF [] (.iptr [.imap (Dd DU (gE A))]) A:=.inl rfl;rw[C.nn,AY];refine tB (n:=n+77) k b (by omega) Ft λout m N h hm _ w1 _ n1=>?_;have B:=A5d b h;refine A9i (n:=n+77) k (by have:=B.len;omega) (by omega) w1 hm λl v i f g=>?_;have d:=A5d b (f.trans h);have⟨q,hq⟩:=vW (D:=11) g.sl g.nil;have e:∀{F:K2},Ap (r! L (n+81)) Li [v] i F=F (.tup [Di (R5 (Hd A)),I 0]):=λ{F}=>by
  have:=AO (H:=i) (K:=F) (A5M (L:=L) (n:=n+1) d t (λc hc=>by have:=Q7 (d.ok c hc);omega) (OS l)) (Al hq AD);rw[this,B17 b (f.trans h)]
 rw[e,Fm,Pq];refine A9H (n:=n+75) (A:=A) b (λy J=>?_) ?_ (by omega) g.wf (.inl rfl) (.inl (Lo _)) λM r a=>s M r ⟨a.sl,a.nil,λu j=>l1h _,a.wf,λu y j=>by simp[Ah]at j,l1h _⟩
 ·exact(QT.1 ((QC (gs:=Hd A)).1.ids y J)).ids
 ·have h1:=(QC (gs:=Hd A)).1.len;have h2:(Hd A).length<=A.length:=l30 _ _;have O:=b.len;omega
def zT(g:GOk A)(f:200000<L)(j:sF H x A):I3 (r! L (n+82)) Bt [x] H F=F (Xy (L3 A)):=by
 have h:Vo 6 (Xy (L3 A)) (Xy (L3 A))=true:=TB 6 _ (B5p _);rcases j with rfl|⟨r,m,rfl,h1,h2⟩
 ·show Ap (r! L (n+82)) Bt [.iptr [.imap (Dd DU (gE A))]] H F=_;exact CT.z (λK i=>A9O h g f λv H b=>i v H (vW (D:=11) b.sl b.nil)) (Al (q:=false) RA AD)
 ·have e:I3 (r! L (n+82)) Bt [.ptr r 0 0] H F=IP H r λx=>iK x λq _ cs=>match q,cs with
   |true,[.mp m]=>IP H m λy=>qT y λa=>ck (a.all λp=>dA 3 p.2) (Ax ((r! L (n+82)).call Bt [.iptr [.imap a]] [] λv c=>NT c depth v λd=>some (d,[])) F)
   |_,_=>none:=rfl
  rw[e,Bl h1];show(IP H m λy=>qT y λa=>ck (a.all λp=>dA 3 p.2) (Ax ((r! L (n+82)).call Bt [.iptr [.imap a]] [] λv c=>NT c depth v λd=>some (d,[])) F))=_;rw[Bl h2];show ck ((Dd DU (gE A)).all λp=>dA 3 p.2) _=_;rw[B2M,A9O (w:=Xy (L3 A)) h g f λv H b=>by rw[show depth=11+1 from rfl,B1m b.sl b.nil]];rfl
end
end
def lA:Ha:=[190,37,193,108,62,69,192,54,146,30,179,35,185,160,42,118,74,72,34,96,70,26,154,115,110,60,175,172,120,42,152,121]
def iJ:Cd:=.re ⟨⟨1,1,1,0,0⟩, -80,0,[(1, -8),(2, -8),(3, -8),(4, -8),(5, -8)]⟩ 0
def B08:cdM 0 0 0 0 0 0 0 0 0 0 0 0 none []=iJ:=by kernel_rfl
def eX:iJ.id=lA:=by kernel_rfl
def RT(R:Rt)(f:Nat)(args:Is)(v:AV):Prop:=(R.call f args [] λv a=>HU true a depth v λ_ b=>some (b,[]))=some (v,[])
def A0U{R:Rt}{f:Nat}{args args':Is}{v:AV}{H:Hp}{K:K2}(hc:RT R f args' v)(a:RZ true depth args args' H false):Ap R f args H K=K v:=by
 unfold Ap;rw[a];show Ax (R.call f args' [] _) K=K v;rw[show((!false)=true) from rfl,hc];rfl
section
variable{F:K2}{PP:Af->Prop}{H0:Hp}{ss:List AN}{D:Nat}
variable{L n:Nat}
def PC.Ok:PC->Prop
 |.c d=>d.Ok/\d.ps.Nodup
 |.z=>True
def PC.id:PC->AN
 |.c d=>d.id
 |.z=>[]
def PC.len(p:PC):p.cells.length=68:=by
 cases p with
 |c d=>exact CY
 |z=>rfl
def PC.one(p:PC):p.cells.all AV.one=true:=by
 cases p with
 |c d=>exact Ja
 |z=>rfl
def PC.fxD{H:Hp}(p:PC):Fx true (D+3) (.agg p.cells) (.agg p.cells) H false:=by
 cases p with
 |c d=>exact wS
 |z=>exact λK=>by kernel_rfl
def PC.fx{H:Hp}(p:PC):Fx true depth (.agg p.cells) (.agg p.cells) H false:=p.fxD (D:=9)
def PC.fixB(p:PC):p.cells.all Go.Abs.fixB=true:=by
 cases p with
 |c d=>exact B2x d (λ_=>rfl) (λ_=>rfl) rfl λ_ _ _ _=>rfl
 |z=>rfl
def iR(l:List PC):(l.flatMap PC.cells).length=l.length*68:=jV PC.len l
def V_(l:ed):(l.map PC.c).flatMap PC.cells=l.flatMap Cd.cs:=by
 induction l with
 |nil=>rfl
 |cons a l ih=>rw[X0,nM,nM,ih];rfl
def B5f(l:List PC):(l.flatMap PC.cells).all Go.Abs.fixB=true:=by
 rw[G9];intro x c;have⟨a,_,b⟩:=l39.1 c;exact G9.1 a.fixB x b
def Yt(H:Hp)(v:AV)(l:List PC):Prop:=(v=Aw/\l=[])\/v=.list l.length (l.flatMap PC.cells)\/∃r q b,v=.sl 68 r 0 l.length/\Ah H r=some (.cells q Ab (l.flatMap PC.cells++b))
section
variable{H H':Hp}{v a:AV}{l:List PC}{gs A:ed}{K:KV}{x0:Af}{x:AV}
def Yt.of_LA(h:LA gs a):Yt H a (gs.map .c):=by
 rcases h with rfl|⟨rfl,rfl⟩
 ·exact .inr (.inl (by rw[QK,V_]))
 ·exact .inl ⟨rfl,rfl⟩
def Yt.keep(h:Yt H v l)(k:∀u y,A8 v u->Ah H u=some y->Ah H' u=some y):Yt H' v l:=by
 rcases h with h|h|⟨r,q,b,rfl,h⟩
 ·exact .inl h
 ·exact .inr (.inl h)
 ·exact .inr (.inr ⟨r,q,b,rfl,k r _ ⟨_,_,_,rfl⟩ h⟩)
def Yt.one(h:Yt H v l):B4 v=[v]/\AV.one v=true:=by
 rcases h with⟨rfl,_⟩|rfl|⟨_,_,_,rfl,_⟩<;>exact⟨rfl,rfl⟩
def Yt.len(h:Yt H v l):Ba Am v F=F (I l.length):=by
 rcases h with⟨rfl,rfl⟩|rfl|⟨_,_,_,rfl,_⟩<;>exact r_ rfl
def Yt.get(h:Yt H v l){i:Nat}(hi:i<l.length):(D4 Am v (I i) λp=>AE Ae p H F)=F (.agg l[i].cells):=by
 rcases h with⟨rfl,rfl⟩|rfl|⟨r,q,m,rfl,h⟩
 ·simp at hi
 ·rw[Z5 (f:=PC.cells) rfl PC.len hi];cases l[i] with
  |c d=>exact oF
  |z=>exact r_ rfl
 ·rw[A0k hi];have e:AE Ae (.ptr r (i*68) 0) H F=IP H r λx=>Kb x λ_ cs=>E9 68 (Dn (Nat.add (i*68) 0) cs) λc=>F (.agg c):=r_ rfl;rw[e,Bl h];show E9 68 (Dn (i*68+0) (l.flatMap PC.cells++m)) (λc=>F (.agg c))=_;rw[Nat.add_zero];have g:=iR l;have hm:(i+1)*68<=l.length*68:=l28 _ hi;rw[CA,Km _ _ _ (by rw[l0u,EN];omega),l34 (by omega),l32 (by rw[l0u];omega)];have b:l=l.take i++l[i]::l.drop (i+1):=by rw[<-rV hi,l38]
  have j:(l.flatMap PC.cells).drop (i*68)=l[i].cells++(l.drop (i+1)).flatMap PC.cells:=by
   conv=>lhs;rw[b]
   have k:((l.take i).flatMap PC.cells).length=i*68:=by rw[iR,E!];congr 1;omega
   rw[l2l,<-k,List.drop_left,nM]
  rw[j,List.take_left' (PC.len _)]
def Yt.fx(h:Yt H v l):∃a q,Yt [] a l/\Fx true (D+1) v a H q:=by
 rcases h with⟨rfl,rfl⟩|rfl|⟨r,q,b,rfl,h⟩
 ·exact⟨Aw,false,.inl ⟨rfl,rfl⟩,C7⟩
 ·exact⟨_,false,.inr (.inl rfl),OW⟩
 ·refine⟨.list l.length (l.flatMap PC.cells),true,.inr (.inl rfl),XF (q':=false) h (by rw[EN,iR];omega) ?_⟩;rw[qV,l32 (by rw[iR];omega),l25 (by rw[iR];omega)];exact TX _ (B5f l)
def C30:RT (r! L (n+64)) GY [.agg BI] (S []):=by unfold RT;kernel_rfl
def C2o:RT (r! L (n+64)) FK [.agg BI] (S []):=by unfold RT;kernel_rfl
def C39(e:40000<L){p:PC}(b:p.Ok):Ap (r! L (n+64)) GY [.agg p.cells] H F=F (S p.id):=by
 cases p with
 |c d=>exact AO (A5f (n:=n) e b.1 b.2) (Al (PC.fx (.c d)) AD)
 |z=>exact A0U (C30 (L:=L) (n:=n)) (Al (PC.fx .z) AD)
def B6J(e:40000<L){p:PC}(b:p.Ok):Ap (r! L (n+64)) FK [.agg p.cells] H F=F (S p.id):=by
 cases p with
 |c d=>exact AO (B2F (n:=n+1) e b.1 b.2) (Al (PC.fx (.c d)) AD)
 |z=>exact A0U (C2o (L:=L) (n:=n)) (Al (PC.fx .z) AD)
def C0P{m:KV}(J:∀p∈l,p.Ok)(hb:l.length<1000)(B:40000<L)(C:Yt H0 a l)(w0:Wf H0)(M:∀v H,NewSl H0 (l.map PC.id) v H->(l=[]->v=Aw)->PP (m v H)):∀(f i:Nat)(v:AV)(H:Hp),i<=l.length->l.length-i<f->NewSl H0 ((l.take i).map PC.id) v H->(l.take i=[]->v=Aw)->
 PP (Wv (L+20) (r! L (n+64)) K m f a v (I i) H):=by
 intro f
 induction f with
 |zero=>intro i v H _ h;omega
 |succ f ih=>
  intro i v H hi P b j;rw[tU];unfold Ww Ia A4;have d:Yt H a l:=C.keep λu y _ c=>b.keep u y c;rw[d.len];by_cases h:i<l.length
  ·have g:=b.sl;have⟨N,H',r,k,s,O,t,w⟩:=A31 l[i].id g b.wf (by simp;omega);rw[XA2 (by omega),Cy,d.get h,C39 (n:=n) B (J _ (Ql h)),r,CW (by omega)];have q:(l.take i).map PC.id++[l[i].id]=(l.take (i+1)).map PC.id:=by rw[nL h,dW];rfl
   rw[q]at k;have nx:=b.nx;refine ih (i+1) N H' (by omega) (by omega) ⟨k,λu c=>fR nx (w u c),s,λu y c=>t u y (b.keep u y c) λhv=>?_,by omega⟩ (λe=>by have:=congrArg List.length e;rw[E!,Rv]at this;omega);have a1:=w0.lt c;have a2:=b.new u hv;omega
  ·rw[Fk (by omega),AY];have:i=l.length:=by omega
   subst this;rw[rW]at b j;exact M v H b j
def A9Q(f:∀p∈l,p.Ok)(hb:l.length<1000)(d:40000<L)(e:Yt H a l)(wf:Wf H)(g:∀v H',NewSl H (l.map PC.id) v H'->(l=[]->v=Aw)->PP (K v H')):PP ((r! L (n+65)).call QM [a] H K):=by
 rw[yH];unfold YW A4;simp only[BF];have c:(AV.v (.int .i64 0))=I ((0:Nat):Int):=rfl;rw[c];exact C0P f hb d e wf g (L+20) 0 Aw H (by omega) (by omega) ⟨.inl ⟨rfl,rfl,rfl⟩,λu b=>absurd b HY,wf,λu y b=>b,MC _⟩ (λ_=>rfl)
def C2w(d:∀p∈l,p.Ok)(hb:l.length<1000)(b:40000<L)(c:Yt H a l)(wf:Wf H)(e:∀v H',NewSl H (l.map PC.id) v H'->(l=[]->v=Aw)->K v H'=x0):(r! L (n+65)).call QM [a] H K=x0:=
 A9Q (PP:=λa=>a=x0) d hb b c wf e
def NewSl.sat(h:NewSl H0 ss v H)(c:ss=[]->v=Aw):MB H v ss:=by
 rcases h.sl with⟨rfl,_,h1⟩|⟨r,q,rfl,h2,_⟩
 ·refine .inl ⟨rfl,?_⟩;cases ss with
  |nil=>rfl
  |cons a b=>cases h1
 ·exact .inr ⟨r,q,[],rfl,by rw[Vq];exact h2⟩
def xA(b:GOk A):GOk (L3 A):=by
 have d:=B30 (l:=A) ⟨λc h=>h,b.ids⟩;exact d.ok b
def C0n(b:GOk gs):∀p∈gs.map PC.c,p.Ok:=λp d=>by
 obtain⟨c,hc,rfl⟩:=Pu.1 d;exact⟨b.ok c hc,b.nd c hc⟩
def B5e(gs:ed):(gs.map PC.c).map PC.id=gs.map Cd.id:=by rw[List.map_map];rfl
def A9A(d:GOk A)(i:200000<L)(j:sF H x A)(wf:Wf H)(h:∀v H',NewSl H ((L3 A).map Cd.id) v H'->((L3 A)=[]->v=Aw)->PP (K v H')):PP ((r! L (n+83)).call QN [x] H K):=by
 rw[yS];unfold Zd;have f:=xA d;rw[zT (n:=n) d i j];refine A9Q (n:=n+17) (l:=(L3 A).map .c) (C0n f) (by rw[QK];have:=f.len;omega) (by omega) (Yt.of_LA (OS _)) wf λv H' b g=>?_;rw[B5e]at b;exact h v H' b λe=>g (by rw[e];rfl)
def A9E{b:AV}{s:AN}(hb:rG H b ss)(j:ss.length<900)(g:40000<L):Ap (r! L (n+2)) J7 [b,S s] H F=F (Bo (decide (s∈ss))):=by
 obtain⟨f,q,c,hq⟩:∃f q,SA ss f/\Fx true depth b f H q:=by
  rcases hb with h|h
  ·exact⟨b,false,h,h.fx H⟩
  ·exact h.fx (D:=11)
 refine AO (λK d=>?_) (Al hq (Al (q:=false) C7 AD));rw[yT];unfold Ze LF;rw[AO (B6U (n:=n) c (by omega) (by omega)) (Al (c.fx []) (Al (q:=false) C7 AD))];by_cases h:s∈ss
 ·have⟨k,i,_,_,e⟩:=jO ss 0 h;rw[e,Fm,Pq];rw[Hu h]at d⊢;exact d _ _ λb=>⟨false,C7⟩
 ·rw[jP ss 0 h,Fm,Pq];rw[Ir h]at d⊢;exact d _ _ λb=>⟨false,C7⟩
end
end
end Go.Abs
end
