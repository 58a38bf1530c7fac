import Derived.Test.YtdaajghondabnaaGreatDoorP12
import Derived.Test.YtdaajghondabnaaGreatDoorP13
import Derived.Test.YtdaajghondabnaaGreatDoorP14
import Derived.Test.YtdaajghondabnaaGreatDoorP15
set_option linter.all false
set_option maxHeartbeats 100000000
noncomputable section
namespace Go.Abs
open Go.RowKit Go.Proofs
set_option maxRecDepth 100000
section
variable{H:Hp}{k4:Ru}{t:Int×Int}
variable{L n:Nat}
attribute [local irreducible] Ap rt oP eBi eEq cnd Ar R7 A1
def B76(h: -8<=t.2/\t.2<=8/\t.2≠0):PS (rt (L+20) (n+41)) K8 [.agg (NC t)] (Bo false):=by
 refine CS.ps (λK a=>?_) (λH=>λK=>by kernel_rfl);have h1:PO (rt (L+20) (n+40)) Ez [.agg (qa t.2)] (Bo true):=(sJ (by omega) (by omega)).o;have h2:PO (rt (L+20) (n+40)) OX [.agg (qa t.2)] (Bo false):=by
  have:=(B38 (L:=L) (n:=n) (z:=t.2) (by omega) (by omega)).o;rw[HW h.2.2]at this;exact this
 rewrite[YP];unfold Nw Ih
 try rewrite[zO]
 try rewrite[bO]
 try rewrite[qO]
 try rewrite[cO]
 generalize rt (L+20) (n+40)=R at*
 conv=>lhs;whnf
 rewrite[h1]
 conv=>lhs;whnf
 rewrite[h2]
 conv=>lhs;whnf
 exact a _ _ (λb=>⟨false,λK=>by kernel_rfl⟩)
abbrev sI:AV:=.fn (.func K8) [] []
abbrev A9n:AV:=.fn (.func MZ) [] []
section
variable{ts:dQ}{K:KV}{x:Af}
def lTm{K:K2}:AD BG (.iptr (NC t)) H K=K (.agg (NC t)):=id rfl
def B53(a:TmsOk ts):∀(f i:Nat),i<=ts.length->ts.length-i<f->
 E7 (L+20) (rt (L+20) (n+41)) K k4 f (E4 ts) sI (I ts.length) (I i) H=k4 H:=by
 have hb:=a.len;intro f
 induction f with
 |zero=>intro i _ h;omega
 |succ f ih=>
  intro i d c;rw[Kt];unfold E8 IA A3;by_cases h:i<ts.length
  ·have hr:=a.rng _ (Qk h);rw[Fz (by omega),Cu,TM h,lTm];have b:∀K,C4 (E (L+20)) (rt (L+20) (n+41)) sI [.agg (NC ts[i])] H K=Ap (rt (L+20) (n+41)) K8 [.agg (NC ts[i])] H λv=>K v H:=λK=>by kernel_rfl
   rw[b,B76 hr.2.2,AZ,Db (by omega)];exact ih (i+1) (by omega) (by omega)
  ·rw[Fp (by omega),AZ]
def A3k(c:TmsOk ts):CS (rt (L+20) (n+43)) Ep [E4 ts,sI] (Bo false):=by
 have hb:=c.len;intro K a;rw[JW];unfold En LR;have e:CS (rt (L+20) (n+42)) Hf [E4 ts,sI] (I (-1)):=by
  intro K a;rw[KI];unfold EG A3;simp only[BE];have d:(AV.v (.int .i64 0))=I ((0:Nat):Int):=rfl;rw[MP,d,B53 c _ 0 (by omega) (by omega)];exact a _ _ (λb=>⟨false,λK=>by kernel_rfl⟩)
 rw[AP (q:=false) e (λK=>by cases ts<;>kernel_rfl),KO];exact a _ _ (λb=>⟨false,λK=>by kernel_rfl⟩)
def A8P:PS (rt (L+20) (n+1)) MZ [.agg (NC t)] (I t.1):=by
 refine CS.ps (λK a=>?_) (λH=>λK=>by kernel_rfl);rewrite[iI];unfold QO Ih
 try rewrite[zO]
 try rewrite[bO]
 try rewrite[qO]
 try rewrite[cO]
 generalize rt (L+20) (n+0)=R at*
 conv=>lhs;whnf
 exact a _ _ (λb=>⟨false,λK=>by kernel_rfl⟩)
def B8X(j:TmsOk ts)(u:∀H,k4 H=x):∀(f i:Nat)(H:Hp),i<=ts.length->ts.length-i<f->Wf H->
 HP (L+20) (rt (L+20) (n+1)) K k4 f (E4 ts) A9n (E4 ts) (I ts.length) (I i) H=x:=by
 have hb:=j.len;intro f
 induction f with
 |zero=>intro i H _ h;omega
 |succ f ih=>
  intro i H C B w;rw[Pq];unfold HQ IA Dk FQ A3 Kn Ga;by_cases h:i<ts.length
  ·have hr:=j.rng _ (Qk h);rw[Fz (by omega),Cu,TM h,lTm,B1 (cs:=[zI,zS,zS]) rfl];have d:=Ax (H:=H) (x:=.cells true Be [zI,zS,zS]) (by simp);rw[BX (vs:=NC ts[i]) d rfl rfl rfl];have b:=AC (q:=true) (e:=Be) (cs:=NC ts[i]) d;have w1:=Bj (r:=As H) (y:=.cells true Be (NC ts[i])) (AG (x:=.cells true Be [zI,zS,zS]) w);generalize upd ((As H,c_ Be [zI,zS,zS])::H) (As H) (c_ Be (NC ts[i]))=a at b w1;generalize As H=r at b;have m1:∀K,AD BG (.ptr r 0 0) a K=K (.agg (NC ts[i])):=λK=>D7 (p:=0) rfl b (show 3<=3 from Mh _);have m:∀(t:Int×Int)(K:KV),C4 (E (L+20)) (rt (L+20) (n+1)) A9n [.agg (NC t)] a K=K (I t.1) a:=λt K=>by
    have:C4 (E (L+20)) (rt (L+20) (n+1)) A9n [.agg (NC t)] a K=Ap (rt (L+20) (n+1)) MZ [.agg (NC t)] a λv=>K v a:=by kernel_rfl
    rw[this,A8P]
   have i1:∀K,Ar Ab .lss (I ts[i].1) (.v (.int .i64 1)) K=K (Bo false):=λK=>Fp (by omega);have i2:∀K,Ar Ab .gtr (I ts[i].1) (.v (.int .i64 1000000)) K=K (Bo false):=λK=>by rw[Ef,HW (by omega)]
   rw[m1,m];simp only[i1,i2,gT,Cb,RC];by_cases g:0<i
   ·have k:∀K,Ar Ab .gtr (I (i:Int)) (.v (.int .i64 0)) K=K (Bo true):=λK=>by rw[Ef,HR (by omega)]
    have c:i-1<ts.length:=by omega
    have mm:∀K,eMM false (I ((i-1:Nat):Int)) (.v (.int .i64 0)) K=K (I ((i-1:Nat):Int)):=λK=>by
     have e:eMM false (I ((i-1:Nat):Int)) (.v (.int .i64 0)) K=ck (decide (IntKind.i64=IntKind.i64)) (@Bool.rec (λ_=>Af) (K (.v (.int .i64 0))) (K (I ((i-1:Nat):Int))) (qJ 0 ((i-1:Nat):Int))):=rfl;rw[e,LD,HR (Int.natCast_nonneg _)];rfl
    have s:ts[i-1].1<ts[i].1:=(l26.1 j.asc) (i-1) i c h (by omega);have A:∀K,Ar Ab .geq (I ts[i-1].1) (I ts[i].1) K=K (Bo false):=λK=>by rw[KO,HW (by omega)]
    simp only[k,Cb,gT,gK g (by omega:i<1000000000),mm,TM c,lTm,m,A,UV,RC];rw[AZ,Db (by omega)];exact ih (i+1) a (by omega) (by omega) w1
   ·have k:∀K,Ar Ab .gtr (I (i:Int)) (.v (.int .i64 0)) K=K (Bo false):=λK=>by rw[Ef,HW (by omega)]
    simp only[k,Cb,gT,iW,UV,RC];rw[AZ,Db (by omega)];exact ih (i+1) a (by omega) (by omega) w1
  ·rw[Fp (by omega),AZ];exact u H
def A6K(a:TmsOk ts):CS (rt (L+20) (n+2)) Ix [E4 ts,A9n] (Bo true):=by
 have hb:=a.len;intro K d;rw[PQ];unfold It A3 Kn;simp only[BE];have c:(AV.v (.int .i64 0))=I ((0:Nat):Int):=rfl;rw[MP,c];exact B8X a (λH=>d _ _ (λb=>⟨false,λK=>by kernel_rfl⟩)) (L+20) 0 [] (by omega) (by omega) FH
def A3f{c r:Int}(i: -80<=c)(j:c<=80)(k:0<=r)(m:r<=8)(a:TmsOk ts):CS (rt (L+20) (n+44)) LM [.agg (NJ (qn c) (qd c) (E4 ts) (qn r) (qd r))] (Bo true):=by
 intro K g;have hb:=a.len;have h1:PO (rt (L+20) (n+43)) Ez [.agg (qa c)] (Bo true):=(sJ (n:=n+3) (by omega) (by omega)).o;have h2:PO (rt (L+20) (n+43)) Ez [.agg (qa r)] (Bo true):=(sJ (n:=n+3) (by omega) (by omega)).o;have d:PO (rt (L+20) (n+43)) Q6 [.agg (qa r)] (I (if r=0 then 0 else 1)):=(B39 (n:=n+3) (by omega) (by omega)).o;have e:LS (rt (L+20) (n+43)) Ix [E4 ts,A9n] (Bo true):=(A6K (n:=n+41) a).ls;have f:LS (rt (L+20) (n+43)) Ep [E4 ts,sI] (Bo false):=(A3k (n:=n) a).ls;have hz:ts=[]\/∃t l,ts=t::l:=by cases ts with|nil=>exact .inl rfl|cons t l=>exact .inr ⟨t,l,rfl⟩
 rcases hz with rfl|⟨t,l,rfl⟩
 all_goals
  rewrite[mC];unfold SM Ih
  try rewrite[zO]
  try rewrite[bO]
  try rewrite[qO]
  try rewrite[cO]
  generalize rt (L+20) (n+43)=R at*
  conv=>lhs;whnf
  rewrite[h1]
  conv=>lhs;whnf
  rewrite[h2]
  conv=>lhs;whnf
  rewrite[d]
  conv=>lhs;whnf
  rewrite[A5Y ?hc]
  case hc=>(split<;>omega)
  conv=>lhs;whnf
  rewrite[A5O ?hc]
  case hc=>(first|decide|(have h:l.length+1<=6:=hb;show((l.length+1:Nat):Int)<=64;omega))
  conv=>lhs;whnf
  rewrite[(e) false _ _ ?hq]
  case hq=>exact λK=>by kernel_rfl
  conv=>lhs;whnf
  rewrite[(f) false _ _ ?hq]
  case hq=>exact λK=>by kernel_rfl
  conv=>lhs;whnf
  exact g _ _ (λb=>⟨false,λK=>by kernel_rfl⟩)
end
end
section
variable{v:AV}{H:Hp}{r:Nat}{y:Row}
variable{L n:Nat}{K:KV}{x:Af}
structure Bld(r:Nat)(l:Ha)(v:AV)(H:Hp):Prop where
 at_:∃tw:Nat,(tw=Ht\/tw=EA)/\(Ai H r=some (c_ tw [.v (.pointer none),v])\/Ai H r=some (c_ tw [.ptr r 0 0,v]))
 sl:Bk H Bl 1 v l.length (Lw l)
 ne:¬A9 v r
 wf:Wf H
structure Kp(r:Nat)(v:AV)(H:Hp)(v':AV)(H':Hp):Prop where
 keep:∀u y,Ai H u=some y->u≠r->¬A9 v u->Ai H' u=some y
 new:∀u,A9 v' u->A9 v u\/As H<=u
 nx:As H<=As H'
def Kp.refl(r:Nat)(v:AV)(H:Hp):Kp r v H v H:=⟨λ_ _ h _ _=>h,λ_ h=>.inl h,Mh _⟩
def Kp.trans{v e b:AV}{H H' a:Hp}(w:Wf H)(h:Kp r v H e H')(k:Kp r e H' b a):Kp r v H b a:=
 ⟨λu y c h1 h2=>k.keep u y (h.keep u y c h1 h2) h1 (λf=>by
  rcases h.new u f with d|d
  ·exact h2 d
  ·have:=w.lt c;omega),
  λu c=>by
   rcases k.new u c with h1|h1
   ·exact h.new u h1
   ·exact .inr (by have:=h.nx;omega),XV h.nx k.nx⟩
theorem Bld.upd{r s:Nat}{l:Ha}(h:Bld r l v H)(h1:s≠r)(h2:¬A9 v s):Bld r l v (upd H s y):=
 ⟨by rw[Ag h1.symm];exact h.at_,h.sl.lat h.wf (Lat.upd H s y (P:=λu=>u=s) rfl) (λu a e=>h2 (e▸a)),h.ne,Bj h.wf⟩
theorem Bld.cons{l:Ha}(h:Bld r l v H):Bld r l v ((As H,y)::H):=by
 refine⟨?_,h.sl.lat h.wf (Lat.cons H y (λ_=>False)) (λ_ _ h=>h),h.ne,AG h.wf⟩;obtain⟨b,a,h1|h1⟩:=h.at_
 ·exact⟨b,a,.inl (A7 (h.wf.lt h1) h1)⟩
 ·exact⟨b,a,.inr (A7 (h.wf.lt h1) h1)⟩
def L!{l s:Ha}(h:Bld r l v H)(hb:l.length+s.length<1000000000)(hx:∀i t,Bld r (l++s) i t->Kp r v H i t->K (.tup [I s.length,.v .nilIface]) t=x):(r! L (n+2)).call BK [.ptr r 0 0,S s] H K=x:=by
 rw[NU];unfold GC Dz;rw[Pi];unfold HD Dz;have J:∀K:K2,CD 0 (.ptr r 0 0) K=K (.ptr r 0 0):=λK=>id rfl;have a1:∀K:K2,CD 1 (.ptr r 0 0) K=K (.ptr r 1 0):=λK=>id rfl;obtain⟨w,m,Q⟩:=h.at_;have main:∀j,Ai j r=some (c_ w [.ptr r 0 0,v])->Bld r l v j->Kp r v H v j->(Lu (.ptr r 0 0) λv3=>CD 1 v3 λv4=>AD AU v4 j λv5=>DK Bl 1 AW Ah v5 (S s) j λv6 X=>
  Lu (.ptr r 0 0) λv8=>CD 1 v8 λv9=>DF AU v9 v6 X λF=>Bh Ah (S s) λR=>K (.tup [R,.v .nilIface]) F)=x:=λj k c O=>by
  rw[Iz,a1,AF (p:=1) rfl k (by simp)];show DK Bl 1 AW Ah v (S s) j _=x;obtain⟨i,t,h1,h2,V,D⟩:=apt (ie:=AW) (i2:=Ah) c.sl (λK=>C0x (K:=K)) (by rw[Qo];omega) (A6h s) (by decide) rfl rfl (by show(l.length+s.length)*1<=_;omega) (by omega);rw[h1,Iz,a1];have A:Ai t r=some (c_ w [.ptr r 0 0,v]):=D.keep c.wf r _ k c.ne;have C:=D.wf c.wf;rw[jS]at h2;have g:B3 i=[i]/\AV.one i=true:=by
   rcases h2 with⟨rfl,_⟩|⟨a,b,rfl,_⟩<;>exact⟨rfl,rfl⟩
  rw[D6 (q:=true) (e:=w) (cs:=[.ptr r 0 0,v]) A (by simp) rfl g.1 g.2,Qf rfl];have Z:=c.wf.lt k;have B:¬A9 i r:=λd=>by have:=V r d;omega
  refine hx i _ ⟨⟨w,m,.inr (AC A)⟩,?_,B,Bj C⟩ ?_
  ·rw[EK];exact h2.lat C (Lat.upd t r _ (P:=λu=>u=r) rfl) (λu d e=>B (e▸d))
  ·refine O.trans h.wf ⟨λu y d hn hv=>?_,λu d=>.inr (by rw[V u d];exact Mh _),by rw[B4];exact D.nx⟩;rw[Ag hn];exact D.keep c.wf u y d hv
 rw[Iz,J];rcases Q with f|f
 ·rw[AF (p:=0) rfl f (by simp)];show R6 Cs BM .eql (.v (.pointer none)) (.v (.pointer none)) _=x;have M:∀K:K2,R6 Cs BM .eql (.v (.pointer none)) (.v (.pointer none)) K=K (Bo true):=λK=>id rfl;rw[M,Cu];have N:∀K:K2,A2b BM (.ptr r 0 0) H K=K (.ptr r 0 0):=λK=>by
   have:A2b BM (.ptr r 0 0) H K=IR H r λx=>Ki x λ_ cs=>HK cs 0 λcl=>ck (Nat.blt (Nat.add 0 0) cl&& !Nat.beq BM.size 0) (K (.ptr r 0 0)):=rfl;rw[this,Bp f];rfl
  have Y:∀K:K2,A26 A46 EA (.ptr r 0 0) H K=K (.ptr r 0 0):=λK=>by
   have:A26 A46 EA (.ptr r 0 0) H K=IR H r λx=>gM x λq E cs=>HK cs 0 λcl=>ck (q&&B4P A46 E cl (Nat.add 0 0) EA) (K (.ptr r 0 0)):=rfl;rw[this,Bp f];rcases m with rfl|rfl<;>rfl
  rw[N,Y,Iz,J,D6 (q:=true) (e:=w) (cs:=[.v (.pointer none),v]) f (by simp) rfl rfl rfl];refine main _ (AC f) ⟨⟨w,m,.inr (AC f)⟩,h.sl.lat h.wf (Lat.upd H r _ (P:=λu=>u=r) rfl) (λu d e=>h.ne (e▸d)),h.ne,Bj h.wf⟩ ⟨λu y d hn _=>by rw[Ag hn];exact d,λu d=>.inl d,by rw[B4];exact Mh _⟩
 ·rw[AF (p:=0) rfl f (by simp)];show R6 Cs BM .eql (.ptr r 0 0) (.v (.pointer none)) _=x;have M:∀K:K2,R6 Cs BM .eql (.ptr r 0 0) (.v (.pointer none)) K=K (Bo false):=λK=>id rfl;rw[M,AZ,Iz,J,AF (p:=0) rfl f (by simp)];show R6 Cs BM .neq (.ptr r 0 0) (.ptr r 0 0) _=x;have N:∀K:K2,R6 Cs BM .neq (.ptr r 0 0) (.ptr r 0 0) K=K (Bo false):=λK=>by
   have:R6 Cs BM .neq (.ptr r 0 0) (.ptr r 0 0) K=ck (Nat.beq r r&&(Nat.beq (Nat.add 0 0) (Nat.add 0 0)&& !Nat.beq BM.size 0)) (K (Bo false)):=rfl;rw[this,oG];rfl
  rw[N,AZ];exact main H f h (Kp.refl r v H)
end
section
variable{a v v0:AV}{H H0:Hp}{k2:Ru}{zs:List Ha}{e r:Nat}{t:TI}
variable{L n:Nat}{K:KV}{x:Af}
def Sr(H:Hp)(r:Nat)(v a:AV)(cs:Is):Prop:=a=.list cs.length cs\/(a=Av/\cs=[])\/∃k q e,a=.sl 1 k 0 cs.length/\Ai H k=some (.cells q e cs)/\k≠r/\¬A9 v k
def Sr.kp{H H':Hp}{v f a:AV}{cs:Is}(h:Sr H r v a cs)(w:Wf H)(k:Kp r v H f H'):Sr H' r f a cs:=by
 rcases h with h|h|⟨i,q,e,h1,h2,b,c⟩
 ·exact .inl h
 ·exact .inr (.inl h)
 ·refine .inr (.inr ⟨i,q,e,h1,k.keep i _ h2 b c,b,λg=>?_⟩);rcases k.new i g with d|d
  ·exact c d
  ·have:=w.lt h2;omega
def Sr.len{cs:Is}{e z:Nat}{K:K2}(h:Sr H r v a cs)(c:t.d=.slice e z):Bh t a K=K (I cs.length):=by
 obtain⟨s,b,d,zr⟩:=t;simp only at c;subst c;rcases h with rfl|⟨rfl,rfl⟩|⟨i,q,e,rfl,_⟩<;>exact id rfl
def Sr.get{r i:Nat}{cs:Is}{t g:TI}{K:K2}(h:Sr H r v a cs)(b:t.d=.slice e 1)(f:g.d.isAgg=false)(c:i<cs.length):(DC t a (I i) λp=>AD g p H K)=K (cs.getD i .dk):=by
 rcases h with rfl|⟨_,rfl⟩|⟨k,q,m,rfl,j,_⟩
 ·rw[eZ b rfl (by omega) (by omega),mG,Ny f]
 ·simp at c
 ·rw[Y_ b (by omega) (by omega),mG,AF (p:=i) f j c]
def C1I{zs:List Int}(C:zs.length<100)(hz:∀z∈zs, -10<=z/\z<390){l:Ha}(hb:l.length<900000000)(w0:Wf H0)(u:∀k b,Bld r (l++Jp zs) k b->Kp r v0 H0 k b->k2 b=x):∀(f i:Nat)(v:AV)(H:Hp),i<=zs.length->zs.length-i<f->Bld r (l++Jp (zs.take i)) v H->Kp r v0 H0 v H->Sr H r v a (Fl zs)->
 GA (L+20) (r! L (n+9)) K k2 f (.ptr r 0 0) a (I zs.length) (I i) H=x:=by
 intro f
 induction f with
 |zero=>intro i v H _ h;omega
 |succ f ih=>
  intro i v H B A j m q;rw[NS];unfold GB IA A3;by_cases h:i<zs.length
  ·have g:=hz zs[i] (Qk h);have p:=F9 (zs.take i);have w:(zs.take i).length<=zs.length:=by simp;omega
   have y:=TL zs[i];rw[Fz (by omega),Cu,q.get rfl rfl (by simp[Fl];omega),Xk h,A0J (L:=L) (n:=n+1) g.1 g.2,FB,FA,Iz];have s:∀K:K2,CD 0 (.ptr r 0 0) K=K (.ptr r 0 0):=λK=>id rfl;rw[s];refine L! (n:=n+7) j (by rw[EK];omega) λk b c d=>?_;rw[Db (by omega)];rw[fQ,<-C? zs h]at c;exact ih (i+1) k b (by omega) (by omega) c (m.trans w0 d) (q.kp j.wf d)
  ·rw[Fp (by omega),AZ];have:i=zs.length:=by omega
   subst this;rw[wQ]at j;exact u v H j m
def A6M{zs:List Int}{l:Ha}(k:100<L)(i:zs.length<100)(hz:∀z∈zs, -10<=z/\z<390)(hb:l.length<900000000)(c:Bld r l v H)(d:Sr H r v a (Fl zs))(j:∀f b,Bld r (l++Jp zs) f b->Kp r v H f b->K (.tup []) b=x):(r! L (n+10)).call BU [.ptr r 0 0,a] H K=x:=by
 rw[OA];unfold GW A3;rw[d.len rfl];simp only[BE];have g:(AV.v (.int .i64 0))=I ((0:Nat):Int):=rfl;have h:(Fl zs).length=zs.length:=by simp[Fl]
 rw[g,h];exact C1I (n:=n) i hz hb c.wf j (L+20) 0 v H (by omega) (by omega) (by simpa [Jp] using c) (Kp.refl r v H) d
def C1E(D:zs.length<100)(hz:∀z∈zs,z.length<390){l:Ha}(hb:l.length<900000000)(w0:Wf H0)(w:∀k b,Bld r (l++I2 zs) k b->Kp r v0 H0 k b->k2 b=x):∀(f i:Nat)(v:AV)(H:Hp),i<=zs.length->zs.length-i<f->Bld r (l++I2 (zs.take i)) v H->Kp r v0 H0 v H->Sr H r v a (AE zs)->
 Hy (L+20) (r! L (n+9)) K k2 f (.ptr r 0 0) a (I zs.length) (I i) H=x:=by
 intro f
 induction f with
 |zero=>intro i v H _ h;omega
 |succ f ih=>
  intro i v H C B g p j;rw[Pf];unfold Hz IA A3;by_cases h:i<zs.length
  ·have m:=hz zs[i] (Qk h);have q:=F8 (zs.take i) (λs j=>hz s (l29 j));have y:(zs.take i).length<=zs.length:=by simp;omega
   have A:(X? zs[i]).length<=400:=by unfold X?;rw[EK];have:=TL (zs[i].length:Int);omega
   rw[Fz (by omega),Cu,j.get rfl rfl (by simp[AE];omega),Px h,A0I L n m,FB,FA,Iz];have u:∀K:K2,CD 0 (.ptr r 0 0) K=K (.ptr r 0 0):=λK=>id rfl;rw[u];refine L! (n:=n+7) g (by rw[EK];omega) λk b c d=>?_;rw[Db (by omega)];rw[fQ,<-C! zs h]at c;exact ih (i+1) k b (by omega) (by omega) c (p.trans w0 d) (j.kp g.wf d)
  ·rw[Fp (by omega),AZ];have:i=zs.length:=by omega
   subst this;rw[wQ]at g;exact w v H g p
def L?{l:Ha}(k:100<L)(i:zs.length<100)(hz:∀z∈zs,z.length<390)(hb:l.length<900000000)(c:Bld r l v H)(d:Sr H r v a (AE zs))(j:∀f b,Bld r (l++I2 zs) f b->Kp r v H f b->K (.tup []) b=x):(r! L (n+10)).call C7 [.ptr r 0 0,a] H K=x:=by
 rw[PJ];unfold Iq A3;rw[d.len rfl];simp only[BE];have g:(AV.v (.int .i64 0))=I ((0:Nat):Int):=rfl;have h:(AE zs).length=zs.length:=by simp[AE]
 rw[g,h];exact C1E (n:=n) i hz hb c.wf j (L+20) 0 v H (by omega) (by omega) (by simpa [I2] using c) (Kp.refl r v H) d
end
section
variable{v:AV}{q:Bool}{H:Hp}{e i k r:Nat}
variable{L n:Nat}{K:KV}{x:Af}
abbrev Rts:=List (Ha×Ha)
def rtC(q:Ha×Ha):Is:=[S q.1,S q.2]
def Rz(l:Rts):Ha:=(l.map λq=>I2 [q.1,q.2]).flatten
def A7K(l:Rts)(h:i<l.length):Rz (l.take (i+1))=Rz (l.take i)++I2 [l[i].1,l[i].2]:=by
 unfold Rz;rw[oH h,Z6,List.flatten_append];simp only[XI,List.map_nil,l1d,List.flatten_nil,V0]
def OY(l:Rts)(h:∀q∈l,q.1.length<390/\q.2.length<390):(Rz l).length<=800*l.length:=by
 induction l with
 |nil=>simp[Rz]
 |cons s l ih=>
  have a:=ih (λs c=>h s (by simp[c]));have b:=F8 [s.1,s.2] (by simp;exact h s (by simp));simp only[Rz,XI,l1d,EK,Mi,Re]at a b⊢;omega
def Kp.cons{y:Row}(w:Wf H):Kp r v H v ((As H,y)::H):=⟨λu z a _ _=>A7 (w.lt a) a,λu a=>.inl a,l1u _⟩
theorem Bld.lt{l:Ha}(h:Bld r l v H):r<As H:=by obtain⟨_,_,h1|h1⟩:=h.at_<;>exact h.wf.lt h1
def Bld.vlt{r u:Nat}{l:Ha}(h:Bld r l v H)(a:A9 v u):u<As H:=h.sl.lt h.wf a
def C0B{r m i:Nat}{K:K2}(h:i<m):DC Jr (.sl 2 r 0 m) (I i) K=K (.ptr r (2*i) 0):=by
 have a:DC Jr (.sl 2 r 0 m) (I (i:Int)) K=iN (i:Int) λk=>ck (Nat.blt k m) (fN (Nat.add 0 (Nat.mul k 2)) λq=>K (.ptr r q 0)):=rfl;rw[a,Kk,Ee];have h2:Nat.blt i m=true:=by rw[Xi];exact h
 have b:Nat.add 0 (Nat.mul i 2)=2*i:=by show 0+i*2=_;omega
 rw[h2,b];rfl
def C1F{rs:Rts}{k2:Ru}(hl:rs.length<100)(hz:∀z∈rs,z.1.length<390/\z.2.length<390){l:Ha}(hL:100<L)(hb:l.length<800000000){v0:AV}{H0:Hp}(w0:Wf H0)(Q:k≠r)(hx:∀F m,Bld r (l++Rz rs) F m->Kp r v0 H0 F m->k2 m=x):∀(f i:Nat)(v:AV)(H:Hp),i<=rs.length->rs.length-i<f->Bld r (l++Rz (rs.take i)) v H->Kp r v0 H0 v H->Ai H k=some (.cells q e (rs.flatMap rtC))->¬A9 v k->
 GQ (L+20) (r! L (n+10)) K k2 f (.ptr r 0 0) (.sl 2 k 0 rs.length) (I rs.length) (I i) H=x:=by
 intro f
 induction f with
 |zero=>intro i v H _ h;omega
 |succ f ih=>
  intro i v H hi hf d Y C D;rw[On];unfold GR Dz IA A3;by_cases h:i<rs.length
  ·have V:=hz rs[i] (Qk h);have Z:=OY (rs.take i) (λs C=>hz s (l29 C));have h5:(rs.take i).length<=rs.length:=by simp;omega
   rw[Fz (by omega),Cu,C0B h];have N:=jB rtC 2 (λ_=>rfl) rs;have M:=vI rtC 2 (λ_=>rfl) rs i h;have R:∀K,AD A4 (.ptr k (2*i) 0) H K=K (.agg (rtC rs[i])):=λK=>by
    rw[D7 (p:=2*i) rfl C (by rw[N];show 2*i+2<=_;omega),Nat.mul_comm 2 i];show K (.agg (((rs.flatMap rtC).drop (i*2)).take 2))=_;rw[M]
   rw[R,B1 (cs:=[zS,zS]) rfl];have B:=Ax (H:=H) (x:=.cells true Bv [zS,zS]) (by simp);rw[BX (vs:=rtC rs[i]) B rfl rfl rfl];have g:=AC (q:=true) (e:=Bv) (cs:=rtC rs[i]) B;have aa:=d.lt;have b:=(d.cons (y:=.cells true Bv [zS,zS])).upd (s:=As H) (y:=.cells true Bv (rtC rs[i])) (by omega) (λc=>by have:=d.vlt c;omega);have A:Kp r v H v (upd ((As H,c_ Bv [zS,zS])::H) (As H) (c_ Bv (rtC rs[i]))):=⟨λu y c h1 h2=>by
    have:=d.wf.lt c;rw[Ag (by omega)];exact A7 this c,λu c=>.inl c,by rw[B4];exact l1u _⟩
   generalize upd ((As H,c_ Bv [zS,zS])::H) (As H) (c_ Bv (rtC rs[i]))=a at g b A;generalize As H=t at g;have g0:∀K:K2,CD 0 (.ptr t 0 0) K=K (.ptr t 0 0):=λK=>id rfl;have g1:∀K:K2,CD 1 (.ptr t 0 0) K=K (.ptr t 1 0):=λK=>id rfl;have m0:∀K,AD Ah (.ptr t 0 0) a K=K (S rs[i].1):=λK=>AF (p:=0) rfl g (show 0<2 by decide);have m1:∀K,AD Ah (.ptr t 1 0) a K=K (S rs[i].2):=λK=>AF (p:=1) rfl g (show 1<2 by decide);rw[g0,m0,g1,m1];have bs:∀K:KV,FU Aq 1 Ah 2 [(0,1,S rs[i].1),(1,1,S rs[i].2)] a K=K (.sl 1 (As a) 0 2) ((As a,.cells false Aq (AE [rs[i].1,rs[i].2]))::a):=λK=>by
    have e:FU Aq 1 Ah 2 [(0,1,S rs[i].1),(1,1,S rs[i].2)] a K=Io a λs=>K (.sl 1 s 0 2) ((s,.cells false Aq (AE [rs[i].1,rs[i].2]))::a):=rfl;rw[e,Ca]
   rw[bs];have J:=b.cons (y:=.cells false Aq (AE [rs[i].1,rs[i].2]));have P:Kp r v H v ((As a,.cells false Aq (AE [rs[i].1,rs[i].2]))::a):=A.trans d.wf (Kp.cons b.wf);refine L? (n:=n) hL (zs:=[rs[i].1,rs[i].2]) (by simp) (by simp;exact V) (by rw[EK];omega) J (.inr (.inr ⟨As a,false,Aq,rfl,Ax (by simp),by have:=b.lt;omega,λc=>by have:=b.vlt c;omega⟩)) λF m w O=>?_;rw[Db (by omega)];rw[fQ,<-A7K rs h]at w;have j:=P.trans d.wf O;refine ih (i+1) F m (by omega) (by omega) w (Y.trans w0 j) (j.keep k _ C Q D) (λc=>?_);rcases j.new k c with X|X
   ·exact D X
   ·have:=d.wf.lt C;omega
  ·rw[Fp (by omega),AZ];have:i=rs.length:=by omega
   subst this;rw[wQ]at d;exact hx v H d Y
def A8T{rs:Rts}{l:Ha}(h:100<L)(j:rs.length<100)(hz:∀z∈rs,z.1.length<390/\z.2.length<390)(hb:l.length<800000000)(d:Bld r l v H)(b:k≠r)(m:Ai H k=some (.cells q e (rs.flatMap rtC)))(c:¬A9 v k)(p:∀f a,Bld r (l++Rz rs) f a->Kp r v H f a->K (.tup []) a=x):(r! L (n+11)).call CW [.ptr r 0 0,.sl 2 k 0 rs.length] H K=x:=by
 rw[Pn];unfold HG A3;have el:∀K,Bh Jr (.sl 2 k 0 rs.length) K=K (I rs.length):=λK=>id rfl;rw[el];simp only[BE];have g:(AV.v (.int .i64 0))=I ((0:Nat):Int):=rfl;rw[g];exact C1F (n:=n) j hz h hb d.wf b p (L+20) 0 v H (by omega) (by omega) (by simpa [Rz] using d) (Kp.refl r v H) m c
end
section
variable{L n:Nat}{K:KV}{x:Af}
structure Bd(r:Nat)(ks:List (Nat×Row))(b:Nat)(l:Ha)(v:AV)(H:Hp):Prop where
 bld:Bld r l v H
 ks:∀p∈ks,Ai H p.1=some p.2/\p.1≠r/\¬A9 v p.1
 sz:l.length<=b
def Bd.step{r b d:Nat}{ks:List (Nat×Row)}{l a:Ha}{v c:AV}{H H':Hp}(h:Bd r ks b l v H)(g:Bld r a c H')(k:Kp r v H c H')(j:a.length<=d):Bd r ks d a c H':=
 ⟨g,λp i=>by
  obtain⟨h1,h2,e⟩:=h.ks p i;refine⟨k.keep p.1 _ h1 h2 e,h2,λm=>?_⟩;rcases k.new p.1 m with f|f
  ·exact e f
  ·have:=h.bld.wf.lt h1;omega,j⟩
def Bd.less{r b:Nat}{ks:List (Nat×Row)}{p:Nat×Row}{l:Ha}{v:AV}{H:Hp}(h:Bd r (p::ks) b l v H):Bd r ks b l v H:=⟨h.bld,λq hq=>h.ks q (List.mem_cons_of_mem _ hq),h.sz⟩
section
variable{r b:Nat}{ks:List (Nat×Row)}{l:Ha}{v:AV}{H:Hp}
def nV(h:Bd r ks b l v H)(f:100<L)(hb:b<500000000)(zs:List Int)(i:zs.length<100)(hz:∀z∈zs, -10<=z/\z<390)(k:∀c a,Bd r ks (b+50000) (l++Jp zs) c a->K (.tup []) a=x):
 (r! L (n+10)).call BU [.ptr r 0 0,.sl 1 (As H) 0 zs.length] ((As H,.cells false GJ (Fl zs))::H) K=x:=by
 have h1:=h.sz;have h2:=F9 zs;have d:(Fl zs).length=zs.length:=by simp[Fl]
 refine A6M (n:=n) f i hz (by omega) h.bld.cons (.inr (.inr ⟨As H,false,GJ,by rw[d],Ax (by simp),by have:=h.bld.lt;omega,λj=>by have:=h.bld.vlt j;omega⟩)) λc a e g=>?_;exact k c a (h.step e ((Kp.cons h.bld.wf).trans h.bld.wf g) (by rw[EK];omega))
def B2b(h:Bd r ks b l v H)(e:100<L)(hb:b<500000000)(zs:List Ha)(g:zs.length<100)(hz:∀z∈zs,z.length<390)(j:∀c a,Bd r ks (b+50000) (l++I2 zs) c a->K (.tup []) a=x):
 (r! L (n+10)).call C7 [.ptr r 0 0,.sl 1 (As H) 0 zs.length] ((As H,.cells false Aq (AE zs))::H) K=x:=by
 have h1:=h.sz;have h2:=F8 zs hz;refine L? (n:=n) e g hz (by omega) h.bld.cons (.inr (.inr ⟨As H,false,Aq,by rw[Bc],Ax (by simp),by have:=h.bld.lt;omega,λi=>by have:=h.bld.vlt i;omega⟩)) λc a d f=>?_;exact j c a (h.step d ((Kp.cons h.bld.wf).trans h.bld.wf f) (by rw[EK];omega))
def C19(h:Bd r ks b l v H)(f:100<L)(hb:b<500000000)(zs:List Ha)(a:AV)(g:a=.list zs.length (AE zs)\/(a=Av/\zs=[]))(j:zs.length<100)(hz:∀z∈zs,z.length<390)(k:∀d c,Bd r ks (b+50000) (l++I2 zs) d c->K (.tup []) c=x):
 (r! L (n+10)).call C7 [.ptr r 0 0,a] H K=x:=by
 have h1:=h.sz;have h2:=F8 zs hz;refine L? (n:=n) f j hz (by omega) h.bld ?_ λd c e i=>k d c (h.step e i (by rw[EK];omega));rcases g with rfl|⟨rfl,rfl⟩
 ·exact .inl (by rw[Bc])
 ·exact .inr (.inl ⟨rfl,rfl⟩)
def A05(h:Bd r ks b l v H)(e:100<L)(hb:b<500000000)(rs:Rts)(j:rs.length<50)(hz:∀z∈rs,z.1.length<390/\z.2.length<390)(i:∀c a,Bd r ks (b+50000) (l++Rz rs) c a->K (.tup []) a=x):
 (r! L (n+11)).call CW [.ptr r 0 0,.sl 2 (As H) 0 rs.length] ((As H,.cells false Bv (rs.flatMap rtC))::H) K=x:=by
 have h1:=h.sz;have h2:=OY rs hz;refine A8T (n:=n) e (by omega) hz (by omega) h.bld.cons (by have:=h.bld.lt;omega) (Ax (by simp)) (λg=>by have:=h.bld.vlt g;omega) λc a d f=>?_;exact i c a (h.step d ((Kp.cons h.bld.wf).trans h.bld.wf f) (by rw[EK];omega))
theorem Bd.cons{y:Row}(h:Bd r ks b l v H):Bd r ks b l v ((As H,y)::H):=h.step h.bld.cons (Kp.cons h.bld.wf) h.sz
def C1N(h:Bld r l v H):(r! L (n+1)).call Ic [.ptr r 0 0] H K=K (I l.length) H:=by
 rw[Tr];unfold JY Ih;have a1:∀K:K2,CD 1 (.ptr r 0 0) K=K (.ptr r 1 0):=λK=>id rfl;rw[Iz,a1];have c:∀K,AD AU (.ptr r 1 0) H K=K v:=λK=>by
  obtain⟨_,_,a|a⟩:=h.at_<;>exact AF (p:=1) rfl a (by simp)
 rw[c,Lr rfl h.sl]
def A0G(h:Bld r l v H)(u:0<l.length)(hb:l.length<1000000000):∃a,∀K,(r! L (n+1)).call EP [.ptr r 0 0] H K=K (S l) a:=by
 rcases h.sl with⟨_,h1,_⟩|⟨s,q,rfl,t,hc⟩
 ·omega
 ·refine⟨upd H s .gone,λK=>?_⟩;rw[QL];unfold IV Ih;have a1:∀K:K2,CD 1 (.ptr r 0 0) K=K (.ptr r 1 0):=λK=>id rfl;have i:∀K,AD AU (.ptr r 1 0) H K=K (.sl 1 s 0 l.length):=λK=>by
   obtain⟨_,_,c|c⟩:=h.at_<;>exact AF (p:=1) rfl c (by simp)
  have j:∀K,A7M (.sl 1 s 0 l.length) K=K (.ptr s 0 0):=λK=>by
   have:A7M (.sl 1 s 0 l.length) K=ck (Nat.beq 1 1&&Nat.blt 0 l.length) (K (.ptr s 0 0)):=rfl;rw[this];have:(Nat.beq 1 1&&Nat.blt 0 l.length)=true:=by simp;omega
   rw[this];rfl
  have k:∀K,Bh AU (.sl 1 s 0 l.length) K=K (I l.length):=λK=>id rfl;have m:∀K:KV,A4o Bl (.ptr s 0 0) (I l.length) H K=K (S l) (upd H s .gone):=λK=>by
   have:A4o Bl (.ptr s 0 0) (I l.length) H K=iN (l.length:Int) λn=>IR H s λx=>Ki x λE cs=>ck (Nat.beq E Bl&&(Nat.blt 0 n&&Nat.blt n 9223372036854775807)) (EO n (Dn (Nat.add 0 0) cs) λd=>fu8 d λl=>XA4 H s .gone λa=>K (.v (.string ⟨⟨l⟩⟩)) a):=rfl;rw[this,Kk,Bp t];show ck (Nat.beq Bl Bl&&(Nat.blt 0 l.length&&Nat.blt l.length 9223372036854775807)) _=_;have g:(Nat.beq Bl Bl&&(Nat.blt 0 l.length&&Nat.blt l.length 9223372036854775807))=true:=by simp;omega
   rw[g];show EO l.length (Dn 0 (Lw l)) _=_;have f:∀(l:Ha)(K:Ha->Af),fu8 (Lw l) K=K l:=λl=>by
    induction l with
    |nil=>intro K;rfl
    |cons b l ih=>
     intro K;have e:fu8 (Lw (b::l)) K=iN (b.toNat:Int) λn=>fu8 (Lw l) λl=>K (UInt8.ofNat n::l):=rfl;rw[e,Kk,ih];simp
   rw[CA,KS _ _ _ (by rw[rB,Qo];exact Mh _),rB,l25 (by rw[Qo];exact Mh _),f,Dg]
  simp only[Iz,Bw,a1,i,j,k,m,Cb]
end
end
section
variable{H:Hp}
variable{L n:Nat}{K:KV}{x:Af}
def tmB(t:Int×Int):Ha:=Jp [t.1]++Rz [(qn t.2,qd t.2)]
def Rh(ts:dQ):Ha:=(ts.map tmB).flatten
def yX(l:dQ){i:Nat}(h:i<l.length):Rh (l.take (i+1))=Rh (l.take i)++tmB l[i]:=by
 unfold Rh;rw[oH h,Z6,List.flatten_append];simp only[XI,List.map_nil,l1d,List.flatten_nil,V0]
def XB{z:Int}:FU GJ 1 Ab 1 [(0,1,I z)] H K=K (.sl 1 (As H) 0 1) ((As H,.cells false GJ (Fl [z]))::H):=by
 have e:FU GJ 1 Ab 1 [(0,1,I z)] H K=Io H λs=>K (.sl 1 s 0 1) ((s,.cells false GJ (Fl [z]))::H):=rfl;rw[e,Ca]
def ZJ{z:Ha}:FU Aq 1 Ah 1 [(0,1,S z)] H K=K (.sl 1 (As H) 0 1) ((As H,.cells false Aq (AE [z]))::H):=by
 have e:FU Aq 1 Ah 1 [(0,1,S z)] H K=Io H λs=>K (.sl 1 s 0 1) ((s,.cells false Aq (AE [z]))::H):=rfl;rw[e,Ca]
def A04{a b:Ha}:FU Bv 2 A4 1 [(0,2,.agg [S a,S b])] H K=K (.sl 2 (As H) 0 1) ((As H,.cells false Bv (([(a,b)]:Rts).flatMap rtC))::H):=by
 have e:FU Bv 2 A4 1 [(0,2,.agg [S a,S b])] H K=Io H λs=>K (.sl 2 s 0 1) ((s,.cells false Bv (([(a,b)]:Rts).flatMap rtC))::H):=rfl;rw[e,Ca]
def C4r{r c:Nat}{ks:List (Nat×Row)}{ts:dQ}{g:AV->KV}(P:TmsOk ts)(M:100<L){b:Nat}(hb:b<100000000){l:Ha}(hx:∀v' F,Bd r ks (b+100000*ts.length) (l++Rh ts) v' F->g (.ptr c 0 0) (.ptr r 0 0) F=x):∀(f i:Nat)(v:AV)(H:Hp),i<=ts.length->ts.length-i<f->Bd r ks (b+100000*i) (l++Rh (ts.take i)) v H->
 Mz (L+20) (r! L (n+11)) K g f (.ptr c 0 0) (.ptr r 0 0) (E4 ts) (I ts.length) (I i) H=x:=by
 have N:=P.len;intro f
 induction f with
 |zero=>intro i v H _ h;omega
 |succ f ih=>
  intro i v H hi hf a;rw[XZ];unfold M0 Dz IA A3;by_cases h:i<ts.length
  ·have hr:=P.rng _ (Qk h);rw[Fz (by omega),Cu,TM h,lTm,B1 (cs:=[zI,zS,zS]) rfl];have u:=Ax (H:=H) (x:=.cells true Be [zI,zS,zS]) (by simp);rw[BX (vs:=NC ts[i]) u rfl rfl rfl];have d:=AC (q:=true) (e:=Be) (cs:=NC ts[i]) u;have O:=a.bld.lt;have w:=(a.bld.cons (y:=.cells true Be [zI,zS,zS])).upd (s:=As H) (y:=.cells true Be (NC ts[i])) (by omega) (λD=>by have:=a.bld.vlt D;omega);have j:Bd r ((As H,c_ Be (NC ts[i]))::ks) (b+100000*i) (l++Rh (ts.take i)) v (upd ((As H,c_ Be [zI,zS,zS])::H) (As H) (c_ Be (NC ts[i]))):=⟨w,λp B=>by
    rcases Xh.1 B with rfl|B
    ·exact⟨d,by simp only;omega,λD=>by have:=a.bld.vlt D;omega⟩
    ·obtain⟨p1,p2,p3⟩:=a.ks p B;have:=a.bld.wf.lt p1;exact⟨by rw[Ag (by omega)];exact A7 this p1,p2,p3⟩,a.sz⟩
   generalize upd ((As H,c_ Be [zI,zS,zS])::H) (As H) (c_ Be (NC ts[i]))=Q at d j;generalize As H=t at d j;have Y:∀K:K2,CD 0 (.ptr t 0 0) K=K (.ptr t 0 0):=λK=>id rfl;have Z:∀K:K2,CD 1 (.ptr t 0 0) K=K (.ptr t 1 0):=λK=>id rfl;have m0:∀K,AD Ab (.ptr t 0 0) Q K=K (I ts[i].1):=λK=>AF (p:=0) rfl d (show 0<3 by decide);rw[Y,m0,XB];refine nV (n:=n+1) j M (by omega) [ts[i].1] (by simp) (by simp;omega) λv2 J k=>?_;have C:Ai J t=some (c_ Be (NC ts[i])):=(k.ks (t,c_ Be (NC ts[i])) (by simp)).1;have m1:∀K,AD A4 (.ptr t 1 0) J K=K (.agg (qa ts[i].2)):=λK=>D7 (p:=1) rfl C (show 3<=3 from Mh _);rw[Z,m1,A04];have aa:=Yt (z:=ts[i].2) (by omega) (by omega);have ab:=Yu ts[i].2;refine A05 (n:=n) k M (by omega) [(qn ts[i].2,qd ts[i].2)] (by simp) (by simp;omega) λv3 R A=>?_;rw[Db (by omega)];have V:l++Rh (ts.take i)++Jp [ts[i].1]++Rz [(qn ts[i].2,qd ts[i].2)]=l++Rh (ts.take (i+1)):=by
    rw[yX ts h];simp[tmB]
   have X:b+100000*i+50000+50000=b+100000*(i+1):=by omega
   have m:=A.less;rw[V,X]at m;exact ih (i+1) v3 R (by omega) (by omega) m
  ·rw[Fp (by omega),AZ];have:i=ts.length:=by omega
   subst this;rw[wQ]at a;exact hx v H a
end
section
variable{L n:Nat}
def Vk(r:RD)(vd:Int):Ha:=Jp [r.k]++Rz [(r.a1,r.a2),(r.b1,r.b2),(r.c1,r.c2),(r.d1,r.d2)]++Jp [vd]
def NN(kd:Int)(m:ND)(un ca cb:Ha)(ts:dQ)(ra rb:Ha)(ps:List Ha)(pt:Ha)(tail:Ha):Ha:=
 []++Jp [kd,m.lab,m.num,m.itm,m.tim,m.day]++I2 [un]++Rz [(ca,cb)]++Jp [(ts.length:Int)]++Rh ts++Rz [(ra,rb)]++Jp [(ps.length:Int)]++I2 ps++I2 [pt]++tail
def B35:PS (r! L (n+40)) dO [.agg [I 0,Av,Av]] (.tup [S [],I 200]):=BJ (λH K=>by kernel_rfl) (by kernel_rfl)
def B3b:PS (r! L (n+40)) Qz [.agg [I 0,Av,Av]] (Bo true):=BJ (λH K=>by kernel_rfl) (by kernel_rfl)
def DD(ps:List Ha):AV:=match ps with
 |[]=>Av
 |p::ps=>.list (p::ps).length (AE (p::ps))
section
variable{m:ND}{u o:UD}{ca cb ra rb:Ha}{T P ins nds:AV}{kd id vd:Int}{r:RD}{c:Nat}{H:Hp}{K:K2}
abbrev Lh(kd:Int)(m:ND)(u:UD)(ca cb:Ha)(T:AV)(ra rb:Ha)(P:AV)(id:Int)(ins nds:AV)(o:UD)(r:RD)(vd:Int):Row:=.cells true Ad (DW kd m u ca cb T ra rb P id ins nds o r vd)
def Tg(e:Sl T)(d:Sl P)(a:Sl ins)(b:Sl nds):(DW kd m u ca cb T ra rb P id ins nds o r vd).all AV.one=true:=by
 rcases e with rfl|⟨_,_,rfl⟩<;>rcases d with rfl|⟨_,_,rfl⟩<;>rcases a with rfl|⟨_,_,rfl⟩<;>rcases b with rfl|⟨_,_,rfl⟩<;>rfl
def Xy(e:Sl T)(d:Sl P)(a:Sl ins)(b:Sl nds):R9 true depth [.agg (DW kd m u ca cb T ra rb P id ins nds o r vd)] [.agg (DW kd m u ca cb T ra rb P id ins nds o r vd)] H false:=by
 rcases e with rfl|⟨_,_,rfl⟩<;>rcases d with rfl|⟨_,_,rfl⟩<;>rcases a with rfl|⟨_,_,rfl⟩<;>rcases b with rfl|⟨_,_,rfl⟩<;>exact λK=>by kernel_rfl
def Wn(a:Sl ins)(b:Sl nds):R9 true depth [.agg (B0 id ins nds o)] [.agg (B0 id ins nds o)] H false:=by
 rcases a with rfl|⟨_,_,rfl⟩<;>rcases b with rfl|⟨_,_,rfl⟩<;>exact λK=>by kernel_rfl
def cA(a:Ai H c=some (Lh kd m u ca cb T ra rb P id ins nds o r vd)):AD Ae (.ptr c 0 0) H K=K (.agg (DW kd m u ca cb T ra rb P id ins nds o r vd)):=Bu rfl rfl a
def cI0(a:Ai H c=some (Lh kd m u ca cb T ra rb P id ins nds o r vd)):AD Ab (.ptr c 0 0) H K=K (I kd):=AF (p:=0) rfl a (show 0<68 by decide)
def cI1(a:Ai H c=some (Lh kd m u ca cb T ra rb P id ins nds o r vd)):AD Ab (.ptr c 1 0) H K=K (I m.lab):=AF (p:=1) rfl a (show 1<68 by decide)
def cI2(a:Ai H c=some (Lh kd m u ca cb T ra rb P id ins nds o r vd)):AD Ab (.ptr c 2 0) H K=K (I m.num):=AF (p:=2) rfl a (show 2<68 by decide)
def cI3(a:Ai H c=some (Lh kd m u ca cb T ra rb P id ins nds o r vd)):AD Ab (.ptr c 3 0) H K=K (I m.itm):=AF (p:=3) rfl a (show 3<68 by decide)
def cI4(a:Ai H c=some (Lh kd m u ca cb T ra rb P id ins nds o r vd)):AD Ab (.ptr c 4 0) H K=K (I m.tim):=AF (p:=4) rfl a (show 4<68 by decide)
def cI5(a:Ai H c=some (Lh kd m u ca cb T ra rb P id ins nds o r vd)):AD Ab (.ptr c 5 0) H K=K (I m.day):=AF (p:=5) rfl a (show 5<68 by decide)
def cU(a:Ai H c=some (Lh kd m u ca cb T ra rb P id ins nds o r vd)):AD A0 (.ptr c 6 0) H K=K (.agg (Cx u)):=D7 (p:=6) rfl a (show 26<=68 by decide)
def cC(a:Ai H c=some (Lh kd m u ca cb T ra rb P id ins nds o r vd)):AD A4 (.ptr c 26 0) H K=K (.agg ([S ca,S cb])):=D7 (p:=26) rfl a (show 28<=68 by decide)
def cT(a:Ai H c=some (Lh kd m u ca cb T ra rb P id ins nds o r vd)):AD A2 (.ptr c 28 0) H K=K (T):=AF (p:=28) rfl a (show 28<68 by decide)
def cR(a:Ai H c=some (Lh kd m u ca cb T ra rb P id ins nds o r vd)):AD A4 (.ptr c 29 0) H K=K (.agg ([S ra,S rb])):=D7 (p:=29) rfl a (show 31<=68 by decide)
def cP(a:Ai H c=some (Lh kd m u ca cb T ra rb P id ins nds o r vd)):AD Ac (.ptr c 31 0) H K=K (P):=AF (p:=31) rfl a (show 31<68 by decide)
def cPr(a:Ai H c=some (Lh kd m u ca cb T ra rb P id ins nds o r vd)):AD AT (.ptr c 32 0) H K=K (.agg (B0 id ins nds o)):=D7 (p:=32) rfl a (show 55<=68 by decide)
def cRk(a:Ai H c=some (Lh kd m u ca cb T ra rb P id ins nds o r vd)):AD Ab (.ptr c 55 0) H K=K (I r.k):=AF (p:=55) rfl a (show 55<68 by decide)
def cR1(a:Ai H c=some (Lh kd m u ca cb T ra rb P id ins nds o r vd)):AD A4 (.ptr c 56 0) H K=K (.agg ([S r.a1,S r.a2])):=D7 (p:=56) rfl a (show 58<=68 by decide)
def cR2(a:Ai H c=some (Lh kd m u ca cb T ra rb P id ins nds o r vd)):AD A4 (.ptr c 58 0) H K=K (.agg ([S r.b1,S r.b2])):=D7 (p:=58) rfl a (show 60<=68 by decide)
def cR3(a:Ai H c=some (Lh kd m u ca cb T ra rb P id ins nds o r vd)):AD A4 (.ptr c 60 0) H K=K (.agg ([S r.c1,S r.c2])):=D7 (p:=60) rfl a (show 62<=68 by decide)
def cR4(a:Ai H c=some (Lh kd m u ca cb T ra rb P id ins nds o r vd)):AD A4 (.ptr c 62 0) H K=K (.agg ([S r.d1,S r.d2])):=D7 (p:=62) rfl a (show 64<=68 by decide)
def cV(a:Ai H c=some (Lh kd m u ca cb T ra rb P id ins nds o r vd)):AD Ab (.ptr c 64 0) H K=K (I vd):=AF (p:=64) rfl a (show 64<68 by decide)
def cS(a:Ai H c=some (Lh kd m u ca cb T ra rb P id ins nds o r vd)):AD L0 (.ptr c 65 0) H K=K (.agg ([I 0,Av,Av])):=D7 (p:=65) rfl a (show 68<=68 by decide)
def fA{c j k:Nat}:CD j (.ptr c k 0) K=K (.ptr c (k+j) 0):=by
 have e:CD j (.ptr c k 0) K=fN (Nat.add k j) λq=>K (.ptr c q 0):=rfl;rw[e,Ee];rfl
end
def gI(ts:dQ)(h:∀t∈ts,(qn t.2).length<390/\(qd t.2).length<390):(Rh ts).length<=900*ts.length:=by
 induction ts with
 |nil=>simp[Rh]
 |cons t l ih=>
  have h1:=ih (λt b=>h t (by simp[b]));have h2:=F9 [t.1];have a:=OY [(qn t.2,qd t.2)] (by simp;exact h t (by simp));simp only[Rh,XI,l1d,EK,Mi,Re,tmB]at h1 h2 a⊢;omega
def Bd.tms0{r b:Nat}{ks:List (Nat×Row)}{l:Ha}{v:AV}{H:Hp}(ts:dQ)(h:Bd r ks b l v H):Bd r ks (b+100000*0) (l++Rh (ts.take 0)) v H:=by
 rw[show Rh (ts.take 0)=[] from rfl,V0];exact h
def B5w(z:Int):0<(enc z).length:=by
 unfold enc B1r;split<;>simp
def B5L{a b c d e f:Int}{H:Hp}{K:KV}:FU GJ 1 Ab 6 [(0,1,I a),(1,1,I b),(2,1,I c),(3,1,I d),(4,1,I e),(5,1,I f)] H K=K (.sl 1 (As H) 0 6) ((As H,.cells false GJ (Fl [a,b,c,d,e,f]))::H):=by
 have g:FU GJ 1 Ab 6 [(0,1,I a),(1,1,I b),(2,1,I c),(3,1,I d),(4,1,I e),(5,1,I f)] H K=Io H λs=>K (.sl 1 s 0 6) ((s,.cells false GJ (Fl [a,b,c,d,e,f]))::H):=rfl;rw[g,Ca]
def B5K{a1 a2 b1 b2 c1 c2 d1 d2:Ha}{H:Hp}{K:KV}:FU Bv 2 A4 4 [(0,2,.agg [S a1,S a2]),(2,2,.agg [S b1,S b2]),(4,2,.agg [S c1,S c2]),(6,2,.agg [S d1,S d2])] H K=K (.sl 2 (As H) 0 4) ((As H,.cells false Bv (([(a1,a2),(b1,b2),(c1,c2),(d1,d2)]:Rts).flatMap rtC))::H):=by
 have g:FU Bv 2 A4 4 [(0,2,.agg [S a1,S a2]),(2,2,.agg [S b1,S b2]),(4,2,.agg [S c1,S c2]),(6,2,.agg [S d1,S d2])] H K=Io H λs=>K (.sl 2 s 0 4) ((s,.cells false Bv (([(a1,a2),(b1,b2),(c1,c2),(d1,d2)]:Rts).flatMap rtC))::H):=rfl;rw[g,Ca]
def jI{ps:List Ha}{K:K2}:Bh Ac (DD ps) K=K (I ps.length):=by cases ps<;>exact id rfl
section
variable{m:ND}{u o:UD}{ca cb ra rb un pt:Ha}{ts:dQ}{ps:List Ha}{ins nds:AV}{kd id vd pe:Int}{r:RD}
set_option maxHeartbeats 2000000 in
def A3j(w:100<L)(hm:m.ok)(bj:kd=1\/kd=2\/kd=3)(ht:TmsOk ts)(hI:Sl ins)(hN:Sl nds)(hp:ps.length<=6)(ab:∀s∈ps,s.length<390)(ah:un.length<390)(ad:pt.length<390)(hr:r.k=0\/r.k=1\/r.k=2\/r.k=3)(ae:∀q∈[(r.a1,r.a2),(r.b1,r.b2),(r.c1,r.c2),(r.d1,r.d2)],q.1.length<390/\q.2.length<390)(hv:0<=vd/\vd<=3)(bh:ca.length<10/\cb.length<10/\ra.length<10/\rb.length<10)(ar:LS (r! L (n+61)) Er [.agg (DW kd m u ca cb (E4 ts) ra rb (DD ps) id ins nds o r vd)] (Bo true))(ax:PS (r! L (n+61)) Jy [.agg (Cx u)] (.tup [S un,I 0]))(ap:LS (r! L (n+61)) G6 [.agg (B0 id ins nds o)] (.tup [S pt,I pe])):
 CS (r! L (n+62)) Nx [.agg (DW kd m u ca cb (E4 ts) ra rb (DD ps) id ins nds o r vd)] (.tup [S (NN kd m un ca cb ts ra rb ps pt (if kd=3 then Vk r vd else[])),I 0]):=by
 intro K hK;obtain⟨q1,q2,q3,q4,q5,q6,q7,q8,q9,bm⟩:=hm;have hT:=Hr ts;have hP:Sl (DD ps):=by cases ps with|nil=>exact .inl rfl|cons p l=>exact .inr ⟨_,_,rfl⟩
 have bk:=ht.len;rw[YO];unfold Nv Dz XW Dk A3 Ga;rw[DN (Tg hT hP hI hN)];have f:=Ax (H:=[]) (x:=Lh kd m u ca cb (E4 ts) ra rb (DD ps) id ins nds o r vd) (by simp);have w0:=AG (x:=Lh kd m u ca cb (E4 ts) ra rb (DD ps) id ins nds o r vd) FH;generalize ((As [],Lh kd m u ca cb (E4 ts) ra rb (DD ps) id ins nds o r vd)::([]:Hp))=A at f w0;generalize As []=c at f;have af:∀K,Ap (r! L (n+61)) Er [.agg (DW kd m u ca cb (E4 ts) ra rb (DD ps) id ins nds o r vd)] A K=K (Bo true):=λK=>by rw[zO];exact ar false _ _ (Xy hT hP hI hN) K
 rw[cA f,af,ntT,AZ];have f0:∀{j:Nat}{K:K2},CD j (.ptr c 0 0) K=K (.ptr c j 0):=λ{j K}=>by rw[fA,Kd]
 rw[f0,cS f,B35 (n:=n+21),FB,FA,I3];simp only[show(!decide ((200:Int)=0))=true from rfl,gT,Cb,f0,cS f];simp only[B3b (L:=L) (n:=n+21) A,ntT,Cb,UV];rw[AZ,B1 (cs:=[.v (.pointer none),zL]) rfl];have aq:=Ax (H:=A) (x:=.cells true Ht [.v (.pointer none),zL]) (by simp);have Z:=w0.lt f;have B:Bd (As A) [(c,Lh kd m u ca cb (E4 ts) ra rb (DD ps) id ins nds o r vd)] 0 [] Av ((As A,c_ Ht [.v (.pointer none),zL])::A):=
  ⟨⟨⟨_,.inl rfl,.inl aq⟩,.inl ⟨rfl,rfl,rfl⟩,λ⟨_,_,_,h⟩=>(by cases h),AG w0⟩,λp hp=>by
   simp only[YR]at hp;subst hp;exact⟨A7 Z f,by simp only;omega,λ⟨_,_,_,h⟩=>(by cases h)⟩,Mh _⟩
 generalize ((As A,c_ Ht [.v (.pointer none),zL])::A)=H1 at B;generalize As A=g at B;have d:∀{b l v H},Bd g [(c,Lh kd m u ca cb (E4 ts) ra rb (DD ps) id ins nds o r vd)] b l v H->Ai H c=some (Lh kd m u ca cb (E4 ts) ra rb (DD ps) id ins nds o r vd):=λh=>(h.ks (c,_) (YR.2 rfl)).1;have a:=d B;simp only[BE];rw[cI0 a,cI1 a,cI2 a,cI3 a,cI4 a,cI5 a,B5L];refine nV (n:=n+51) B w (by decide) [kd,m.lab,m.num,m.itm,m.tim,m.day] (by simp) (by simp only[Xh,List.mem_nil_iff,or_false];rintro z (rfl|rfl|rfl|rfl|rfl|rfl)<;>omega) λv2 H2 N=>?_;have a:=d N;rw[cU a,ax,FB,FA,ZJ];refine B2b (n:=n+51) N w (by decide) [un] (by simp) (by simpa using ah) λv3 H3 O=>?_;have a:=d O;have g0:∀{K:K2},CD 0 (.ptr c 26 0) K=K (.ptr c 26 0):=r_ rfl;have g2:∀{K:K2},CD 2 (.ptr c 26 0) K=K (.ptr c 28 0):=r_ rfl;have g3:∀{K:K2},CD 3 (.ptr c 26 0) K=K (.ptr c 29 0):=r_ rfl;rw[g0,cC a,A04];refine A05 (n:=n+50) O w (by decide) [(ca,cb)] (by simp) (by simp;omega) λv4 H4 Q=>?_;have a:=d Q;rw[g2,cT a,MP,XB];refine nV (n:=n+51) Q w (by decide) [(ts.length:Int)] (by simp) (by simp;omega) λv5 H5 R=>?_;have a:=d R;rw[g2,cT a,MP];have e0:(AV.v (.int .i64 0))=I ((0:Nat):Int):=rfl;rw[e0];refine C4r (n:=n+50) (c:=c) ht w (b:=200000) (by decide) ?_ (L+20) 0 v5 H5 (by omega) (by omega) (R.tms0 ts);intro v6 H6 i;simp only[f0];have a:=d i;have ao:200000+100000*ts.length<=800000:=by omega
 have i:Bd g [(c,Lh kd m u ca cb (E4 ts) ra rb (DD ps) id ins nds o r vd)] 800000 _ v6 H6:=⟨i.bld,i.ks,XV i.sz ao⟩
 rw[g3,cR a,A04];refine A05 (n:=n+50) i w (by decide) [(ra,rb)] (by simp) (by simp;omega) λv7 H7 V=>?_;have a:=d V;rw[cP a,jI,XB];refine nV (n:=n+51) V w (by decide) [(ps.length:Int)] (by simp) (by simp;omega) λv8 H8 X=>?_;have a:=d X;rw[cP a];refine C19 (n:=n+51) X w (by decide) ps (DD ps) (by cases ps with|nil=>exact .inr ⟨rfl,rfl⟩|cons p l=>exact .inl rfl) (by omega) ab λv9 H9 Y=>?_;have a:=d Y;have ac:∀K,Ap (r! L (n+61)) G6 [.agg (B0 id ins nds o)] H9 K=K (.tup [S pt,I pe]):=λK=>by rw[zO];exact ap false _ _ (Wn hI hN) K
 rw[cPr a,ac,FB,FA,ZJ];refine B2b (n:=n+51) Y w (by decide) [pt] (by simp) (by simpa using ad) λay ak y=>?_;have a:=d y;have aa:∀tail:Ha,tail.length<=5000->(NN kd m un ca cb ts ra rb ps pt tail).length<=32768/\0<(NN kd m un ca cb ts ra rb ps pt tail).length:=λtail ag=>by
  have a1:=F9 [kd,m.lab,m.num,m.itm,m.tim,m.day];have a2:=F8 [un] (by simpa using ah);have a3:=OY [(ca,cb)] (by simp;omega);have a4:=F9 [(ts.length:Int)];have a5:=gI ts (λt h=>by have:=ht.rng t h;have:=Yt (z:=t.2) (by omega) (by omega);have:=Yu t.2;omega);have a6:=OY [(ra,rb)] (by simp;omega);have a7:=F9 [(ps.length:Int)];have a8:=F8 ps ab;have a9:=F8 [pt] (by simpa using ad);have bg:0<(Jp [kd,m.lab,m.num,m.itm,m.tim,m.day]).length:=by
   have:=B5w kd;simp only[Jp,XI,l1d,EK];omega
  simp only[Mi,Re]at a1 a2 a3 a4 a6 a7 a9;simp only[NN,EK,Re];omega
 have fin:∀(tail:Ha)(b:Nat)(v:AV)(H:Hp),tail.length<=5000->(if kd=3 then Vk r vd else[])=tail->Bd g [(c,Lh kd m u ca cb (E4 ts) ra rb (DD ps) id ins nds o r vd)] b (NN kd m un ca cb ts ra rb ps pt tail) v H->
  (CD 0 (.ptr g 0 0) λba=>(r! L (n+61)).call Ic [ba] H λbc J=>Ar Ab .gtr bc (.v (.int .i64 32768)) λbd=>
   A1 bd (K (.tup [.v (.string ⟨⟨[]⟩⟩),.v (.int .i64 210)]) J) (CD 0 (.ptr g 0 0) λai=>(r! L (n+61)).call EP [ai] J λaj F=>K (.tup [aj,.v (.int .i64 0)]) F))=some (.tup [S (NN kd m un ca cb ts ra rb ps pt (if kd=3 then Vk r vd else[])),I 0],[]):=λtail b v H ag he hB=>by
  obtain⟨k1,k2⟩:=aa tail ag;have r0:∀{K:K2},CD 0 (.ptr g 0 0) K=K (.ptr g 0 0):=r_ rfl;rw[r0,C1N (n:=n+60) hB.bld,Ef,HW (by omega),AZ,r0];obtain⟨H',e⟩:=A0G (L:=L) (n:=n+60) hB.bld k2 (by omega);rw[e,he];rw[he]at hK;exact hK _ _ (λb=>⟨false,λK=>by kernel_rfl⟩)
 rw[cI0 a,Cl];by_cases h3:kd=3
 ·rw[HR h3,Cu];have j0:∀{K:K2},CD 0 (.ptr c 55 0) K=K (.ptr c 55 0):=r_ rfl;have j1:∀{K:K2},CD 1 (.ptr c 55 0) K=K (.ptr c 56 0):=r_ rfl;have j3:∀{K:K2},CD 3 (.ptr c 55 0) K=K (.ptr c 58 0):=r_ rfl;have j5:∀{K:K2},CD 5 (.ptr c 55 0) K=K (.ptr c 60 0):=r_ rfl;have j7:∀{K:K2},CD 7 (.ptr c 55 0) K=K (.ptr c 62 0):=r_ rfl;rw[j0,cRk a,XB];refine nV (n:=n+51) y w (by decide) [r.k] (by simp) (by simp;omega) λbn be C=>?_;have a:=d C;rw[j1,cR1 a,j3,cR2 a,j5,cR3 a,j7,cR4 a,B5K];refine A05 (n:=n+50) C w (by decide) [(r.a1,r.a2),(r.b1,r.b2),(r.c1,r.c2),(r.d1,r.d2)] (by simp) ae λbo bf D=>?_;have a:=d D;rw[cV a,XB];refine nV (n:=n+51) D w (by decide) [vd] (by simp) (by simp;omega) λaz am M=>?_;refine fin (Vk r vd) (800000+50000+50000+50000+50000+50000+50000+50000) az am ?_ (by rw[Dq h3]) ?_
  ·have a1:=F9 [r.k];have a2:=OY [(r.a1,r.a2),(r.b1,r.b2),(r.c1,r.c2),(r.d1,r.d2)] ae;have a3:=F9 [vd];simp only[Mi,Re]at a1 a2 a3;simp only[Vk,EK];omega
  ·have:NN kd m un ca cb ts ra rb ps pt (Vk r vd)=[]++Jp [kd,m.lab,m.num,m.itm,m.tim,m.day]++I2 [un]++Rz [(ca,cb)]++Jp [(ts.length:Int)]++Rh ts++Rz [(ra,rb)]++Jp [(ps.length:Int)]++I2 ps++I2 [pt]++Jp [r.k]++Rz [(r.a1,r.a2),(r.b1,r.b2),(r.c1,r.c2),(r.d1,r.d2)]++Jp [vd]:=by
    unfold NN Vk;simp only[fQ]
   rw[this];exact M
 ·rw[HW h3,AZ];refine fin [] (800000+50000+50000+50000+50000) ay ak (by simp) (by rw[CF h3]) ?_;have:NN kd m un ca cb ts ra rb ps pt []=[]++Jp [kd,m.lab,m.num,m.itm,m.tim,m.day]++I2 [un]++Rz [(ca,cb)]++Jp [(ts.length:Int)]++Rh ts++Rz [(ra,rb)]++Jp [(ps.length:Int)]++I2 ps++I2 [pt]:=by
   unfold NN;rw[V0]
  rw[this];exact y
end
end
section
variable{L n:Nat}
def C4Y{cs:Is}{b:Ha}(h:40000<L)(h1:cs.all AV.one=true)(hz:cs.length=68)(c:∀H,R9 true depth [.agg cs] [.agg cs] H false)(hb:b.length<=32768)(e:CS (r! L (n+62)) Nx [.agg cs] (.tup [S b,I 0])):CS (r! L (n+63)) IQ [.agg cs] (S (sha b)):=by
 intro K f;rw[eN];unfold PN Ih;rw[DN h1];have a:=Ax (H:=[]) (x:=.cells true Ad cs) (by simp);generalize ((As [],c_ Ad cs)::([]:Hp))=d at a;rw[Bu rfl hz.symm a,AP e (c d),FB,FA,I3];show A1 (.v (.bool false)) _ _=_;rw[AZ];have g:∀K,Ap (r! L (n+62)) Xt [S b] d K=K (S (sha b)):=λK=>AP (C2m (L:=L+20) (n:=n+54) (by omega) (by omega)) (Ao (q:=false) (q':=false) CC AH);rw[g];exact f _ _ (λb=>⟨false,λK=>by kernel_rfl⟩)
end
section
variable{nds:AV}{H:Hp}{i:Nat}
variable{L n:Nat}
structure Nd where
 op:Int
 (vn vd:Ha)
 u:UD
 (n l r:Int)
abbrev Nd.cs(x:Nd):Is:=[I x.op,S x.vn,S x.vd,I x.u.p0,I x.u.q0,I x.u.p1,I x.u.q1,I x.u.p2,I x.u.q2,I x.u.p3,I x.u.q3,I x.u.p4,I x.u.q4,I x.u.p5,I x.u.q5,I x.u.p6,I x.u.q6,S x.u.fn,S x.u.fd,S x.u.on,S x.u.od,I x.u.kd,I x.u.sc,I x.n,I x.l,I x.r]
def HI(k:Nat):Is:=Cx (uu k)
abbrev BC(ks:Hb):AV:=.list ks.length (ks.flatMap HI)
def Q!(x:Nd):Is:=x.cs
abbrev Ci(xs:List Nd):AV:=.list xs.length (xs.flatMap Q!)
def MQ{ks:Hb}{K:K2}:Bh Al (BC ks) K=K (I ks.length):=id rfl
def Q8{xs:List Nd}{K:K2}:Bh Aw (Ci xs) K=K (I xs.length):=id rfl
def ZG{ks:Hb}{K:K2}(h:i<ks.length):DC Al (BC ks) (I i) K=K (.iptr (HI ks[i])):=Zf (f:=HI) rfl (λ_=>rfl) h
def jL{xs:List Nd}{K:K2}(h:i<xs.length):DC Aw (Ci xs) (I i) K=K (.iptr (Q! xs[i])):=Zf (f:=Q!) rfl (λ_=>rfl) h
def ZF{k:Nat}{K:K2}:AD A0 (.iptr (HI k)) H K=K (.agg (Cx (uu k))):=id rfl
def jJ{x:Nd}{K:K2}:AD AM (.iptr (Q! x)) H K=K (.agg x.cs):=id rfl
abbrev Je(id:Int)(ins nds:AV)(o:UD):Row:=.cells true Cm (B0 id ins nds o)
section
attribute [local irreducible] Ap rt oP eBi eEq cnd Ar R7 A1
def Zu{z c a:Int}(h1:c<=z)(h2:z<=a):PS (r! L (n+1)) D4 [I z,I c,I a] (Bo true):=by
 refine CS.ps (λK d=>?_) (λH=>λK=>by kernel_rfl);rewrite[lR];unfold Sx q3N
 try rewrite[zO]
 try rewrite[bO]
 try rewrite[qO]
 try rewrite[cO]
 conv=>lhs;whnf
 rewrite[A5Y h1]
 conv=>lhs;whnf
 rewrite[A5O h2]
 conv=>lhs;whnf
 exact d _ _ (λb=>⟨false,λK=>by kernel_rfl⟩)
end
section
variable{K:KV}{x:Af}{ks:Hb}{xs:List Nd}{id:Int}{o:UD}
def B98{k31:KV}{c:Nat}(b:∀k∈ks,k<52)(hb:ks.length<100)(e:k31 (.ptr c 0 0) H=x)(d:Ai H c=some (Je id (BC ks) nds o)):∀(f i:Nat),i<=ks.length->ks.length-i<f->
 QD (L+20) (r! L (n+40)) K k31 f (.ptr c 0 0) (I i) H=x:=by
 intro f
 induction f with
 |zero=>intro i _ h;omega
 |succ f ih=>
  intro i j g;rw[gP];unfold QE Dz QY IA A3 Ga;have f1:∀K:K2,CD 1 (.ptr c 0 0) K=K (.ptr c 1 0):=λK=>r_ rfl;have a:∀K,AD Al (.ptr c 1 0) H K=K (BC ks):=λK=>AF (p:=1) rfl d (show 1<23 by decide);rw[f1,a,MQ];by_cases h:i<ks.length
  ·rw[Fz (by omega),Cu,f1,a,ZG h,ZF,Sq _ _ _ (b _ (Qk h)),ntT,AZ,Db (by omega)];exact ih (i+1) (by omega) (by omega)
  ·rw[Fp (by omega),AZ];exact e
def Ol{ins nds:AV}(a:Sl ins)(b:Sl nds):(B0 id ins nds o).all AV.one=true:=by
 rcases a with rfl|⟨_,_,rfl⟩<;>rcases b with rfl|⟨_,_,rfl⟩<;>rfl
def B0a(t:100<L)(g:∀k∈ks,k<52)(hb:ks.length<=6)(hn:1<=xs.length)(h:xs.length<=40)(h1:1<=id)(h2:id<=1000000):CS (r! L (n+41)) OO [.agg (B0 id (BC ks) (Ci xs) o)] (.tup [Bo true,Bo true]):=by
 intro K f;rw[lT];unfold Sy QY Dk A3 Ga;rw[DN (Ol (.inr ⟨_,_,rfl⟩) (.inr ⟨_,_,rfl⟩))];have a:=Ax (H:=[]) (x:=Je id (BC ks) (Ci xs) o) (by simp);generalize ((As [],Je id (BC ks) (Ci xs) o)::([]:Hp))=d at a;generalize As []=c at a;simp only[BE];refine B98 g (by omega) ?_ a (L+20) 0 (by omega) (by omega);have e:∀{j:Nat}{K:K2},CD j (.ptr c 0 0) K=K (.ptr c j 0):=λ{j K}=>by rw[fA,Kd]
 have m:∀{K},AD Ab (.ptr c 0 0) d K=K (I id):=λ{K}=>AF (p:=0) rfl a (show 0<23 by decide);have q:∀{K},AD Al (.ptr c 1 0) d K=K (BC ks):=λ{K}=>AF (p:=1) rfl a (show 1<23 by decide);have r:∀{K},AD Aw (.ptr c 2 0) d K=K (Ci xs):=λ{K}=>AF (p:=2) rfl a (show 2<23 by decide);have w1:∀{K:K2},Ap (r! L (n+40)) D4 [I id,.v (.int .i64 1),.v (.int .i64 1000000)] d K=K (Bo true):=λ{K}=>Zu (n:=n+39) h1 h2 d K;have s:∀{K:K2},Ap (r! L (n+40)) D4 [I (xs.length:Int),.v (.int .i64 1),.v (.int .i64 40)] d K=K (Bo true):=λ{K}=>Zu (n:=n+39) (by omega) (by omega) d K;have q1:∀{K},Ar Ab .leq (I (ks.length:Int)) (.v (.int .i64 6)) K=K (Bo true):=λ{K}=>by rw[jO,HR (by omega)]
 have q2:∀{K},Ar Ab .gtr (I (xs.length:Int)) (.v (.int .i64 0)) K=K (Bo true):=λ{K}=>by rw[Ef,HR (by omega)]
 simp only[e,m,q,r,Bw,Cb,gT,w1,s,MQ,Q8,q1,q2,UV];exact f _ _ (λb=>⟨false,λK=>by kernel_rfl⟩)
end
end
section
variable{x:Value}
variable{L n:Nat}
def Yy:Value->Bool
 |.int _ _=>true
 |.string _=>true
 |.bool _=>true
 |.slice none 0 0=>true
 |_=>false
def pl:Nat->AV->Bool
 |_,.v x=>Yy x
 |d+1,.list _ cs=>cs.all (pl d)
 |d+1,.agg cs=>cs.all (pl d)
 |d+1,.tup cs=>cs.all (pl d)
 |_,_=>false
def B1p:∀l:Ha,gF.eqbL l l=true:=by
 intro l
 induction l with
 |nil=>rfl
 |cons a l ih=>simp only[gF.eqbL,ih,l1g];exact oG _
def kM(h:Yy x=true):gF x x=true:=by
 unfold Yy at h;split at h
 ·simp[gF]
 ·exact B1p _
 ·simp[gF]
 ·rfl
 ·cases h
def A8b{f:AV->AV->Bool}:∀l:Is,(∀a∈l,f a a=true)->wI f l l=true:=by
 intro l
 induction l with
 |nil=>intro _;rfl
 |cons a l ih=>intro h;simp only[wI,h a (by simp),ih λb hb=>h b (by simp[hb]),l1g]
def Tk:∀(d:Nat)(a:AV),pl d a=true->VS d a a=true:=by
 intro d
 induction d with
 |zero=>intro a h;cases a<;>first|exact kM h|cases h
 |succ d ih=>
  intro a h;cases a<;>first
   |exact kM h
   |(simp only[pl,GG]at h;simp only[VS,oG,l1b];exact A8b _ λb hb=>ih b (h b hb))
   |cases h
def A8c{a:AV}(h:pl 6 a=true):fF a a=true:=by
 cases a<;>first|exact kM h|exact Tk 6 _ h|cases h
def Vr{v:AV}{H:Hp}{K:Af}(h:pl 6 v=true):Qq (Ba (some (v,H)) v) K=K:=by
 show Qq (some (.v (.bool (fF v v)),[])) K=K;rw[A8c h];rfl
def A7x(h:Yy x=true)(a:x≠.slice none 0 0):iR x x=some true:=by
 unfold Yy at h;split at h
 ·show(match decide (_=_) with|true=>some (ieq _ _)|false=>none)=_;rw[HR rfl,QS,HR rfl]
 ·show some (eqB _ _)=_;rw[QU];simp
 ·show some (_==_)=_;simp
 ·exact absurd rfl a
 ·cases h
def A2G:∀xs:Hx,(∀x∈xs,Yy x=true/\x≠.slice none 0 0)->Yb xs xs=some true:=by
 intro xs
 induction xs with
 |nil=>intro _;rfl
 |cons x xs ih=>
  intro h;have e:Yb (x::xs) (x::xs)=(match iR x x with
   |some b=>(match Yb xs xs with|some c=>some (b&&c)|none=>none)
   |none=>none):=rfl
  rw[e,A7x (h x (by simp)).1 (h x (by simp)).2,ih λy a=>h y (by simp[a])];rfl
def C48{x:Nd}{K:K2}:R7 IK .eql (.agg x.cs) (.agg x.cs) K=K (Bo true):=by
 have e:∀(xs:Hx),Yb xs xs=some true->∀K:K2,(match(generalizing:=false) Yb xs xs,BinOp.eql with
  |some q,.eql=>bB q K
  |some q,.neq=>bB (!q) K
  |_,_=>(none:Af))=K (Bo true):=λxs h K=>by rw[h];rfl
 exact e [.int .i64 x.op,.string ⟨⟨x.vn⟩⟩,.string ⟨⟨x.vd⟩⟩,.int .i64 x.u.p0,.int .i64 x.u.q0,.int .i64 x.u.p1,.int .i64 x.u.q1,.int .i64 x.u.p2,.int .i64 x.u.q2,.int .i64 x.u.p3,.int .i64 x.u.q3,.int .i64 x.u.p4,.int .i64 x.u.q4,.int .i64 x.u.p5,.int .i64 x.u.q5,.int .i64 x.u.p6,.int .i64 x.u.q6,
  .string ⟨⟨x.u.fn⟩⟩,.string ⟨⟨x.u.fd⟩⟩,.string ⟨⟨x.u.on⟩⟩,.string ⟨⟨x.u.od⟩⟩,.int .i64 x.u.kd,.int .i64 x.u.sc,.int .i64 x.n,.int .i64 x.l,.int .i64 x.r]
  (A2G _ (by simp[Yy])) K
end
section
variable{at_:Int}
variable{L n:Nat}
def dC(i:Nat):Nd:=⟨2,[],[],u0,i,0,0⟩
abbrev Lx:Is:=[zI,zS,zS,zI,zI,zI,zI,zI,zI,zI,zI,zI,zI,zI,zI,zI,zI,zS,zS,zS,zS,zI,zI,zI,zI,zI]
abbrev Gf:Is:=[zI,zI,zI,zI,zI,zI,zI,zI,zI,zI,zI,zI,zI,zI,zS,zS,zS,zS,zI,zI]
abbrev XQ(x:Nd):Row:=.cells true AY x.cs
section
variable{K:KV}{x:Af}{ks:Hb}{xs:List Nd}{id:Int}{o:UD}{i:Nat}
def A3V{x:Nd}:x.cs.all AV.one=true:=rfl
def B?{t:TI}{a:Int}{K:K2}:Ar t .eql (I a) (.v (.int .i64 a)) K=K (Bo true):=by rw[Cl,HR rfl]
def A1e(hb:ks.length<=6)(hi:i<ks.length):CS (r! L (n+2)) F4 [.agg (B0 id (BC ks) (Ci xs) o),.agg (dC i).cs,I at_] (.tup [Bo true,Bo false]):=by
 intro K P;rw[Vt];unfold Ot Dz XW Dk A3 Kn Ga;rw[DN (Ol (.inr ⟨_,_,rfl⟩) (.inr ⟨_,_,rfl⟩))];have g:=Ax (H:=[]) (x:=Je id (BC ks) (Ci xs) o) (by simp);have w0:=AG (x:=Je id (BC ks) (Ci xs) o) FH;generalize ((As [],Je id (BC ks) (Ci xs) o)::([]:Hp))=t at g w0;generalize As []=p at g;rw[DN A3V];have c:=Ax (H:=t) (x:=XQ (dC i)) (by simp);have k:Ai ((As t,XQ (dC i))::t) p=some (Je id (BC ks) (Ci xs) o):=A7 (w0.lt g) g;have w1:=AG (x:=XQ (dC i)) w0;generalize ((As t,XQ (dC i))::t)=a at c k w1;generalize As t=r at c;have A:∀{s j:Nat}{K:K2},CD j (.ptr s 0 0) K=K (.ptr s j 0):=λ{s j K}=>by rw[fA,Kd]
 have Q:∀{K},AD Ab (.ptr r 0 0) a K=K (I 2):=λ{K}=>AF (p:=0) rfl c (show 0<26 by decide);have b0:∀{K:K2},BP AM [(0,1,I 2)] K=K (.agg (I 2::Lx.tail)):=λ{K}=>r_ rfl;rw[A,Q,b0,B1 (cs:=Lx) rfl];have hm:=Ax (H:=a) (x:=.cells true AY Lx) (by simp);rw[BX (vs:=I 2::Lx.tail) hm rfl rfl rfl];have d:=AC (q:=true) (e:=AY) (cs:=I 2::Lx.tail) hm;have w2:=Bj (r:=As a) (y:=.cells true AY (I 2::Lx.tail)) (AG (x:=.cells true AY Lx) w1);have Z:=w1.lt c;have O:=w1.lt k;have f:Ai (upd ((As a,c_ AY Lx)::a) (As a) (c_ AY (I 2::Lx.tail))) r=some (XQ (dC i)):=by
  rw[Ag (by omega)];exact A7 Z c
 have F:Ai (upd ((As a,c_ AY Lx)::a) (As a) (c_ AY (I 2::Lx.tail))) p=some (Je id (BC ks) (Ci xs) o):=by
  rw[Ag (by omega)];exact A7 O k
 generalize upd ((As a,c_ AY Lx)::a) (As a) (c_ AY (I 2::Lx.tail))=w at d w2 f F;have D:As a≠r:=by omega
 have C:As a≠p:=by omega
 generalize As a=m at d D C
 try simp only[BE]
 have V:∀{K},AD Ab (.ptr r 0 0) w K=K (I 2):=λ{K}=>AF (p:=0) rfl f (show 0<26 by decide);have N:∀{K},AD Ab (.ptr r 23 0) w K=K (I i):=λ{K}=>AF (p:=23) rfl f (show 23<26 by decide);rw[A,V,Cl,HW (by decide),AZ,B?,Cu,A,N,A];rw[D6 (v:=I i) d (show 23<26 by decide) rfl rfl rfl];have B:=AC (q:=true) (e:=AY) (cs:=(I 2::Lx.tail).set 23 (I i)) d;have h:Ai (upd w m (c_ AY ((I 2::Lx.tail).set 23 (I i)))) r=some (XQ (dC i)):=by
  rw[Ag (Ne.symm D)];exact f
 have J:Ai (upd w m (c_ AY ((I 2::Lx.tail).set 23 (I i)))) p=some (Je id (BC ks) (Ci xs) o):=by
  rw[Ag (Ne.symm C)];exact F
 generalize upd w m (c_ AY ((I 2::Lx.tail).set 23 (I i)))=u at B h J;have Y:∀{K},AD AM (.ptr m 0 0) u K=K (.agg (dC i).cs):=λ{K}=>Bu rfl rfl B;have X:∀{K},AD AM (.ptr r 0 0) u K=K (.agg (dC i).cs):=λ{K}=>Bu rfl rfl h;have M:∀{K},AD Ab (.ptr r 23 0) u K=K (I i):=λ{K}=>AF (p:=23) rfl h (show 23<26 by decide);have R:∀{K},AD Al (.ptr p 1 0) u K=K (BC ks):=λ{K}=>AF (p:=1) rfl J (show 1<23 by decide);have sb:∀{K},Ar Ab .sub (I (ks.length:Int)) (.v (.int .i64 1)) K=K (I ((ks.length:Int)-1)):=λ{K}=>by rw[J6,CQ (by omega) (by omega)]
 have wi:∀{K:K2},Ap (r! L (n+1)) D4 [I (i:Int),.v (.int .i64 0),I ((ks.length:Int)-1)] u K=K (Bo true):=λ{K}=>Zu (n:=n) (by omega) (by omega) u K;simp only[X,Y,C48,gT,A,Cb,M,R,MQ,sb,wi,UV];exact P _ _ (λb=>⟨false,λK=>by kernel_rfl⟩)
def Ip{H:Hp}{e:Nat}{zs vs:Is}(w:Wf H)(hz:vs.length=zs.length):∃a,a=upd ((As H,c_ e zs)::H) (As H) (c_ e vs)/\Ai a (As H)=some (c_ e vs)/\Wf a/\(∀s x,Ai H s=some x->Ai a s=some x/\s≠As H):=by
 have hm:=Ax (H:=H) (x:=.cells true e zs) (by simp);refine⟨_,rfl,AC hm,Bj (AG w),λs x h=>?_⟩;have:=w.lt h;exact⟨by rw[Ag (by omega)];exact A7 this h,by omega⟩
def Zt(hb:ks.length<=6)(Z:i<ks.length){w:AV}:CS (r! L (n+3)) CK [.agg (B0 id (BC ks) (Ci xs) o),.agg (dC i).cs,I at_,w] (.tup [.agg (Cx (uu ks[i])),I 0]):=by
 intro K hK;rw[HC];unfold Hj q4N;rw[DN (Ol (.inr ⟨_,_,rfl⟩) (.inr ⟨_,_,rfl⟩))];have c:=Ax (H:=[]) (x:=Je id (BC ks) (Ci xs) o) (by simp);have w0:=AG (x:=Je id (BC ks) (Ci xs) o) FH;generalize ((As [],Je id (BC ks) (Ci xs) o)::([]:Hp))=t at c w0;generalize As []=p at c;rw[DN A3V];have a:=Ax (H:=t) (x:=XQ (dC i)) (by simp);have f:Ai ((As t,XQ (dC i))::t) p=some (Je id (BC ks) (Ci xs) o):=A7 (w0.lt c) c;have w1:=AG (x:=XQ (dC i)) w0;generalize ((As t,XQ (dC i))::t)=C at a f w1;generalize As t=r at a;rw[B1 (cs:=Gf) rfl];have h:=Ax (H:=C) (x:=.cells true AB Gf) (by simp);have d:=A7 (x:=.cells true AB Gf) (w1.lt a) a;have g:=A7 (x:=.cells true AB Gf) (w1.lt f) f;have w2:=AG (x:=.cells true AB Gf) w1;generalize ((As C,c_ AB Gf)::C)=D at h d g w2;generalize As C=q at h;have lp:∀{K},AD AT (.ptr p 0 0) D K=K (.agg (B0 id (BC ks) (Ci xs) o)):=λ{K}=>Bu rfl rfl g;have ln:∀{K},AD AM (.ptr r 0 0) D K=K (.agg (dC i).cs):=λ{K}=>Bu rfl rfl d;have fx:R9 true depth [.agg (B0 id (BC ks) (Ci xs) o),.agg (dC i).cs,I at_] [.agg (B0 id (BC ks) (Ci xs) o),.agg (dC i).cs,I at_] D false:=λK=>by kernel_rfl
 have sh:∀{K:K2},Ap (r! L (n+2)) F4 [.agg (B0 id (BC ks) (Ci xs) o),.agg (dC i).cs,I at_] D K=K (.tup [Bo true,Bo false]):=λ{K}=>AP (A1e hb Z) fx;have Y:∀{K:K2},BP A0 [] K=K (.agg Gf):=λ{K}=>r_ rfl;rw[lp,ln,sh,FB,FA,ntT,AZ,Y,B1 (cs:=Gf) rfl];rw[BX (vs:=Gf) (Ax (by simp)) rfl rfl rfl];obtain⟨H3,e3, -,w3,J⟩:=Ip (e:=AB) (zs:=Gf) (vs:=Gf) w2 rfl;rw[<-e3,Y,B1 (cs:=Gf) rfl,BX (vs:=Gf) (Ax (by simp)) rfl rfl rfl];obtain⟨X,e4, -,w4,M⟩:=Ip (e:=AB) (zs:=Gf) (vs:=Gf) w3 rfl;rw[<-e4]
 try simp only[BE]
 have F:∀{s j:Nat}{K:K2},CD j (.ptr s 0 0) K=K (.ptr s j 0):=λ{s j K}=>by rw[fA,Kd]
 have y:=(M _ _ (J _ _ d).1).1;have O:=(M _ _ (J _ _ g).1).1;have Q:=(M _ _ (J _ _ h).1).1;have lu:∀{K},AD A0 (.ptr r 3 0) X K=K (.agg Gf):=λ{K}=>D7 (p:=3) rfl y (show 23<=26 by decide);rw[AZ,F,lu,B1 (cs:=Gf) rfl,BX (vs:=Gf) (Ax (by simp)) rfl rfl rfl];obtain⟨u,e5,m,w5,N⟩:=Ip (e:=AB) (zs:=Gf) (vs:=Gf) w4 rfl;rw[<-e5];obtain⟨A,nr⟩:=N _ _ y;obtain⟨P,np⟩:=N _ _ O;obtain⟨R,nq⟩:=N _ _ Q;generalize As X=v at m nr np nq;have l0:∀{K},AD Ab (.ptr r 0 0) u K=K (I 2):=λ{K}=>AF (p:=0) rfl A (show 0<26 by decide);have V:∀{K},AD Ab (.ptr r 23 0) u K=K (I i):=λ{K}=>AF (p:=23) rfl A (show 23<26 by decide);have l1:∀{K},AD Al (.ptr p 1 0) u K=K (BC ks):=λ{K}=>AF (p:=1) rfl P (show 1<23 by decide);rw[F,l0,B?,Cu,F,l1,F,V,ZG Z,ZF,BX (vs:=Cx (uu ks[i])) m rfl rfl rfl];have B:=AC (q:=true) (e:=AB) (cs:=Cx (uu ks[i])) m;have k:Ai (upd u v (c_ AB (Cx (uu ks[i])))) q=some (c_ AB Gf):=by rw[Ag nq];exact R
 generalize upd u v (c_ AB (Cx (uu ks[i])))=H6 at B k;rw[I3];show A1 (.v (.bool false)) _ _=_;rw[AZ,Bu rfl rfl B,BX (vs:=Cx (uu ks[i])) k rfl rfl rfl,Bu rfl rfl (AC k)];exact hK _ _ (λb=>⟨false,λK=>by kernel_rfl⟩)
end
end
section
variable{v:AV}{b:Bool}{H:Hp}
variable{L n:Nat}
def A82{k:Nat}{K:KV}:FU AB 20 A0 1 [(0,20,.agg (Cx (uu k)))] H K=K (.sl 20 (As H) 0 1) ((As H,.cells false AB (HI k))::H):=by
 have e:FU AB 20 A0 1 [(0,20,.agg (Cx (uu k)))] H K=Io H (λs=>K (.sl 20 s 0 1) ((s,.cells false AB (HI k))::H)):=r_ rfl;rw[e,Ca]
def C4s{l:Hb}(k:Nat)(h:Bk H AB 20 v l.length (l.flatMap HI))(w:Wf H)(hn:l.length<100):
 ∃d a,(∀K:KV,(FU AB 20 A0 1 [(0,20,.agg (Cx (uu k)))] H λv1 i=>DK AB 20 A0 Al v v1 i K)=K d a)/\Bk a AB 20 d (l++[k]).length ((l++[k]).flatMap HI)/\Wf a/\As H<=As a/\(∀s x,Ai H s=some x->¬A9 v s->Ai a s=some x)/\(∀s,A9 d s->As H<=s):=by
 have g:Bk ((As H,.cells false AB (HI k))::H) AB 20 v l.length (l.flatMap HI):=h.lat w (Lat.cons H _ (λ_=>False)) (λ_ _ h=>h);have c:Bk ((As H,.cells false AB (HI k))::H) AB 20 (.sl 20 (As H) 0 1) 1 (HI k):=.inr ⟨As H,false,rfl,Ax (by simp),by show 20=_;rfl⟩;obtain⟨d,a,h1,h2,j,m⟩:=apt (ie:=A0) (i2:=Al) g (λK=>R4 (K:=K) c) rfl rfl (by decide) rfl rfl (by show(l.length+1)*192<=_;omega) (by omega);have e:=(Lat.cons H (.cells false AB (HI k)) (A9 v)).trans m (R:=A9 v) (λ_ _ h=>h) (λ_ _ h=>h);refine⟨d,a,λK=>?_,by rw[EK,l2l];simpa using h2,e.wf w,e.nx,λs x f hn=>e.keep w s x f hn,λs f=>?_⟩
 ·rw[A82];exact h1 K
 ·rw[j s f];exact l1u _
def C3k(k:Nat):Hx:=[.int .i64 (uu k).p0,.int .i64 (uu k).q0,.int .i64 (uu k).p1,.int .i64 (uu k).q1,.int .i64 (uu k).p2,.int .i64 (uu k).q2,.int .i64 (uu k).p3,.int .i64 (uu k).q3,.int .i64 (uu k).p4,.int .i64 (uu k).q4,.int .i64 (uu k).p5,.int .i64 (uu k).q5,.int .i64 (uu k).p6,.int .i64 (uu k).q6,
 .string ⟨⟨(uu k).fn⟩⟩,.string ⟨⟨(uu k).fd⟩⟩,.string ⟨⟨(uu k).on⟩⟩,.string ⟨⟨(uu k).od⟩⟩,.int .i64 (uu k).kd,.int .i64 (uu k).sc]
def C02(k:Nat):HI k=(C3k k).map λx=>.v x:=rfl
def C3j(l:Hb):l.flatMap HI=(l.flatMap C3k).map λx=>.v x:=by
 induction l with
 |nil=>rfl
 |cons k l ih=>rw[rE,rE,Z6,ih,C02]
def RM(l:Hb):AV:=match l with
 |[]=>Av
 |k::l=>.list (k::l).length ((k::l).flatMap HI)
def mP{D:Nat}{l:Hb}(h:Bk H AB 20 v l.length (l.flatMap HI))(d:l=[]->v=Av):∃q,Fx b (D+1) v (RM l) H q:=by
 rcases h with⟨rfl,h2,_⟩|⟨r,q,rfl,h2,c⟩
 ·cases l with
  |nil=>exact⟨false,CC⟩
  |cons a l=>simp at h2
 ·cases l with
  |nil=>have:=d rfl;cases this
  |cons a l=>
   refine⟨true,?_⟩;show Fx b (D+1) _ (.list (a::l).length ((a::l).flatMap HI)) H true;rw[C3j]at h2 c⊢;exact VE (q':=false) h2 c (K1 _root_.id _)
def B6w{l:Hb}(h:Bk H AB 20 v l.length (l.flatMap HI))(a:l=[]->v=Av):∃q,Fx b depth v (RM l) H q:=mP (D:=depth-1) h a
end
section
variable{d:Nat}
variable{L n:Nat}
section
variable{K:KV}{x:Af}{ks ty:Hb}{xs:List Nd}{id:Int}{o:UD}
def RTy(L n:Nat)(id:Int)(ks:Hb)(xs:List Nd)(o:UD)(ty:Hb):Prop:=
 ∀i(h:i<xs.length),CS (r! L (n+42)) CK [.agg (B0 id (BC ks) (Ci xs) o),.agg xs[i].cs,I i,RM (ty.take i)] (.tup [.agg (Cx (uu (ty.getD i 0))),I 0])
def B9B:∀l:Hb,(l.flatMap HI).all (pl d)=true:=by
 intro l
 induction l with
 |nil=>rfl
 |cons a l ih=>rw[rE,List.all_append,ih];cases d<;>rfl
def B9A:∀l:List Nd,(l.flatMap Q!).all (pl d)=true:=by
 intro l
 induction l with
 |nil=>rfl
 |cons a l ih=>rw[rE,List.all_append,ih];cases d<;>rfl
def B4B(l:Hb):pl (d+1) (BC l)=true:=B9B l
def A5A(l:List Nd):pl (d+1) (Ci l)=true:=B9A l
def B4A:pl 6 (.agg (B0 id (BC ks) (Ci xs) o))=true:=by
 show(pl 5 (I id)&&(pl 5 (BC ks)&&(pl 5 (Ci xs)&&true)))=true;rw[B4B,A5A];rfl
def B97{u:AV->KV}{p:Nat}(hT:RTy L n id ks xs o ty)(g:ty.length=xs.length)(hb:xs.length<100)(hx:∀v H,Bk H AB 20 v ty.length (ty.flatMap HI)->(ty=[]->v=Av)->Ai H p=some (Je id (BC ks) (Ci xs) o)->u (.ptr p 0 0) v H=x):
 ∀(f i:Nat)(v:AV)(H:Hp),i<=xs.length->xs.length-i<f->Bk H AB 20 v (ty.take i).length ((ty.take i).flatMap HI)->(ty.take i=[]->v=Av)->¬A9 v p->Ai H p=some (Je id (BC ks) (Ci xs) o)->Wf H->
 Sc (L+20) (r! L (n+42)) K u f (.ptr p 0 0) v (I i) H=x:=by
 intro f
 induction f with
 |zero=>intro i v H _ h;omega
 |succ f ih=>
  intro i v H hi hf a A hr c w;rw[kZ];unfold Sd Dz A3;have N:∀{s j:Nat}{K:K2},CD j (.ptr s 0 0) K=K (.ptr s j 0):=λ{s j K}=>by rw[fA,Kd]
  have R:∀{K},AD Aw (.ptr p 2 0) H K=K (Ci xs):=λ{K}=>AF (p:=2) rfl c (show 2<23 by decide);have lp:∀{K},AD AT (.ptr p 0 0) H K=K (.agg (B0 id (BC ks) (Ci xs) o)):=λ{K}=>Bu rfl rfl c;rw[N,R,Q8];by_cases h:i<xs.length
  ·have y:∀{H:Hp}(_:Bk H AB 20 v (ty.take i).length ((ty.take i).flatMap HI)){K:K2},Ap (r! L (n+42)) CK [.agg (B0 id (BC ks) (Ci xs) o),.agg xs[i].cs,I i,v] H K=K (.tup [.agg (Cx (uu (ty.getD i 0))),I 0]):=λ{H}a{K}=>by
    obtain⟨q,hq⟩:=B6w (b:=true) a A;have a1:Fx true depth (.agg (B0 id (BC ks) (Ci xs) o)) (.agg (B0 id (BC ks) (Ci xs) o)) H false:=λK=>by kernel_rfl
    have a2:Fx true depth (.agg xs[i].cs) (.agg xs[i].cs) H false:=λK=>by kernel_rfl
    exact AP (hT i h) (Ao a1 (Ao a2 (Ao (q:=false) CC (Ao hq AH))))
   rw[Fz (by omega),Cu];simp only[lp,Bw,N,R,jL h,jJ,y a,FB,FA];rw[B1 (cs:=Gf) rfl,Cb];have hz:=Ax (H:=H) (x:=.cells true AB Gf) (by simp);rw[BX (vs:=Cx (uu (ty.getD i 0))) hz rfl rfl rfl,Cb];have k:=A7 (x:=.cells true AB Gf) (w.lt c) c;have C:Bk ((As H,c_ AB Gf)::H) AB 20 v (ty.take i).length ((ty.take i).flatMap HI):=a.lat w (Lat.cons H _ (λ_=>False)) (λ_ _ h=>h);obtain⟨X,Z,F,V,O⟩:=Ip (e:=AB) (zs:=Gf) (vs:=Cx (uu (ty.getD i 0))) w rfl;rw[<-Z];have m:=(O _ _ c).1;have D:Bk X AB 20 v (ty.take i).length ((ty.take i).flatMap HI):=by
    rcases a with a|⟨r,q,h1,h2,h3⟩
    ·exact .inl a
    ·exact .inr ⟨r,q,h1,(O _ _ h2).1,h3⟩
   have M:∀{K},AD AT (.ptr p 0 0) ((As H,c_ AB Gf)::H) K=K (.agg (B0 id (BC ks) (Ci xs) o)):=λ{K}=>Bu rfl rfl k;have J:∀{K},AD Aw (.ptr p 2 0) ((As H,c_ AB Gf)::H) K=K (Ci xs):=λ{K}=>AF (p:=2) rfl k (show 2<23 by decide);rw[M,Vr B4A,J,Vr (A5A xs),Vr (by rfl),y C,Vr (by rfl),I3];show A1 (.v (.bool false)) _ _=_;rw[AZ,Bu rfl rfl F];have Q:ty.take i++[ty.getD i 0]=ty.take (i+1):=by
    have P:i<ty.length:=by omega
    rw[oH P];simp[List.getD,KL P]
   obtain⟨v',Y,e5,t,w5, -,keep,new⟩:=C4s (ty.getD i 0) D V (by rw[l0h];omega);rw[e5,Db (by omega)];rw[Q]at t;exact ih (i+1) v' Y (by omega) (by omega) t (λe=>by rw[<-Q]at e;simp at e) (λB=>by have:=new _ B;have:=V.lt m;omega) (keep _ _ m hr) w5
  ·rw[Fp (by omega),AZ];have:i=xs.length:=by omega
   subst this;rw[<-g,wQ]at a A;exact hx v H a A c
end
end
section
variable{L n:Nat}
def A5m{H:Hp}{v:AV}{l:Hb}{i:Nat}(h:Bk H AB 20 v l.length (l.flatMap HI))(c:i<l.length):∃a,(∀K:K2,DC Al v (I i) K=K a)/\(∀K:K2,AD A0 a H K=K (.agg (Cx (uu l[i])))):=by
 rcases h with⟨_,h2,_⟩|⟨r,q,rfl,h2,b⟩
 ·omega
 ·refine⟨.ptr r (i*20) 0,λK=>?_,λK=>?_⟩
  ·have d:DC Al (.sl 20 r 0 l.length) (I (i:Int)) K=iN (i:Int) λm=>ck (Nat.blt m l.length) (fN (Nat.add 0 (Nat.mul m 20)) λp=>K (.ptr r p 0)):=r_ rfl;rw[d,Kk,Ee];have b:Nat.blt i l.length=true:=by rw[Xi];exact c
   rw[b];show K (.ptr r (0+i*20) 0)=_;rw[Kd]
  ·rw[D7 rfl h2 (by rw[b];show i*20+20<=_;omega)];have:((l.flatMap HI).drop (i*20)).take 20=HI l[i]:=vI HI 20 (λ_=>rfl) l i c;show K (.agg (((l.flatMap HI).drop (i*20)).take 20))=_;rw[this];rfl
def C0D{u:UD}{K:K2}:R7 HN .neq (.agg (Cx u)) (.agg (Cx u)) K=K (Bo false):=by
 have e:∀(xs:Hx),Yb xs xs=some true->∀K:K2,(match(generalizing:=false) Yb xs xs,BinOp.neq with
  |some q,.eql=>bB q K
  |some q,.neq=>bB (!q) K
  |_,_=>(none:Af))=K (Bo false):=λxs h K=>by rw[h];rfl
 exact e [.int .i64 u.p0,.int .i64 u.q0,.int .i64 u.p1,.int .i64 u.q1,.int .i64 u.p2,.int .i64 u.q2,.int .i64 u.p3,.int .i64 u.q3,.int .i64 u.p4,.int .i64 u.q4,.int .i64 u.p5,.int .i64 u.q5,.int .i64 u.p6,.int .i64 u.q6,
  .string ⟨⟨u.fn⟩⟩,.string ⟨⟨u.fd⟩⟩,.string ⟨⟨u.on⟩⟩,.string ⟨⟨u.od⟩⟩,.int .i64 u.kd,.int .i64 u.sc]
  (A2G _ (by simp[Yy])) K
section
variable{ks ty:Hb}{xs:List Nd}{id:Int}
def B4r(B:100<L)(C:RTy L n id ks xs (uu (ty.getD (xs.length-1) 0)) ty)(d:ty.length=xs.length)(F:∀k∈ks,k<52)(hb:ks.length<=6)(hn:1<=xs.length)(i:xs.length<=40)(h1:1<=id)(h2:id<=1000000):
 CS (r! L (n+43)) UJ [.agg (B0 id (BC ks) (Ci xs) (uu (ty.getD (xs.length-1) 0)))] (.tup [RM ty,I 0,I 0]):=by
 intro K A;rw[pR];unfold Uw QY Km A3;rw[DN (Ol (.inr ⟨_,_,rfl⟩) (.inr ⟨_,_,rfl⟩))];have c:=Ax (H:=[]) (x:=Je id (BC ks) (Ci xs) (uu (ty.getD (xs.length-1) 0))) (by simp);have w0:=AG (x:=Je id (BC ks) (Ci xs) (uu (ty.getD (xs.length-1) 0))) FH;generalize ((As [],Je id (BC ks) (Ci xs) (uu (ty.getD (xs.length-1) 0)))::([]:Hp))=r at c w0;generalize As []=p at c;have t:∀{K:K2},Ap (r! L (n+42)) OO [.agg (B0 id (BC ks) (Ci xs) (uu (ty.getD (xs.length-1) 0)))] r K=K (.tup [Bo true,Bo true]):=λ{K}=>AP (B0a (n:=n+1) B F hb hn i h1 h2) (Wn (.inr ⟨_,_,rfl⟩) (.inr ⟨_,_,rfl⟩));rw[Bu rfl rfl c,t,FB,FA,ntT,AZ];simp only[BE];refine B97 C d (by omega) ?_ (L+20) 0 _ r (by omega) (by omega) (.inl ⟨rfl,rfl,rfl⟩) (λ_=>rfl) (λ⟨_,_,_,h⟩=>by cases h) c w0;intro v H m y M;have w:∀{s j:Nat}{K:K2},CD j (.ptr s 0 0) K=K (.ptr s j 0):=λ{s j K}=>by rw[fA,Kd]
 have f:ty.length-1<ty.length:=by omega
 obtain⟨a,g,e⟩:=A5m m f;have J:∀{K},AD A0 (.ptr p 3 0) H K=K (.agg (Cx (uu (ty.getD (xs.length-1) 0)))):=λ{K}=>D7 (p:=3) rfl M (show 23<=23 by decide);have u:ty[ty.length-1]=ty.getD (xs.length-1) 0:=by rw[<-d];simp[List.getD,KL f]
 rw[u]at e;rw[Lr rfl m,Bw,gK (by omega) (by omega),Bw,g,Bw,e,Bw,w,Bw,J,Bw,C0D,Bw,AZ];exact A _ _ (λb=>by
  obtain⟨q,hq⟩:=mP (D:=depth-2) (b:=b) m y;exact⟨_,eV (D:=depth-1) (Ao hq (Ao (q:=false) CC (Ao (q:=false) CC AH)))⟩)
def A9X(j:100<L)(m:RTy L n id ks xs (uu (ty.getD (xs.length-1) 0)) ty)(a:ty.length=xs.length)(p:∀k∈ks,k<52)(hb:ks.length<=6)(hn:1<=xs.length)(d:xs.length<=40)(h1:1<=id)(h2:id<=1000000):
 CS (r! L (n+44)) Ge [.agg (B0 id (BC ks) (Ci xs) (uu (ty.getD (xs.length-1) 0)))] (Bo true):=by
 intro K i;rw[pP];unfold Ut Ih;rw[DN (Ol (.inr ⟨_,_,rfl⟩) (.inr ⟨_,_,rfl⟩))];have c:=Ax (H:=[]) (x:=Je id (BC ks) (Ci xs) (uu (ty.getD (xs.length-1) 0))) (by simp);generalize ((As [],Je id (BC ks) (Ci xs) (uu (ty.getD (xs.length-1) 0)))::([]:Hp))=e at c;have ck:∀{K:K2},Ap (r! L (n+43)) UJ [.agg (B0 id (BC ks) (Ci xs) (uu (ty.getD (xs.length-1) 0)))] e K=K (.tup [RM ty,I 0,I 0]):=λ{K}=>AP (B4r j m a p hb hn d h1 h2) (Wn (.inr ⟨_,_,rfl⟩) (.inr ⟨_,_,rfl⟩));have h:∀{K:K2},CM (.tup [RM ty,I 0,I 0]) 2 K=K (I 0):=λ{K}=>r_ rfl;have f:∀{K:K2},CM (.tup [RM ty,I 0,I 0]) 0 K=K (RM ty):=λ{K}=>r_ rfl;have g:∀{K:K2},CM (.tup [RM ty,I 0,I 0]) 1 K=K (I 0):=λ{K}=>r_ rfl;rw[Bu rfl rfl c,ck,f,g,h,B?];exact i _ _ (λb=>⟨false,λK=>by kernel_rfl⟩)
end
end
section
variable{L n:Nat}
section
variable{ks:Hb}{xs:List Nd}{id:Int}{o:UD}
def Lg(ks:Hb):List Nd:=(List.range ks.length).map dC
def DT:(Lg ks).length=ks.length:=by simp[Lg]
def iT{i:Nat}(h:i<(Lg ks).length):(Lg ks)[i]=dC i:=by simp[Lg]
def B93(hb:ks.length<=6):RTy L n id ks (Lg ks) o ks:=by
 intro i h;rw[iT h];have a:i<ks.length:=by rw[DT]at h;exact h
 have e:ks.getD i 0=ks[i]:=by simp[List.getD,KL a]
 rw[e];exact Zt (n:=n+39) hb a
def qU{y:Nd}{k:Nat}(hb:ks.length<=6)(d:CS (r! L (n+42)) CK [.agg (B0 id (BC ks) (Ci (Lg ks++[y])) o),.agg y.cs,I ks.length,RM ks] (.tup [.agg (Cx (uu k)),I 0])):
 RTy L n id ks (Lg ks++[y]) o (ks++[k]):=by
 intro i h;rw[EK,DT]at h;by_cases a:i<ks.length
 ·have e:(Lg ks++[y])[i]'(by rw[EK,DT];exact h)=dC i:=by
   rw[List.getElem_append_left (by rw[DT];exact a)];exact iT _
  rw[e];have b:(ks++[k]).getD i 0=ks[i]:=by simp[List.getD,l0m a,KL a]
  rw[b];exact Zt (n:=n+39) hb a
 ·have c:i=ks.length:=by simp at h;omega
  subst c;have e:(Lg ks++[y])[ks.length]'(by rw[EK,DT];exact h)=y:=by
   rw[List.getElem_append_right (by rw[DT];omega)];simp
  rw[e];have b:(ks++[k]).getD ks.length 0=k:=by simp[List.getD]
  rw[b,List.take_left']
  ·exact d
  ·rfl
end
end
section
def dg(k:Nat):Ha:=if k<10 then[UInt8.ofNat (48+k)] else if k<100 then[UInt8.ofNat (48+k/10),UInt8.ofNat (48+k%10)] else[UInt8.ofNat (48+k/100),UInt8.ofNat (48+k/10%10),UInt8.ofNat (48+k%10)]
variable(L n:Nat)
def B9u:((List.range 50).all λk=>(λi=>JQ (Ba (Du (r! L (n+10)) Cj [I (i:Nat)]) (S (dg i)))) (k+0))=true:=by kernel_rfl
def B9t:((List.range 50).all λk=>(λi=>JQ (Ba (Du (r! L (n+10)) Cj [I (i:Nat)]) (S (dg i)))) (k+50))=true:=by kernel_rfl
def B9s:((List.range 50).all λk=>(λi=>JQ (Ba (Du (r! L (n+10)) Cj [I (i:Nat)]) (S (dg i)))) (k+100))=true:=by kernel_rfl
def B9r:((List.range 50).all λk=>(λi=>JQ (Ba (Du (r! L (n+10)) Cj [I (i:Nat)]) (S (dg i)))) (k+150))=true:=by kernel_rfl
def B9q:((List.range 50).all λk=>(λi=>JQ (Ba (Du (r! L (n+10)) Cj [I (i:Nat)]) (S (dg i)))) (k+200))=true:=by kernel_rfl
def B9p:((List.range 50).all λk=>(λi=>JQ (Ba (Du (r! L (n+10)) Cj [I (i:Nat)]) (S (dg i)))) (k+250))=true:=by kernel_rfl
def B9o:((List.range 50).all λk=>(λi=>JQ (Ba (Du (r! L (n+10)) Cj [I (i:Nat)]) (S (dg i)))) (k+300))=true:=by kernel_rfl
def B9n:((List.range 50).all λk=>(λi=>JQ (Ba (Du (r! L (n+10)) Cj [I (i:Nat)]) (S (dg i)))) (k+350))=true:=by kernel_rfl
def B9m:((List.range 50).all λk=>(λi=>JQ (Ba (Du (r! L (n+10)) Cj [I (i:Nat)]) (S (dg i)))) (k+400))=true:=by kernel_rfl
def B9l:((List.range 50).all λk=>(λi=>JQ (Ba (Du (r! L (n+10)) Cj [I (i:Nat)]) (S (dg i)))) (k+450))=true:=by kernel_rfl
def B4q:((List.range 50).all λk=>(λi=>JQ (Ba (Du (r! L (n+10)) Cj [I (i:Nat)]) (S (dg i)))) (k+500))=true:=by kernel_rfl
def B4p:((List.range 50).all λk=>(λi=>JQ (Ba (Du (r! L (n+10)) Cj [I (i:Nat)]) (S (dg i)))) (k+550))=true:=by kernel_rfl
def B4o:((List.range 50).all λk=>(λi=>JQ (Ba (Du (r! L (n+10)) Cj [I (i:Nat)]) (S (dg i)))) (k+600))=true:=by kernel_rfl
def B4n:((List.range 50).all λk=>(λi=>JQ (Ba (Du (r! L (n+10)) Cj [I (i:Nat)]) (S (dg i)))) (k+650))=true:=by kernel_rfl
def B4m:((List.range 50).all λk=>(λi=>JQ (Ba (Du (r! L (n+10)) Cj [I (i:Nat)]) (S (dg i)))) (k+700))=true:=by kernel_rfl
def B4l:((List.range 50).all λk=>(λi=>JQ (Ba (Du (r! L (n+10)) Cj [I (i:Nat)]) (S (dg i)))) (k+750))=true:=by kernel_rfl
def B4k:((List.range 50).all λk=>(λi=>JQ (Ba (Du (r! L (n+10)) Cj [I (i:Nat)]) (S (dg i)))) (k+800))=true:=by kernel_rfl
def B4j:((List.range 50).all λk=>(λi=>JQ (Ba (Du (r! L (n+10)) Cj [I (i:Nat)]) (S (dg i)))) (k+850))=true:=by kernel_rfl
def B4i:((List.range 50).all λk=>(λi=>JQ (Ba (Du (r! L (n+10)) Cj [I (i:Nat)]) (S (dg i)))) (k+900))=true:=by kernel_rfl
def C57(i:Nat)(h:i<950):PS (r! L (n+10)) Cj [I (i:Nat)] (S (dg i)):=by
 refine BJ (λH=>by first|exact λK=>by kernel_rfl) ?_;by_cases p:i<50
 ·have:=GG.1 (B9u L n) (i-0) (KR.2 (by omega));have e:i-0+0=i:=by omega
  simp only[e]at this;exact this
 by_cases h1:i<100
 ·have:=GG.1 (B9t L n) (i-50) (KR.2 (by omega));have e:i-50+50=i:=by omega
  simp only[e]at this;exact this
 by_cases h2:i<150
 ·have:=GG.1 (B9s L n) (i-100) (KR.2 (by omega));have e:i-100+100=i:=by omega
  simp only[e]at this;exact this
 by_cases q:i<200
 ·have:=GG.1 (B9r L n) (i-150) (KR.2 (by omega));have e:i-150+150=i:=by omega
  simp only[e]at this;exact this
 by_cases r:i<250
 ·have:=GG.1 (B9q L n) (i-200) (KR.2 (by omega));have e:i-200+200=i:=by omega
  simp only[e]at this;exact this
 by_cases s:i<300
 ·have:=GG.1 (B9p L n) (i-250) (KR.2 (by omega));have e:i-250+250=i:=by omega
  simp only[e]at this;exact this
 by_cases t:i<350
 ·have:=GG.1 (B9o L n) (i-300) (KR.2 (by omega));have e:i-300+300=i:=by omega
  simp only[e]at this;exact this
 by_cases u:i<400
 ·have:=GG.1 (B9n L n) (i-350) (KR.2 (by omega));have e:i-350+350=i:=by omega
  simp only[e]at this;exact this
 by_cases v:i<450
 ·have:=GG.1 (B9m L n) (i-400) (KR.2 (by omega));have e:i-400+400=i:=by omega
  simp only[e]at this;exact this
 by_cases w:i<500
 ·have:=GG.1 (B9l L n) (i-450) (KR.2 (by omega));have e:i-450+450=i:=by omega
  simp only[e]at this;exact this
 by_cases a:i<550
 ·have:=GG.1 (B4q L n) (i-500) (KR.2 (by omega));have e:i-500+500=i:=by omega
  simp only[e]at this;exact this
 by_cases b:i<600
 ·have:=GG.1 (B4p L n) (i-550) (KR.2 (by omega));have e:i-550+550=i:=by omega
  simp only[e]at this;exact this
 by_cases c:i<650
 ·have:=GG.1 (B4o L n) (i-600) (KR.2 (by omega));have e:i-600+600=i:=by omega
  simp only[e]at this;exact this
 by_cases d:i<700
 ·have:=GG.1 (B4n L n) (i-650) (KR.2 (by omega));have e:i-650+650=i:=by omega
  simp only[e]at this;exact this
 by_cases f:i<750
 ·have:=GG.1 (B4m L n) (i-700) (KR.2 (by omega));have e:i-700+700=i:=by omega
  simp only[e]at this;exact this
 by_cases g:i<800
 ·have:=GG.1 (B4l L n) (i-750) (KR.2 (by omega));have e:i-750+750=i:=by omega
  simp only[e]at this;exact this
 by_cases j:i<850
 ·have:=GG.1 (B4k L n) (i-800) (KR.2 (by omega));have e:i-800+800=i:=by omega
  simp only[e]at this;exact this
 by_cases k:i<900
 ·have:=GG.1 (B4j L n) (i-850) (KR.2 (by omega));have e:i-850+850=i:=by omega
  simp only[e]at this;exact this
 by_cases m:i<950
 ·have:=GG.1 (B4i L n) (i-900) (KR.2 (by omega));have e:i-900+900=i:=by omega
  simp only[e]at this;exact this
 omega
end
section
variable(L n:Nat)
def B7l:((List.range 50).all λk=>(λi=>JQ (Ba (Du (r! L (n+10)) BV [I (i:Nat)]) (S (dg i)))) (k+0))=true:=by kernel_rfl
def B7k:((List.range 50).all λk=>(λi=>JQ (Ba (Du (r! L (n+10)) BV [I (i:Nat)]) (S (dg i)))) (k+50))=true:=by kernel_rfl
def B7j:((List.range 50).all λk=>(λi=>JQ (Ba (Du (r! L (n+10)) BV [I (i:Nat)]) (S (dg i)))) (k+100))=true:=by kernel_rfl
def B7i:((List.range 50).all λk=>(λi=>JQ (Ba (Du (r! L (n+10)) BV [I (i:Nat)]) (S (dg i)))) (k+150))=true:=by kernel_rfl
def B7h:((List.range 50).all λk=>(λi=>JQ (Ba (Du (r! L (n+10)) BV [I (i:Nat)]) (S (dg i)))) (k+200))=true:=by kernel_rfl
def B7g:((List.range 50).all λk=>(λi=>JQ (Ba (Du (r! L (n+10)) BV [I (i:Nat)]) (S (dg i)))) (k+250))=true:=by kernel_rfl
def B7f:((List.range 50).all λk=>(λi=>JQ (Ba (Du (r! L (n+10)) BV [I (i:Nat)]) (S (dg i)))) (k+300))=true:=by kernel_rfl
def B7e:((List.range 50).all λk=>(λi=>JQ (Ba (Du (r! L (n+10)) BV [I (i:Nat)]) (S (dg i)))) (k+350))=true:=by kernel_rfl
def B7d:((List.range 50).all λk=>(λi=>JQ (Ba (Du (r! L (n+10)) BV [I (i:Nat)]) (S (dg i)))) (k+400))=true:=by kernel_rfl
def B7c:((List.range 50).all λk=>(λi=>JQ (Ba (Du (r! L (n+10)) BV [I (i:Nat)]) (S (dg i)))) (k+450))=true:=by kernel_rfl
def B3n:((List.range 50).all λk=>(λi=>JQ (Ba (Du (r! L (n+10)) BV [I (i:Nat)]) (S (dg i)))) (k+500))=true:=by kernel_rfl
def B3m:((List.range 50).all λk=>(λi=>JQ (Ba (Du (r! L (n+10)) BV [I (i:Nat)]) (S (dg i)))) (k+550))=true:=by kernel_rfl
def B3l:((List.range 50).all λk=>(λi=>JQ (Ba (Du (r! L (n+10)) BV [I (i:Nat)]) (S (dg i)))) (k+600))=true:=by kernel_rfl
def B3k:((List.range 50).all λk=>(λi=>JQ (Ba (Du (r! L (n+10)) BV [I (i:Nat)]) (S (dg i)))) (k+650))=true:=by kernel_rfl
def B3j:((List.range 50).all λk=>(λi=>JQ (Ba (Du (r! L (n+10)) BV [I (i:Nat)]) (S (dg i)))) (k+700))=true:=by kernel_rfl
def B3i:((List.range 50).all λk=>(λi=>JQ (Ba (Du (r! L (n+10)) BV [I (i:Nat)]) (S (dg i)))) (k+750))=true:=by kernel_rfl
def B3h:((List.range 50).all λk=>(λi=>JQ (Ba (Du (r! L (n+10)) BV [I (i:Nat)]) (S (dg i)))) (k+800))=true:=by kernel_rfl
def B3g:((List.range 50).all λk=>(λi=>JQ (Ba (Du (r! L (n+10)) BV [I (i:Nat)]) (S (dg i)))) (k+850))=true:=by kernel_rfl
def B3f:((List.range 50).all λk=>(λi=>JQ (Ba (Du (r! L (n+10)) BV [I (i:Nat)]) (S (dg i)))) (k+900))=true:=by kernel_rfl
def C4Z(i:Nat)(h:i<950):PS (r! L (n+10)) BV [I (i:Nat)] (S (dg i)):=by
 refine BJ (λH=>by first|exact λK=>by kernel_rfl) ?_;by_cases p:i<50
 ·have:=GG.1 (B7l L n) (i-0) (KR.2 (by omega));have e:i-0+0=i:=by omega
  simp only[e]at this;exact this
 by_cases h1:i<100
 ·have:=GG.1 (B7k L n) (i-50) (KR.2 (by omega));have e:i-50+50=i:=by omega
  simp only[e]at this;exact this
 by_cases h2:i<150
 ·have:=GG.1 (B7j L n) (i-100) (KR.2 (by omega));have e:i-100+100=i:=by omega
  simp only[e]at this;exact this
 by_cases q:i<200
 ·have:=GG.1 (B7i L n) (i-150) (KR.2 (by omega));have e:i-150+150=i:=by omega
  simp only[e]at this;exact this
 by_cases r:i<250
 ·have:=GG.1 (B7h L n) (i-200) (KR.2 (by omega));have e:i-200+200=i:=by omega
  simp only[e]at this;exact this
 by_cases s:i<300
 ·have:=GG.1 (B7g L n) (i-250) (KR.2 (by omega));have e:i-250+250=i:=by omega
  simp only[e]at this;exact this
 by_cases t:i<350
 ·have:=GG.1 (B7f L n) (i-300) (KR.2 (by omega));have e:i-300+300=i:=by omega
  simp only[e]at this;exact this
 by_cases u:i<400
 ·have:=GG.1 (B7e L n) (i-350) (KR.2 (by omega));have e:i-350+350=i:=by omega
  simp only[e]at this;exact this
 by_cases v:i<450
 ·have:=GG.1 (B7d L n) (i-400) (KR.2 (by omega));have e:i-400+400=i:=by omega
  simp only[e]at this;exact this
 by_cases w:i<500
 ·have:=GG.1 (B7c L n) (i-450) (KR.2 (by omega));have e:i-450+450=i:=by omega
  simp only[e]at this;exact this
 by_cases a:i<550
 ·have:=GG.1 (B3n L n) (i-500) (KR.2 (by omega));have e:i-500+500=i:=by omega
  simp only[e]at this;exact this
 by_cases b:i<600
 ·have:=GG.1 (B3m L n) (i-550) (KR.2 (by omega));have e:i-550+550=i:=by omega
  simp only[e]at this;exact this
 by_cases c:i<650
 ·have:=GG.1 (B3l L n) (i-600) (KR.2 (by omega));have e:i-600+600=i:=by omega
  simp only[e]at this;exact this
 by_cases d:i<700
 ·have:=GG.1 (B3k L n) (i-650) (KR.2 (by omega));have e:i-650+650=i:=by omega
  simp only[e]at this;exact this
 by_cases f:i<750
 ·have:=GG.1 (B3j L n) (i-700) (KR.2 (by omega));have e:i-700+700=i:=by omega
  simp only[e]at this;exact this
 by_cases g:i<800
 ·have:=GG.1 (B3i L n) (i-750) (KR.2 (by omega));have e:i-750+750=i:=by omega
  simp only[e]at this;exact this
 by_cases j:i<850
 ·have:=GG.1 (B3h L n) (i-800) (KR.2 (by omega));have e:i-800+800=i:=by omega
  simp only[e]at this;exact this
 by_cases k:i<900
 ·have:=GG.1 (B3g L n) (i-850) (KR.2 (by omega));have e:i-850+850=i:=by omega
  simp only[e]at this;exact this
 by_cases m:i<950
 ·have:=GG.1 (B3f L n) (i-900) (KR.2 (by omega));have e:i-900+900=i:=by omega
  simp only[e]at this;exact this
 omega
end
section
def exN(j:Nat):Nd:=
 if j<3 then dC j
 else if j<39 then⟨(3+(j-3)/9:Nat),[],[],u0,0,((j-3)/3%3:Nat),((j-3)%3:Nat)⟩
 else⟨7,[],[],u0,mV ((j-39)%5),((j-39)/5:Nat),0⟩
def GI:List Ha:=[[],[99,111,110,115,116],[105,110,112,117,116],[97,100,100],[115,117,98],[109,117,108],[100,105,118],[112,111,119],[115,113,114,116]]
def exT(j:Nat):Ha:=
 if j<3 then GI.getD 2 []++[32]++dec j
 else if j<39 then GI.getD (3+(j-3)/9) []++[32]++dec ((j-3)/3%3:Nat)++[32]++dec ((j-3)%3:Nat)
 else GI.getD 7 []++[32]++dec ((j-39)/5:Nat)++[32]++dec (mV ((j-39)%5))
variable(L n:Nat)
def B05:((List.range 54).all λi=>JQ (Ba (Du (r! L (n+41)) J0 [.agg (exN i).cs]) (S (exT i))))=true:=by kernel_rfl
end
section
def frL:List (Ha×Ha):=[([45,54],[49]),
 ([45,51],[49]),
 ([45,50],[49]),
 ([45,51],[50]),
 ([45,53],[49]),
 ([45,53],[50]),
 ([45,53],[51]),
 ([45,53],[52]),
 ([45,52],[49]),
 ([45,52],[51]),
 ([45,49],[49]),
 ([45,51],[52]),
 ([45,50],[51]),
 ([45,49],[50]),
 ([45,49],[51]),
 ([45,49],[52]),
 ([48],[49]),
 ([49],[49]),
 ([49],[50]),
 ([49],[51]),
 ([49],[52]),
 ([50],[49]),
 ([50],[51]),
 ([51],[49]),
 ([51],[50]),
 ([51],[52]),
 ([52],[49]),
 ([52],[51]),
 ([53],[49]),
 ([53],[50]),
 ([53],[51]),
 ([53],[52]),
 ([54],[49])]
def frn(i:Nat):Ha:=(frL.getD i ([],[])).1
def frd(i:Nat):Ha:=(frL.getD i ([],[])).2
abbrev fR(i:Nat):Is:=[S (frn i),S (frd i)]
def frt(i:Nat):Ha:=if frd i=[49] then frn i else frn i++[47]++frd i
def C3O:List Hb:=[[0,1,2,3],[4,5,6,7],[8,2,9,10],[1,3,10,11],[2,10,12,13],[10,13,14,15],[16,16,16,16],[17,18,19,20],[21,17,22,18],[23,24,17,25],[26,21,27,17],[28,29,30,31],[32,23,21,24]]
def mQ(a b:Nat):Nat:=(C3O.getD a []).getD b 0
variable(L n:Nat)
def B09:((List.range 13).all λk=>(λi=>JQ (Ba (Du (r! L (n+40)) Gy [I (((i/4:Nat):Int)-6),I (1+((i%4:Nat):Int))]) (.tup [.agg (fR (mQ (i/4) (i%4))),I 0]))) (k+0))=true:=by kernel_rfl
def B08:((List.range 13).all λk=>(λi=>JQ (Ba (Du (r! L (n+40)) Gy [I (((i/4:Nat):Int)-6),I (1+((i%4:Nat):Int))]) (.tup [.agg (fR (mQ (i/4) (i%4))),I 0]))) (k+13))=true:=by kernel_rfl
def B07:((List.range 13).all λk=>(λi=>JQ (Ba (Du (r! L (n+40)) Gy [I (((i/4:Nat):Int)-6),I (1+((i%4:Nat):Int))]) (.tup [.agg (fR (mQ (i/4) (i%4))),I 0]))) (k+26))=true:=by kernel_rfl
def B06:((List.range 13).all λk=>(λi=>JQ (Ba (Du (r! L (n+40)) Gy [I (((i/4:Nat):Int)-6),I (1+((i%4:Nat):Int))]) (.tup [.agg (fR (mQ (i/4) (i%4))),I 0]))) (k+39))=true:=by kernel_rfl
def B9k(i:Nat)(h:i<52):PS (r! L (n+40)) Gy [I (((i/4:Nat):Int)-6),I (1+((i%4:Nat):Int))] (.tup [.agg (fR (mQ (i/4) (i%4))),I 0]):=by
 refine BJ (λH=>by first|exact λK=>by kernel_rfl) ?_;by_cases a:i<13
 ·have:=GG.1 (B09 L n) (i-0) (KR.2 (by omega));have e:i-0+0=i:=by omega
  simp only[e]at this;exact this
 by_cases h1:i<26
 ·have:=GG.1 (B08 L n) (i-13) (KR.2 (by omega));have e:i-13+13=i:=by omega
  simp only[e]at this;exact this
 by_cases h2:i<39
 ·have:=GG.1 (B07 L n) (i-26) (KR.2 (by omega));have e:i-26+26=i:=by omega
  simp only[e]at this;exact this
 by_cases b:i<52
 ·have:=GG.1 (B06 L n) (i-39) (KR.2 (by omega));have e:i-39+39=i:=by omega
  simp only[e]at this;exact this
 ·omega
def A1l:((List.range 11).all λk=>(λi=>JQ (Ba (Du (r! L (n+40)) F6 [.agg (fR i)]) (Bo true))) (k+0))=true:=by kernel_rfl
def A1k:((List.range 11).all λk=>(λi=>JQ (Ba (Du (r! L (n+40)) F6 [.agg (fR i)]) (Bo true))) (k+11))=true:=by kernel_rfl
def A1j:((List.range 11).all λk=>(λi=>JQ (Ba (Du (r! L (n+40)) F6 [.agg (fR i)]) (Bo true))) (k+22))=true:=by kernel_rfl
def A78(i:Nat)(h:i<33):PS (r! L (n+40)) F6 [.agg (fR i)] (Bo true):=by
 refine BJ (λH=>by first|exact λK=>by kernel_rfl) ?_;by_cases a:i<11
 ·have:=GG.1 (A1l L n) (i-0) (KR.2 (by omega));have e:i-0+0=i:=by omega
  simp only[e]at this;exact this
 by_cases h1:i<22
 ·have:=GG.1 (A1k L n) (i-11) (KR.2 (by omega));have e:i-11+11=i:=by omega
  simp only[e]at this;exact this
 by_cases h2:i<33
 ·have:=GG.1 (A1j L n) (i-22) (KR.2 (by omega));have e:i-22+22=i:=by omega
  simp only[e]at this;exact this
 ·omega
def A1o:((List.range 11).all λk=>(λi=>JQ (Ba (Du (r! L (n+40)) MO [.agg (fR i)]) (S (frt i)))) (k+0))=true:=by kernel_rfl
def A1n:((List.range 11).all λk=>(λi=>JQ (Ba (Du (r! L (n+40)) MO [.agg (fR i)]) (S (frt i)))) (k+11))=true:=by kernel_rfl
def A1m:((List.range 11).all λk=>(λi=>JQ (Ba (Du (r! L (n+40)) MO [.agg (fR i)]) (S (frt i)))) (k+22))=true:=by kernel_rfl
def A79(i:Nat)(h:i<33):PS (r! L (n+40)) MO [.agg (fR i)] (S (frt i)):=by
 refine BJ (λH=>by first|exact λK=>by kernel_rfl) ?_;by_cases a:i<11
 ·have:=GG.1 (A1o L n) (i-0) (KR.2 (by omega));have e:i-0+0=i:=by omega
  simp only[e]at this;exact this
 by_cases h1:i<22
 ·have:=GG.1 (A1n L n) (i-11) (KR.2 (by omega));have e:i-11+11=i:=by omega
  simp only[e]at this;exact this
 by_cases h2:i<33
 ·have:=GG.1 (A1m L n) (i-22) (KR.2 (by omega));have e:i-22+22=i:=by omega
  simp only[e]at this;exact this
 ·omega
end
section
variable(L n:Nat)
def A8Z:((List.range 54).all λi=>JQ (Ba (Du (r! L (n+41)) FL [.agg (exN i).cs]) (S (exT i))))=true:=by kernel_rfl
def cnN(i k:Nat):Nd:=⟨1,frn i,frd i,uu k,0,0,0⟩
def cnT(i k:Nat):Ha:=GI.getD 1 []++[32]++frt i++[32]++Ly k
end
end Go.Abs
end
noncomputable section
end
noncomputable section
namespace Go.Abs
open Go.RowKit Go.Proofs
set_option maxRecDepth 100000
section
variable{v:AV}{args:Is}{f:Nat}{R:Rt}
variable{L n:Nat}
def RV(R:Rt)(f:Nat)(args:Is)(v:AV):Prop:=∀b,(R.call f args [] λv d=>HV b d depth v λ_ e=>some (e,[]))=some (v,[])
def rR{args args':Is}{H:Hp}{q:Bool}{K:K2}(hc:RV R f args' v)(d:R9 true depth args args' H q):Ap R f args H K=K v:=by
 unfold Ap;rw[d];show Au (R.call f args' [] _) K=K v;rw[hc (!q)];rfl
def CS.rv(h:CS R f args v):RV R f args v:=λb=>h _ λe d hv=>by
 obtain⟨q,hq⟩:=hv b;exact hq _
abbrev fnA(f:Nat):AV:=.fn (.func f) [] []
abbrev fM(w:Ha)(F:AV)(g:Nat):AV:=.agg [S w,F,fnA g]
abbrev oQ:AV:=.list 2 [fnA Qd,fnA jE]
abbrev B9z:AV:=.list 2 [fnA Qd,fnA Ta]
abbrev B9K:AV:=.list 1 [fnA Ta]
abbrev YC:AV:=.imap [(.int .i64 1,fM (GI.getD 1 []) Av DV),(.int .i64 2,fM (GI.getD 2 []) B9K FR),
 (.int .i64 3,fM (GI.getD 3 []) oQ Fh),(.int .i64 4,fM (GI.getD 4 []) oQ D5),
 (.int .i64 5,fM (GI.getD 5 []) oQ Ed),(.int .i64 6,fM (GI.getD 6 []) oQ DU),
 (.int .i64 7,fM (GI.getD 7 []) B9z ED),(.int .i64 8,fM (GI.getD 8 []) (.list 1 [fnA Qd]) Tb)]
def B60:PS (r! L (n+1)) IC [] YC:=BJ (λH K=>by kernel_rfl) (by kernel_rfl)
abbrev XY(I U:AV):AV:=.iptr [YC,I,U]
variable{I1:AV}{a b c i k:Nat}
end
section
variable{L n:Nat}
section
variable{H:Hp}{c:Nat}{v I1 F:AV}{l:Hb}{y:Nd}{w:Ha}{g k:Nat}
abbrev XM(I1 v:AV):Row:=.cells true ZL [YC,I1,v]
def C0i(hc:Ai H c=some (XM I1 v))(h:Bk H AB 20 v l.length (l.flatMap HI))(e:l=[]->v=Av)(f:Sl I1):Fx true depth (.ptr c 0 0) (XY I1 (RM l)) H true:=by
 obtain⟨q,hq⟩:=mP (D:=depth-2) (b:=true) h e;have a1:Fx true (depth-1) YC YC H false:=λK=>r_ rfl;have a2:Fx true (depth-1) I1 I1 H false:=by rcases f with rfl|⟨_,_,rfl⟩<;>exact λK=>r_ rfl
 have d:R9 true (depth-1) [YC,I1,v] [YC,I1,RM l] H (false||(false||(q||false))):=Ao a1 (Ao a2 (Ao hq AH));intro K;show IR H c (λx=>Ki x λ_ cs=>II (HV true H (depth-1)) (Dn (Nat.add 0 0) cs) λ_ a=>K true (.iptr a))=_;rw[Bp hc];show II (HV true H (depth-1)) (Dn 0 [YC,I1,v]) (λ_ a=>K true (.iptr a))=_;rw[CA,rB,d]
def A57{f m:Nat}{args:Is}{K:KV}(hn:(E (L+20)).ne f=false)(b:(E (L+20)).imp f=false)(hz:∀s,args≠[.ptr s 0 0]):C4 (E (L+20)) (rt (L+20) m) (fnA f) args H K=Ap (rt (L+20) m) f args H λv=>K v H:=by
 show SX args [] (λa=>SX [] a λall=>A24 ((E (L+20)).ne f) all H K (@Bool.rec (λ_=>Af) (zpm (E (L+20)) f (rt (L+20) m) all H λv=>K v H) ((rt (L+20) m).call f all H K) ((E (L+20)).imp f)))=_;rw[Jx,Jx,hn,b,V0,l3b];show zpm (E (L+20)) f (rt (L+20) m) args H (λv=>K v H)=_;rw[A2U hz]
def B0y{K:Af}(h:fF v v=true):Qq (Ba (some (v,H)) v) K=K:=by
 show Qq (some (.v (.bool (fF v v)),[])) K=K;rw[h];rfl
def A10{e z n:Nat}{cs:Is}(h:Bk H e z v n cs):fF v v=true:=by
 rcases h with⟨rfl,_⟩|⟨r,q,rfl,_⟩
 ·rfl
 ·show(Nat.beq z z&&(Nat.beq r r&&(Nat.beq 0 0&&Nat.beq n n)))=true;simp
def B1S{K:K2}{t:TI}:Ar t .eql (I 0) (.v (.int .i64 0)) K=K (Bo true):=by rw[Cl,HR rfl]
def C1R(hc:Ai H c=some (XM I1 v))(hs:Bk H AB 20 v l.length (l.flatMap HI))(h0:l=[]->v=Av)(hr:¬A9 v c)(wf:Wf H)(hb:l.length<100)(hI:Sl I1)(hF:Sl F)(hk:∀H K,(Xj .i64 (I y.op) λq=>ZE B2 true YC q H K)=K (.tup [fM w F g,Bo true]))(ha:fF (.tup [fM w F g,Bo true]) (.tup [fM w F g,Bo true])=true)(hn:(E (L+20)).ne g=false)(hi:(E (L+20)).imp g=false)(hh:RV (r! L (n+41)) BW [XY I1 (RM l),fM w F g,.agg y.cs] (Bo true))(B:RV (r! L (n+41)) g [XY I1 (RM l),.agg y.cs] (.tup [.agg (Cx (uu k)),I 0])):
 ∃f J,(∀K,(r! L (n+42)).call Jo [.ptr c 0 0,.agg y.cs] H K=K (Bo true) J)/\Ai J c=some (XM I1 f)/\Bk J AB 20 f (l++[k]).length ((l++[k]).flatMap HI)/\¬A9 f c/\Wf J/\As H<=As J/\(∀s x,Ai H s=some x->s≠c->¬A9 v s->Ai J s=some x)/\(∀s,A9 f s->As H<=s):=by
 have i:=Ax (H:=H) (x:=XQ y) (by simp);have t:=A7 (x:=XQ y) (wf.lt hc) hc;have w1:=AG (x:=XQ y) wf;have Y:Bk ((As H,XQ y)::H) AB 20 v l.length (l.flatMap HI):=hs.lat wf (Lat.cons H _ (λ_=>False)) (λ_ _ h=>h);have ad:∀s x,Ai H s=some x->Ai ((As H,XQ y)::H) s=some x:=λs x h=>A7 (wf.lt h) h;have n1:As H<=As ((As H,XQ y)::H):=l1u _;have aj:∀s,A9 v s->s<As H:=λs B=>by
  rcases hs with⟨rfl,_⟩|⟨r,q,rfl,h2,_⟩
  ·obtain⟨_,_,_,h⟩:=B;cases h
  ·obtain⟨_,_,_,h⟩:=B;cases h;exact wf.lt h2
 have ey:∀K:KV,FN AY (.agg y.cs) H K=K (.ptr (As H) 0 0) ((As H,XQ y)::H):=λK=>DN A3V;have yl:=wf.lt hc;generalize a4:((As H,XQ y)::H)=d at i t w1 Y ad n1 ey;generalize a5:As H=r at i ey yl n1 aj;obtain⟨m,e2,X,w2,k2⟩:=Ip (e:=C9) (zs:=[zS,zL,.v .nilFunc]) (vs:=[S w,F,fnA g]) w1 rfl;have ai:=Ax (H:=d) (x:=.cells true C9 [zS,zL,.v .nilFunc]) (by simp);have N:=A7 (x:=.cells true C9 [zS,zL,.v .nilFunc]) (w1.lt t) t;have ac:=A7 (x:=.cells true C9 [zS,zL,.v .nilFunc]) (w1.lt i) i;obtain⟨O,a6⟩:=k2 _ _ t;obtain⟨ao,a8⟩:=k2 _ _ i;have Z:Bk m AB 20 v l.length (l.flatMap HI):=by
  rcases Y with h|⟨r,q,h1,h2,h3⟩
  ·exact .inl h
  ·exact .inr ⟨r,q,h1,(k2 _ _ h2).1,h3⟩
 have n2:As d<=As m:=by rw[e2,B4];exact l1u _
 obtain⟨C,e3,ak,w3,k3⟩:=Ip (e:=AB) (zs:=Gf) (vs:=Cx (uu k)) w2 rfl;obtain⟨A,a7⟩:=k3 _ _ O;have aa:Bk C AB 20 v l.length (l.flatMap HI):=by
  rcases Z with h|⟨r,q,h1,h2,h3⟩
  ·exact .inl h
  ·exact .inr ⟨r,q,h1,(k3 _ _ h2).1,h3⟩
 have n3:As m<=As C:=by rw[e3,B4];exact l1u _
 obtain⟨f,M,e4,ab,w4,n4,k4,ah⟩:=C4s k aa w3 hb;have Q:=k4 _ _ A hr;have R:¬A9 f c:=λB=>by have:=ah c B;have:=w3.lt A;omega
 have D:B3 f=[f]/\AV.one f=true:=by
  rcases ab with⟨rfl,_⟩|⟨a,b,rfl,_⟩<;>exact⟨rfl,rfl⟩
 refine⟨f,upd M c (XM I1 f),λK=>?_,AC Q,ab.lat w4 (Lat.upd M c _ (P:=λu=>u=c) rfl) (λu B e=>R (e▸B)),R,Bj w4,by rw[B4];omega,λs x h h1 h2=>?_,λs B=>by have:=ah s B;omega⟩
 ·rw[Rn];unfold Jl Dz FQ A3 Kn Ga;rw[ey];have f0:∀{s j:Nat}{K:K2},CD j (.ptr s 0 0) K=K (.ptr s j 0):=λ{s j K}=>by rw[fA,Kd]
  have lk1:∀{K},AD DS (.ptr c 0 0) d K=K YC:=λ{K}=>AF (p:=0) rfl t (show 0<3 by decide);have ay:∀{K},AD Ab (.ptr r 0 0) d K=K (I y.op):=λ{K}=>AF (p:=0) rfl i (show 0<26 by decide);have af:∀{K},AD DS (.ptr c 0 0) ((As d,c_ C9 [zS,zL,.v .nilFunc])::d) K=K YC:=λ{K}=>AF (p:=0) rfl N (show 0<3 by decide);have ag:∀{K},AD Ab (.ptr r 0 0) ((As d,c_ C9 [zS,zL,.v .nilFunc])::d) K=K (I y.op):=λ{K}=>AF (p:=0) rfl ac (show 0<26 by decide);have al:∀{K:KV},Bx C9 B2 d K=K (.ptr (As d) 0 0) ((As d,c_ C9 [zS,zL,.v .nilFunc])::d):=λ{K}=>B1 rfl;have st:∀{K:Ru},DF B2 (.ptr (As d) 0 0) (fM w F g) ((As d,c_ C9 [zS,zL,.v .nilFunc])::d) K=K m:=λ{K}=>by
   rw[e2];exact BX (vs:=[S w,F,fnA g]) ai rfl rfl (by rcases hF with rfl|⟨_,_,rfl⟩<;>rfl)
  have o1:∀{K:Af}{H:Hp},Qq (Ba (some (YC,H)) YC) K=K:=λ{K H}=>by kernel_rfl
  have o2:∀{K:Af}{H:Hp}{z:Int},Qq (Ba (some (I z,H)) (I z)) K=K:=λ{K H z}=>Vr (by rfl);have o3:∀{K:Af}{H:Hp},Qq (Ba (some (.tup [fM w F g,Bo true],H)) (.tup [fM w F g,Bo true])) K=K:=λ{K H}=>by
   show Qq (some (.v (.bool (fF _ _)),[])) K=K;rw[ha];rfl
  simp only[Iz,Bw,f0,lk1,ay,hk,FB,FA,al,Cb,st,af,ag,o1,o2,o3,ntT];have ar:∀{K},AD B2 (.ptr (As d) 0 0) m K=K (fM w F g):=λ{K}=>Bu rfl rfl X;have az:∀{K},AD AM (.ptr r 0 0) m K=K (.agg y.cs):=λ{K}=>Bu rfl rfl ao;have aq:∀{K},AD Aa (.ptr (As d) 2 0) m K=K (fnA g):=λ{K}=>AF (p:=2) rfl X (show 2<3 by decide);have a1:=C0i O Z h0 hI;have a2:Fx true depth (fM w F g) (fM w F g) m false:=by rcases hF with rfl|⟨_,_,rfl⟩<;>exact λK=>by kernel_rfl
  have a3:Fx true depth (.agg y.cs) (.agg y.cs) m false:=λK=>by kernel_rfl
  have V:∀{K:K2},Ap (r! L (n+41)) BW [.ptr c 0 0,fM w F g,.agg y.cs] m K=K (Bo true):=λ{K}=>rR hh (Ao a1 (Ao a2 (Ao a3 AH)));have am:∀{K:K2},Ap (r! L (n+41)) g [.ptr c 0 0,.agg y.cs] m K=K (.tup [.agg (Cx (uu k)),I 0]):=λ{K}=>rR B (Ao a1 (Ao a3 AH));simp only[gT,Cb,ar,az,V,ntT,RC];rw[AZ,aq,A57 hn hi (by simp),am,FB,FA,B1 (cs:=Gf) rfl,BX (cs:=Gf) (vs:=Cx (uu k)) (Ax (by simp)) rfl rfl rfl,<-e3];have ap:∀{K},AD Al (.ptr c 2 0) C K=K v:=λ{K}=>AF (p:=2) rfl A (show 2<3 by decide);have ax:∀{K},AD A0 (.ptr (As m) 0 0) C K=K (.agg (Cx (uu k))):=λ{K}=>Bu rfl rfl ak;simp only[Iz,Bw,f0,ap,ax];have e5:∀K:KV,DK AB 20 A0 Al v (.sl 20 (As C) 0 1) ((As C,.cells false AB (HI k))::C) K=K f M:=λK=>by have:=e4 K;rw[A82]at this;exact this
  have ae:∀{K},AD Al (.ptr c 2 0) ((As C,.cells false AB (HI k))::C) K=K v:=λ{K}=>AF (p:=2) rfl (A7 (w3.lt A) A) (show 2<3 by decide);have s5:∀{K:Ru},DF Al (.ptr c 2 0) f M K=K (upd M c (XM I1 f)):=λ{K}=>D6 Q (show 2<3 by decide) rfl D.1 D.2;have o4:∀{K:Af}{H:Hp},Qq (Ba (some (v,H)) v) K=K:=λ{K H}=>B0y (A10 aa);simp only[A82,Cb,e5,s5,ae,o4,B1S]
 ·have a1:=ad s x h;have a2:=(k2 s x a1).1;have a3:=(k3 s x a2).1;rw[Ag h1];exact k4 s x a3 h2
end
end
section
variable{L n:Nat}
abbrev A0X:AV:=fnA GL
def B75{k:Nat}(c:k<52):PS (r! L (n+41)) GL [.agg (Cx (uu k))] (Bo false):=by
 refine CS.ps (λK a=>?_) (λH=>λK=>by kernel_rfl);rw[Vu];unfold Ld Ih;rw[DN rfl,Bu (cs:=Cx (uu k)) rfl rfl (Ax (by simp)),Yj _ _ _ c,ntT];exact a _ _ (λb=>⟨false,λK=>by kernel_rfl⟩)
def B3t{a:Ru}{K:KV}{ks:Hb}{H:Hp}(hb:ks.length<1000000000)(c:∀k∈ks,k<52):∀(f i:Nat),i<=ks.length->ks.length-i<f->
 E5 (L+20) (r! L (n+41)) K a f (BC ks) A0X (I ks.length) (I i) H=a H:=by
 intro f
 induction f with
 |zero=>intro i _ h;omega
 |succ f ih=>
  intro i e d;rw[Ks];unfold E6 IA A3;by_cases h:i<ks.length
  ·rw[Fz (by omega),Cu,ZG h,ZF];have b:∀K,C4 (E (L+20)) (r! L (n+41)) A0X [.agg (Cx (uu ks[i]))] H K=Ap (r! L (n+41)) GL [.agg (Cx (uu ks[i]))] H λv=>K v H:=λK=>A57 rfl rfl (by simp);rw[b,B75 (c _ (Qk h)),AZ,Db (by omega)];exact ih (i+1) (by omega) (by omega)
  ·rw[Fp (by omega),AZ]
def A6X{ks:Hb}(hb:ks.length<1000000000)(f:ks.length<L)(e:∀k∈ks,k<52):CS (r! L (n+43)) Dh [BC ks,A0X] (Bo false):=by
 intro K a;rw[JV];unfold Em LR;have d:CS (r! L (n+42)) He [BC ks,A0X] (I (-1)):=by
  intro K a;rw[KH];unfold EF A3;simp only[BE];have c:(AV.v (.int .i64 0))=I ((0:Nat):Int):=rfl;rw[MQ,c,B3t hb e _ 0 (by omega) (by omega)];exact a _ _ (λb=>⟨false,λK=>by kernel_rfl⟩)
 rw[AP (q:=false) d (λK=>by kernel_rfl),KO];exact a _ _ (λb=>⟨false,λK=>by kernel_rfl⟩)
def WNd(L n:Nat)(a:AV)(l:Hb)(y:Nd)(k:Nat):Prop:=∃w F g,Sl F/\
 (∀H K,(Xj .i64 (I y.op) λq=>ZE B2 true YC q H K)=K (.tup [fM w F g,Bo true]))/\
 fF (.tup [fM w F g,Bo true]) (.tup [fM w F g,Bo true])=true/\(E (L+20)).ne g=false/\(E (L+20)).imp g=false/\
 RV (r! L (n+41)) BW [XY a (RM l),fM w F g,.agg y.cs] (Bo true)/\
 RV (r! L (n+41)) g [XY a (RM l),.agg y.cs] (.tup [.agg (Cx (uu k)),I 0])
def WTy(L n:Nat)(ks:Hb)(xs:List Nd)(ty:Hb):Prop:=∀i(h:i<xs.length),WNd L n (BC ks) (ty.take i) xs[i] (ty.getD i 0)
section
variable{K:KV}{x:Af}{ks ty:Hb}{xs:List Nd}{id:Int}{o:UD}
def B6Y{k:AV->KV}{p c:Nat}(hT:WTy L n ks xs ty)(a:ty.length=xs.length)(hb:xs.length<100)(A:p≠c)(hx:∀v H,Bk H AB 20 v ty.length (ty.flatMap HI)->(ty=[]->v=Av)->Ai H p=some (Je id (BC ks) (Ci xs) o)->Ai H c=some (XM (BC ks) v)->k (.ptr p 0 0) (.ptr c 0 0) H=x):
 ∀(f i:Nat)(v:AV)(H:Hp),i<=xs.length->xs.length-i<f->Bk H AB 20 v (ty.take i).length ((ty.take i).flatMap HI)->(ty.take i=[]->v=Av)->¬A9 v p->¬A9 v c->Ai H p=some (Je id (BC ks) (Ci xs) o)->Ai H c=some (XM (BC ks) v)->Wf H->
 Nn (L+20) (r! L (n+42)) K k f (.ptr p 0 0) (.ptr c 0 0) (Ci xs) (I xs.length) (I i) H=x:=by
 intro f
 induction f with
 |zero=>intro i v H _ h;omega
 |succ f ih=>
  intro i v H hi hf d m hr D P hc w;rw[Yx];unfold No IA A3;by_cases h:i<xs.length
  ·rw[Fz (by omega),Cu,jL h,jJ,B1 (cs:=Lx) rfl,BX (cs:=Lx) (vs:=xs[i].cs) (Ax (by simp)) rfl rfl rfl];obtain⟨V,Y,M,R,s⟩:=Ip (e:=AY) (zs:=Lx) (vs:=xs[i].cs) w rfl;rw[<-Y,Bu rfl rfl M];have b:=(s _ _ P).1;have t:=(s _ _ hc).1;have J:Bk V AB 20 v (ty.take i).length ((ty.take i).flatMap HI):=by
    rcases d with d|⟨r,q,h1,h2,h3⟩
    ·exact .inl d
    ·exact .inr ⟨r,q,h1,(s _ _ h2).1,h3⟩
   obtain⟨wd,F,g,hF,hk,ha,hn,y,hh,hu⟩:=hT i h;obtain⟨v',X,Z,u,j,C,w5,n5,k5,N⟩:=C1R (n:=n) t J m D R (by rw[l0h];omega) (.inr ⟨_,_,rfl⟩) hF hk ha hn y hh hu;have Q:ty.take i++[ty.getD i 0]=ty.take (i+1):=by
    have O:i<ty.length:=by omega
    rw[oH O];simp[List.getD,KL O]
   rw[Z,ntT,AZ,Db (by omega)];rw[Q]at j;exact ih (i+1) v' X (by omega) (by omega) j (λe=>by rw[<-Q]at e;simp at e) (λB=>by have:=N _ B;have:=R.lt b;omega) C (k5 _ _ b A hr) u w5
  ·rw[Fp (by omega),AZ];have:i=xs.length:=by omega
   subst this;rw[<-a,wQ]at d m;exact hx v H d m P hc
set_option maxHeartbeats 1000000 in
def B3p(hL:100<L)(Q:WTy L (n+2) ks xs ty)(X:o=uu (ty.getD (xs.length-1) 0))(f:ty.length=xs.length)(R:∀k∈ks,k<52)(hb:ks.length<=6)(hn:1<=xs.length)(V:xs.length<=40)(h1:1<=id)(h2:id<=1000000):
 CS (r! L (n+45)) OS [.agg (B0 id (BC ks) (Ci xs) o)] (.tup [RM ty,I 0,I 0]):=by
 intro K P;rw[ZV];unfold Oz Dz QY Qa Km FQ A3 Kn;rw[DN (Ol (.inr ⟨_,_,rfl⟩) (.inr ⟨_,_,rfl⟩))];have d:=Ax (H:=[]) (x:=Je id (BC ks) (Ci xs) o) (by simp);have w0:=AG (x:=Je id (BC ks) (Ci xs) o) FH;generalize ((As [],Je id (BC ks) (Ci xs) o)::([]:Hp))=e at d w0;generalize As []=p at d;have u:∀{s j:Nat}{K:K2},CD j (.ptr s 0 0) K=K (.ptr s j 0):=λ{s j K}=>by rw[fA,Kd]
 have J:∀{K},AD Ab (.ptr p 0 0) e K=K (I id):=λ{K}=>AF (p:=0) rfl d (show 0<23 by decide);have Z:∀{K},AD Al (.ptr p 1 0) e K=K (BC ks):=λ{K}=>AF (p:=1) rfl d (show 1<23 by decide);have l2:∀{K},AD Aw (.ptr p 2 0) e K=K (Ci xs):=λ{K}=>AF (p:=2) rfl d (show 2<23 by decide);have t1:∀{K},Ar Ab .lss (I id) (.v (.int .i64 1)) K=K (Bo false):=λ{K}=>by rw[D8,HW (by omega)]
 have t2:∀{K},Ar Ab .gtr (I id) (.v (.int .i64 1000000)) K=K (Bo false):=λ{K}=>by rw[Ef,HW (by omega)]
 have t3:∀{K},Ar Ab .gtr (I (ks.length:Int)) (.v (.int .i64 6)) K=K (Bo false):=λ{K}=>by rw[Ef,HW (by omega)]
 have t4:∀{K},Ar Ab .lss (I (xs.length:Int)) (.v (.int .i64 1)) K=K (Bo false):=λ{K}=>by rw[D8,HW (by omega)]
 have t5:∀{K},Ar Ab .gtr (I (xs.length:Int)) (.v (.int .i64 40)) K=K (Bo false):=λ{K}=>by rw[Ef,HW (by omega)]
 have an:∀{K:K2},Ap (r! L (n+44)) Dh [BC ks,A0X] e K=K (Bo false):=λ{K}=>AP (q:=false) (A6X (n:=n+1) (by omega) (by omega) R) (λK=>by kernel_rfl);rw[u,J,t1];simp only[gT,u,J,Cb,t2,RC,Z,MQ,t3,an,l2,Q8,t4,t5];rw[AZ];have M:∀{K:KV},(r! L (n+44)).call OR [BC ks] e K=K (.ptr (As e) 0 0) ((As e,XM (BC ks) Av)::e):=λ{K}=>by
  rw[ZS];unfold Ow Ih;have b2:∀{K:K2},BP Lz [(0,1,YC),(1,1,BC ks)] K=K (.agg [YC,BC ks,Av]):=λ{K}=>r_ rfl;rw[B60 (n:=n+42),b2,DN rfl]
 rw[M];have g:=Ax (H:=e) (x:=XM (BC ks) Av) (by simp);have m:=A7 (x:=XM (BC ks) Av) (w0.lt d) d;have w1:=AG (x:=XM (BC ks) Av) w0;have A:=w0.lt d;generalize ((As e,XM (BC ks) Av)::e)=F at g m w1;generalize As e=c at g A;have C:∀{K},AD Aw (.ptr p 2 0) F K=K (Ci xs):=λ{K}=>AF (p:=2) rfl m (show 2<23 by decide);simp only[BE];rw[C,Q8];refine B6Y (n:=n+2) Q f (by omega) (by omega) ?_ (L+20) 0 _ F (by omega) (by omega) (.inl ⟨rfl,rfl,rfl⟩) (λ_=>rfl) (λ⟨_,_,_,h⟩=>by cases h) (λ⟨_,_,_,h⟩=>by cases h) m g w1;intro v H B O Y hc;have t:ty.length-1<ty.length:=by omega
 obtain⟨a,w,r⟩:=A5m B t;have y:∀{K},AD A0 (.ptr p 3 0) H K=K (.agg (Cx o)):=λ{K}=>D7 (p:=3) rfl Y (show 23<=23 by decide);have N:uu ty[ty.length-1]=o:=by rw[X,<-f];simp[List.getD,KL t]
 rw[N]at r;have lc:∀{K},AD Al (.ptr c 2 0) H K=K v:=λ{K}=>AF (p:=2) rfl hc (show 2<3 by decide);have ln:∀{K:K2},Bh Al v K=K (I ty.length):=λ{K}=>Lr rfl B;simp only[Iz,Bw,u,lc,ln,gK (ty:=Ab) (i:=ty.length) (by omega) (by omega),w,r,y,C0D];rw[AZ];exact P _ _ (λb=>by
  obtain⟨q,hq⟩:=mP (D:=depth-2) (b:=b) B O;exact⟨_,eV (D:=depth-1) (Ao hq (Ao (q:=false) CC (Ao (q:=false) CC AH)))⟩)
def A8U(j:100<L)(m:WTy L (n+2) ks xs ty)(q:o=uu (ty.getD (xs.length-1) 0))(a:ty.length=xs.length)(p:∀k∈ks,k<52)(hb:ks.length<=6)(hn:1<=xs.length)(d:xs.length<=40)(h1:1<=id)(h2:id<=1000000):
 CS (r! L (n+46)) Gz [.agg (B0 id (BC ks) (Ci xs) o)] (Bo true):=by
 intro K i;rw[ZT];unfold Ox Ih;rw[DN (Ol (.inr ⟨_,_,rfl⟩) (.inr ⟨_,_,rfl⟩))];have c:=Ax (H:=[]) (x:=Je id (BC ks) (Ci xs) o) (by simp);generalize ((As [],Je id (BC ks) (Ci xs) o)::([]:Hp))=e at c;have ck:∀{K:K2},Ap (r! L (n+45)) OS [.agg (B0 id (BC ks) (Ci xs) o)] e K=K (.tup [RM ty,I 0,I 0]):=λ{K}=>AP (B3p j m q a p hb hn d h1 h2) (Wn (.inr ⟨_,_,rfl⟩) (.inr ⟨_,_,rfl⟩));have h:∀{K:K2},CM (.tup [RM ty,I 0,I 0]) 2 K=K (I 0):=λ{K}=>r_ rfl;have f:∀{K:K2},CM (.tup [RM ty,I 0,I 0]) 0 K=K (RM ty):=λ{K}=>r_ rfl;have g:∀{K:K2},CM (.tup [RM ty,I 0,I 0]) 1 K=K (I 0):=λ{K}=>r_ rfl;rw[Bu rfl rfl c,ck,f,g,h,B?];exact i _ _ (λb=>⟨false,λK=>by kernel_rfl⟩)
end
end
section
variable{H:Hp}{i p:Nat}
variable{L n:Nat}
def Ss:Ha:=[112,114,111,99,101,100,117,114,101,32]
def tR:Ha:=[103,105,118,101,110,32]
def B9G:Ha:=[111,117,116,112,117,116,32]
def rG(k:Nat):Ha:=tR++Ly k++[10]
def wO(t:Ha):Ha:=t++[10]
def tL(id:Nat)(ks:Hb)(ts:List Ha)(o:Nat):Ha:=Ss++dg id++[10]++ks.flatMap rG++ts.flatMap wO++B9G++Ly o++[10]
def G8(k:Nat):(Ly k).length<60:=by
 by_cases h:k<52
 ·have:=GG.1 (show((List.range 52).all λk=>decide ((Ly k).length<60))=true by kernel_rfl) k (KR.2 h);simpa using this
 ·have:Ly k=[]:=by
   unfold Ly;rw[UW,l1j (Nat.le_of_not_lt h)];rfl
  rw[this];decide
def A4I(k:Nat):(dg k).length<=3:=by
 unfold dg;split
 ·simp
 ·split<;>simp
def B12(ks:Hb):(ks.flatMap rG).length<=67*ks.length:=by
 induction ks with
 |nil=>simp
 |cons k ks ih=>
  have:=G8 k;simp only[rE,EK,Mi,rG,tR,Re]at ih⊢;omega
def B0G{ts:List Ha}(h:∀t∈ts,t.length<100):(ts.flatMap wO).length<=100*ts.length:=by
 induction ts with
 |nil=>simp
 |cons t ts ih=>
  have h1:=h t (by simp);have h2:=ih λu a=>h u (by simp[a]);simp only[rE,EK,Mi,wO,Re]at h2⊢;omega
def rI{α:Type}{f:α->Ha}(l:List α)(h:i<l.length):(l.take (i+1)).flatMap f=(l.take i).flatMap f++f l[i]:=by
 rw[oH h,l2l];simp
section
variable{K:KV}{x:Af}{ks:Hb}{ts:List Ha}{xs:List Nd}{id:Int}{o:UD}{s0:Ha}
def B94{a:AV->AV->KV}(e:∀k∈ks,k<52)(hb:ks.length<100)(u:s0.length<1000)(g:Ai H p=some (Je id (BC ks) (Ci xs) o))(m:a (.ptr p 0 0) (S (s0++ks.flatMap rG)) (I ks.length) H=x):
 ∀(f i:Nat)(w:AV),i<=ks.length->ks.length-i<f->RY (L+20) (r! L (n+40)) K a f (.ptr p 0 0) (S (s0++(ks.take i).flatMap rG)) (I i) w H=x:=by
 intro f
 induction f with
 |zero=>intro i w _ h;omega
 |succ f ih=>
  intro i w y v;rw[kX];unfold Sa Dz IA A3;have b:∀{s j:Nat}{K:K2},CD j (.ptr s 0 0) K=K (.ptr s j 0):=λ{s j K}=>by rw[fA,Kd]
  have c:∀{K},AD Al (.ptr p 1 0) H K=K (BC ks):=λ{K}=>AF (p:=1) rfl g (show 1<23 by decide);rw[b,c,MQ];by_cases h:i<ks.length
  ·have q:=B12 (ks.take i);have r:(ks.take i).length<=ks.length:=by simp;omega
   have t:=G8 ks[i];rw[Fz (by omega),Cu,b,c,ZG h,ZF,Vn _ _ _ (e _ (Qk h)),FB,FA,B9 (by simp only[EK,Mi,Re];omega),B9 (by simp only[EK,Mi,Re];omega),B9 (by simp only[EK,Mi,Re];omega),Db (by omega)];have d:s0++(ks.take i).flatMap rG++[103,105,118,101,110,32]++Ly ks[i]++[10]=s0++(ks.take (i+1)).flatMap rG:=by
    rw[rI ks h];simp[rG,tR]
   rw[d];exact ih (i+1) _ (by omega) (by omega)
  ·rw[Fp (by omega),AZ];have:i=ks.length:=by omega
   subst this;rw[wQ];exact m
def B95{c:AV->KV}{u:AV}(r:∀i(h:i<xs.length),PS (r! L (n+41)) J0 [.agg xs[i].cs] (S (ts.getD i [])))(g:∀t∈ts,t.length<100)(e:ts.length=xs.length)(hb:xs.length<100)(C:s0.length<10000)(v:Ai H p=some (Je id (BC ks) (Ci xs) o))(w:c (.ptr p 0 0) (S (s0++ts.flatMap wO)) H=x):
 ∀(f i:Nat),i<=xs.length->xs.length-i<f->RZ (L+20) (r! L (n+41)) K c f (.ptr p 0 0) (S (s0++(ts.take i).flatMap wO)) u (I i) H=x:=by
 intro f
 induction f with
 |zero=>intro i _ h;omega
 |succ f ih=>
  intro i F D;rw[kY];unfold Sb Dz IA A3;have d:∀{s j:Nat}{K:K2},CD j (.ptr s 0 0) K=K (.ptr s j 0):=λ{s j K}=>by rw[fA,Kd]
  have k:∀{K},AD Aw (.ptr p 2 0) H K=K (Ci xs):=λ{K}=>AF (p:=2) rfl v (show 2<23 by decide);rw[d,k,Q8];by_cases h:i<xs.length
  ·have a:i<ts.length:=by omega
   have m:ts.getD i []=ts[i]:=by simp[List.getD,KL a]
   have y:=B0G (ts:=ts.take i) λt hm=>g t (l29 hm);have A:(ts.take i).length<=ts.length:=by simp;omega
   have B:=g ts[i] (Qk a);have b:=r i h;rw[m]at b;rw[Fz (by omega),Cu,d,k,jL h,jJ,b,B9 (by simp only[EK,Mi,Re];omega),B9 (by simp only[EK,Mi,Re];omega),Db (by omega)];have q:s0++(ts.take i).flatMap wO++ts[i]++[10]=s0++(ts.take (i+1)).flatMap wO:=by
    rw[rI ts a];simp[wO]
   rw[q];exact ih (i+1) (by omega) (by omega)
  ·rw[Fp (by omega),AZ];have:i=ts.length:=by omega
   subst this;rw[wQ];exact w
def A9Y{i c:Nat}(N:100<L)(f:i<950)(v:CS (r! L (n+44)) Ge [.agg (B0 i (BC ks) (Ci xs) (uu c))] (Bo true))(y:∀i(h:i<xs.length),PS (r! L (n+44)) J0 [.agg xs[i].cs] (S (ts.getD i [])))(m:∀t∈ts,t.length<100)(d:ts.length=xs.length)(w:∀k∈ks,k<52)(hb:ks.length<=6)(A:xs.length<=40)(B:c<52):
 CS (r! L (n+45)) JH [.agg (B0 i (BC ks) (Ci xs) (uu c))] (.tup [S (tL i ks ts c),I 0]):=by
 intro K u;rw[pQ];unfold Uv Dz A3;rw[DN (Ol (.inr ⟨_,_,rfl⟩) (.inr ⟨_,_,rfl⟩))];have a:=Ax (H:=[]) (x:=Je i (BC ks) (Ci xs) (uu c)) (by simp);generalize ((As [],Je i (BC ks) (Ci xs) (uu c))::([]:Hp))=e at a;generalize As []=p at a;have g:∀{s j:Nat}{K:K2},CD j (.ptr s 0 0) K=K (.ptr s j 0):=λ{s j K}=>by rw[fA,Kd]
 have C:∀{K},AD Ab (.ptr p 0 0) e K=K (I i):=λ{K}=>AF (p:=0) rfl a (show 0<23 by decide);have hv:∀{K:K2},Ap (r! L (n+44)) Ge [.agg (B0 i (BC ks) (Ci xs) (uu c))] e K=K (Bo true):=λ{K}=>AP v (Wn (.inr ⟨_,_,rfl⟩) (.inr ⟨_,_,rfl⟩));have d1:=A4I i;rw[Bu rfl rfl a,hv,ntT,AZ,g,C,C57 L (n+34) i f,B9 (by simp only[EK,Mi,Re];omega),B9 (by simp only[EK,Mi,Re];omega)];simp only[BE];have q:([112,114,111,99,101,100,117,114,101,32]++dg i++[10]:Ha)=(Ss++dg i++[10])++(ks.take 0).flatMap rG:=by simp[Ss]
 rw[q];have b0:(Ss++dg i++[10]).length<=14:=by simp only[EK,Mi,Re,Ss];omega
 refine B94 (n:=n+4) w (by omega) (by omega) a ?_ (L+20) 0 _ (by omega) (by omega);have r:(Ss++dg i++[10])++ks.flatMap rG=((Ss++dg i++[10])++ks.flatMap rG)++(ts.take 0).flatMap wO:=by simp
 rw[r];have F:=B12 ks;have b1:((Ss++dg i++[10])++ks.flatMap rG).length<=500:=by rw[EK];omega
 refine B95 (n:=n+3) y m d (by omega) (by omega) a ?_ (L+20) 0 (by omega) (by omega);have D:∀{K},AD A0 (.ptr p 3 0) e K=K (.agg (Cx (uu c))):=λ{K}=>D7 (p:=3) rfl a (show 23<=23 by decide);have J:=B0G m;have M:=G8 c;have b2:(((Ss++dg i++[10])++ks.flatMap rG)++ts.flatMap wO).length<=5000:=by rw[EK];omega
 rw[g,D,Vn _ _ _ B,FB,FA,B9 (by rw[EK];simp only[Mi,Re] at*;omega),B9 (by rw[EK];simp only[Mi,Re] at*;omega),B9 (by rw[EK,EK];simp only[Mi,Re] at*;omega)];exact u _ _ (λb=>⟨false,λK=>by kernel_rfl⟩)
end
end
section
variable{v:AV}{H:Hp}{b p r:Nat}
variable{L n:Nat}
section
variable{K:KV}{x:Af}{ks:Hb}{ts:List Ha}{xs:List Nd}{id:Int}{o:UD}{s0:Ha}
abbrev pks(p:Nat)(id:Int)(ks:Hb)(xs:List Nd)(o:UD):List (Nat×Row):=[(p,Je id (BC ks) (Ci xs) o)]
def A6j{kp:List (Nat×Row)}{l s:Ha}(h:Bd r kp b l v H)(hb:b<100000000)(g:s.length<1000)(f:∀c a,Bd r kp (b+1000) (l++s) c a->K (.tup [I s.length,.v .nilIface]) a=x):
 (r! L (n+2)).call BK [.ptr r 0 0,S s] H K=x:=by
 have:=h.sz;exact L! h.bld (by omega) λc a d e=>f c a (h.step d e (by rw[EK];omega))
def Bd.al{r b e:Nat}{kp:List (Nat×Row)}{l:Ha}{zs vs:Is}(h:Bd r kp b l v H)(hz:vs.length=zs.length):∃a,a=upd ((As H,c_ e zs)::H) (As H) (c_ e vs)/\Ai a (As H)=some (c_ e vs)/\Bd r kp b l v a:=by
 refine⟨_,rfl,AC (Ax (H:=H) (x:=.cells true e zs) (by simp)),⟨(h.bld.cons (y:=.cells true e zs)).upd (by have:=h.bld.lt;omega) (λd=>by have:=h.bld.vlt d;omega),λp c=>?_,h.sz⟩⟩;obtain⟨p1,p2,p3⟩:=h.ks p c;have:=h.bld.wf.lt p1;exact⟨by rw[Ag (by omega)];exact A7 this p1,p2,p3⟩
def B6W{c:AV->AV->AV->AV->KV}{kp:List (Nat×Row)}(t:∀k∈ks,k<52)(hb:ks.length<100)(s:b<1000000)(w:∀v H,Bd r kp (b+1000*ks.length) (s0++ks.flatMap rG) v H->c (.ptr p 0 0) (.ptr r 0 0) (BC ks) (I ks.length) (I ks.length) H=x):
 ∀(f i:Nat)(v:AV)(H:Hp),i<=ks.length->ks.length-i<f->Bd r kp (b+1000*i) (s0++(ks.take i).flatMap rG) v H->Nj (L+20) (r! L (n+40)) K c f (.ptr p 0 0) (.ptr r 0 0) (BC ks) (I ks.length) (I i) AV.dk AV.dk AV.dk H=x:=by
 intro f
 induction f with
 |zero=>intro i v H _ h;omega
 |succ f ih=>
  intro i v H D C d;rw[Yv];unfold Nl IA A3;by_cases h:i<ks.length
  ·have B:=G8 ks[i];rw[Fz (by omega),Cu,ZG h,ZF,B1 (cs:=Gf) rfl,BX (cs:=Gf) (vs:=Cx (uu ks[i])) (Ax (by simp)) rfl rfl rfl];obtain⟨A,m,u,g⟩:=d.al (e:=AB) (zs:=Gf) (vs:=Cx (uu ks[i])) rfl;rw[<-m,Bu rfl rfl u,UY _ _ _ (t _ (Qk h)),FB,FA,B9 (by simp only[Mi,Re];omega),B9 (by simp only[EK,Mi,Re];omega)];refine A6j (n:=n+38) g (by omega) (by simp only[EK,Mi,Re];omega) λy j a=>?_;rw[Db (by omega)];have q:s0++(ks.take i).flatMap rG++([103,105,118,101,110,32]++Ly ks[i]++[10])=s0++(ks.take (i+1)).flatMap rG:=by
    rw[rI ks h];simp[rG,tR]
   rw[q,kD,<-Nat.mul_succ]at a;exact ih (i+1) y j (by omega) (by omega) a
  ·rw[Fp (by omega),AZ];have:i=ks.length:=by omega
   subst this;rw[wQ]at d;exact w v H d
def B6X{m:AV->KV}{kp:List (Nat×Row)}{a w c:AV}(D:∀i(h:i<xs.length),PS (r! L (n+41)) FL [.agg xs[i].cs] (S (ts.getD i [])))(F:∀t∈ts,t.length<100)(k:ts.length=xs.length)(hb:xs.length<100)(C:b<10000000)(M:∀v H,Bd r kp (b+1000*xs.length) (s0++ts.flatMap wO) v H->m (.ptr p 0 0) (.ptr r 0 0) H=x):
 ∀(f i:Nat)(v:AV)(H:Hp),i<=xs.length->xs.length-i<f->Bd r kp (b+1000*i) (s0++(ts.take i).flatMap wO) v H->Nk (L+20) (r! L (n+41)) K m f (.ptr p 0 0) (.ptr r 0 0) a w c (Ci xs) (I xs.length) (I i) H=x:=by
 intro f
 induction f with
 |zero=>intro i v H _ h;omega
 |succ f ih=>
  intro i v H R Q q;rw[Yw];unfold Nm IA A3;by_cases h:i<xs.length
  ·have d:i<ts.length:=by omega
   have y:ts.getD i []=ts[i]:=by simp[List.getD,KL d]
   have P:=F ts[i] (Qk d);have j:=D i h;rw[y]at j;rw[Fz (by omega),Cu,jL h,jJ,B1 (cs:=Lx) rfl,BX (cs:=Lx) (vs:=xs[i].cs) (Ax (by simp)) rfl rfl rfl];obtain⟨O,A,J,s⟩:=q.al (e:=AY) (zs:=Lx) (vs:=xs[i].cs) rfl;rw[<-A,Bu rfl rfl J,j,B9 (by simp only[Mi,Re];omega)];refine A6j (n:=n+39) s (by omega) (by simp only[EK,Mi,Re];omega) λN u g=>?_;rw[Db (by omega)];have B:s0++(ts.take i).flatMap wO++(ts[i]++[10])=s0++(ts.take (i+1)).flatMap wO:=by
    rw[rI ts d];simp[wO]
   rw[B,kD,<-Nat.mul_succ]at g;exact ih (i+1) N u (by omega) (by omega) g
  ·rw[Fp (by omega),AZ];have:i=ts.length:=by omega
   subst this;rw[wQ]at q;exact M v H (k▸q)
def A8W{i a:Nat}(hL:100<L)(C:i<950)(V:CS (r! L (n+46)) Gz [.agg (B0 i (BC ks) (Ci xs) (uu a))] (Bo true))(Y:∀i(h:i<xs.length),PS (r! L (n+46)) FL [.agg xs[i].cs] (S (ts.getD i [])))(ht:∀t∈ts,t.length<100)(A:ts.length=xs.length)(X:∀k∈ks,k<52)(hb:ks.length<=6)(Z:xs.length<=40)(ho:a<52):
 CS (r! L (n+47)) G6 [.agg (B0 i (BC ks) (Ci xs) (uu a))] (.tup [S (tL i ks ts a),I 0]):=by
 intro K R;rw[ZU];unfold Oy Dz A3;rw[DN (Ol (.inr ⟨_,_,rfl⟩) (.inr ⟨_,_,rfl⟩))];have c:=Ax (H:=[]) (x:=Je i (BC ks) (Ci xs) (uu a)) (by simp);have w0:=AG (x:=Je i (BC ks) (Ci xs) (uu a)) FH;generalize ((As [],Je i (BC ks) (Ci xs) (uu a))::([]:Hp))=f at c w0;generalize As []=p at c;have B:∀{s j:Nat}{K:K2},CD j (.ptr s 0 0) K=K (.ptr s j 0):=λ{s j K}=>by rw[fA,Kd]
 have hv:∀{K:K2},Ap (r! L (n+46)) Gz [.agg (B0 i (BC ks) (Ci xs) (uu a))] f K=K (Bo true):=λ{K}=>AP V (Wn (.inr ⟨_,_,rfl⟩) (.inr ⟨_,_,rfl⟩));have d1:=A4I i;rw[Bu rfl rfl c,hv,ntT,AZ,B1 (cs:=[.v (.pointer none),zL]) rfl];have D:=Ax (H:=f) (x:=.cells true EA [.v (.pointer none),zL]) (by simp);have y:=w0.lt c;have e:Bd (As f) (pks p i ks xs (uu a)) 0 [] Av ((As f,c_ EA [.v (.pointer none),zL])::f):=
  ⟨⟨⟨_,.inr rfl,.inl D⟩,.inl ⟨rfl,rfl,rfl⟩,λ⟨_,_,_,h⟩=>(by cases h),AG w0⟩,λq hq=>by
   simp only[YR]at hq;subst hq;exact⟨A7 y c,by simp only;omega,λ⟨_,_,_,h⟩=>(by cases h)⟩,Mh _⟩
 generalize ((As f,c_ EA [.v (.pointer none),zL])::f)=M at e;generalize As f=r at e;have d:∀{b l v H},Bd r (pks p i ks xs (uu a)) b l v H->Ai H p=some (Je i (BC ks) (Ci xs) (uu a)):=λh=>(h.ks (p,_) (YR.2 rfl)).1;have l0:∀{K},AD Ab (.ptr p 0 0) M K=K (I i):=λ{K}=>AF (p:=0) rfl (d e) (show 0<23 by decide);rw[B,l0,C4Z L (n+36) i C,B9 (by simp only[Mi,Re];omega),B9 (by simp only[EK,Mi,Re];omega)];refine A6j (n:=n+44) e (by omega) (by simp only[EK,Mi,Re];omega) λv2 F g=>?_;simp only[BE];have l1:∀{K},AD Al (.ptr p 1 0) F K=K (BC ks):=λ{K}=>AF (p:=1) rfl (d g) (show 1<23 by decide);rw[B,l1,MQ];have O:([]++([112,114,111,99,101,100,117,114,101,32]++dg i++[10]):Ha)=(Ss++dg i++[10])++(ks.take 0).flatMap rG:=by simp[Ss]
 rw[O]at g;refine B6W (n:=n+6) X (by omega) (b:=0+1000) (by omega) (λv3 J m=>?_) (L+20) 0 v2 F (by omega) (by omega) g;have l2:∀{K},AD Aw (.ptr p 2 0) J K=K (Ci xs):=λ{K}=>AF (p:=2) rfl (d m) (show 2<23 by decide);rw[B,l2,Q8];have P:(Ss++dg i++[10])++ks.flatMap rG=((Ss++dg i++[10])++ks.flatMap rG)++(ts.take 0).flatMap wO:=by simp
 rw[P]at m;refine B6X (n:=n+5) Y ht A (by omega) (b:=0+1000+1000*ks.length) (by omega) (λv4 N w=>?_) (L+20) 0 v3 J (by omega) (by omega) m;have lo:∀{K},AD A0 (.ptr p 3 0) N K=K (.agg (Cx (uu a))):=λ{K}=>D7 (p:=3) rfl (d w) (show 23<=23 by decide);have g3:=G8 a;rw[B,lo,UY _ _ _ ho,FB,FA,B9 (by simp only[Mi,Re];omega),B9 (by simp only[EK,Mi,Re];omega)];refine A6j (n:=n+44) w (by omega) (by simp only[EK,Mi,Re];omega) λv5 H5 u=>?_;have Q:((Ss++dg i++[10])++ks.flatMap rG)++ts.flatMap wO++([111,117,116,112,117,116,32]++Ly a++[10])=tL i ks ts a:=by simp[tL,B9G]
 rw[Q]at u;have z1:=u.sz;obtain⟨H6,hs⟩:=A0G (n:=n+45) u.bld (by unfold tL;rw[EK];simp only[Mi,Re];omega) (by omega);rw[hs];exact R _ _ (λb=>⟨false,λK=>by kernel_rfl⟩)
end
end
end Go.Abs
end
