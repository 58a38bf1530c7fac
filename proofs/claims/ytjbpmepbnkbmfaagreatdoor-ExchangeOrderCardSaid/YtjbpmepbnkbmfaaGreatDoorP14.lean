import Derived.Test.YtjbpmepbnkbmfaaGreatDoorP10
import Derived.Test.YtjbpmepbnkbmfaaGreatDoorP11
import Derived.Test.YtjbpmepbnkbmfaaGreatDoorP12
import Derived.Test.YtjbpmepbnkbmfaaGreatDoorP13
set_option linter.all false
set_option maxHeartbeats 0
noncomputable section
namespace Go.Abs
open Go.RowKit Go.Proofs
set_option maxRecDepth 100000
section
variable{H:Hp}{k4:Ru}{t:Int×Int}
variable{L n:Nat}
attribute [local irreducible] Ap rt pE eBi eEq cnd Aq Vg A2
def B7T(h: -8<=t.2/\t.2<=8/\t.2≠0):PS (rt (L+20) (n+41)) KO [.agg (NO t)] (Bo false):=by
 refine CS.ps (λK a=>?_) (λH=>λK=>by kernel_rfl);have h1:PO (rt (L+20) (n+40)) Ez [.agg (qa t.2)] (Bo true):=(sY (by omega) (by omega)).o;have h2:PO (rt (L+20) (n+40)) Po [.agg (qa t.2)] (Bo false):=by
  have:=(B3M (L:=L) (n:=n) (z:=t.2) (by omega) (by omega)).o;rw[Ir h.2.2]at this;exact this
 rewrite[Zg];unfold NC Ih
 try rewrite[zO]
 try rewrite[bO]
 try rewrite[qO]
 try rewrite[cO]
 generalize rt (L+20) (n+40)=R at*
 conv=>lhs;whnf
 rewrite[h1]
 conv=>lhs;whnf
 rewrite[h2]
 conv=>lhs;whnf
 exact a _ _ (λb=>⟨false,λK=>by kernel_rfl⟩)
abbrev sW:AV:=.fn (.func KO) [] []
abbrev B01:AV:=.fn (.func Nj) [] []
section
variable{ts:eO}{K:KV}{x:Af}
def lTm{K:K2}:AE BJ (.iptr (NO t)) H K=K (.agg (NO t)):=id rfl
def B5C(a:TmsOk ts):∀(f i:Nat),i<=ts.length->ts.length-i<f->
 E7 (L+20) (rt (L+20) (n+41)) K k4 f (E4 ts) sW (I ts.length) (I i) H=k4 H:=by
 have hb:=a.len;intro f
 induction f with
 |zero=>intro i _ h;omega
 |succ f ih=>
  intro i hi c;rw[K1];unfold E8 Ia A4;by_cases h:i<ts.length
  ·have hr:=a.rng _ (Ql h);rw[XA2 (by omega),Cy,Ue h,lTm];have b:∀K,CH (E (L+20)) (rt (L+20) (n+41)) sW [.agg (NO ts[i])] H K=Ap (rt (L+20) (n+41)) KO [.agg (NO ts[i])] H λv=>K v H:=λK=>by kernel_rfl
   rw[b,B7T hr.2.2,AY,CW (by omega)];exact ih (i+1) (by omega) (by omega)
  ·rw[Fk (by omega),AY]
def A3K(c:TmsOk ts):CS (rt (L+20) (n+43)) Es [E4 ts,sW] (Bo false):=by
 have hb:=c.len;intro K a;rw[Kf];unfold Er LF;have hi:CS (rt (L+20) (n+42)) Hj [E4 ts,sW] (I (-1)):=by
  intro K a;rw[KY];unfold EI A4;simp only[BF];have d:(AV.v (.int .i64 0))=I ((0:Nat):Int):=rfl;rw[MZ,d,B5C c _ 0 (by omega) (by omega)];exact a _ _ (λb=>⟨false,λK=>by kernel_rfl⟩)
 rw[AO (q:=false) hi (λK=>by cases ts<;>kernel_rfl),Mi];exact a _ _ (λb=>⟨false,λK=>by kernel_rfl⟩)
def A9o:PS (rt (L+20) (n+1)) Nj [.agg (NO t)] (I t.1):=by
 refine CS.ps (λK a=>?_) (λH=>λK=>by kernel_rfl);rewrite[jD];unfold Rg Ih
 try rewrite[zO]
 try rewrite[bO]
 try rewrite[qO]
 try rewrite[cO]
 generalize rt (L+20) (n+0)=R at*
 conv=>lhs;whnf
 exact a _ _ (λb=>⟨false,λK=>by kernel_rfl⟩)
def B9K(j:TmsOk ts)(u:∀H,k4 H=x):∀(f i:Nat)(H:Hp),i<=ts.length->ts.length-i<f->Wf H->
 HP (L+20) (rt (L+20) (n+1)) K k4 f (E4 ts) B01 (E4 ts) (I ts.length) (I i) H=x:=by
 have hb:=j.len;intro f
 induction f with
 |zero=>intro i H _ h;omega
 |succ f ih=>
  intro i H hi B w;rw[PE];unfold HQ Ia D5 Fg A4 Ks FW;by_cases h:i<ts.length
  ·have hr:=j.rng _ (Ql h);rw[XA2 (by omega),Cy,Ue h,lTm,Bv (cs:=[zI,zS,zS]) rfl];have d:=Ay (H:=H) (x:=.cells true Bf [zI,zS,zS]) (by simp);rw[BO (vs:=NO ts[i]) d rfl rfl rfl];have b:=AC (q:=true) (e:=Bf) (cs:=NO ts[i]) d;have w1:=Bm (r:=Ar H) (y:=.cells true Bf (NO ts[i])) (AG (x:=.cells true Bf [zI,zS,zS]) w);generalize upd ((Ar H,c_ Bf [zI,zS,zS])::H) (Ar H) (c_ Bf (NO ts[i]))=a at b w1;generalize Ar H=r at b;have m1:∀K,AE BJ (.ptr r 0 0) a K=K (.agg (NO ts[i])):=λK=>DD (p:=0) rfl b (show 3<=3 from MC _);have m:∀(t:Int×Int)(K:KV),CH (E (L+20)) (rt (L+20) (n+1)) B01 [.agg (NO t)] a K=K (I t.1) a:=λt K=>by
    have:CH (E (L+20)) (rt (L+20) (n+1)) B01 [.agg (NO t)] a K=Ap (rt (L+20) (n+1)) Nj [.agg (NO t)] a λv=>K v a:=by kernel_rfl
    rw[this,A9o]
   have i1:∀K,Aq Ad .lss (I ts[i].1) (.v (.int .i64 1)) K=K (Bo false):=λK=>Fk (by omega);have i2:∀K,Aq Ad .gtr (I ts[i].1) (.v (.int .i64 1000000)) K=K (Bo false):=λK=>by rw[Eh,Ir (by omega)]
   rw[m1,m];simp only[i1,i2,gT,BK,QA];by_cases g:0<i
   ·have k:∀K,Aq Ad .gtr (I (i:Int)) (.v (.int .i64 0)) K=K (Bo true):=λK=>by rw[Eh,Hu (by omega)]
    have c:i-1<ts.length:=by omega
    have mm:∀K,eMM false (I ((i-1:Nat):Int)) (.v (.int .i64 0)) K=K (I ((i-1:Nat):Int)):=λK=>by
     have e:eMM false (I ((i-1:Nat):Int)) (.v (.int .i64 0)) K=ck (decide (IntKind.i64=IntKind.i64)) (@Bool.rec (λ_=>Af) (K (.v (.int .i64 0))) (K (I ((i-1:Nat):Int))) (qZ 0 ((i-1:Nat):Int))):=rfl;rw[e,LZ,Hu (Int.natCast_nonneg _)];rfl
    have s:ts[i-1].1<ts[i].1:=(l26.1 j.asc) (i-1) i c h (by omega);have A:∀K,Aq Ad .geq (I ts[i-1].1) (I ts[i].1) K=K (Bo false):=λK=>by rw[Mi,Ir (by omega)]
    simp only[k,BK,gT,iH g (by omega:i<1000000000),mm,Ue c,lTm,m,A,SJ,QA];rw[AY,CW (by omega)];exact ih (i+1) a (by omega) (by omega) w1
   ·have k:∀K,Aq Ad .gtr (I (i:Int)) (.v (.int .i64 0)) K=K (Bo false):=λK=>by rw[Eh,Ir (by omega)]
    simp only[k,BK,gT,dY,SJ,QA];rw[AY,CW (by omega)];exact ih (i+1) a (by omega) (by omega) w1
  ·rw[Fk (by omega),AY];exact u H
def A7c(a:TmsOk ts):CS (rt (L+20) (n+2)) Iv [E4 ts,B01] (Bo true):=by
 have hb:=a.len;intro K d;rw[Qg];unfold Iq A4 Ks;simp only[BF];have c:(AV.v (.int .i64 0))=I ((0:Nat):Int):=rfl;rw[MZ,c];exact B9K a (λH=>d _ _ (λb=>⟨false,λK=>by kernel_rfl⟩)) (L+20) 0 [] (by omega) (by omega) Ft
def A3G{c r:Int}(i: -80<=c)(j:c<=80)(k:0<=r)(m:r<=8)(a:TmsOk ts):CS (rt (L+20) (n+44)) Mf [.agg (NU (qn c) (qd c) (E4 ts) (qn r) (qd r))] (Bo true):=by
 intro K g;have hb:=a.len;have h1:PO (rt (L+20) (n+43)) Ez [.agg (qa c)] (Bo true):=(sY (n:=n+3) (by omega) (by omega)).o;have h2:PO (rt (L+20) (n+43)) Ez [.agg (qa r)] (Bo true):=(sY (n:=n+3) (by omega) (by omega)).o;have d:PO (rt (L+20) (n+43)) QP [.agg (qa r)] (I (if r=0 then 0 else 1)):=(B3N (n:=n+3) (by omega) (by omega)).o;have e:LS (rt (L+20) (n+43)) Iv [E4 ts,B01] (Bo true):=(A7c (n:=n+41) a).ls;have f:LS (rt (L+20) (n+43)) Es [E4 ts,sW] (Bo false):=(A3K (n:=n) a).ls;have hz:ts=[]\/∃t l,ts=t::l:=by cases ts with|nil=>exact .inl rfl|cons t l=>exact .inr ⟨t,l,rfl⟩
 rcases hz with rfl|⟨t,l,rfl⟩
 all_goals
  rewrite[mZ];unfold Te Ih
  try rewrite[zO]
  try rewrite[bO]
  try rewrite[qO]
  try rewrite[cO]
  generalize rt (L+20) (n+43)=R at*
  conv=>lhs;whnf
  rewrite[h1]
  conv=>lhs;whnf
  rewrite[h2]
  conv=>lhs;whnf
  rewrite[d]
  conv=>lhs;whnf
  rewrite[A6q ?hc]
  case hc=>(split<;>omega)
  conv=>lhs;whnf
  rewrite[A6g ?hc]
  case hc=>(first|decide|(have h:l.length+1<=6:=hb;show((l.length+1:Nat):Int)<=64;omega))
  conv=>lhs;whnf
  rewrite[(e) false _ _ ?hq]
  case hq=>exact λK=>by kernel_rfl
  conv=>lhs;whnf
  rewrite[(f) false _ _ ?hq]
  case hq=>exact λK=>by kernel_rfl
  conv=>lhs;whnf
  exact g _ _ (λb=>⟨false,λK=>by kernel_rfl⟩)
end
end
section
variable{v:AV}{H:Hp}{r:Nat}{y:Row}
variable{L n:Nat}{K:KV}{x:Af}
structure Bld(r:Nat)(l:Ha)(v:AV)(H:Hp):Prop where
 at_:∃tw:Nat,(tw=Hw\/tw=EB)/\(Ah H r=some (c_ tw [.v (.pointer none),v])\/Ah H r=some (c_ tw [.ptr r 0 0,v]))
 sl:Bp H B3 1 v l.length (MM l)
 ne:¬A8 v r
 wf:Wf H
structure Kp(r:Nat)(v:AV)(H:Hp)(v':AV)(H':Hp):Prop where
 keep:∀u y,Ah H u=some y->u≠r->¬A8 v u->Ah H' u=some y
 new:∀u,A8 v' u->A8 v u\/Ar H<=u
 nx:Ar H<=Ar H'
def Kp.refl(r:Nat)(v:AV)(H:Hp):Kp r v H v H:=⟨λ_ _ h _ _=>h,λ_ h=>.inl h,MC _⟩
def Kp.trans{v e b:AV}{H H' a:Hp}(w:Wf H)(h:Kp r v H e H')(k:Kp r e H' b a):Kp r v H b a:=
 ⟨λu y c h1 h2=>k.keep u y (h.keep u y c h1 h2) h1 (λf=>by
  rcases h.new u f with d|d
  ·exact h2 d
  ·have:=w.lt c;omega),
  λu c=>by
   rcases k.new u c with h1|h1
   ·exact h.new u h1
   ·exact .inr (by have:=h.nx;omega),fR h.nx k.nx⟩
def Bld.upd{r s:Nat}{l:Ha}(h:Bld r l v H)(h1:s≠r)(h2:¬A8 v s):Bld r l v (upd H s y):=
 ⟨by rw[Ag h1.symm];exact h.at_,h.sl.lat h.wf (Lat.upd H s y (P:=λu=>u=s) rfl) (λu a e=>h2 (e▸a)),h.ne,Bm h.wf⟩
def Bld.cons{l:Ha}(h:Bld r l v H):Bld r l v ((Ar H,y)::H):=by
 refine⟨?_,h.sl.lat h.wf (Lat.cons H y (λ_=>False)) (λ_ _ h=>h),h.ne,AG h.wf⟩;obtain⟨b,a,h1|h1⟩:=h.at_
 ·exact⟨b,a,.inl (A6 (h.wf.lt h1) h1)⟩
 ·exact⟨b,a,.inr (A6 (h.wf.lt h1) h1)⟩
def S'{l s:Ha}(h:Bld r l v H)(hb:l.length+s.length<1000000000)(hx:∀i t,Bld r (l++s) i t->Kp r v H i t->K (.tup [I s.length,.v .nilIface]) t=x):(r! L (n+2)).call BN [.ptr r 0 0,S s] H K=x:=by
 rw[Of];unfold GD DN;rw[Pz];unfold HH DN;have J:∀K:K2,CI 0 (.ptr r 0 0) K=K (.ptr r 0 0):=λK=>id rfl;have a1:∀K:K2,CI 1 (.ptr r 0 0) K=K (.ptr r 1 0):=λK=>id rfl;have⟨w,m,Q⟩:=h.at_;have main:∀j,Ah j r=some (c_ w [.ptr r 0 0,v])->Bld r l v j->Kp r v H v j->(LG (.ptr r 0 0) λv3=>CI 1 v3 λv4=>AE AZ v4 j λv5=>E0 B3 1 Bq Ai v5 (S s) j λv6 X=>
  LG (.ptr r 0 0) λv8=>CI 1 v8 λv9=>DE AZ v9 v6 X λF=>Ba Ai (S s) λR=>K (.tup [R,.v .nilIface]) F)=x:=λj k c O=>by
  rw[Iy,a1,AL (p:=1) rfl k (by simp)];show E0 B3 1 Bq Ai v (S s) j _=x;have⟨i,t,h1,h2,V,D⟩:=apt (ie:=Bq) (i2:=Ai) c.sl (λK=>C1i (K:=K)) (by rw[Q8];omega) (A6L s) (by decide) rfl rfl (by show(l.length+s.length)*1<=_;omega) (by omega);rw[h1,Iy,a1];have A:Ah t r=some (c_ w [.ptr r 0 0,v]):=D.keep c.wf r _ k c.ne;have C:=D.wf c.wf;rw[A0s]at h2;have g:B4 i=[i]/\AV.one i=true:=by
   rcases h2 with⟨rfl,_⟩|⟨a,b,rfl,_⟩<;>exact⟨rfl,rfl⟩
  rw[DT (q:=true) (e:=w) (cs:=[.ptr r 0 0,v]) A (by simp) rfl g.1 g.2,Qt rfl];have Z:=c.wf.lt k;have B:¬A8 i r:=λd=>by have:=V r d;omega
  refine hx i _ ⟨⟨w,m,.inr (AC A)⟩,?_,B,Bm C⟩ ?_
  ·rw[EN];exact h2.lat C (Lat.upd t r _ (P:=λu=>u=r) rfl) (λu d e=>B (e▸d))
  ·refine O.trans h.wf ⟨λu y d hn hv=>?_,λu d=>.inr (by rw[V u d];exact MC _),by rw[B9];exact D.nx⟩;rw[Ag hn];exact D.keep c.wf u y d hv
 rw[Iy,J];rcases Q with f|f
 ·rw[AL (p:=0) rfl f (by simp)];show RN Cu BQ .eql (.v (.pointer none)) (.v (.pointer none)) _=x;have M:∀K:K2,RN Cu BQ .eql (.v (.pointer none)) (.v (.pointer none)) K=K (Bo true):=λK=>id rfl;rw[M,Cy];have N:∀K:K2,A2A BQ (.ptr r 0 0) H K=K (.ptr r 0 0):=λK=>by
   have:A2A BQ (.ptr r 0 0) H K=IP H r λx=>Kb x λ_ cs=>HN cs 0 λcl=>ck (Nat.blt (Nat.add 0 0) cl&& !Nat.beq BQ.size 0) (K (.ptr r 0 0)):=rfl;rw[this,Bl f];rfl
  have Y:∀K:K2,A2v A4x EB (.ptr r 0 0) H K=K (.ptr r 0 0):=λK=>by
   have:A2v A4x EB (.ptr r 0 0) H K=IP H r λx=>iK x λq E cs=>HN cs 0 λcl=>ck (q&&B5q A4x E cl (Nat.add 0 0) EB) (K (.ptr r 0 0)):=rfl;rw[this,Bl f];rcases m with rfl|rfl<;>rfl
  rw[N,Y,Iy,J,DT (q:=true) (e:=w) (cs:=[.v (.pointer none),v]) f (by simp) rfl rfl rfl];refine main _ (AC f) ⟨⟨w,m,.inr (AC f)⟩,h.sl.lat h.wf (Lat.upd H r _ (P:=λu=>u=r) rfl) (λu d e=>h.ne (e▸d)),h.ne,Bm h.wf⟩ ⟨λu y d hn _=>by rw[Ag hn];exact d,λu d=>.inl d,by rw[B9];exact MC _⟩
 ·rw[AL (p:=0) rfl f (by simp)];show RN Cu BQ .eql (.ptr r 0 0) (.v (.pointer none)) _=x;have M:∀K:K2,RN Cu BQ .eql (.ptr r 0 0) (.v (.pointer none)) K=K (Bo false):=λK=>id rfl;rw[M,AY,Iy,J,AL (p:=0) rfl f (by simp)];show RN Cu BQ .neq (.ptr r 0 0) (.ptr r 0 0) _=x;have N:∀K:K2,RN Cu BQ .neq (.ptr r 0 0) (.ptr r 0 0) K=K (Bo false):=λK=>by
   have:RN Cu BQ .neq (.ptr r 0 0) (.ptr r 0 0) K=ck (Nat.beq r r&&(Nat.beq (Nat.add 0 0) (Nat.add 0 0)&& !Nat.beq BQ.size 0)) (K (Bo false)):=rfl;rw[this,oW];rfl
  rw[N,AY];exact main H f h (Kp.refl r v H)
end
section
variable{a v v0:AV}{H H0:Hp}{k2:Ru}{zs:List Ha}{e r:Nat}{t:TI}
variable{L n:Nat}{K:KV}{x:Af}
def Sr(H:Hp)(r:Nat)(v a:AV)(cs:Is):Prop:=a=.list cs.length cs\/(a=Aw/\cs=[])\/∃k q e,a=.sl 1 k 0 cs.length/\Ah H k=some (.cells q e cs)/\k≠r/\¬A8 v k
def Sr.kp{H H':Hp}{v f a:AV}{cs:Is}(h:Sr H r v a cs)(w:Wf H)(k:Kp r v H f H'):Sr H' r f a cs:=by
 rcases h with h|h|⟨i,q,e,h1,h2,b,c⟩
 ·exact .inl h
 ·exact .inr (.inl h)
 ·refine .inr (.inr ⟨i,q,e,h1,k.keep i _ h2 b c,b,λg=>?_⟩);rcases k.new i g with d|d
  ·exact c d
  ·have:=w.lt h2;omega
def Sr.len{cs:Is}{e z:Nat}{K:K2}(h:Sr H r v a cs)(c:t.d=.slice e z):Ba t a K=K (I cs.length):=by
 have⟨s,b,d,zr⟩:=t;simp only at c;subst c;rcases h with rfl|⟨rfl,rfl⟩|⟨i,q,e,rfl,_⟩<;>exact id rfl
def Sr.get{r i:Nat}{cs:Is}{t f:TI}{K:K2}(h:Sr H r v a cs)(b:t.d=.slice e 1)(c:f.d.isAgg=false)(hi:i<cs.length):(D4 t a (I i) λp=>AE f p H K)=K (cs.getD i .dk):=by
 rcases h with rfl|⟨_,rfl⟩|⟨k,q,j,rfl,g,_⟩
 ·rw[Zz b rfl (by omega) (by omega),kY,NI c]
 ·simp at hi
 ·rw[A0j b (by omega) (by omega),kY,AL (p:=i) c g hi]
def C2n{zs:List Int}(B:zs.length<100)(hz:∀z∈zs, -10<=z/\z<390){l:Ha}(hb:l.length<900000000)(w0:Wf H0)(u:∀k b,Bld r (l++Js zs) k b->Kp r v0 H0 k b->k2 b=x):∀(f i:Nat)(v:AV)(H:Hp),i<=zs.length->zs.length-i<f->Bld r (l++Js (zs.take i)) v H->Kp r v0 H0 v H->Sr H r v a (Ff zs)->
 GA (L+20) (r! L (n+9)) K k2 f (.ptr r 0 0) a (I zs.length) (I i) H=x:=by
 intro f
 induction f with
 |zero=>intro i v H _ h;omega
 |succ f ih=>
  intro i v H hi A j m q;rw[Od];unfold GB Ia A4;by_cases h:i<zs.length
  ·have g:=hz zs[i] (Ql h);have p:=F9 (zs.take i);have w:(zs.take i).length<=zs.length:=by simp;omega
   have y:=Ud zs[i];rw[XA2 (by omega),Cy,q.get rfl rfl (by simp[Ff];omega),Th h,A18 (L:=L) (n:=n+1) g.1 g.2,EG,EF,Iy];have s:∀K:K2,CI 0 (.ptr r 0 0) K=K (.ptr r 0 0):=λK=>id rfl;rw[s];refine S' (n:=n+7) j (by rw[EN];omega) λk b c d=>?_;rw[CW (by omega)];rw[eI,<-I? zs h]at c;exact ih (i+1) k b (by omega) (by omega) c (m.trans w0 d) (q.kp j.wf d)
  ·rw[Fk (by omega),AY];have:i=zs.length:=by omega
   subst this;rw[rW]at j;exact u v H j m
def A7e{zs:List Int}{l:Ha}(k:100<L)(i:zs.length<100)(hz:∀z∈zs, -10<=z/\z<390)(hb:l.length<900000000)(c:Bld r l v H)(d:Sr H r v a (Ff zs))(j:∀f b,Bld r (l++Js zs) f b->Kp r v H f b->K (.tup []) b=x):(r! L (n+10)).call BW [.ptr r 0 0,a] H K=x:=by
 rw[OM];unfold GX A4;rw[d.len rfl];simp only[BF];have g:(AV.v (.int .i64 0))=I ((0:Nat):Int):=rfl;have h:(Ff zs).length=zs.length:=by simp[Ff]
 rw[g,h];exact C2n (n:=n) i hz hb c.wf j (L+20) 0 v H (by omega) (by omega) (by simpa [Js] using c) (Kp.refl r v H) d
def C2j(C:zs.length<100)(hz:∀z∈zs,z.length<390){l:Ha}(hb:l.length<900000000)(w0:Wf H0)(w:∀k b,Bld r (l++I0 zs) k b->Kp r v0 H0 k b->k2 b=x):∀(f i:Nat)(v:AV)(H:Hp),i<=zs.length->zs.length-i<f->Bld r (l++I0 (zs.take i)) v H->Kp r v0 H0 v H->Sr H r v a (AF zs)->
 HC (L+20) (r! L (n+9)) K k2 f (.ptr r 0 0) a (I zs.length) (I i) H=x:=by
 intro f
 induction f with
 |zero=>intro i v H _ h;omega
 |succ f ih=>
  intro i v H hi B g p j;rw[Pw];unfold HD Ia A4;by_cases h:i<zs.length
  ·have m:=hz zs[i] (Ql h);have q:=F8 (zs.take i) (λs j=>hz s (l29 j));have y:(zs.take i).length<=zs.length:=by simp;omega
   have A:(A0e zs[i]).length<=400:=by unfold A0e;rw[EN];have:=Ud (zs[i].length:Int);omega
   rw[XA2 (by omega),Cy,j.get rfl rfl (by simp[AF];omega),PK h,A17 L n m,EG,EF,Iy];have u:∀K:K2,CI 0 (.ptr r 0 0) K=K (.ptr r 0 0):=λK=>id rfl;rw[u];refine S' (n:=n+7) g (by rw[EN];omega) λk b c d=>?_;rw[CW (by omega)];rw[eI,<-I! zs h]at c;exact ih (i+1) k b (by omega) (by omega) c (p.trans w0 d) (j.kp g.wf d)
  ·rw[Fk (by omega),AY];have:i=zs.length:=by omega
   subst this;rw[rW]at g;exact w v H g p
def S!{l:Ha}(k:100<L)(i:zs.length<100)(hz:∀z∈zs,z.length<390)(hb:l.length<900000000)(c:Bld r l v H)(d:Sr H r v a (AF zs))(j:∀f b,Bld r (l++I0 zs) f b->Kp r v H f b->K (.tup []) b=x):(r! L (n+10)).call CC [.ptr r 0 0,a] H K=x:=by
 rw[Qc];unfold Io A4;rw[d.len rfl];simp only[BF];have g:(AV.v (.int .i64 0))=I ((0:Nat):Int):=rfl;have h:(AF zs).length=zs.length:=by simp[AF]
 rw[g,h];exact C2j (n:=n) i hz hb c.wf j (L+20) 0 v H (by omega) (by omega) (by simpa [I0] using c) (Kp.refl r v H) d
end
section
variable{v:AV}{q:Bool}{H:Hp}{e i k r:Nat}
variable{L n:Nat}{K:KV}{x:Af}
abbrev Rts:=List (Ha×Ha)
def rtC(q:Ha×Ha):Is:=[S q.1,S q.2]
def RK(l:Rts):Ha:=(l.map λq=>I0 [q.1,q.2]).flatten
def A8f(l:Rts)(h:i<l.length):RK (l.take (i+1))=RK (l.take i)++I0 [l[i].1,l[i].2]:=by
 unfold RK;rw[nL h,dW,List.flatten_append];simp only[X0,List.map_nil,l1d,List.flatten_nil,Vq]
def Pp(l:Rts)(h:∀q∈l,q.1.length<390/\q.2.length<390):(RK l).length<=800*l.length:=by
 induction l with
 |nil=>simp[RK]
 |cons s l ih=>
  have a:=ih (λs c=>h s (by simp[c]));have b:=F8 [s.1,s.2] (by simp;exact h s (by simp));simp only[RK,X0,l1d,EN,LI,Rv]at a b⊢;omega
def Kp.cons{y:Row}(w:Wf H):Kp r v H v ((Ar H,y)::H):=⟨λu z a _ _=>A6 (w.lt a) a,λu a=>.inl a,l1u _⟩
def Bld.lt{l:Ha}(h:Bld r l v H):r<Ar H:=by obtain⟨_,_,h1|h1⟩:=h.at_<;>exact h.wf.lt h1
def Bld.vlt{r u:Nat}{l:Ha}(h:Bld r l v H)(a:A8 v u):u<Ar H:=h.sl.lt h.wf a
def C1m{r m i:Nat}{K:K2}(h:i<m):D4 Ju (.sl 2 r 0 m) (I i) K=K (.ptr r (2*i) 0):=by
 have a:D4 Ju (.sl 2 r 0 m) (I (i:Int)) K=iN (i:Int) λk=>ck (Nat.blt k m) (fN (Nat.add 0 (Nat.mul k 2)) λq=>K (.ptr r q 0)):=rfl;rw[a,JU,DF];have h2:Nat.blt i m=true:=by rw[Wg];exact h
 have b:Nat.add 0 (Nat.mul i 2)=2*i:=by show 0+i*2=_;omega
 rw[h2,b];rfl
def C2k{rs:Rts}{k2:Ru}(hl:rs.length<100)(hz:∀z∈rs,z.1.length<390/\z.2.length<390){l:Ha}(hL:100<L)(hb:l.length<800000000){v0:AV}{H0:Hp}(w0:Wf H0)(Q:k≠r)(hx:∀F m,Bld r (l++RK rs) F m->Kp r v0 H0 F m->k2 m=x):∀(f i:Nat)(v:AV)(H:Hp),i<=rs.length->rs.length-i<f->Bld r (l++RK (rs.take i)) v H->Kp r v0 H0 v H->Ah H k=some (.cells q e (rs.flatMap rtC))->¬A8 v k->
 GR (L+20) (r! L (n+10)) K k2 f (.ptr r 0 0) (.sl 2 k 0 rs.length) (I rs.length) (I i) H=x:=by
 intro f
 induction f with
 |zero=>intro i v H _ h;omega
 |succ f ih=>
  intro i v H hi hf d Y C D;rw[O9];unfold GS DN Ia A4;by_cases h:i<rs.length
  ·have V:=hz rs[i] (Ql h);have Z:=Pp (rs.take i) (λs C=>hz s (l29 C));have h5:(rs.take i).length<=rs.length:=by simp;omega
   rw[XA2 (by omega),Cy,C1m h];have N:=jW rtC 2 (λ_=>rfl) rs;have M:=vX rtC 2 (λ_=>rfl) rs i h;have R:∀K,AE A3 (.ptr k (2*i) 0) H K=K (.agg (rtC rs[i])):=λK=>by
    rw[DD (p:=2*i) rfl C (by rw[N];show 2*i+2<=_;omega),Nat.mul_comm 2 i];show K (.agg (((rs.flatMap rtC).drop (i*2)).take 2))=_;rw[M]
   rw[R,Bv (cs:=[zS,zS]) rfl];have B:=Ay (H:=H) (x:=.cells true Bw [zS,zS]) (by simp);rw[BO (vs:=rtC rs[i]) B rfl rfl rfl];have g:=AC (q:=true) (e:=Bw) (cs:=rtC rs[i]) B;have aa:=d.lt;have b:=(d.cons (y:=.cells true Bw [zS,zS])).upd (s:=Ar H) (y:=.cells true Bw (rtC rs[i])) (by omega) (λc=>by have:=d.vlt c;omega);have A:Kp r v H v (upd ((Ar H,c_ Bw [zS,zS])::H) (Ar H) (c_ Bw (rtC rs[i]))):=⟨λu y c h1 h2=>by
    have:=d.wf.lt c;rw[Ag (by omega)];exact A6 this c,λu c=>.inl c,by rw[B9];exact l1u _⟩
   generalize upd ((Ar H,c_ Bw [zS,zS])::H) (Ar H) (c_ Bw (rtC rs[i]))=a at g b A;generalize Ar H=t at g;have g0:∀K:K2,CI 0 (.ptr t 0 0) K=K (.ptr t 0 0):=λK=>id rfl;have g1:∀K:K2,CI 1 (.ptr t 0 0) K=K (.ptr t 1 0):=λK=>id rfl;have m0:∀K,AE Ai (.ptr t 0 0) a K=K (S rs[i].1):=λK=>AL (p:=0) rfl g (show 0<2 by decide);have m1:∀K,AE Ai (.ptr t 1 0) a K=K (S rs[i].2):=λK=>AL (p:=1) rfl g (show 1<2 by decide);rw[g0,m0,g1,m1];have bs:∀K:KV,GF Au 1 Ai 2 [(0,1,S rs[i].1),(1,1,S rs[i].2)] a K=K (.sl 1 (Ar a) 0 2) ((Ar a,.cells false Au (AF [rs[i].1,rs[i].2]))::a):=λK=>by
    have e:GF Au 1 Ai 2 [(0,1,S rs[i].1),(1,1,S rs[i].2)] a K=HE a λs=>K (.sl 1 s 0 2) ((s,.cells false Au (AF [rs[i].1,rs[i].2]))::a):=rfl;rw[e,BS]
   rw[bs];have J:=b.cons (y:=.cells false Au (AF [rs[i].1,rs[i].2]));have P:Kp r v H v ((Ar a,.cells false Au (AF [rs[i].1,rs[i].2]))::a):=A.trans d.wf (Kp.cons b.wf);refine S! (n:=n) hL (zs:=[rs[i].1,rs[i].2]) (by simp) (by simp;exact V) (by rw[EN];omega) J (.inr (.inr ⟨Ar a,false,Au,rfl,Ay (by simp),by have:=b.lt;omega,λc=>by have:=b.vlt c;omega⟩)) λF m w O=>?_;rw[CW (by omega)];rw[eI,<-A8f rs h]at w;have j:=P.trans d.wf O;refine ih (i+1) F m (by omega) (by omega) w (Y.trans w0 j) (j.keep k _ C Q D) (λc=>?_);rcases j.new k c with X|X
   ·exact D X
   ·have:=d.wf.lt C;omega
  ·rw[Fk (by omega),AY];have:i=rs.length:=by omega
   subst this;rw[rW]at d;exact hx v H d Y
def A9s{rs:Rts}{l:Ha}(h:100<L)(j:rs.length<100)(hz:∀z∈rs,z.1.length<390/\z.2.length<390)(hb:l.length<800000000)(d:Bld r l v H)(b:k≠r)(m:Ah H k=some (.cells q e (rs.flatMap rtC)))(c:¬A8 v k)(p:∀f a,Bld r (l++RK rs) f a->Kp r v H f a->K (.tup []) a=x):(r! L (n+11)).call CU [.ptr r 0 0,.sl 2 k 0 rs.length] H K=x:=by
 rw[PB];unfold HK A4;have el:∀K,Ba Ju (.sl 2 k 0 rs.length) K=K (I rs.length):=λK=>id rfl;rw[el];simp only[BF];have g:(AV.v (.int .i64 0))=I ((0:Nat):Int):=rfl;rw[g];exact C2k (n:=n) j hz h hb d.wf b p (L+20) 0 v H (by omega) (by omega) (by simpa [RK] using d) (Kp.refl r v H) m c
end
section
variable{L n:Nat}{K:KV}{x:Af}
structure Bd(r:Nat)(ks:List (Nat×Row))(b:Nat)(l:Ha)(v:AV)(H:Hp):Prop where
 bld:Bld r l v H
 ks:∀p∈ks,Ah H p.1=some p.2/\p.1≠r/\¬A8 v p.1
 sz:l.length<=b
def Bd.step{r b d:Nat}{ks:List (Nat×Row)}{l a:Ha}{v c:AV}{H H':Hp}(h:Bd r ks b l v H)(g:Bld r a c H')(k:Kp r v H c H')(j:a.length<=d):Bd r ks d a c H':=
 ⟨g,λp i=>by
  have⟨h1,h2,e⟩:=h.ks p i;refine⟨k.keep p.1 _ h1 h2 e,h2,λm=>?_⟩;rcases k.new p.1 m with f|f
  ·exact e f
  ·have:=h.bld.wf.lt h1;omega,j⟩
def Bd.less{r b:Nat}{ks:List (Nat×Row)}{p:Nat×Row}{l:Ha}{v:AV}{H:Hp}(h:Bd r (p::ks) b l v H):Bd r ks b l v H:=⟨h.bld,λq hq=>h.ks q (List.mem_cons_of_mem _ hq),h.sz⟩
section
variable{r b:Nat}{ks:List (Nat×Row)}{l:Ha}{v:AV}{H:Hp}
def oL(h:Bd r ks b l v H)(f:100<L)(hb:b<500000000)(zs:List Int)(i:zs.length<100)(hz:∀z∈zs, -10<=z/\z<390)(k:∀c a,Bd r ks (b+50000) (l++Js zs) c a->K (.tup []) a=x):
 (r! L (n+10)).call BW [.ptr r 0 0,.sl 1 (Ar H) 0 zs.length] ((Ar H,.cells false Hh (Ff zs))::H) K=x:=by
 have h1:=h.sz;have h2:=F9 zs;have d:(Ff zs).length=zs.length:=by simp[Ff]
 refine A7e (n:=n) f i hz (by omega) h.bld.cons (.inr (.inr ⟨Ar H,false,Hh,by rw[d],Ay (by simp),by have:=h.bld.lt;omega,λj=>by have:=h.bld.vlt j;omega⟩)) λc a e g=>?_;exact k c a (h.step e ((Kp.cons h.bld.wf).trans h.bld.wf g) (by rw[EN];omega))
def B2P(h:Bd r ks b l v H)(e:100<L)(hb:b<500000000)(zs:List Ha)(g:zs.length<100)(hz:∀z∈zs,z.length<390)(j:∀c a,Bd r ks (b+50000) (l++I0 zs) c a->K (.tup []) a=x):
 (r! L (n+10)).call CC [.ptr r 0 0,.sl 1 (Ar H) 0 zs.length] ((Ar H,.cells false Au (AF zs))::H) K=x:=by
 have h1:=h.sz;have h2:=F8 zs hz;refine S! (n:=n) e g hz (by omega) h.bld.cons (.inr (.inr ⟨Ar H,false,Au,by rw[Be],Ay (by simp),by have:=h.bld.lt;omega,λi=>by have:=h.bld.vlt i;omega⟩)) λc a d f=>?_;exact j c a (h.step d ((Kp.cons h.bld.wf).trans h.bld.wf f) (by rw[EN];omega))
def C1P(h:Bd r ks b l v H)(f:100<L)(hb:b<500000000)(zs:List Ha)(a:AV)(g:a=.list zs.length (AF zs)\/(a=Aw/\zs=[]))(j:zs.length<100)(hz:∀z∈zs,z.length<390)(k:∀d c,Bd r ks (b+50000) (l++I0 zs) d c->K (.tup []) c=x):
 (r! L (n+10)).call CC [.ptr r 0 0,a] H K=x:=by
 have h1:=h.sz;have h2:=F8 zs hz;refine S! (n:=n) f j hz (by omega) h.bld ?_ λd c e i=>k d c (h.step e i (by rw[EN];omega));rcases g with rfl|⟨rfl,rfl⟩
 ·exact .inl (by rw[Be])
 ·exact .inr (.inl ⟨rfl,rfl⟩)
def A0v(h:Bd r ks b l v H)(e:100<L)(hb:b<500000000)(rs:Rts)(j:rs.length<50)(hz:∀z∈rs,z.1.length<390/\z.2.length<390)(i:∀c a,Bd r ks (b+50000) (l++RK rs) c a->K (.tup []) a=x):
 (r! L (n+11)).call CU [.ptr r 0 0,.sl 2 (Ar H) 0 rs.length] ((Ar H,.cells false Bw (rs.flatMap rtC))::H) K=x:=by
 have h1:=h.sz;have h2:=Pp rs hz;refine A9s (n:=n) e (by omega) hz (by omega) h.bld.cons (by have:=h.bld.lt;omega) (Ay (by simp)) (λg=>by have:=h.bld.vlt g;omega) λc a d f=>?_;exact i c a (h.step d ((Kp.cons h.bld.wf).trans h.bld.wf f) (by rw[EN];omega))
def Bd.cons{y:Row}(h:Bd r ks b l v H):Bd r ks b l v ((Ar H,y)::H):=h.step h.bld.cons (Kp.cons h.bld.wf) h.sz
def C2r(h:Bld r l v H):(r! L (n+1)).call Ic [.ptr r 0 0] H K=K (I l.length) H:=by
 rw[TJ];unfold Kh Ih;have a1:∀K:K2,CI 1 (.ptr r 0 0) K=K (.ptr r 1 0):=λK=>id rfl;rw[Iy,a1];have c:∀K,AE AZ (.ptr r 1 0) H K=K v:=λK=>by
  obtain⟨_,_,a|a⟩:=h.at_<;>exact AL (p:=1) rfl a (by simp)
 rw[c,LD rfl h.sl]
def A16(h:Bld r l v H)(u:0<l.length)(hb:l.length<1000000000):∃a,∀K,(r! L (n+1)).call EO [.ptr r 0 0] H K=K (S l) a:=by
 rcases h.sl with⟨_,h1,_⟩|⟨s,q,rfl,t,hc⟩
 ·omega
 ·refine⟨upd H s .gone,λK=>?_⟩;rw[Rc];unfold IU Ih;have a1:∀K:K2,CI 1 (.ptr r 0 0) K=K (.ptr r 1 0):=λK=>id rfl;have i:∀K,AE AZ (.ptr r 1 0) H K=K (.sl 1 s 0 l.length):=λK=>by
   obtain⟨_,_,c|c⟩:=h.at_<;>exact AL (p:=1) rfl c (by simp)
  have j:∀K,A8i (.sl 1 s 0 l.length) K=K (.ptr s 0 0):=λK=>by
   have:A8i (.sl 1 s 0 l.length) K=ck (Nat.beq 1 1&&Nat.blt 0 l.length) (K (.ptr s 0 0)):=rfl;rw[this];have:(Nat.beq 1 1&&Nat.blt 0 l.length)=true:=by simp;omega
   rw[this];rfl
  have k:∀K,Ba AZ (.sl 1 s 0 l.length) K=K (I l.length):=λK=>id rfl;have m:∀K:KV,A4Q B3 (.ptr s 0 0) (I l.length) H K=K (S l) (upd H s .gone):=λK=>by
   have:A4Q B3 (.ptr s 0 0) (I l.length) H K=iN (l.length:Int) λn=>IP H s λx=>Kb x λE cs=>ck (Nat.beq E B3&&(Nat.blt 0 n&&Nat.blt n 9223372036854775807)) (E9 n (Dn (Nat.add 0 0) cs) λd=>fu8 d λl=>LJ H s .gone λa=>K (.v (.string ⟨⟨l⟩⟩)) a):=rfl;rw[this,JU,Bl t];show ck (Nat.beq B3 B3&&(Nat.blt 0 l.length&&Nat.blt l.length 9223372036854775807)) _=_;have g:(Nat.beq B3 B3&&(Nat.blt 0 l.length&&Nat.blt l.length 9223372036854775807))=true:=by simp;omega
   rw[g];show E9 l.length (Dn 0 (MM l)) _=_;have f:∀(l:Ha)(K:Ha->Af),fu8 (MM l) K=K l:=λl=>by
    induction l with
    |nil=>intro K;rfl
    |cons b l ih=>
     intro K;have e:fu8 (MM (b::l)) K=iN (b.toNat:Int) λn=>fu8 (MM l) λl=>K (UInt8.ofNat n::l):=rfl;rw[e,JU,ih];simp
   rw[CA,Km _ _ _ (by rw[qV,Q8];exact MC _),qV,l25 (by rw[Q8];exact MC _),f,Dh]
  simp only[Iy,B1,a1,i,j,k,m,BK]
end
end
section
variable{H:Hp}
variable{L n:Nat}{K:KV}{x:Af}
def tmB(t:Int×Int):Ha:=Js [t.1]++RK [(qn t.2,qd t.2)]
def Ry(ts:eO):Ha:=(ts.map tmB).flatten
def zW(l:eO){i:Nat}(h:i<l.length):Ry (l.take (i+1))=Ry (l.take i)++tmB l[i]:=by
 unfold Ry;rw[nL h,dW,List.flatten_append];simp only[X0,List.map_nil,l1d,List.flatten_nil,Vq]
def dB{z:Int}:GF Hh 1 Ad 1 [(0,1,I z)] H K=K (.sl 1 (Ar H) 0 1) ((Ar H,.cells false Hh (Ff [z]))::H):=by
 have e:GF Hh 1 Ad 1 [(0,1,I z)] H K=HE H λs=>K (.sl 1 s 0 1) ((s,.cells false Hh (Ff [z]))::H):=rfl;rw[e,BS]
def kP{z:Ha}:GF Au 1 Ai 1 [(0,1,S z)] H K=K (.sl 1 (Ar H) 0 1) ((Ar H,.cells false Au (AF [z]))::H):=by
 have e:GF Au 1 Ai 1 [(0,1,S z)] H K=HE H λs=>K (.sl 1 s 0 1) ((s,.cells false Au (AF [z]))::H):=rfl;rw[e,BS]
def A0u{a b:Ha}:GF Bw 2 A3 1 [(0,2,.agg [S a,S b])] H K=K (.sl 2 (Ar H) 0 1) ((Ar H,.cells false Bw (([(a,b)]:Rts).flatMap rtC))::H):=by
 have e:GF Bw 2 A3 1 [(0,2,.agg [S a,S b])] H K=HE H λs=>K (.sl 2 s 0 1) ((s,.cells false Bw (([(a,b)]:Rts).flatMap rtC))::H):=rfl;rw[e,BS]
def C50{r c:Nat}{ks:List (Nat×Row)}{ts:eO}{g:AV->KV}(P:TmsOk ts)(M:100<L){b:Nat}(hb:b<100000000){l:Ha}(hx:∀v' F,Bd r ks (b+100000*ts.length) (l++Ry ts) v' F->g (.ptr c 0 0) (.ptr r 0 0) F=x):∀(f i:Nat)(v:AV)(H:Hp),i<=ts.length->ts.length-i<f->Bd r ks (b+100000*i) (l++Ry (ts.take i)) v H->
 MK (L+20) (r! L (n+11)) K g f (.ptr c 0 0) (.ptr r 0 0) (E4 ts) (I ts.length) (I i) H=x:=by
 have N:=P.len;intro f
 induction f with
 |zero=>intro i v H _ h;omega
 |succ f ih=>
  intro i v H hi hf a;rw[Yr];unfold ML DN Ia A4;by_cases h:i<ts.length
  ·have hr:=P.rng _ (Ql h);rw[XA2 (by omega),Cy,Ue h,lTm,Bv (cs:=[zI,zS,zS]) rfl];have u:=Ay (H:=H) (x:=.cells true Bf [zI,zS,zS]) (by simp);rw[BO (vs:=NO ts[i]) u rfl rfl rfl];have d:=AC (q:=true) (e:=Bf) (cs:=NO ts[i]) u;have O:=a.bld.lt;have w:=(a.bld.cons (y:=.cells true Bf [zI,zS,zS])).upd (s:=Ar H) (y:=.cells true Bf (NO ts[i])) (by omega) (λD=>by have:=a.bld.vlt D;omega);have j:Bd r ((Ar H,c_ Bf (NO ts[i]))::ks) (b+100000*i) (l++Ry (ts.take i)) v (upd ((Ar H,c_ Bf [zI,zS,zS])::H) (Ar H) (c_ Bf (NO ts[i]))):=⟨w,λp B=>by
    rcases Vp.1 B with rfl|B
    ·exact⟨d,by simp only;omega,λD=>by have:=a.bld.vlt D;omega⟩
    ·have⟨p1,p2,p3⟩:=a.ks p B;have:=a.bld.wf.lt p1;exact⟨by rw[Ag (by omega)];exact A6 this p1,p2,p3⟩,a.sz⟩
   generalize upd ((Ar H,c_ Bf [zI,zS,zS])::H) (Ar H) (c_ Bf (NO ts[i]))=Q at d j;generalize Ar H=t at d j;have Y:∀K:K2,CI 0 (.ptr t 0 0) K=K (.ptr t 0 0):=λK=>id rfl;have Z:∀K:K2,CI 1 (.ptr t 0 0) K=K (.ptr t 1 0):=λK=>id rfl;have m0:∀K,AE Ad (.ptr t 0 0) Q K=K (I ts[i].1):=λK=>AL (p:=0) rfl d (show 0<3 by decide);rw[Y,m0,dB];refine oL (n:=n+1) j M (by omega) [ts[i].1] (by simp) (by simp;omega) λv2 J k=>?_;have C:Ah J t=some (c_ Bf (NO ts[i])):=(k.ks (t,c_ Bf (NO ts[i])) (by simp)).1;have m1:∀K,AE A3 (.ptr t 1 0) J K=K (.agg (qa ts[i].2)):=λK=>DD (p:=1) rfl C (show 3<=3 from MC _);rw[Z,m1,A0u];have aa:=YJ (z:=ts[i].2) (by omega) (by omega);have ab:=YK ts[i].2;refine A0v (n:=n) k M (by omega) [(qn ts[i].2,qd ts[i].2)] (by simp) (by simp;omega) λv3 R A=>?_;rw[CW (by omega)];have V:l++Ry (ts.take i)++Js [ts[i].1]++RK [(qn ts[i].2,qd ts[i].2)]=l++Ry (ts.take (i+1)):=by
    rw[zW ts h];simp[tmB]
   have X:b+100000*i+50000+50000=b+100000*(i+1):=by omega
   have m:=A.less;rw[V,X]at m;exact ih (i+1) v3 R (by omega) (by omega) m
  ·rw[Fk (by omega),AY];have:i=ts.length:=by omega
   subst this;rw[rW]at a;exact hx v H a
end
section
variable{L n:Nat}
def VA(r:RD)(vd:Int):Ha:=Js [r.k]++RK [(r.a1,r.a2),(r.b1,r.b2),(r.c1,r.c2),(r.d1,r.d2)]++Js [vd]
def NX(kd:Int)(m:ND)(un ca cb:Ha)(ts:eO)(ra rb:Ha)(ps:List Ha)(pt:Ha)(tail:Ha):Ha:=
 []++Js [kd,m.lab,m.num,m.itm,m.tim,m.day]++I0 [un]++RK [(ca,cb)]++Js [(ts.length:Int)]++Ry ts++RK [(ra,rb)]++Js [(ps.length:Int)]++I0 ps++I0 [pt]++tail
def B3J:PS (r! L (n+40)) eM [.agg [I 0,Aw,Aw]] (.tup [S [],I 200]):=BM (λH K=>by kernel_rfl) (by kernel_rfl)
def B3O:PS (r! L (n+40)) QO [.agg [I 0,Aw,Aw]] (Bo true):=BM (λH K=>by kernel_rfl) (by kernel_rfl)
def Di(ps:List Ha):AV:=match ps with
 |[]=>Aw
 |p::ps=>.list (p::ps).length (AF (p::ps))
section
variable{m:ND}{u o:UD}{ca cb ra rb:Ha}{T P ins nds:AV}{kd id vd:Int}{r:RD}{c:Nat}{H:Hp}{K:K2}
abbrev L1(kd:Int)(m:ND)(u:UD)(ca cb:Ha)(T:AV)(ra rb:Ha)(P:AV)(id:Int)(ins nds:AV)(o:UD)(r:RD)(vd:Int):Row:=.cells true Ab (Ea kd m u ca cb T ra rb P id ins nds o r vd)
def T4(e:Sl T)(d:Sl P)(a:Sl ins)(b:Sl nds):(Ea kd m u ca cb T ra rb P id ins nds o r vd).all AV.one=true:=by
 rcases e with rfl|⟨_,_,rfl⟩<;>rcases d with rfl|⟨_,_,rfl⟩<;>rcases a with rfl|⟨_,_,rfl⟩<;>rcases b with rfl|⟨_,_,rfl⟩<;>rfl
def XQ(e:Sl T)(d:Sl P)(a:Sl ins)(b:Sl nds):RZ true depth [.agg (Ea kd m u ca cb T ra rb P id ins nds o r vd)] [.agg (Ea kd m u ca cb T ra rb P id ins nds o r vd)] H false:=by
 rcases e with rfl|⟨_,_,rfl⟩<;>rcases d with rfl|⟨_,_,rfl⟩<;>rcases a with rfl|⟨_,_,rfl⟩<;>rcases b with rfl|⟨_,_,rfl⟩<;>exact λK=>by kernel_rfl
def WX(a:Sl ins)(b:Sl nds):RZ true depth [.agg (B0 id ins nds o)] [.agg (B0 id ins nds o)] H false:=by
 rcases a with rfl|⟨_,_,rfl⟩<;>rcases b with rfl|⟨_,_,rfl⟩<;>exact λK=>by kernel_rfl
def cA(a:Ah H c=some (L1 kd m u ca cb T ra rb P id ins nds o r vd)):AE Ae (.ptr c 0 0) H K=K (.agg (Ea kd m u ca cb T ra rb P id ins nds o r vd)):=Bu rfl rfl a
def cI0(a:Ah H c=some (L1 kd m u ca cb T ra rb P id ins nds o r vd)):AE Ad (.ptr c 0 0) H K=K (I kd):=AL (p:=0) rfl a (show 0<68 by decide)
def cI1(a:Ah H c=some (L1 kd m u ca cb T ra rb P id ins nds o r vd)):AE Ad (.ptr c 1 0) H K=K (I m.lab):=AL (p:=1) rfl a (show 1<68 by decide)
def cI2(a:Ah H c=some (L1 kd m u ca cb T ra rb P id ins nds o r vd)):AE Ad (.ptr c 2 0) H K=K (I m.num):=AL (p:=2) rfl a (show 2<68 by decide)
def cI3(a:Ah H c=some (L1 kd m u ca cb T ra rb P id ins nds o r vd)):AE Ad (.ptr c 3 0) H K=K (I m.itm):=AL (p:=3) rfl a (show 3<68 by decide)
def cI4(a:Ah H c=some (L1 kd m u ca cb T ra rb P id ins nds o r vd)):AE Ad (.ptr c 4 0) H K=K (I m.tim):=AL (p:=4) rfl a (show 4<68 by decide)
def cI5(a:Ah H c=some (L1 kd m u ca cb T ra rb P id ins nds o r vd)):AE Ad (.ptr c 5 0) H K=K (I m.day):=AL (p:=5) rfl a (show 5<68 by decide)
def cU(a:Ah H c=some (L1 kd m u ca cb T ra rb P id ins nds o r vd)):AE A0 (.ptr c 6 0) H K=K (.agg (Cz u)):=DD (p:=6) rfl a (show 26<=68 by decide)
def cC(a:Ah H c=some (L1 kd m u ca cb T ra rb P id ins nds o r vd)):AE A3 (.ptr c 26 0) H K=K (.agg ([S ca,S cb])):=DD (p:=26) rfl a (show 28<=68 by decide)
def cT(a:Ah H c=some (L1 kd m u ca cb T ra rb P id ins nds o r vd)):AE A1 (.ptr c 28 0) H K=K (T):=AL (p:=28) rfl a (show 28<68 by decide)
def cR(a:Ah H c=some (L1 kd m u ca cb T ra rb P id ins nds o r vd)):AE A3 (.ptr c 29 0) H K=K (.agg ([S ra,S rb])):=DD (p:=29) rfl a (show 31<=68 by decide)
def cP(a:Ah H c=some (L1 kd m u ca cb T ra rb P id ins nds o r vd)):AE Ac (.ptr c 31 0) H K=K (P):=AL (p:=31) rfl a (show 31<68 by decide)
def cPr(a:Ah H c=some (L1 kd m u ca cb T ra rb P id ins nds o r vd)):AE AU (.ptr c 32 0) H K=K (.agg (B0 id ins nds o)):=DD (p:=32) rfl a (show 55<=68 by decide)
def cRk(a:Ah H c=some (L1 kd m u ca cb T ra rb P id ins nds o r vd)):AE Ad (.ptr c 55 0) H K=K (I r.k):=AL (p:=55) rfl a (show 55<68 by decide)
def cR1(a:Ah H c=some (L1 kd m u ca cb T ra rb P id ins nds o r vd)):AE A3 (.ptr c 56 0) H K=K (.agg ([S r.a1,S r.a2])):=DD (p:=56) rfl a (show 58<=68 by decide)
def cR2(a:Ah H c=some (L1 kd m u ca cb T ra rb P id ins nds o r vd)):AE A3 (.ptr c 58 0) H K=K (.agg ([S r.b1,S r.b2])):=DD (p:=58) rfl a (show 60<=68 by decide)
def cR3(a:Ah H c=some (L1 kd m u ca cb T ra rb P id ins nds o r vd)):AE A3 (.ptr c 60 0) H K=K (.agg ([S r.c1,S r.c2])):=DD (p:=60) rfl a (show 62<=68 by decide)
def cR4(a:Ah H c=some (L1 kd m u ca cb T ra rb P id ins nds o r vd)):AE A3 (.ptr c 62 0) H K=K (.agg ([S r.d1,S r.d2])):=DD (p:=62) rfl a (show 64<=68 by decide)
def cV(a:Ah H c=some (L1 kd m u ca cb T ra rb P id ins nds o r vd)):AE Ad (.ptr c 64 0) H K=K (I vd):=AL (p:=64) rfl a (show 64<68 by decide)
def cS(a:Ah H c=some (L1 kd m u ca cb T ra rb P id ins nds o r vd)):AE LO (.ptr c 65 0) H K=K (.agg ([I 0,Aw,Aw])):=DD (p:=65) rfl a (show 68<=68 by decide)
def fA{c j k:Nat}:CI j (.ptr c k 0) K=K (.ptr c (k+j) 0):=by
 have e:CI j (.ptr c k 0) K=fN (Nat.add k j) λq=>K (.ptr c q 0):=rfl;rw[e,DF];rfl
end
def iF(ts:eO)(h:∀t∈ts,(qn t.2).length<390/\(qd t.2).length<390):(Ry ts).length<=900*ts.length:=by
 induction ts with
 |nil=>simp[Ry]
 |cons t l ih=>
  have h1:=ih (λt b=>h t (by simp[b]));have h2:=F9 [t.1];have a:=Pp [(qn t.2,qd t.2)] (by simp;exact h t (by simp));simp only[Ry,X0,l1d,EN,LI,Rv,tmB]at h1 h2 a⊢;omega
def Bd.tms0{r b:Nat}{ks:List (Nat×Row)}{l:Ha}{v:AV}{H:Hp}(ts:eO)(h:Bd r ks b l v H):Bd r ks (b+100000*0) (l++Ry (ts.take 0)) v H:=by
 rw[show Ry (ts.take 0)=[] from rfl,Vq];exact h
def B65(z:Int):0<(enc z).length:=by
 unfold enc B25;split<;>simp
def B6n{a b c d e f:Int}{H:Hp}{K:KV}:GF Hh 1 Ad 6 [(0,1,I a),(1,1,I b),(2,1,I c),(3,1,I d),(4,1,I e),(5,1,I f)] H K=K (.sl 1 (Ar H) 0 6) ((Ar H,.cells false Hh (Ff [a,b,c,d,e,f]))::H):=by
 have g:GF Hh 1 Ad 6 [(0,1,I a),(1,1,I b),(2,1,I c),(3,1,I d),(4,1,I e),(5,1,I f)] H K=HE H λs=>K (.sl 1 s 0 6) ((s,.cells false Hh (Ff [a,b,c,d,e,f]))::H):=rfl;rw[g,BS]
def B6m{a1 a2 b1 b2 c1 c2 d1 d2:Ha}{H:Hp}{K:KV}:GF Bw 2 A3 4 [(0,2,.agg [S a1,S a2]),(2,2,.agg [S b1,S b2]),(4,2,.agg [S c1,S c2]),(6,2,.agg [S d1,S d2])] H K=K (.sl 2 (Ar H) 0 4) ((Ar H,.cells false Bw (([(a1,a2),(b1,b2),(c1,c2),(d1,d2)]:Rts).flatMap rtC))::H):=by
 have g:GF Bw 2 A3 4 [(0,2,.agg [S a1,S a2]),(2,2,.agg [S b1,S b2]),(4,2,.agg [S c1,S c2]),(6,2,.agg [S d1,S d2])] H K=HE H λs=>K (.sl 2 s 0 4) ((s,.cells false Bw (([(a1,a2),(b1,b2),(c1,c2),(d1,d2)]:Rts).flatMap rtC))::H):=rfl;rw[g,BS]
def kE{ps:List Ha}{K:K2}:Ba Ac (Di ps) K=K (I ps.length):=by cases ps<;>exact id rfl
section
variable{m:ND}{u o:UD}{ca cb ra rb un pt:Ha}{ts:eO}{ps:List Ha}{ins nds:AV}{kd id vd pe:Int}{r:RD}
set_option maxHeartbeats 2000000 in
def A3J(w:100<L)(hm:m.ok)(bj:kd=1\/kd=2\/kd=3)(ht:TmsOk ts)(hI:Sl ins)(hN:Sl nds)(hp:ps.length<=6)(ab:∀s∈ps,s.length<390)(ah:un.length<390)(ad:pt.length<390)(hr:r.k=0\/r.k=1\/r.k=2\/r.k=3)(ae:∀q∈[(r.a1,r.a2),(r.b1,r.b2),(r.c1,r.c2),(r.d1,r.d2)],q.1.length<390/\q.2.length<390)(hv:0<=vd/\vd<=3)(bh:ca.length<10/\cb.length<10/\ra.length<10/\rb.length<10)(ar:LS (r! L (n+61)) Et [.agg (Ea kd m u ca cb (E4 ts) ra rb (Di ps) id ins nds o r vd)] (Bo true))(ax:PS (r! L (n+61)) J3 [.agg (Cz u)] (.tup [S un,I 0]))(ap:LS (r! L (n+61)) Gz [.agg (B0 id ins nds o)] (.tup [S pt,I pe])):
 CS (r! L (n+62)) NH [.agg (Ea kd m u ca cb (E4 ts) ra rb (Di ps) id ins nds o r vd)] (.tup [S (NX kd m un ca cb ts ra rb ps pt (if kd=3 then VA r vd else[])),I 0]):=by
 intro K hK;have⟨q1,q2,q3,q4,q5,q6,q7,q8,q9,bm⟩:=hm;have hT:=Hv ts;have hP:Sl (Di ps):=by cases ps with|nil=>exact .inl rfl|cons p l=>exact .inr ⟨_,_,rfl⟩
 have bk:=ht.len;rw[Zf];unfold NB DN Yo D5 A4 FW;rw[DZ (T4 hT hP hI hN)];have f:=Ay (H:=[]) (x:=L1 kd m u ca cb (E4 ts) ra rb (Di ps) id ins nds o r vd) (by simp);have w0:=AG (x:=L1 kd m u ca cb (E4 ts) ra rb (Di ps) id ins nds o r vd) Ft;generalize ((Ar [],L1 kd m u ca cb (E4 ts) ra rb (Di ps) id ins nds o r vd)::([]:Hp))=A at f w0;generalize Ar []=c at f;have af:∀K,Ap (r! L (n+61)) Et [.agg (Ea kd m u ca cb (E4 ts) ra rb (Di ps) id ins nds o r vd)] A K=K (Bo true):=λK=>by rw[zO];exact ar false _ _ (XQ hT hP hI hN) K
 rw[cA f,af,ntT,AY];have f0:∀{j:Nat}{K:K2},CI j (.ptr c 0 0) K=K (.ptr c j 0):=λ{j K}=>by rw[fA,JZ]
 rw[f0,cS f,B3J (n:=n+21),EG,EF,I2];simp only[show(!decide ((200:Int)=0))=true from rfl,gT,BK,f0,cS f];simp only[B3O (L:=L) (n:=n+21) A,ntT,BK,SJ];rw[AY,Bv (cs:=[.v (.pointer none),zL]) rfl];have aq:=Ay (H:=A) (x:=.cells true Hw [.v (.pointer none),zL]) (by simp);have Z:=w0.lt f;have B:Bd (Ar A) [(c,L1 kd m u ca cb (E4 ts) ra rb (Di ps) id ins nds o r vd)] 0 [] Aw ((Ar A,c_ Hw [.v (.pointer none),zL])::A):=
  ⟨⟨⟨_,.inl rfl,.inl aq⟩,.inl ⟨rfl,rfl,rfl⟩,λ⟨_,_,_,h⟩=>(by cases h),AG w0⟩,λp hp=>by
   simp only[XY]at hp;subst hp;exact⟨A6 Z f,by simp only;omega,λ⟨_,_,_,h⟩=>(by cases h)⟩,MC _⟩
 generalize ((Ar A,c_ Hw [.v (.pointer none),zL])::A)=H1 at B;generalize Ar A=g at B;have d:∀{b l v H},Bd g [(c,L1 kd m u ca cb (E4 ts) ra rb (Di ps) id ins nds o r vd)] b l v H->Ah H c=some (L1 kd m u ca cb (E4 ts) ra rb (Di ps) id ins nds o r vd):=λh=>(h.ks (c,_) (XY.2 rfl)).1;have a:=d B;simp only[BF];rw[cI0 a,cI1 a,cI2 a,cI3 a,cI4 a,cI5 a,B6n];refine oL (n:=n+51) B w (by decide) [kd,m.lab,m.num,m.itm,m.tim,m.day] (by simp) (by simp only[Vp,List.mem_nil_iff,or_false];rintro z (rfl|rfl|rfl|rfl|rfl|rfl)<;>omega) λv2 H2 N=>?_;have a:=d N;rw[cU a,ax,EG,EF,kP];refine B2P (n:=n+51) N w (by decide) [un] (by simp) (by simpa using ah) λv3 H3 O=>?_;have a:=d O;have g0:∀{K:K2},CI 0 (.ptr c 26 0) K=K (.ptr c 26 0):=r_ rfl;have g2:∀{K:K2},CI 2 (.ptr c 26 0) K=K (.ptr c 28 0):=r_ rfl;have g3:∀{K:K2},CI 3 (.ptr c 26 0) K=K (.ptr c 29 0):=r_ rfl;rw[g0,cC a,A0u];refine A0v (n:=n+50) O w (by decide) [(ca,cb)] (by simp) (by simp;omega) λv4 H4 Q=>?_;have a:=d Q;rw[g2,cT a,MZ,dB];refine oL (n:=n+51) Q w (by decide) [(ts.length:Int)] (by simp) (by simp;omega) λv5 H5 R=>?_;have a:=d R;rw[g2,cT a,MZ];have e0:(AV.v (.int .i64 0))=I ((0:Nat):Int):=rfl;rw[e0];refine C50 (n:=n+50) (c:=c) ht w (b:=200000) (by decide) ?_ (L+20) 0 v5 H5 (by omega) (by omega) (R.tms0 ts);intro v6 H6 i;simp only[f0];have a:=d i;have ao:200000+100000*ts.length<=800000:=by omega
 have i:Bd g [(c,L1 kd m u ca cb (E4 ts) ra rb (Di ps) id ins nds o r vd)] 800000 _ v6 H6:=⟨i.bld,i.ks,fR i.sz ao⟩
 rw[g3,cR a,A0u];refine A0v (n:=n+50) i w (by decide) [(ra,rb)] (by simp) (by simp;omega) λv7 H7 V=>?_;have a:=d V;rw[cP a,kE,dB];refine oL (n:=n+51) V w (by decide) [(ps.length:Int)] (by simp) (by simp;omega) λv8 H8 X=>?_;have a:=d X;rw[cP a];refine C1P (n:=n+51) X w (by decide) ps (Di ps) (by cases ps with|nil=>exact .inr ⟨rfl,rfl⟩|cons p l=>exact .inl rfl) (by omega) ab λv9 H9 Y=>?_;have a:=d Y;have ac:∀K,Ap (r! L (n+61)) Gz [.agg (B0 id ins nds o)] H9 K=K (.tup [S pt,I pe]):=λK=>by rw[zO];exact ap false _ _ (WX hI hN) K
 rw[cPr a,ac,EG,EF,kP];refine B2P (n:=n+51) Y w (by decide) [pt] (by simp) (by simpa using ad) λay ak y=>?_;have a:=d y;have aa:∀tail:Ha,tail.length<=5000->(NX kd m un ca cb ts ra rb ps pt tail).length<=32768/\0<(NX kd m un ca cb ts ra rb ps pt tail).length:=λtail ag=>by
  have a1:=F9 [kd,m.lab,m.num,m.itm,m.tim,m.day];have a2:=F8 [un] (by simpa using ah);have a3:=Pp [(ca,cb)] (by simp;omega);have a4:=F9 [(ts.length:Int)];have a5:=iF ts (λt h=>by have:=ht.rng t h;have:=YJ (z:=t.2) (by omega) (by omega);have:=YK t.2;omega);have a6:=Pp [(ra,rb)] (by simp;omega);have a7:=F9 [(ps.length:Int)];have a8:=F8 ps ab;have a9:=F8 [pt] (by simpa using ad);have bg:0<(Js [kd,m.lab,m.num,m.itm,m.tim,m.day]).length:=by
   have:=B65 kd;simp only[Js,X0,l1d,EN];omega
  simp only[LI,Rv]at a1 a2 a3 a4 a6 a7 a9;simp only[NX,EN,Rv];omega
 have fin:∀(tail:Ha)(b:Nat)(v:AV)(H:Hp),tail.length<=5000->(if kd=3 then VA r vd else[])=tail->Bd g [(c,L1 kd m u ca cb (E4 ts) ra rb (Di ps) id ins nds o r vd)] b (NX kd m un ca cb ts ra rb ps pt tail) v H->
  (CI 0 (.ptr g 0 0) λba=>(r! L (n+61)).call Ic [ba] H λbc J=>Aq Ad .gtr bc (.v (.int .i64 32768)) λbd=>
   A2 bd (K (.tup [.v (.string ⟨⟨[]⟩⟩),.v (.int .i64 210)]) J) (CI 0 (.ptr g 0 0) λai=>(r! L (n+61)).call EO [ai] J λaj F=>K (.tup [aj,.v (.int .i64 0)]) F))=some (.tup [S (NX kd m un ca cb ts ra rb ps pt (if kd=3 then VA r vd else[])),I 0],[]):=λtail b v H ag he hB=>by
  have⟨k1,k2⟩:=aa tail ag;have r0:∀{K:K2},CI 0 (.ptr g 0 0) K=K (.ptr g 0 0):=r_ rfl;rw[r0,C2r (n:=n+60) hB.bld,Eh,Ir (by omega),AY,r0];have⟨H',e⟩:=A16 (L:=L) (n:=n+60) hB.bld k2 (by omega);rw[e,he];rw[he]at hK;exact hK _ _ (λb=>⟨false,λK=>by kernel_rfl⟩)
 rw[cI0 a,CV];by_cases h3:kd=3
 ·rw[Hu h3,Cy];have j0:∀{K:K2},CI 0 (.ptr c 55 0) K=K (.ptr c 55 0):=r_ rfl;have j1:∀{K:K2},CI 1 (.ptr c 55 0) K=K (.ptr c 56 0):=r_ rfl;have j3:∀{K:K2},CI 3 (.ptr c 55 0) K=K (.ptr c 58 0):=r_ rfl;have j5:∀{K:K2},CI 5 (.ptr c 55 0) K=K (.ptr c 60 0):=r_ rfl;have j7:∀{K:K2},CI 7 (.ptr c 55 0) K=K (.ptr c 62 0):=r_ rfl;rw[j0,cRk a,dB];refine oL (n:=n+51) y w (by decide) [r.k] (by simp) (by simp;omega) λbn be C=>?_;have a:=d C;rw[j1,cR1 a,j3,cR2 a,j5,cR3 a,j7,cR4 a,B6m];refine A0v (n:=n+50) C w (by decide) [(r.a1,r.a2),(r.b1,r.b2),(r.c1,r.c2),(r.d1,r.d2)] (by simp) ae λbo bf D=>?_;have a:=d D;rw[cV a,dB];refine oL (n:=n+51) D w (by decide) [vd] (by simp) (by simp;omega) λaz am M=>?_;refine fin (VA r vd) (800000+50000+50000+50000+50000+50000+50000+50000) az am ?_ (by rw[Dv h3]) ?_
  ·have a1:=F9 [r.k];have a2:=Pp [(r.a1,r.a2),(r.b1,r.b2),(r.c1,r.c2),(r.d1,r.d2)] ae;have a3:=F9 [vd];simp only[LI,Rv]at a1 a2 a3;simp only[VA,EN];omega
  ·have:NX kd m un ca cb ts ra rb ps pt (VA r vd)=[]++Js [kd,m.lab,m.num,m.itm,m.tim,m.day]++I0 [un]++RK [(ca,cb)]++Js [(ts.length:Int)]++Ry ts++RK [(ra,rb)]++Js [(ps.length:Int)]++I0 ps++I0 [pt]++Js [r.k]++RK [(r.a1,r.a2),(r.b1,r.b2),(r.c1,r.c2),(r.d1,r.d2)]++Js [vd]:=by
    unfold NX VA;simp only[eI]
   rw[this];exact M
 ·rw[Ir h3,AY];refine fin [] (800000+50000+50000+50000+50000) ay ak (by simp) (by rw[CL h3]) ?_;have:NX kd m un ca cb ts ra rb ps pt []=[]++Js [kd,m.lab,m.num,m.itm,m.tim,m.day]++I0 [un]++RK [(ca,cb)]++Js [(ts.length:Int)]++Ry ts++RK [(ra,rb)]++Js [(ps.length:Int)]++I0 ps++I0 [pt]:=by
   unfold NX;rw[Vq]
  rw[this];exact y
end
end
section
variable{L n:Nat}
def C5x{cs:Is}{b:Ha}(h:40000<L)(h1:cs.all AV.one=true)(hz:cs.length=68)(c:∀H,RZ true depth [.agg cs] [.agg cs] H false)(hb:b.length<=32768)(e:CS (r! L (n+62)) NH [.agg cs] (.tup [S b,I 0])):CS (r! L (n+63)) FK [.agg cs] (S (sha b)):=by
 intro K f;rw[fK];unfold Qf Ih;rw[DZ h1];have a:=Ay (H:=[]) (x:=.cells true Ab cs) (by simp);generalize ((Ar [],c_ Ab cs)::([]:Hp))=d at a;rw[Bu rfl hz.symm a,AO e (c d),EG,EF,I2];show A2 (.v (.bool false)) _ _=_;rw[AY];have g:∀K,Ap (r! L (n+62)) XL [S b] d K=K (S (sha b)):=λK=>AO (C2W (L:=L+20) (n:=n+54) (by omega) (by omega)) (Al (q:=false) (q':=false) C7 AD);rw[g];exact f _ _ (λb=>⟨false,λK=>by kernel_rfl⟩)
end
section
variable{nds:AV}{H:Hp}{i:Nat}
variable{L n:Nat}
structure Nd where
 op:Int
 (vn vd:Ha)
 u:UD
 (n l r:Int)
abbrev Nd.cs(x:Nd):Is:=[I x.op,S x.vn,S x.vd,I x.u.p0,I x.u.q0,I x.u.p1,I x.u.q1,I x.u.p2,I x.u.q2,I x.u.p3,I x.u.q3,I x.u.p4,I x.u.q4,I x.u.p5,I x.u.q5,I x.u.p6,I x.u.q6,S x.u.fn,S x.u.fd,S x.u.on,S x.u.od,I x.u.kd,I x.u.sc,I x.n,I x.l,I x.r]
def HM(k:Nat):Is:=Cz (uu k)
abbrev BE(ks:Hb):AV:=.list ks.length (ks.flatMap HM)
def X'(x:Nd):Is:=x.cs
abbrev Ck(xs:List Nd):AV:=.list xs.length (xs.flatMap X')
def Na{ks:Hb}{K:K2}:Ba Ak (BE ks) K=K (I ks.length):=id rfl
def QR{xs:List Nd}{K:K2}:Ba Av (Ck xs) K=K (I xs.length):=id rfl
def ZY{ks:Hb}{K:K2}(h:i<ks.length):D4 Ak (BE ks) (I i) K=K (.iptr (HM ks[i])):=Z5 (f:=HM) rfl (λ_=>rfl) h
def kH{xs:List Nd}{K:K2}(h:i<xs.length):D4 Av (Ck xs) (I i) K=K (.iptr (X' xs[i])):=Z5 (f:=X') rfl (λ_=>rfl) h
def ZX{k:Nat}{K:K2}:AE A0 (.iptr (HM k)) H K=K (.agg (Cz (uu k))):=id rfl
def kF{x:Nd}{K:K2}:AE AP (.iptr (X' x)) H K=K (.agg x.cs):=id rfl
abbrev Jg(id:Int)(ins nds:AV)(o:UD):Row:=.cells true Co (B0 id ins nds o)
section
attribute [local irreducible] Ap rt pE eBi eEq cnd Aq Vg A2
def ZL{z a hi:Int}(h1:a<=z)(h2:z<=hi):PS (r! L (n+1)) DB [I z,I a,I hi] (Bo true):=by
 refine CS.ps (λK c=>?_) (λH=>λK=>by kernel_rfl);rewrite[mR];unfold SP q3N
 try rewrite[zO]
 try rewrite[bO]
 try rewrite[qO]
 try rewrite[cO]
 conv=>lhs;whnf
 rewrite[A6q h1]
 conv=>lhs;whnf
 rewrite[A6g h2]
 conv=>lhs;whnf
 exact c _ _ (λb=>⟨false,λK=>by kernel_rfl⟩)
end
section
variable{K:KV}{x:Af}{ks:Hb}{xs:List Nd}{id:Int}{o:UD}
def B9V{k31:KV}{c:Nat}(b:∀k∈ks,k<52)(hb:ks.length<100)(e:k31 (.ptr c 0 0) H=x)(d:Ah H c=some (Jg id (BE ks) nds o)):∀(f i:Nat),i<=ks.length->ks.length-i<f->
 QW (L+20) (r! L (n+40)) K k31 f (.ptr c 0 0) (I i) H=x:=by
 intro f
 induction f with
 |zero=>intro i _ h;omega
 |succ f ih=>
  intro i hi g;rw[iM];unfold QX DN T6 Ia A4 FW;have f1:∀K:K2,CI 1 (.ptr c 0 0) K=K (.ptr c 1 0):=λK=>r_ rfl;have a:∀K,AE Ak (.ptr c 1 0) H K=K (BE ks):=λK=>AL (p:=1) rfl d (show 1<23 by decide);rw[f1,a,Na];by_cases h:i<ks.length
  ·rw[XA2 (by omega),Cy,f1,a,ZY h,ZX,SI _ _ _ (b _ (Ql h)),ntT,AY,CW (by omega)];exact ih (i+1) (by omega) (by omega)
  ·rw[Fk (by omega),AY];exact e
def O0{ins nds:AV}(a:Sl ins)(b:Sl nds):(B0 id ins nds o).all AV.one=true:=by
 rcases a with rfl|⟨_,_,rfl⟩<;>rcases b with rfl|⟨_,_,rfl⟩<;>rfl
def B0O(t:100<L)(g:∀k∈ks,k<52)(hb:ks.length<=6)(hn:1<=xs.length)(h:xs.length<=40)(h1:1<=id)(h2:id<=1000000):CS (r! L (n+41)) Pe [.agg (B0 id (BE ks) (Ck xs) o)] (.tup [Bo true,Bo true]):=by
 intro K f;rw[mS];unfold SQ T6 D5 A4 FW;rw[DZ (O0 (.inr ⟨_,_,rfl⟩) (.inr ⟨_,_,rfl⟩))];have a:=Ay (H:=[]) (x:=Jg id (BE ks) (Ck xs) o) (by simp);generalize ((Ar [],Jg id (BE ks) (Ck xs) o)::([]:Hp))=d at a;generalize Ar []=c at a;simp only[BF];refine B9V g (by omega) ?_ a (L+20) 0 (by omega) (by omega);have e:∀{j:Nat}{K:K2},CI j (.ptr c 0 0) K=K (.ptr c j 0):=λ{j K}=>by rw[fA,JZ]
 have m:∀{K},AE Ad (.ptr c 0 0) d K=K (I id):=λ{K}=>AL (p:=0) rfl a (show 0<23 by decide);have q:∀{K},AE Ak (.ptr c 1 0) d K=K (BE ks):=λ{K}=>AL (p:=1) rfl a (show 1<23 by decide);have r:∀{K},AE Av (.ptr c 2 0) d K=K (Ck xs):=λ{K}=>AL (p:=2) rfl a (show 2<23 by decide);have w1:∀{K:K2},Ap (r! L (n+40)) DB [I id,.v (.int .i64 1),.v (.int .i64 1000000)] d K=K (Bo true):=λ{K}=>ZL (n:=n+39) h1 h2 d K;have s:∀{K:K2},Ap (r! L (n+40)) DB [I (xs.length:Int),.v (.int .i64 1),.v (.int .i64 40)] d K=K (Bo true):=λ{K}=>ZL (n:=n+39) (by omega) (by omega) d K;have q1:∀{K},Aq Ad .leq (I (ks.length:Int)) (.v (.int .i64 6)) K=K (Bo true):=λ{K}=>by rw[kK,Hu (by omega)]
 have q2:∀{K},Aq Ad .gtr (I (xs.length:Int)) (.v (.int .i64 0)) K=K (Bo true):=λ{K}=>by rw[Eh,Hu (by omega)]
 simp only[e,m,q,r,B1,BK,gT,w1,s,Na,QR,q1,q2,SJ];exact f _ _ (λb=>⟨false,λK=>by kernel_rfl⟩)
end
end
section
variable{x:Value}
variable{n:Nat}
def YO:Value->Bool
 |.int _ _=>true
 |.string _=>true
 |.bool _=>true
 |.slice none 0 0=>true
 |_=>false
def pl:Nat->AV->Bool
 |_,.v x=>YO x
 |d+1,.list _ cs=>cs.all (pl d)
 |d+1,.agg cs=>cs.all (pl d)
 |d+1,.tup cs=>cs.all (pl d)
 |_,_=>false
def B23:∀l:Ha,iC.eqbL l l=true:=by
 intro l
 induction l with
 |nil=>rfl
 |cons a l ih=>simp only[iC.eqbL,ih,l1g];exact oW _
def lK(h:YO x=true):iC x x=true:=by
 unfold YO at h;split at h
 ·simp[iC]
 ·exact B23 _
 ·simp[iC]
 ·rfl
 ·cases h
def A8I{f:AV->AV->Bool}:∀l:Is,(∀a∈l,f a a=true)->xC f l l=true:=by
 intro l
 induction l with
 |nil=>intro _;rfl
 |cons a l ih=>intro h;simp only[xC,h a (by simp),ih λb hb=>h b (by simp[hb]),l1g]
def TB:∀(d:Nat)(a:AV),pl d a=true->Vo d a a=true:=by
 intro d
 induction d with
 |zero=>intro a h;cases a<;>first|exact lK h|cases h
 |succ d ih=>
  intro a h;cases a<;>first
   |exact lK h
   |(simp only[pl,G9]at h;simp only[Vo,oW,l1b];exact A8I _ λb hb=>ih b (h b hb))
   |cases h
def A8J{a:AV}(h:pl 6 a=true):gF a a=true:=by
 cases a<;>first|exact lK h|exact TB 6 _ h|cases h
def VI{v:AV}{H:Hp}{K:Af}(h:pl 6 v=true):RQ (Bj (some (v,H)) v) K=K:=by
 show RQ (some (.v (.bool (gF v v)),[])) K=K;rw[A8J h];rfl
def A83(h:YO x=true)(a:x≠.slice none 0 0):jL x x=some true:=by
 unfold YO at h;split at h
 ·show(match decide (_=_) with|true=>some (ieq _ _)|false=>none)=_;rw[Hu rfl,Rk,Hu rfl]
 ·show some (eqB _ _)=_;rw[Rm];simp
 ·show some (_==_)=_;simp
 ·exact absurd rfl a
 ·cases h
def A35:∀xs:Hx,(∀x∈xs,YO x=true/\x≠.slice none 0 0)->Ys xs xs=some true:=by
 intro xs
 induction xs with
 |nil=>intro _;rfl
 |cons x xs ih=>
  intro h;have e:Ys (x::xs) (x::xs)=(match jL x x with
   |some b=>(match Ys xs xs with|some c=>some (b&&c)|none=>none)
   |none=>none):=rfl
  rw[e,A83 (h x (by simp)).1 (h x (by simp)).2,ih λy a=>h y (by simp[a])];rfl
def C4F{x:Nd}{K:K2}:Vg IL .eql (.agg x.cs) (.agg x.cs) K=K (Bo true):=by
 have e:∀(xs:Hx),Ys xs xs=some true->∀K:K2,(match(generalizing:=false) Ys xs xs,BinOp.eql with
  |some q,.eql=>bB q K
  |some q,.neq=>bB (!q) K
  |_,_=>(none:Af))=K (Bo true):=λxs h K=>by rw[h];rfl
 exact e [.int .i64 x.op,.string ⟨⟨x.vn⟩⟩,.string ⟨⟨x.vd⟩⟩,.int .i64 x.u.p0,.int .i64 x.u.q0,.int .i64 x.u.p1,.int .i64 x.u.q1,.int .i64 x.u.p2,.int .i64 x.u.q2,.int .i64 x.u.p3,.int .i64 x.u.q3,.int .i64 x.u.p4,.int .i64 x.u.q4,.int .i64 x.u.p5,.int .i64 x.u.q5,.int .i64 x.u.p6,.int .i64 x.u.q6,
  .string ⟨⟨x.u.fn⟩⟩,.string ⟨⟨x.u.fd⟩⟩,.string ⟨⟨x.u.on⟩⟩,.string ⟨⟨x.u.od⟩⟩,.int .i64 x.u.kd,.int .i64 x.u.sc,.int .i64 x.n,.int .i64 x.l,.int .i64 x.r]
  (A35 _ (by simp[YO])) K
end
section
variable{at_:Int}
variable{L n:Nat}
def dX(i:Nat):Nd:=⟨2,[],[],u0,i,0,0⟩
abbrev LL:Is:=[zI,zS,zS,zI,zI,zI,zI,zI,zI,zI,zI,zI,zI,zI,zI,zI,zI,zS,zS,zS,zS,zI,zI,zI,zI,zI]
abbrev Gc:Is:=[zI,zI,zI,zI,zI,zI,zI,zI,zI,zI,zI,zI,zI,zI,zS,zS,zS,zS,zI,zI]
abbrev Yj(x:Nd):Row:=.cells true AX x.cs
section
variable{K:KV}{x:Af}{ks:Hb}{xs:List Nd}{id:Int}{o:UD}{i:Nat}
def A4l{x:Nd}:x.cs.all AV.one=true:=rfl
def H_{t:TI}{a:Int}{K:K2}:Aq t .eql (I a) (.v (.int .i64 a)) K=K (Bo true):=by rw[CV,Hu rfl]
def A1D(hb:ks.length<=6)(hi:i<ks.length):CS (r! L (n+2)) F4 [.agg (B0 id (BE ks) (Ck xs) o),.agg (dX i).cs,I at_] (.tup [Bo true,Bo false]):=by
 intro K P;rw[VJ];unfold OB DN Yo D5 A4 Ks FW;rw[DZ (O0 (.inr ⟨_,_,rfl⟩) (.inr ⟨_,_,rfl⟩))];have g:=Ay (H:=[]) (x:=Jg id (BE ks) (Ck xs) o) (by simp);have w0:=AG (x:=Jg id (BE ks) (Ck xs) o) Ft;generalize ((Ar [],Jg id (BE ks) (Ck xs) o)::([]:Hp))=t at g w0;generalize Ar []=p at g;rw[DZ A4l];have c:=Ay (H:=t) (x:=Yj (dX i)) (by simp);have k:Ah ((Ar t,Yj (dX i))::t) p=some (Jg id (BE ks) (Ck xs) o):=A6 (w0.lt g) g;have w1:=AG (x:=Yj (dX i)) w0;generalize ((Ar t,Yj (dX i))::t)=a at c k w1;generalize Ar t=r at c;have A:∀{s j:Nat}{K:K2},CI j (.ptr s 0 0) K=K (.ptr s j 0):=λ{s j K}=>by rw[fA,JZ]
 have Q:∀{K},AE Ad (.ptr r 0 0) a K=K (I 2):=λ{K}=>AL (p:=0) rfl c (show 0<26 by decide);have b0:∀{K:K2},Cb AP [(0,1,I 2)] K=K (.agg (I 2::LL.tail)):=λ{K}=>r_ rfl;rw[A,Q,b0,Bv (cs:=LL) rfl];have hm:=Ay (H:=a) (x:=.cells true AX LL) (by simp);rw[BO (vs:=I 2::LL.tail) hm rfl rfl rfl];have d:=AC (q:=true) (e:=AX) (cs:=I 2::LL.tail) hm;have w2:=Bm (r:=Ar a) (y:=.cells true AX (I 2::LL.tail)) (AG (x:=.cells true AX LL) w1);have Z:=w1.lt c;have O:=w1.lt k;have f:Ah (upd ((Ar a,c_ AX LL)::a) (Ar a) (c_ AX (I 2::LL.tail))) r=some (Yj (dX i)):=by
  rw[Ag (by omega)];exact A6 Z c
 have F:Ah (upd ((Ar a,c_ AX LL)::a) (Ar a) (c_ AX (I 2::LL.tail))) p=some (Jg id (BE ks) (Ck xs) o):=by
  rw[Ag (by omega)];exact A6 O k
 generalize upd ((Ar a,c_ AX LL)::a) (Ar a) (c_ AX (I 2::LL.tail))=w at d w2 f F;have D:Ar a≠r:=by omega
 have C:Ar a≠p:=by omega
 generalize Ar a=m at d D C
 try simp only[BF]
 have V:∀{K},AE Ad (.ptr r 0 0) w K=K (I 2):=λ{K}=>AL (p:=0) rfl f (show 0<26 by decide);have N:∀{K},AE Ad (.ptr r 23 0) w K=K (I i):=λ{K}=>AL (p:=23) rfl f (show 23<26 by decide);rw[A,V,CV,Ir (by decide),AY,H_,Cy,A,N,A];rw[DT (v:=I i) d (show 23<26 by decide) rfl rfl rfl];have B:=AC (q:=true) (e:=AX) (cs:=(I 2::LL.tail).set 23 (I i)) d;have h:Ah (upd w m (c_ AX ((I 2::LL.tail).set 23 (I i)))) r=some (Yj (dX i)):=by
  rw[Ag (Ne.symm D)];exact f
 have J:Ah (upd w m (c_ AX ((I 2::LL.tail).set 23 (I i)))) p=some (Jg id (BE ks) (Ck xs) o):=by
  rw[Ag (Ne.symm C)];exact F
 generalize upd w m (c_ AX ((I 2::LL.tail).set 23 (I i)))=u at B h J;have Y:∀{K},AE AP (.ptr m 0 0) u K=K (.agg (dX i).cs):=λ{K}=>Bu rfl rfl B;have X:∀{K},AE AP (.ptr r 0 0) u K=K (.agg (dX i).cs):=λ{K}=>Bu rfl rfl h;have M:∀{K},AE Ad (.ptr r 23 0) u K=K (I i):=λ{K}=>AL (p:=23) rfl h (show 23<26 by decide);have R:∀{K},AE Ak (.ptr p 1 0) u K=K (BE ks):=λ{K}=>AL (p:=1) rfl J (show 1<23 by decide);have sb:∀{K},Aq Ad .sub (I (ks.length:Int)) (.v (.int .i64 1)) K=K (I ((ks.length:Int)-1)):=λ{K}=>by rw[Le,CX (by omega) (by omega)]
 have wi:∀{K:K2},Ap (r! L (n+1)) DB [I (i:Int),.v (.int .i64 0),I ((ks.length:Int)-1)] u K=K (Bo true):=λ{K}=>ZL (n:=n) (by omega) (by omega) u K;simp only[X,Y,C4F,gT,A,BK,M,R,Na,sb,wi,SJ];exact P _ _ (λb=>⟨false,λK=>by kernel_rfl⟩)
def GC{H:Hp}{e:Nat}{zs vs:Is}(w:Wf H)(hz:vs.length=zs.length):∃a,a=upd ((Ar H,c_ e zs)::H) (Ar H) (c_ e vs)/\Ah a (Ar H)=some (c_ e vs)/\Wf a/\(∀s x,Ah H s=some x->Ah a s=some x/\s≠Ar H):=by
 have hm:=Ay (H:=H) (x:=.cells true e zs) (by simp);refine⟨_,rfl,AC hm,Bm (AG w),λs x h=>?_⟩;have:=w.lt h;exact⟨by rw[Ag (by omega)];exact A6 this h,by omega⟩
def ZK(hb:ks.length<=6)(hi:i<ks.length){w:AV}:CS (r! L (n+3)) CN [.agg (B0 id (BE ks) (Ck xs) o),.agg (dX i).cs,I at_,w] (.tup [.agg (Cz (uu ks[i])),I 0]):=by
 intro K hK;rw[HG];unfold Hn q4N;rw[DZ (O0 (.inr ⟨_,_,rfl⟩) (.inr ⟨_,_,rfl⟩))];have c:=Ay (H:=[]) (x:=Jg id (BE ks) (Ck xs) o) (by simp);have w0:=AG (x:=Jg id (BE ks) (Ck xs) o) Ft;generalize ((Ar [],Jg id (BE ks) (Ck xs) o)::([]:Hp))=t at c w0;generalize Ar []=p at c;rw[DZ A4l];have a:=Ay (H:=t) (x:=Yj (dX i)) (by simp);have f:Ah ((Ar t,Yj (dX i))::t) p=some (Jg id (BE ks) (Ck xs) o):=A6 (w0.lt c) c;have w1:=AG (x:=Yj (dX i)) w0;generalize ((Ar t,Yj (dX i))::t)=C at a f w1;generalize Ar t=r at a;rw[Bv (cs:=Gc) rfl];have h:=Ay (H:=C) (x:=.cells true AB Gc) (by simp);have d:=A6 (x:=.cells true AB Gc) (w1.lt a) a;have g:=A6 (x:=.cells true AB Gc) (w1.lt f) f;have w2:=AG (x:=.cells true AB Gc) w1;generalize ((Ar C,c_ AB Gc)::C)=D at h d g w2;generalize Ar C=q at h;have lp:∀{K},AE AU (.ptr p 0 0) D K=K (.agg (B0 id (BE ks) (Ck xs) o)):=λ{K}=>Bu rfl rfl g;have ln:∀{K},AE AP (.ptr r 0 0) D K=K (.agg (dX i).cs):=λ{K}=>Bu rfl rfl d;have fx:RZ true depth [.agg (B0 id (BE ks) (Ck xs) o),.agg (dX i).cs,I at_] [.agg (B0 id (BE ks) (Ck xs) o),.agg (dX i).cs,I at_] D false:=λK=>by kernel_rfl
 have sh:∀{K:K2},Ap (r! L (n+2)) F4 [.agg (B0 id (BE ks) (Ck xs) o),.agg (dX i).cs,I at_] D K=K (.tup [Bo true,Bo false]):=λ{K}=>AO (A1D hb hi) fx;have Y:∀{K:K2},Cb A0 [] K=K (.agg Gc):=λ{K}=>r_ rfl;rw[lp,ln,sh,EG,EF,ntT,AY,Y,Bv (cs:=Gc) rfl];rw[BO (vs:=Gc) (Ay (by simp)) rfl rfl rfl];obtain⟨H3,e3, -,w3,J⟩:=GC (e:=AB) (zs:=Gc) (vs:=Gc) w2 rfl;rw[<-e3,Y,Bv (cs:=Gc) rfl,BO (vs:=Gc) (Ay (by simp)) rfl rfl rfl];obtain⟨X,e4, -,w4,M⟩:=GC (e:=AB) (zs:=Gc) (vs:=Gc) w3 rfl;rw[<-e4]
 try simp only[BF]
 have F:∀{s j:Nat}{K:K2},CI j (.ptr s 0 0) K=K (.ptr s j 0):=λ{s j K}=>by rw[fA,JZ]
 have y:=(M _ _ (J _ _ d).1).1;have O:=(M _ _ (J _ _ g).1).1;have Q:=(M _ _ (J _ _ h).1).1;have lu:∀{K},AE A0 (.ptr r 3 0) X K=K (.agg Gc):=λ{K}=>DD (p:=3) rfl y (show 23<=26 by decide);rw[AY,F,lu,Bv (cs:=Gc) rfl,BO (vs:=Gc) (Ay (by simp)) rfl rfl rfl];have⟨u,e5,m,w5,N⟩:=GC (e:=AB) (zs:=Gc) (vs:=Gc) w4 rfl;rw[<-e5];have⟨A,nr⟩:=N _ _ y;have⟨P,np⟩:=N _ _ O;have⟨R,Z⟩:=N _ _ Q;generalize Ar X=v at m nr np Z;have l0:∀{K},AE Ad (.ptr r 0 0) u K=K (I 2):=λ{K}=>AL (p:=0) rfl A (show 0<26 by decide);have V:∀{K},AE Ad (.ptr r 23 0) u K=K (I i):=λ{K}=>AL (p:=23) rfl A (show 23<26 by decide);have l1:∀{K},AE Ak (.ptr p 1 0) u K=K (BE ks):=λ{K}=>AL (p:=1) rfl P (show 1<23 by decide);rw[F,l0,H_,Cy,F,l1,F,V,ZY hi,ZX,BO (vs:=Cz (uu ks[i])) m rfl rfl rfl];have B:=AC (q:=true) (e:=AB) (cs:=Cz (uu ks[i])) m;have k:Ah (upd u v (c_ AB (Cz (uu ks[i])))) q=some (c_ AB Gc):=by rw[Ag Z];exact R
 generalize upd u v (c_ AB (Cz (uu ks[i])))=H6 at B k;rw[I2];show A2 (.v (.bool false)) _ _=_;rw[AY,Bu rfl rfl B,BO (vs:=Cz (uu ks[i])) k rfl rfl rfl,Bu rfl rfl (AC k)];exact hK _ _ (λb=>⟨false,λK=>by kernel_rfl⟩)
end
end
section
variable{v:AV}{b:Bool}{H:Hp}
def A8z{k:Nat}{K:KV}:GF AB 20 A0 1 [(0,20,.agg (Cz (uu k)))] H K=K (.sl 20 (Ar H) 0 1) ((Ar H,.cells false AB (HM k))::H):=by
 have e:GF AB 20 A0 1 [(0,20,.agg (Cz (uu k)))] H K=HE H (λs=>K (.sl 20 s 0 1) ((s,.cells false AB (HM k))::H)):=r_ rfl;rw[e,BS]
def C51{l:Hb}(k:Nat)(h:Bp H AB 20 v l.length (l.flatMap HM))(w:Wf H)(hn:l.length<100):
 ∃d a,(∀K:KV,(GF AB 20 A0 1 [(0,20,.agg (Cz (uu k)))] H λv1 i=>E0 AB 20 A0 Ak v v1 i K)=K d a)/\Bp a AB 20 d (l++[k]).length ((l++[k]).flatMap HM)/\Wf a/\Ar H<=Ar a/\(∀s x,Ah H s=some x->¬A8 v s->Ah a s=some x)/\(∀s,A8 d s->Ar H<=s):=by
 have g:Bp ((Ar H,.cells false AB (HM k))::H) AB 20 v l.length (l.flatMap HM):=h.lat w (Lat.cons H _ (λ_=>False)) (λ_ _ h=>h);have c:Bp ((Ar H,.cells false AB (HM k))::H) AB 20 (.sl 20 (Ar H) 0 1) 1 (HM k):=.inr ⟨Ar H,false,rfl,Ay (by simp),by show 20=_;rfl⟩;have⟨d,a,h1,h2,j,m⟩:=apt (ie:=A0) (i2:=Ak) g (λK=>RL (K:=K) c) rfl rfl (by decide) rfl rfl (by show(l.length+1)*192<=_;omega) (by omega);have e:=(Lat.cons H (.cells false AB (HM k)) (A8 v)).trans m (R:=A8 v) (λ_ _ h=>h) (λ_ _ h=>h);refine⟨d,a,λK=>?_,by rw[EN,l2l];simpa using h2,e.wf w,e.nx,λs x f hn=>e.keep w s x f hn,λs f=>?_⟩
 ·rw[A8z];exact h1 K
 ·rw[j s f];exact l1u _
def C3Q(k:Nat):Hx:=[.int .i64 (uu k).p0,.int .i64 (uu k).q0,.int .i64 (uu k).p1,.int .i64 (uu k).q1,.int .i64 (uu k).p2,.int .i64 (uu k).q2,.int .i64 (uu k).p3,.int .i64 (uu k).q3,.int .i64 (uu k).p4,.int .i64 (uu k).q4,.int .i64 (uu k).p5,.int .i64 (uu k).q5,.int .i64 (uu k).p6,.int .i64 (uu k).q6,
 .string ⟨⟨(uu k).fn⟩⟩,.string ⟨⟨(uu k).fd⟩⟩,.string ⟨⟨(uu k).on⟩⟩,.string ⟨⟨(uu k).od⟩⟩,.int .i64 (uu k).kd,.int .i64 (uu k).sc]
def C0M(k:Nat):HM k=(C3Q k).map λx=>.v x:=rfl
def C3P(l:Hb):l.flatMap HM=(l.flatMap C3Q).map λx=>.v x:=by
 induction l with
 |nil=>rfl
 |cons k l ih=>rw[nM,nM,dW,ih,C0M]
def Sd(l:Hb):AV:=match l with
 |[]=>Aw
 |k::l=>.list (k::l).length ((k::l).flatMap HM)
def nW{D:Nat}{l:Hb}(h:Bp H AB 20 v l.length (l.flatMap HM))(d:l=[]->v=Aw):∃q,Fx b (D+1) v (Sd l) H q:=by
 rcases h with⟨rfl,h2,_⟩|⟨r,q,rfl,h2,c⟩
 ·cases l with
  |nil=>exact⟨false,C7⟩
  |cons a l=>simp at h2
 ·cases l with
  |nil=>have:=d rfl;cases this
  |cons a l=>
   refine⟨true,?_⟩;show Fx b (D+1) _ (.list (a::l).length ((a::l).flatMap HM)) H true;rw[C3P]at h2 c⊢;exact Yb (q':=false) h2 c (Lz _root_.id _)
def B7j{l:Hb}(h:Bp H AB 20 v l.length (l.flatMap HM))(a:l=[]->v=Aw):∃q,Fx b depth v (Sd l) H q:=nW (D:=depth-1) h a
end
section
variable{d:Nat}
variable{L n:Nat}
section
variable{K:KV}{x:Af}{ks ty:Hb}{xs:List Nd}{id:Int}{o:UD}
def RTy(L n:Nat)(id:Int)(ks:Hb)(xs:List Nd)(o:UD)(ty:Hb):Prop:=
 ∀i(h:i<xs.length),CS (r! L (n+42)) CN [.agg (B0 id (BE ks) (Ck xs) o),.agg xs[i].cs,I i,Sd (ty.take i)] (.tup [.agg (Cz (uu (ty.getD i 0))),I 0])
def C0l:∀l:Hb,(l.flatMap HM).all (pl d)=true:=by
 intro l
 induction l with
 |nil=>rfl
 |cons a l ih=>rw[nM,List.all_append,ih];cases d<;>rfl
def C0k:∀l:List Nd,(l.flatMap X').all (pl d)=true:=by
 intro l
 induction l with
 |nil=>rfl
 |cons a l ih=>rw[nM,List.all_append,ih];cases d<;>rfl
def B5c(l:Hb):pl (d+1) (BE l)=true:=C0l l
def A63(l:List Nd):pl (d+1) (Ck l)=true:=C0k l
def B5b:pl 6 (.agg (B0 id (BE ks) (Ck xs) o))=true:=by
 show(pl 5 (I id)&&(pl 5 (BE ks)&&(pl 5 (Ck xs)&&true)))=true;rw[B5c,A63];rfl
def B9U{u:AV->KV}{p:Nat}(hT:RTy L n id ks xs o ty)(g:ty.length=xs.length)(hb:xs.length<100)(hx:∀v H,Bp H AB 20 v ty.length (ty.flatMap HM)->(ty=[]->v=Aw)->Ah H p=some (Jg id (BE ks) (Ck xs) o)->u (.ptr p 0 0) v H=x):
 ∀(f i:Nat)(v:AV)(H:Hp),i<=xs.length->xs.length-i<f->Bp H AB 20 v (ty.take i).length ((ty.take i).flatMap HM)->(ty.take i=[]->v=Aw)->¬A8 v p->Ah H p=some (Jg id (BE ks) (Ck xs) o)->Wf H->
 Sw (L+20) (r! L (n+42)) K u f (.ptr p 0 0) v (I i) H=x:=by
 intro f
 induction f with
 |zero=>intro i v H _ h;omega
 |succ f ih=>
  intro i v H hi hf a A hr c w;rw[lZ];unfold Sx DN A4;have N:∀{s j:Nat}{K:K2},CI j (.ptr s 0 0) K=K (.ptr s j 0):=λ{s j K}=>by rw[fA,JZ]
  have R:∀{K},AE Av (.ptr p 2 0) H K=K (Ck xs):=λ{K}=>AL (p:=2) rfl c (show 2<23 by decide);have lp:∀{K},AE AU (.ptr p 0 0) H K=K (.agg (B0 id (BE ks) (Ck xs) o)):=λ{K}=>Bu rfl rfl c;rw[N,R,QR];by_cases h:i<xs.length
  ·have y:∀{H:Hp}(_:Bp H AB 20 v (ty.take i).length ((ty.take i).flatMap HM)){K:K2},Ap (r! L (n+42)) CN [.agg (B0 id (BE ks) (Ck xs) o),.agg xs[i].cs,I i,v] H K=K (.tup [.agg (Cz (uu (ty.getD i 0))),I 0]):=λ{H}a{K}=>by
    have⟨q,hq⟩:=B7j (b:=true) a A;have a1:Fx true depth (.agg (B0 id (BE ks) (Ck xs) o)) (.agg (B0 id (BE ks) (Ck xs) o)) H false:=λK=>by kernel_rfl
    have a2:Fx true depth (.agg xs[i].cs) (.agg xs[i].cs) H false:=λK=>by kernel_rfl
    exact AO (hT i h) (Al a1 (Al a2 (Al (q:=false) C7 (Al hq AD))))
   rw[XA2 (by omega),Cy];simp only[lp,B1,N,R,kH h,kF,y a,EG,EF];rw[Bv (cs:=Gc) rfl,BK];have hz:=Ay (H:=H) (x:=.cells true AB Gc) (by simp);rw[BO (vs:=Cz (uu (ty.getD i 0))) hz rfl rfl rfl,BK];have k:=A6 (x:=.cells true AB Gc) (w.lt c) c;have C:Bp ((Ar H,c_ AB Gc)::H) AB 20 v (ty.take i).length ((ty.take i).flatMap HM):=a.lat w (Lat.cons H _ (λ_=>False)) (λ_ _ h=>h);have⟨X,Z,F,V,O⟩:=GC (e:=AB) (zs:=Gc) (vs:=Cz (uu (ty.getD i 0))) w rfl;rw[<-Z];have m:=(O _ _ c).1;have D:Bp X AB 20 v (ty.take i).length ((ty.take i).flatMap HM):=by
    rcases a with a|⟨r,q,h1,h2,h3⟩
    ·exact .inl a
    ·exact .inr ⟨r,q,h1,(O _ _ h2).1,h3⟩
   have M:∀{K},AE AU (.ptr p 0 0) ((Ar H,c_ AB Gc)::H) K=K (.agg (B0 id (BE ks) (Ck xs) o)):=λ{K}=>Bu rfl rfl k;have J:∀{K},AE Av (.ptr p 2 0) ((Ar H,c_ AB Gc)::H) K=K (Ck xs):=λ{K}=>AL (p:=2) rfl k (show 2<23 by decide);rw[M,VI B5b,J,VI (A63 xs),VI (by rfl),y C,VI (by rfl),I2];show A2 (.v (.bool false)) _ _=_;rw[AY,Bu rfl rfl F];have Q:ty.take i++[ty.getD i 0]=ty.take (i+1):=by
    have P:i<ty.length:=by omega
    rw[nL P];simp[List.getD,KJ P]
   obtain⟨v',Y,e5,t,w5, -,keep,new⟩:=C51 (ty.getD i 0) D V (by rw[E!];omega);rw[e5,CW (by omega)];rw[Q]at t;exact ih (i+1) v' Y (by omega) (by omega) t (λe=>by rw[<-Q]at e;simp at e) (λB=>by have:=new _ B;have:=V.lt m;omega) (keep _ _ m hr) w5
  ·rw[Fk (by omega),AY];have:i=xs.length:=by omega
   subst this;rw[<-g,rW]at a A;exact hx v H a A c
end
end
section
variable{L n:Nat}
def A5P{H:Hp}{v:AV}{l:Hb}{i:Nat}(h:Bp H AB 20 v l.length (l.flatMap HM))(hi:i<l.length):∃a,(∀K:K2,D4 Ak v (I i) K=K a)/\(∀K:K2,AE A0 a H K=K (.agg (Cz (uu l[i])))):=by
 rcases h with⟨_,h2,_⟩|⟨r,q,rfl,h2,b⟩
 ·omega
 ·refine⟨.ptr r (i*20) 0,λK=>?_,λK=>?_⟩
  ·have c:D4 Ak (.sl 20 r 0 l.length) (I (i:Int)) K=iN (i:Int) λm=>ck (Nat.blt m l.length) (fN (Nat.add 0 (Nat.mul m 20)) λp=>K (.ptr r p 0)):=r_ rfl;rw[c,JU,DF];have b:Nat.blt i l.length=true:=by rw[Wg];exact hi
   rw[b];show K (.ptr r (0+i*20) 0)=_;rw[JZ]
  ·rw[DD rfl h2 (by rw[b];show i*20+20<=_;omega)];have:((l.flatMap HM).drop (i*20)).take 20=HM l[i]:=vX HM 20 (λ_=>rfl) l i hi;show K (.agg (((l.flatMap HM).drop (i*20)).take 20))=_;rw[this];rfl
def C1n{u:UD}{K:K2}:Vg IJ .neq (.agg (Cz u)) (.agg (Cz u)) K=K (Bo false):=by
 have e:∀(xs:Hx),Ys xs xs=some true->∀K:K2,(match(generalizing:=false) Ys xs xs,BinOp.neq with
  |some q,.eql=>bB q K
  |some q,.neq=>bB (!q) K
  |_,_=>(none:Af))=K (Bo false):=λxs h K=>by rw[h];rfl
 exact e [.int .i64 u.p0,.int .i64 u.q0,.int .i64 u.p1,.int .i64 u.q1,.int .i64 u.p2,.int .i64 u.q2,.int .i64 u.p3,.int .i64 u.q3,.int .i64 u.p4,.int .i64 u.q4,.int .i64 u.p5,.int .i64 u.q5,.int .i64 u.p6,.int .i64 u.q6,
  .string ⟨⟨u.fn⟩⟩,.string ⟨⟨u.fd⟩⟩,.string ⟨⟨u.on⟩⟩,.string ⟨⟨u.od⟩⟩,.int .i64 u.kd,.int .i64 u.sc]
  (A35 _ (by simp[YO])) K
section
variable{ks ty:Hb}{xs:List Nd}{id:Int}
def B52(B:100<L)(C:RTy L n id ks xs (uu (ty.getD (xs.length-1) 0)) ty)(d:ty.length=xs.length)(F:∀k∈ks,k<52)(hb:ks.length<=6)(hn:1<=xs.length)(i:xs.length<=40)(h1:1<=id)(h2:id<=1000000):
 CS (r! L (n+43)) Vc [.agg (B0 id (BE ks) (Ck xs) (uu (ty.getD (xs.length-1) 0)))] (.tup [Sd ty,I 0,I 0]):=by
 intro K A;rw[qF];unfold UL T6 Kx A4;rw[DZ (O0 (.inr ⟨_,_,rfl⟩) (.inr ⟨_,_,rfl⟩))];have c:=Ay (H:=[]) (x:=Jg id (BE ks) (Ck xs) (uu (ty.getD (xs.length-1) 0))) (by simp);have w0:=AG (x:=Jg id (BE ks) (Ck xs) (uu (ty.getD (xs.length-1) 0))) Ft;generalize ((Ar [],Jg id (BE ks) (Ck xs) (uu (ty.getD (xs.length-1) 0)))::([]:Hp))=r at c w0;generalize Ar []=p at c;have t:∀{K:K2},Ap (r! L (n+42)) Pe [.agg (B0 id (BE ks) (Ck xs) (uu (ty.getD (xs.length-1) 0)))] r K=K (.tup [Bo true,Bo true]):=λ{K}=>AO (B0O (n:=n+1) B F hb hn i h1 h2) (WX (.inr ⟨_,_,rfl⟩) (.inr ⟨_,_,rfl⟩));rw[Bu rfl rfl c,t,EG,EF,ntT,AY];simp only[BF];refine B9U C d (by omega) ?_ (L+20) 0 _ r (by omega) (by omega) (.inl ⟨rfl,rfl,rfl⟩) (λ_=>rfl) (λ⟨_,_,_,h⟩=>by cases h) c w0;intro v H m y M;have w:∀{s j:Nat}{K:K2},CI j (.ptr s 0 0) K=K (.ptr s j 0):=λ{s j K}=>by rw[fA,JZ]
 have f:ty.length-1<ty.length:=by omega
 have⟨a,g,e⟩:=A5P m f;have J:∀{K},AE A0 (.ptr p 3 0) H K=K (.agg (Cz (uu (ty.getD (xs.length-1) 0)))):=λ{K}=>DD (p:=3) rfl M (show 23<=23 by decide);have u:ty[ty.length-1]=ty.getD (xs.length-1) 0:=by rw[<-d];simp[List.getD,KJ f]
 rw[u]at e;rw[LD rfl m,B1,iH (by omega) (by omega),B1,g,B1,e,B1,w,B1,J,B1,C1n,B1,AY];exact A _ _ (λb=>by
  have⟨q,hq⟩:=nW (D:=depth-2) (b:=b) m y;exact⟨_,Zo (D:=depth-1) (Al hq (Al (q:=false) C7 (Al (q:=false) C7 AD)))⟩)
def B0B(j:100<L)(m:RTy L n id ks xs (uu (ty.getD (xs.length-1) 0)) ty)(a:ty.length=xs.length)(p:∀k∈ks,k<52)(hb:ks.length<=6)(hn:1<=xs.length)(d:xs.length<=40)(h1:1<=id)(h2:id<=1000000):
 CS (r! L (n+44)) Gb [.agg (B0 id (BE ks) (Ck xs) (uu (ty.getD (xs.length-1) 0)))] (Bo true):=by
 intro K i;rw[qD];unfold UJ Ih;rw[DZ (O0 (.inr ⟨_,_,rfl⟩) (.inr ⟨_,_,rfl⟩))];have c:=Ay (H:=[]) (x:=Jg id (BE ks) (Ck xs) (uu (ty.getD (xs.length-1) 0))) (by simp);generalize ((Ar [],Jg id (BE ks) (Ck xs) (uu (ty.getD (xs.length-1) 0)))::([]:Hp))=e at c;have ck:∀{K:K2},Ap (r! L (n+43)) Vc [.agg (B0 id (BE ks) (Ck xs) (uu (ty.getD (xs.length-1) 0)))] e K=K (.tup [Sd ty,I 0,I 0]):=λ{K}=>AO (B52 j m a p hb hn d h1 h2) (WX (.inr ⟨_,_,rfl⟩) (.inr ⟨_,_,rfl⟩));have h:∀{K:K2},C9 (.tup [Sd ty,I 0,I 0]) 2 K=K (I 0):=λ{K}=>r_ rfl;have f:∀{K:K2},C9 (.tup [Sd ty,I 0,I 0]) 0 K=K (Sd ty):=λ{K}=>r_ rfl;have g:∀{K:K2},C9 (.tup [Sd ty,I 0,I 0]) 1 K=K (I 0):=λ{K}=>r_ rfl;rw[Bu rfl rfl c,ck,f,g,h,H_];exact i _ _ (λb=>⟨false,λK=>by kernel_rfl⟩)
end
end
section
variable{L n:Nat}
section
variable{ks:Hb}{id:Int}{o:UD}
def Ly(ks:Hb):List Nd:=(List.range ks.length).map dX
def DW:(Ly ks).length=ks.length:=by simp[Ly]
def jN{i:Nat}(h:i<(Ly ks).length):(Ly ks)[i]=dX i:=by simp[Ly]
def B9Q(hb:ks.length<=6):RTy L n id ks (Ly ks) o ks:=by
 intro i h;rw[jN h];have hi:i<ks.length:=by rw[DW]at h;exact h
 have e:ks.getD i 0=ks[i]:=by simp[List.getD,KJ hi]
 rw[e];exact ZK (n:=n+39) hb hi
def rN{y:Nd}{k:Nat}(hb:ks.length<=6)(c:CS (r! L (n+42)) CN [.agg (B0 id (BE ks) (Ck (Ly ks++[y])) o),.agg y.cs,I ks.length,Sd ks] (.tup [.agg (Cz (uu k)),I 0])):
 RTy L n id ks (Ly ks++[y]) o (ks++[k]):=by
 intro i h;rw[EN,DW]at h;by_cases hi:i<ks.length
 ·have e:(Ly ks++[y])[i]'(by rw[EN,DW];exact h)=dX i:=by
   rw[List.getElem_append_left (by rw[DW];exact hi)];exact jN _
  rw[e];have a:(ks++[k]).getD i 0=ks[i]:=by simp[List.getD,l0m hi,KJ hi]
  rw[a];exact ZK (n:=n+39) hb hi
 ·have b:i=ks.length:=by simp at h;omega
  subst b;have e:(Ly ks++[y])[ks.length]'(by rw[EN,DW];exact h)=y:=by
   rw[List.getElem_append_right (by rw[DW];omega)];simp
  rw[e];have a:(ks++[k]).getD ks.length 0=k:=by simp[List.getD]
  rw[a,List.take_left']
  ·exact c
  ·rfl
end
end
section
def dg(k:Nat):Ha:=if k<10 then[UInt8.ofNat (48+k)] else if k<100 then[UInt8.ofNat (48+k/10),UInt8.ofNat (48+k%10)] else[UInt8.ofNat (48+k/100),UInt8.ofNat (48+k/10%10),UInt8.ofNat (48+k%10)]
variable(L n:Nat)
def C0e:((List.range 50).all λk=>(λi=>JY (Bj (Dz (r! L (n+10)) Cl [I (i:Nat)]) (S (dg i)))) (k+0))=true:=by kernel_rfl
def C0d:((List.range 50).all λk=>(λi=>JY (Bj (Dz (r! L (n+10)) Cl [I (i:Nat)]) (S (dg i)))) (k+50))=true:=by kernel_rfl
def C0c:((List.range 50).all λk=>(λi=>JY (Bj (Dz (r! L (n+10)) Cl [I (i:Nat)]) (S (dg i)))) (k+100))=true:=by kernel_rfl
def C0b:((List.range 50).all λk=>(λi=>JY (Bj (Dz (r! L (n+10)) Cl [I (i:Nat)]) (S (dg i)))) (k+150))=true:=by kernel_rfl
def C0a:((List.range 50).all λk=>(λi=>JY (Bj (Dz (r! L (n+10)) Cl [I (i:Nat)]) (S (dg i)))) (k+200))=true:=by kernel_rfl
def C09:((List.range 50).all λk=>(λi=>JY (Bj (Dz (r! L (n+10)) Cl [I (i:Nat)]) (S (dg i)))) (k+250))=true:=by kernel_rfl
def C08:((List.range 50).all λk=>(λi=>JY (Bj (Dz (r! L (n+10)) Cl [I (i:Nat)]) (S (dg i)))) (k+300))=true:=by kernel_rfl
def C07:((List.range 50).all λk=>(λi=>JY (Bj (Dz (r! L (n+10)) Cl [I (i:Nat)]) (S (dg i)))) (k+350))=true:=by kernel_rfl
def C06:((List.range 50).all λk=>(λi=>JY (Bj (Dz (r! L (n+10)) Cl [I (i:Nat)]) (S (dg i)))) (k+400))=true:=by kernel_rfl
def C05:((List.range 50).all λk=>(λi=>JY (Bj (Dz (r! L (n+10)) Cl [I (i:Nat)]) (S (dg i)))) (k+450))=true:=by kernel_rfl
def B51:((List.range 50).all λk=>(λi=>JY (Bj (Dz (r! L (n+10)) Cl [I (i:Nat)]) (S (dg i)))) (k+500))=true:=by kernel_rfl
def B50:((List.range 50).all λk=>(λi=>JY (Bj (Dz (r! L (n+10)) Cl [I (i:Nat)]) (S (dg i)))) (k+550))=true:=by kernel_rfl
def B4Z:((List.range 50).all λk=>(λi=>JY (Bj (Dz (r! L (n+10)) Cl [I (i:Nat)]) (S (dg i)))) (k+600))=true:=by kernel_rfl
def B4Y:((List.range 50).all λk=>(λi=>JY (Bj (Dz (r! L (n+10)) Cl [I (i:Nat)]) (S (dg i)))) (k+650))=true:=by kernel_rfl
def B4X:((List.range 50).all λk=>(λi=>JY (Bj (Dz (r! L (n+10)) Cl [I (i:Nat)]) (S (dg i)))) (k+700))=true:=by kernel_rfl
def B4W:((List.range 50).all λk=>(λi=>JY (Bj (Dz (r! L (n+10)) Cl [I (i:Nat)]) (S (dg i)))) (k+750))=true:=by kernel_rfl
def B4V:((List.range 50).all λk=>(λi=>JY (Bj (Dz (r! L (n+10)) Cl [I (i:Nat)]) (S (dg i)))) (k+800))=true:=by kernel_rfl
def B4U:((List.range 50).all λk=>(λi=>JY (Bj (Dz (r! L (n+10)) Cl [I (i:Nat)]) (S (dg i)))) (k+850))=true:=by kernel_rfl
def B4T:((List.range 50).all λk=>(λi=>JY (Bj (Dz (r! L (n+10)) Cl [I (i:Nat)]) (S (dg i)))) (k+900))=true:=by kernel_rfl
def C5G(i:Nat)(h:i<950):PS (r! L (n+10)) Cl [I (i:Nat)] (S (dg i)):=by
 refine BM (λH=>by first|exact λK=>by kernel_rfl) ?_;by_cases p:i<50
 ·have:=G9.1 (C0e L n) (i-0) (Lf.2 (by omega));have e:i-0+0=i:=by omega
  simp only[e]at this;exact this
 by_cases h1:i<100
 ·have:=G9.1 (C0d L n) (i-50) (Lf.2 (by omega));have e:i-50+50=i:=by omega
  simp only[e]at this;exact this
 by_cases h2:i<150
 ·have:=G9.1 (C0c L n) (i-100) (Lf.2 (by omega));have e:i-100+100=i:=by omega
  simp only[e]at this;exact this
 by_cases q:i<200
 ·have:=G9.1 (C0b L n) (i-150) (Lf.2 (by omega));have e:i-150+150=i:=by omega
  simp only[e]at this;exact this
 by_cases r:i<250
 ·have:=G9.1 (C0a L n) (i-200) (Lf.2 (by omega));have e:i-200+200=i:=by omega
  simp only[e]at this;exact this
 by_cases s:i<300
 ·have:=G9.1 (C09 L n) (i-250) (Lf.2 (by omega));have e:i-250+250=i:=by omega
  simp only[e]at this;exact this
 by_cases t:i<350
 ·have:=G9.1 (C08 L n) (i-300) (Lf.2 (by omega));have e:i-300+300=i:=by omega
  simp only[e]at this;exact this
 by_cases u:i<400
 ·have:=G9.1 (C07 L n) (i-350) (Lf.2 (by omega));have e:i-350+350=i:=by omega
  simp only[e]at this;exact this
 by_cases v:i<450
 ·have:=G9.1 (C06 L n) (i-400) (Lf.2 (by omega));have e:i-400+400=i:=by omega
  simp only[e]at this;exact this
 by_cases w:i<500
 ·have:=G9.1 (C05 L n) (i-450) (Lf.2 (by omega));have e:i-450+450=i:=by omega
  simp only[e]at this;exact this
 by_cases a:i<550
 ·have:=G9.1 (B51 L n) (i-500) (Lf.2 (by omega));have e:i-500+500=i:=by omega
  simp only[e]at this;exact this
 by_cases b:i<600
 ·have:=G9.1 (B50 L n) (i-550) (Lf.2 (by omega));have e:i-550+550=i:=by omega
  simp only[e]at this;exact this
 by_cases c:i<650
 ·have:=G9.1 (B4Z L n) (i-600) (Lf.2 (by omega));have e:i-600+600=i:=by omega
  simp only[e]at this;exact this
 by_cases d:i<700
 ·have:=G9.1 (B4Y L n) (i-650) (Lf.2 (by omega));have e:i-650+650=i:=by omega
  simp only[e]at this;exact this
 by_cases f:i<750
 ·have:=G9.1 (B4X L n) (i-700) (Lf.2 (by omega));have e:i-700+700=i:=by omega
  simp only[e]at this;exact this
 by_cases g:i<800
 ·have:=G9.1 (B4W L n) (i-750) (Lf.2 (by omega));have e:i-750+750=i:=by omega
  simp only[e]at this;exact this
 by_cases j:i<850
 ·have:=G9.1 (B4V L n) (i-800) (Lf.2 (by omega));have e:i-800+800=i:=by omega
  simp only[e]at this;exact this
 by_cases k:i<900
 ·have:=G9.1 (B4U L n) (i-850) (Lf.2 (by omega));have e:i-850+850=i:=by omega
  simp only[e]at this;exact this
 by_cases m:i<950
 ·have:=G9.1 (B4T L n) (i-900) (Lf.2 (by omega));have e:i-900+900=i:=by omega
  simp only[e]at this;exact this
 omega
end
section
variable(L n:Nat)
def B87:((List.range 50).all λk=>(λi=>JY (Bj (Dz (r! L (n+10)) BZ [I (i:Nat)]) (S (dg i)))) (k+0))=true:=by kernel_rfl
def B86:((List.range 50).all λk=>(λi=>JY (Bj (Dz (r! L (n+10)) BZ [I (i:Nat)]) (S (dg i)))) (k+50))=true:=by kernel_rfl
def B85:((List.range 50).all λk=>(λi=>JY (Bj (Dz (r! L (n+10)) BZ [I (i:Nat)]) (S (dg i)))) (k+100))=true:=by kernel_rfl
def B84:((List.range 50).all λk=>(λi=>JY (Bj (Dz (r! L (n+10)) BZ [I (i:Nat)]) (S (dg i)))) (k+150))=true:=by kernel_rfl
def B83:((List.range 50).all λk=>(λi=>JY (Bj (Dz (r! L (n+10)) BZ [I (i:Nat)]) (S (dg i)))) (k+200))=true:=by kernel_rfl
def B82:((List.range 50).all λk=>(λi=>JY (Bj (Dz (r! L (n+10)) BZ [I (i:Nat)]) (S (dg i)))) (k+250))=true:=by kernel_rfl
def B81:((List.range 50).all λk=>(λi=>JY (Bj (Dz (r! L (n+10)) BZ [I (i:Nat)]) (S (dg i)))) (k+300))=true:=by kernel_rfl
def B80:((List.range 50).all λk=>(λi=>JY (Bj (Dz (r! L (n+10)) BZ [I (i:Nat)]) (S (dg i)))) (k+350))=true:=by kernel_rfl
def B7Z:((List.range 50).all λk=>(λi=>JY (Bj (Dz (r! L (n+10)) BZ [I (i:Nat)]) (S (dg i)))) (k+400))=true:=by kernel_rfl
def B7Y:((List.range 50).all λk=>(λi=>JY (Bj (Dz (r! L (n+10)) BZ [I (i:Nat)]) (S (dg i)))) (k+450))=true:=by kernel_rfl
def B40:((List.range 50).all λk=>(λi=>JY (Bj (Dz (r! L (n+10)) BZ [I (i:Nat)]) (S (dg i)))) (k+500))=true:=by kernel_rfl
def B3Z:((List.range 50).all λk=>(λi=>JY (Bj (Dz (r! L (n+10)) BZ [I (i:Nat)]) (S (dg i)))) (k+550))=true:=by kernel_rfl
def B3Y:((List.range 50).all λk=>(λi=>JY (Bj (Dz (r! L (n+10)) BZ [I (i:Nat)]) (S (dg i)))) (k+600))=true:=by kernel_rfl
def B3X:((List.range 50).all λk=>(λi=>JY (Bj (Dz (r! L (n+10)) BZ [I (i:Nat)]) (S (dg i)))) (k+650))=true:=by kernel_rfl
def B3W:((List.range 50).all λk=>(λi=>JY (Bj (Dz (r! L (n+10)) BZ [I (i:Nat)]) (S (dg i)))) (k+700))=true:=by kernel_rfl
def B3V:((List.range 50).all λk=>(λi=>JY (Bj (Dz (r! L (n+10)) BZ [I (i:Nat)]) (S (dg i)))) (k+750))=true:=by kernel_rfl
def B3U:((List.range 50).all λk=>(λi=>JY (Bj (Dz (r! L (n+10)) BZ [I (i:Nat)]) (S (dg i)))) (k+800))=true:=by kernel_rfl
def B3T:((List.range 50).all λk=>(λi=>JY (Bj (Dz (r! L (n+10)) BZ [I (i:Nat)]) (S (dg i)))) (k+850))=true:=by kernel_rfl
def B3S:((List.range 50).all λk=>(λi=>JY (Bj (Dz (r! L (n+10)) BZ [I (i:Nat)]) (S (dg i)))) (k+900))=true:=by kernel_rfl
def C5y(i:Nat)(h:i<950):PS (r! L (n+10)) BZ [I (i:Nat)] (S (dg i)):=by
 refine BM (λH=>by first|exact λK=>by kernel_rfl) ?_;by_cases p:i<50
 ·have:=G9.1 (B87 L n) (i-0) (Lf.2 (by omega));have e:i-0+0=i:=by omega
  simp only[e]at this;exact this
 by_cases h1:i<100
 ·have:=G9.1 (B86 L n) (i-50) (Lf.2 (by omega));have e:i-50+50=i:=by omega
  simp only[e]at this;exact this
 by_cases h2:i<150
 ·have:=G9.1 (B85 L n) (i-100) (Lf.2 (by omega));have e:i-100+100=i:=by omega
  simp only[e]at this;exact this
 by_cases q:i<200
 ·have:=G9.1 (B84 L n) (i-150) (Lf.2 (by omega));have e:i-150+150=i:=by omega
  simp only[e]at this;exact this
 by_cases r:i<250
 ·have:=G9.1 (B83 L n) (i-200) (Lf.2 (by omega));have e:i-200+200=i:=by omega
  simp only[e]at this;exact this
 by_cases s:i<300
 ·have:=G9.1 (B82 L n) (i-250) (Lf.2 (by omega));have e:i-250+250=i:=by omega
  simp only[e]at this;exact this
 by_cases t:i<350
 ·have:=G9.1 (B81 L n) (i-300) (Lf.2 (by omega));have e:i-300+300=i:=by omega
  simp only[e]at this;exact this
 by_cases u:i<400
 ·have:=G9.1 (B80 L n) (i-350) (Lf.2 (by omega));have e:i-350+350=i:=by omega
  simp only[e]at this;exact this
 by_cases v:i<450
 ·have:=G9.1 (B7Z L n) (i-400) (Lf.2 (by omega));have e:i-400+400=i:=by omega
  simp only[e]at this;exact this
 by_cases w:i<500
 ·have:=G9.1 (B7Y L n) (i-450) (Lf.2 (by omega));have e:i-450+450=i:=by omega
  simp only[e]at this;exact this
 by_cases a:i<550
 ·have:=G9.1 (B40 L n) (i-500) (Lf.2 (by omega));have e:i-500+500=i:=by omega
  simp only[e]at this;exact this
 by_cases b:i<600
 ·have:=G9.1 (B3Z L n) (i-550) (Lf.2 (by omega));have e:i-550+550=i:=by omega
  simp only[e]at this;exact this
 by_cases c:i<650
 ·have:=G9.1 (B3Y L n) (i-600) (Lf.2 (by omega));have e:i-600+600=i:=by omega
  simp only[e]at this;exact this
 by_cases d:i<700
 ·have:=G9.1 (B3X L n) (i-650) (Lf.2 (by omega));have e:i-650+650=i:=by omega
  simp only[e]at this;exact this
 by_cases f:i<750
 ·have:=G9.1 (B3W L n) (i-700) (Lf.2 (by omega));have e:i-700+700=i:=by omega
  simp only[e]at this;exact this
 by_cases g:i<800
 ·have:=G9.1 (B3V L n) (i-750) (Lf.2 (by omega));have e:i-750+750=i:=by omega
  simp only[e]at this;exact this
 by_cases j:i<850
 ·have:=G9.1 (B3U L n) (i-800) (Lf.2 (by omega));have e:i-800+800=i:=by omega
  simp only[e]at this;exact this
 by_cases k:i<900
 ·have:=G9.1 (B3T L n) (i-850) (Lf.2 (by omega));have e:i-850+850=i:=by omega
  simp only[e]at this;exact this
 by_cases m:i<950
 ·have:=G9.1 (B3S L n) (i-900) (Lf.2 (by omega));have e:i-900+900=i:=by omega
  simp only[e]at this;exact this
 omega
end
section
def exN(j:Nat):Nd:=
 if j<3 then dX j
 else if j<39 then⟨(3+(j-3)/9:Nat),[],[],u0,0,((j-3)/3%3:Nat),((j-3)%3:Nat)⟩
 else⟨7,[],[],u0,oC ((j-39)%5),((j-39)/5:Nat),0⟩
def GJ:List Ha:=[[],[99,111,110,115,116],[105,110,112,117,116],[97,100,100],[115,117,98],[109,117,108],[100,105,118],[112,111,119],[115,113,114,116]]
def exT(j:Nat):Ha:=
 if j<3 then GJ.getD 2 []++[32]++dec j
 else if j<39 then GJ.getD (3+(j-3)/9) []++[32]++dec ((j-3)/3%3:Nat)++[32]++dec ((j-3)%3:Nat)
 else GJ.getD 7 []++[32]++dec ((j-39)/5:Nat)++[32]++dec (oC ((j-39)%5))
variable(L n:Nat)
def B0J:((List.range 54).all λi=>JY (Bj (Dz (r! L (n+41)) J5 [.agg (exN i).cs]) (S (exT i))))=true:=by kernel_rfl
end
section
def frL:List (Ha×Ha):=[([45,54],[49]),
 ([45,51],[49]),
 ([45,50],[49]),
 ([45,51],[50]),
 ([45,53],[49]),
 ([45,53],[50]),
 ([45,53],[51]),
 ([45,53],[52]),
 ([45,52],[49]),
 ([45,52],[51]),
 ([45,49],[49]),
 ([45,51],[52]),
 ([45,50],[51]),
 ([45,49],[50]),
 ([45,49],[51]),
 ([45,49],[52]),
 ([48],[49]),
 ([49],[49]),
 ([49],[50]),
 ([49],[51]),
 ([49],[52]),
 ([50],[49]),
 ([50],[51]),
 ([51],[49]),
 ([51],[50]),
 ([51],[52]),
 ([52],[49]),
 ([52],[51]),
 ([53],[49]),
 ([53],[50]),
 ([53],[51]),
 ([53],[52]),
 ([54],[49])]
def frn(i:Nat):Ha:=(frL.getD i ([],[])).1
def frd(i:Nat):Ha:=(frL.getD i ([],[])).2
abbrev gP(i:Nat):Is:=[S (frn i),S (frd i)]
def frt(i:Nat):Ha:=if frd i=[49] then frn i else frn i++[47]++frd i
def C4k:List Hb:=[[0,1,2,3],[4,5,6,7],[8,2,9,10],[1,3,10,11],[2,10,12,13],[10,13,14,15],[16,16,16,16],[17,18,19,20],[21,17,22,18],[23,24,17,25],[26,21,27,17],[28,29,30,31],[32,23,21,24]]
def nX(a b:Nat):Nat:=(C4k.getD a []).getD b 0
variable(L n:Nat)
def B0N:((List.range 13).all λk=>(λi=>JY (Bj (Dz (r! L (n+40)) Gx [I (((i/4:Nat):Int)-6),I (1+((i%4:Nat):Int))]) (.tup [.agg (gP (nX (i/4) (i%4))),I 0]))) (k+0))=true:=by kernel_rfl
def B0M:((List.range 13).all λk=>(λi=>JY (Bj (Dz (r! L (n+40)) Gx [I (((i/4:Nat):Int)-6),I (1+((i%4:Nat):Int))]) (.tup [.agg (gP (nX (i/4) (i%4))),I 0]))) (k+13))=true:=by kernel_rfl
def B0L:((List.range 13).all λk=>(λi=>JY (Bj (Dz (r! L (n+40)) Gx [I (((i/4:Nat):Int)-6),I (1+((i%4:Nat):Int))]) (.tup [.agg (gP (nX (i/4) (i%4))),I 0]))) (k+26))=true:=by kernel_rfl
def B0K:((List.range 13).all λk=>(λi=>JY (Bj (Dz (r! L (n+40)) Gx [I (((i/4:Nat):Int)-6),I (1+((i%4:Nat):Int))]) (.tup [.agg (gP (nX (i/4) (i%4))),I 0]))) (k+39))=true:=by kernel_rfl
def C04(i:Nat)(h:i<52):PS (r! L (n+40)) Gx [I (((i/4:Nat):Int)-6),I (1+((i%4:Nat):Int))] (.tup [.agg (gP (nX (i/4) (i%4))),I 0]):=by
 refine BM (λH=>by first|exact λK=>by kernel_rfl) ?_;by_cases a:i<13
 ·have:=G9.1 (B0N L n) (i-0) (Lf.2 (by omega));have e:i-0+0=i:=by omega
  simp only[e]at this;exact this
 by_cases h1:i<26
 ·have:=G9.1 (B0M L n) (i-13) (Lf.2 (by omega));have e:i-13+13=i:=by omega
  simp only[e]at this;exact this
 by_cases h2:i<39
 ·have:=G9.1 (B0L L n) (i-26) (Lf.2 (by omega));have e:i-26+26=i:=by omega
  simp only[e]at this;exact this
 by_cases b:i<52
 ·have:=G9.1 (B0K L n) (i-39) (Lf.2 (by omega));have e:i-39+39=i:=by omega
  simp only[e]at this;exact this
 ·omega
def A1K:((List.range 11).all λk=>(λi=>JY (Bj (Dz (r! L (n+40)) F6 [.agg (gP i)]) (Bo true))) (k+0))=true:=by kernel_rfl
def A1J:((List.range 11).all λk=>(λi=>JY (Bj (Dz (r! L (n+40)) F6 [.agg (gP i)]) (Bo true))) (k+11))=true:=by kernel_rfl
def A1I:((List.range 11).all λk=>(λi=>JY (Bj (Dz (r! L (n+40)) F6 [.agg (gP i)]) (Bo true))) (k+22))=true:=by kernel_rfl
def A7D(i:Nat)(h:i<33):PS (r! L (n+40)) F6 [.agg (gP i)] (Bo true):=by
 refine BM (λH=>by first|exact λK=>by kernel_rfl) ?_;by_cases a:i<11
 ·have:=G9.1 (A1K L n) (i-0) (Lf.2 (by omega));have e:i-0+0=i:=by omega
  simp only[e]at this;exact this
 by_cases h1:i<22
 ·have:=G9.1 (A1J L n) (i-11) (Lf.2 (by omega));have e:i-11+11=i:=by omega
  simp only[e]at this;exact this
 by_cases h2:i<33
 ·have:=G9.1 (A1I L n) (i-22) (Lf.2 (by omega));have e:i-22+22=i:=by omega
  simp only[e]at this;exact this
 ·omega
def A1N:((List.range 11).all λk=>(λi=>JY (Bj (Dz (r! L (n+40)) MY [.agg (gP i)]) (S (frt i)))) (k+0))=true:=by kernel_rfl
def A1M:((List.range 11).all λk=>(λi=>JY (Bj (Dz (r! L (n+40)) MY [.agg (gP i)]) (S (frt i)))) (k+11))=true:=by kernel_rfl
def A1L:((List.range 11).all λk=>(λi=>JY (Bj (Dz (r! L (n+40)) MY [.agg (gP i)]) (S (frt i)))) (k+22))=true:=by kernel_rfl
def A7E(i:Nat)(h:i<33):PS (r! L (n+40)) MY [.agg (gP i)] (S (frt i)):=by
 refine BM (λH=>by first|exact λK=>by kernel_rfl) ?_;by_cases a:i<11
 ·have:=G9.1 (A1N L n) (i-0) (Lf.2 (by omega));have e:i-0+0=i:=by omega
  simp only[e]at this;exact this
 by_cases h1:i<22
 ·have:=G9.1 (A1M L n) (i-11) (Lf.2 (by omega));have e:i-11+11=i:=by omega
  simp only[e]at this;exact this
 by_cases h2:i<33
 ·have:=G9.1 (A1L L n) (i-22) (Lf.2 (by omega));have e:i-22+22=i:=by omega
  simp only[e]at this;exact this
 ·omega
end
section
variable(L n:Nat)
def A9z:((List.range 54).all λi=>JY (Bj (Dz (r! L (n+41)) FI [.agg (exN i).cs]) (S (exT i))))=true:=by kernel_rfl
def cnN(i k:Nat):Nd:=⟨1,frn i,frd i,uu k,0,0,0⟩
def cnT(i k:Nat):Ha:=GJ.getD 1 []++[32]++frt i++[32]++LM k
end
end Go.Abs
end
noncomputable section
end
noncomputable section
namespace Go.Abs
open Go.RowKit Go.Proofs
set_option maxRecDepth 100000
section
variable{v:AV}{args:Is}{f:Nat}{R:Rt}
variable{L n:Nat}
def RV(R:Rt)(f:Nat)(args:Is)(v:AV):Prop:=∀b,(R.call f args [] λv d=>HU b d depth v λ_ e=>some (e,[]))=some (v,[])
def sH{args args':Is}{H:Hp}{q:Bool}{K:K2}(hc:RV R f args' v)(d:RZ true depth args args' H q):Ap R f args H K=K v:=by
 unfold Ap;rw[d];show Ax (R.call f args' [] _) K=K v;rw[hc (!q)];rfl
def CS.rv(h:CS R f args v):RV R f args v:=λb=>h _ λe d hv=>by
 have⟨q,hq⟩:=hv b;exact hq _
abbrev fnA(f:Nat):AV:=.fn (.func f) [] []
abbrev gL(w:Ha)(F:AV)(g:Nat):AV:=.agg [S w,F,fnA g]
abbrev pF:AV:=.list 2 [fnA Qs,fnA jZ]
abbrev C0j:AV:=.list 2 [fnA Qs,fnA Tt]
abbrev C0u:AV:=.list 1 [fnA Tt]
abbrev YT:AV:=.imap [(.int .i64 1,gL (GJ.getD 1 []) Aw DY),(.int .i64 2,gL (GJ.getD 2 []) C0u FN),
 (.int .i64 3,gL (GJ.getD 3 []) pF Fh),(.int .i64 4,gL (GJ.getD 4 []) pF DC),
 (.int .i64 5,gL (GJ.getD 5 []) pF Eg),(.int .i64 6,gL (GJ.getD 6 []) pF DX),
 (.int .i64 7,gL (GJ.getD 7 []) C0j EE),(.int .i64 8,gL (GJ.getD 8 []) (.list 1 [fnA Qs]) Tu)]
def B6K:PS (r! L (n+1)) IB [] YT:=BM (λH K=>by kernel_rfl) (by kernel_rfl)
abbrev Yq(I U:AV):AV:=.iptr [YT,I,U]
end
section
variable{L n:Nat}
section
variable{H:Hp}{c:Nat}{v I1 F:AV}{l:Hb}{y:Nd}{w:Ha}{g k:Nat}
abbrev Yf(I1 v:AV):Row:=.cells true dD [YT,I1,v]
def C12(hc:Ah H c=some (Yf I1 v))(h:Bp H AB 20 v l.length (l.flatMap HM))(e:l=[]->v=Aw)(f:Sl I1):Fx true depth (.ptr c 0 0) (Yq I1 (Sd l)) H true:=by
 have⟨q,hq⟩:=nW (D:=depth-2) (b:=true) h e;have a1:Fx true (depth-1) YT YT H false:=λK=>r_ rfl;have a2:Fx true (depth-1) I1 I1 H false:=by rcases f with rfl|⟨_,_,rfl⟩<;>exact λK=>r_ rfl
 have d:RZ true (depth-1) [YT,I1,v] [YT,I1,Sd l] H (false||(false||(q||false))):=Al a1 (Al a2 (Al hq AD));intro K;show IP H c (λx=>Kb x λ_ cs=>IG (HU true H (depth-1)) (Dn (Nat.add 0 0) cs) λ_ a=>K true (.iptr a))=_;rw[Bl hc];show IG (HU true H (depth-1)) (Dn 0 [YT,I1,v]) (λ_ a=>K true (.iptr a))=_;rw[CA,qV,d]
def A5A{f m:Nat}{args:Is}{K:KV}(hn:(E (L+20)).ne f=false)(hi:(E (L+20)).imp f=false)(hz:∀s,args≠[.ptr s 0 0]):CH (E (L+20)) (rt (L+20) m) (fnA f) args H K=Ap (rt (L+20) m) f args H λv=>K v H:=by
 show Tq args [] (λa=>Tq [] a λall=>A2t ((E (L+20)).ne f) all H K (@Bool.rec (λ_=>Af) (zpm (E (L+20)) f (rt (L+20) m) all H λv=>K v H) ((rt (L+20) m).call f all H K) ((E (L+20)).imp f)))=_;rw[J2,J2,hn,hi,Vq,l3b];show zpm (E (L+20)) f (rt (L+20) m) args H (λv=>K v H)=_;rw[A3j hz]
def B1b{K:Af}(h:gF v v=true):RQ (Bj (some (v,H)) v) K=K:=by
 show RQ (some (.v (.bool (gF v v)),[])) K=K;rw[h];rfl
def A1p{e z n:Nat}{cs:Is}(h:Bp H e z v n cs):gF v v=true:=by
 rcases h with⟨rfl,_⟩|⟨r,q,rfl,_⟩
 ·rfl
 ·show(Nat.beq z z&&(Nat.beq r r&&(Nat.beq 0 0&&Nat.beq n n)))=true;simp
def B2v{K:K2}{t:TI}:Aq t .eql (I 0) (.v (.int .i64 0)) K=K (Bo true):=by rw[CV,Hu rfl]
def C2v(hc:Ah H c=some (Yf I1 v))(hs:Bp H AB 20 v l.length (l.flatMap HM))(h0:l=[]->v=Aw)(hr:¬A8 v c)(wf:Wf H)(hb:l.length<100)(hI:Sl I1)(hF:Sl F)(hk:∀H K,(XB .i64 (I y.op) λq=>Ye B2 true YT q H K)=K (.tup [gL w F g,Bo true]))(ha:gF (.tup [gL w F g,Bo true]) (.tup [gL w F g,Bo true])=true)(hn:(E (L+20)).ne g=false)(hi:(E (L+20)).imp g=false)(hh:RV (r! L (n+41)) Ca [Yq I1 (Sd l),gL w F g,.agg y.cs] (Bo true))(B:RV (r! L (n+41)) g [Yq I1 (Sd l),.agg y.cs] (.tup [.agg (Cz (uu k)),I 0])):
 ∃f J,(∀K,(r! L (n+42)).call Jr [.ptr c 0 0,.agg y.cs] H K=K (Bo true) J)/\Ah J c=some (Yf I1 f)/\Bp J AB 20 f (l++[k]).length ((l++[k]).flatMap HM)/\¬A8 f c/\Wf J/\Ar H<=Ar J/\(∀s x,Ah H s=some x->s≠c->¬A8 v s->Ah J s=some x)/\(∀s,A8 f s->Ar H<=s):=by
 have i:=Ay (H:=H) (x:=Yj y) (by simp);have t:=A6 (x:=Yj y) (wf.lt hc) hc;have w1:=AG (x:=Yj y) wf;have Y:Bp ((Ar H,Yj y)::H) AB 20 v l.length (l.flatMap HM):=hs.lat wf (Lat.cons H _ (λ_=>False)) (λ_ _ h=>h);have ad:∀s x,Ah H s=some x->Ah ((Ar H,Yj y)::H) s=some x:=λs x h=>A6 (wf.lt h) h;have n1:Ar H<=Ar ((Ar H,Yj y)::H):=l1u _;have aj:∀s,A8 v s->s<Ar H:=λs B=>by
  rcases hs with⟨rfl,_⟩|⟨r,q,rfl,h2,_⟩
  ·have⟨_,_,_,h⟩:=B;cases h
  ·have⟨_,_,_,h⟩:=B;cases h;exact wf.lt h2
 have ey:∀K:KV,FV AX (.agg y.cs) H K=K (.ptr (Ar H) 0 0) ((Ar H,Yj y)::H):=λK=>DZ A4l;have yl:=wf.lt hc;generalize a4:((Ar H,Yj y)::H)=d at i t w1 Y ad n1 ey;generalize a5:Ar H=r at i ey yl n1 aj;have⟨m,e2,X,w2,k2⟩:=GC (e:=CG) (zs:=[zS,zL,.v .nilFunc]) (vs:=[S w,F,fnA g]) w1 rfl;have ai:=Ay (H:=d) (x:=.cells true CG [zS,zL,.v .nilFunc]) (by simp);have N:=A6 (x:=.cells true CG [zS,zL,.v .nilFunc]) (w1.lt t) t;have ac:=A6 (x:=.cells true CG [zS,zL,.v .nilFunc]) (w1.lt i) i;have⟨O,a6⟩:=k2 _ _ t;have⟨ao,a8⟩:=k2 _ _ i;have Z:Bp m AB 20 v l.length (l.flatMap HM):=by
  rcases Y with h|⟨r,q,h1,h2,h3⟩
  ·exact .inl h
  ·exact .inr ⟨r,q,h1,(k2 _ _ h2).1,h3⟩
 have n2:Ar d<=Ar m:=by rw[e2,B9];exact l1u _
 have⟨C,e3,ak,w3,k3⟩:=GC (e:=AB) (zs:=Gc) (vs:=Cz (uu k)) w2 rfl;have⟨A,a7⟩:=k3 _ _ O;have aa:Bp C AB 20 v l.length (l.flatMap HM):=by
  rcases Z with h|⟨r,q,h1,h2,h3⟩
  ·exact .inl h
  ·exact .inr ⟨r,q,h1,(k3 _ _ h2).1,h3⟩
 have n3:Ar m<=Ar C:=by rw[e3,B9];exact l1u _
 have⟨f,M,e4,ab,w4,n4,k4,ah⟩:=C51 k aa w3 hb;have Q:=k4 _ _ A hr;have R:¬A8 f c:=λB=>by have:=ah c B;have:=w3.lt A;omega
 have D:B4 f=[f]/\AV.one f=true:=by
  rcases ab with⟨rfl,_⟩|⟨a,b,rfl,_⟩<;>exact⟨rfl,rfl⟩
 refine⟨f,upd M c (Yf I1 f),λK=>?_,AC Q,ab.lat w4 (Lat.upd M c _ (P:=λu=>u=c) rfl) (λu B e=>R (e▸B)),R,Bm w4,by rw[B9];omega,λs x h h1 h2=>?_,λs B=>by have:=ah s B;omega⟩
 ·rw[R8];unfold Jo DN Fg A4 Ks FW;rw[ey];have f0:∀{s j:Nat}{K:K2},CI j (.ptr s 0 0) K=K (.ptr s j 0):=λ{s j K}=>by rw[fA,JZ]
  have lk1:∀{K},AE DV (.ptr c 0 0) d K=K YT:=λ{K}=>AL (p:=0) rfl t (show 0<3 by decide);have ay:∀{K},AE Ad (.ptr r 0 0) d K=K (I y.op):=λ{K}=>AL (p:=0) rfl i (show 0<26 by decide);have af:∀{K},AE DV (.ptr c 0 0) ((Ar d,c_ CG [zS,zL,.v .nilFunc])::d) K=K YT:=λ{K}=>AL (p:=0) rfl N (show 0<3 by decide);have ag:∀{K},AE Ad (.ptr r 0 0) ((Ar d,c_ CG [zS,zL,.v .nilFunc])::d) K=K (I y.op):=λ{K}=>AL (p:=0) rfl ac (show 0<26 by decide);have al:∀{K:KV},Bx CG B2 d K=K (.ptr (Ar d) 0 0) ((Ar d,c_ CG [zS,zL,.v .nilFunc])::d):=λ{K}=>Bv rfl;have st:∀{K:Ru},DE B2 (.ptr (Ar d) 0 0) (gL w F g) ((Ar d,c_ CG [zS,zL,.v .nilFunc])::d) K=K m:=λ{K}=>by
   rw[e2];exact BO (vs:=[S w,F,fnA g]) ai rfl rfl (by rcases hF with rfl|⟨_,_,rfl⟩<;>rfl)
  have o1:∀{K:Af}{H:Hp},RQ (Bj (some (YT,H)) YT) K=K:=λ{K H}=>by kernel_rfl
  have o2:∀{K:Af}{H:Hp}{z:Int},RQ (Bj (some (I z,H)) (I z)) K=K:=λ{K H z}=>VI (by rfl);have o3:∀{K:Af}{H:Hp},RQ (Bj (some (.tup [gL w F g,Bo true],H)) (.tup [gL w F g,Bo true])) K=K:=λ{K H}=>by
   show RQ (some (.v (.bool (gF _ _)),[])) K=K;rw[ha];rfl
  simp only[Iy,B1,f0,lk1,ay,hk,EG,EF,al,BK,st,af,ag,o1,o2,o3,ntT];have ar:∀{K},AE B2 (.ptr (Ar d) 0 0) m K=K (gL w F g):=λ{K}=>Bu rfl rfl X;have az:∀{K},AE AP (.ptr r 0 0) m K=K (.agg y.cs):=λ{K}=>Bu rfl rfl ao;have aq:∀{K},AE Aa (.ptr (Ar d) 2 0) m K=K (fnA g):=λ{K}=>AL (p:=2) rfl X (show 2<3 by decide);have a1:=C12 O Z h0 hI;have a2:Fx true depth (gL w F g) (gL w F g) m false:=by rcases hF with rfl|⟨_,_,rfl⟩<;>exact λK=>by kernel_rfl
  have a3:Fx true depth (.agg y.cs) (.agg y.cs) m false:=λK=>by kernel_rfl
  have V:∀{K:K2},Ap (r! L (n+41)) Ca [.ptr c 0 0,gL w F g,.agg y.cs] m K=K (Bo true):=λ{K}=>sH hh (Al a1 (Al a2 (Al a3 AD)));have am:∀{K:K2},Ap (r! L (n+41)) g [.ptr c 0 0,.agg y.cs] m K=K (.tup [.agg (Cz (uu k)),I 0]):=λ{K}=>sH B (Al a1 (Al a3 AD));simp only[gT,BK,ar,az,V,ntT,QA];rw[AY,aq,A5A hn hi (by simp),am,EG,EF,Bv (cs:=Gc) rfl,BO (cs:=Gc) (vs:=Cz (uu k)) (Ay (by simp)) rfl rfl rfl,<-e3];have ap:∀{K},AE Ak (.ptr c 2 0) C K=K v:=λ{K}=>AL (p:=2) rfl A (show 2<3 by decide);have ax:∀{K},AE A0 (.ptr (Ar m) 0 0) C K=K (.agg (Cz (uu k))):=λ{K}=>Bu rfl rfl ak;simp only[Iy,B1,f0,ap,ax];have e5:∀K:KV,E0 AB 20 A0 Ak v (.sl 20 (Ar C) 0 1) ((Ar C,.cells false AB (HM k))::C) K=K f M:=λK=>by have:=e4 K;rw[A8z]at this;exact this
  have ae:∀{K},AE Ak (.ptr c 2 0) ((Ar C,.cells false AB (HM k))::C) K=K v:=λ{K}=>AL (p:=2) rfl (A6 (w3.lt A) A) (show 2<3 by decide);have s5:∀{K:Ru},DE Ak (.ptr c 2 0) f M K=K (upd M c (Yf I1 f)):=λ{K}=>DT Q (show 2<3 by decide) rfl D.1 D.2;have o4:∀{K:Af}{H:Hp},RQ (Bj (some (v,H)) v) K=K:=λ{K H}=>B1b (A1p aa);simp only[A8z,BK,e5,s5,ae,o4,B2v]
 ·have a1:=ad s x h;have a2:=(k2 s x a1).1;have a3:=(k3 s x a2).1;rw[Ag h1];exact k4 s x a3 h2
end
end
section
variable{L n:Nat}
abbrev A1m:AV:=fnA GL
def B7S{k:Nat}(c:k<52):PS (r! L (n+41)) GL [.agg (Cz (uu k))] (Bo false):=by
 refine CS.ps (λK a=>?_) (λH=>λK=>by kernel_rfl);rw[VK];unfold Lu Ih;rw[DZ rfl,Bu (cs:=Cz (uu k)) rfl rfl (Ay (by simp)),Yy _ _ _ c,ntT];exact a _ _ (λb=>⟨false,λK=>by kernel_rfl⟩)
def B44{a:Ru}{K:KV}{ks:Hb}{H:Hp}(hb:ks.length<1000000000)(c:∀k∈ks,k<52):∀(f i:Nat),i<=ks.length->ks.length-i<f->
 E5 (L+20) (r! L (n+41)) K a f (BE ks) A1m (I ks.length) (I i) H=a H:=by
 intro f
 induction f with
 |zero=>intro i _ h;omega
 |succ f ih=>
  intro i hi d;rw[K0];unfold E6 Ia A4;by_cases h:i<ks.length
  ·rw[XA2 (by omega),Cy,ZY h,ZX];have b:∀K,CH (E (L+20)) (r! L (n+41)) A1m [.agg (Cz (uu ks[i]))] H K=Ap (r! L (n+41)) GL [.agg (Cz (uu ks[i]))] H λv=>K v H:=λK=>A5A rfl rfl (by simp);rw[b,B7S (c _ (Ql h)),AY,CW (by omega)];exact ih (i+1) (by omega) (by omega)
  ·rw[Fk (by omega),AY]
def A7p{ks:Hb}(hb:ks.length<1000000000)(e:ks.length<L)(d:∀k∈ks,k<52):CS (r! L (n+43)) Dl [BE ks,A1m] (Bo false):=by
 intro K a;rw[Ke];unfold Ep LF;have hi:CS (r! L (n+42)) Hi [BE ks,A1m] (I (-1)):=by
  intro K a;rw[KX];unfold EH A4;simp only[BF];have c:(AV.v (.int .i64 0))=I ((0:Nat):Int):=rfl;rw[Na,c,B44 hb d _ 0 (by omega) (by omega)];exact a _ _ (λb=>⟨false,λK=>by kernel_rfl⟩)
 rw[AO (q:=false) hi (λK=>by kernel_rfl),Mi];exact a _ _ (λb=>⟨false,λK=>by kernel_rfl⟩)
def WNd(L n:Nat)(a:AV)(l:Hb)(y:Nd)(k:Nat):Prop:=∃w F g,Sl F/\
 (∀H K,(XB .i64 (I y.op) λq=>Ye B2 true YT q H K)=K (.tup [gL w F g,Bo true]))/\
 gF (.tup [gL w F g,Bo true]) (.tup [gL w F g,Bo true])=true/\(E (L+20)).ne g=false/\(E (L+20)).imp g=false/\
 RV (r! L (n+41)) Ca [Yq a (Sd l),gL w F g,.agg y.cs] (Bo true)/\
 RV (r! L (n+41)) g [Yq a (Sd l),.agg y.cs] (.tup [.agg (Cz (uu k)),I 0])
def WTy(L n:Nat)(ks:Hb)(xs:List Nd)(ty:Hb):Prop:=∀i(h:i<xs.length),WNd L n (BE ks) (ty.take i) xs[i] (ty.getD i 0)
section
variable{K:KV}{x:Af}{ks ty:Hb}{xs:List Nd}{id:Int}{o:UD}
def B7L{k:AV->KV}{p c:Nat}(hT:WTy L n ks xs ty)(a:ty.length=xs.length)(hb:xs.length<100)(A:p≠c)(hx:∀v H,Bp H AB 20 v ty.length (ty.flatMap HM)->(ty=[]->v=Aw)->Ah H p=some (Jg id (BE ks) (Ck xs) o)->Ah H c=some (Yf (BE ks) v)->k (.ptr p 0 0) (.ptr c 0 0) H=x):
 ∀(f i:Nat)(v:AV)(H:Hp),i<=xs.length->xs.length-i<f->Bp H AB 20 v (ty.take i).length ((ty.take i).flatMap HM)->(ty.take i=[]->v=Aw)->¬A8 v p->¬A8 v c->Ah H p=some (Jg id (BE ks) (Ck xs) o)->Ah H c=some (Yf (BE ks) v)->Wf H->
 Nw (L+20) (r! L (n+42)) K k f (.ptr p 0 0) (.ptr c 0 0) (Ck xs) (I xs.length) (I i) H=x:=by
 intro f
 induction f with
 |zero=>intro i v H _ h;omega
 |succ f ih=>
  intro i v H hi hf d m hr D P hc w;rw[YN];unfold Nx Ia A4;by_cases h:i<xs.length
  ·rw[XA2 (by omega),Cy,kH h,kF,Bv (cs:=LL) rfl,BO (cs:=LL) (vs:=xs[i].cs) (Ay (by simp)) rfl rfl rfl];have⟨V,Y,M,R,s⟩:=GC (e:=AX) (zs:=LL) (vs:=xs[i].cs) w rfl;rw[<-Y,Bu rfl rfl M];have b:=(s _ _ P).1;have t:=(s _ _ hc).1;have J:Bp V AB 20 v (ty.take i).length ((ty.take i).flatMap HM):=by
    rcases d with d|⟨r,q,h1,h2,h3⟩
    ·exact .inl d
    ·exact .inr ⟨r,q,h1,(s _ _ h2).1,h3⟩
   have⟨wd,F,g,hF,hk,ha,hn,y,hh,hu⟩:=hT i h;have⟨v',X,Z,u,j,C,w5,n5,k5,N⟩:=C2v (n:=n) t J m D R (by rw[E!];omega) (.inr ⟨_,_,rfl⟩) hF hk ha hn y hh hu;have Q:ty.take i++[ty.getD i 0]=ty.take (i+1):=by
    have O:i<ty.length:=by omega
    rw[nL O];simp[List.getD,KJ O]
   rw[Z,ntT,AY,CW (by omega)];rw[Q]at j;exact ih (i+1) v' X (by omega) (by omega) j (λe=>by rw[<-Q]at e;simp at e) (λB=>by have:=N _ B;have:=R.lt b;omega) C (k5 _ _ b A hr) u w5
  ·rw[Fk (by omega),AY];have:i=xs.length:=by omega
   subst this;rw[<-a,rW]at d m;exact hx v H d m P hc
set_option maxHeartbeats 1000000 in
def B41(hL:100<L)(Q:WTy L (n+2) ks xs ty)(X:o=uu (ty.getD (xs.length-1) 0))(f:ty.length=xs.length)(R:∀k∈ks,k<52)(hb:ks.length<=6)(hn:1<=xs.length)(V:xs.length<=40)(h1:1<=id)(h2:id<=1000000):
 CS (r! L (n+45)) Pi [.agg (B0 id (BE ks) (Ck xs) o)] (.tup [Sd ty,I 0,I 0]):=by
 intro K P;rw[dN];unfold OI DN T6 OV Kx Fg A4 Ks;rw[DZ (O0 (.inr ⟨_,_,rfl⟩) (.inr ⟨_,_,rfl⟩))];have d:=Ay (H:=[]) (x:=Jg id (BE ks) (Ck xs) o) (by simp);have w0:=AG (x:=Jg id (BE ks) (Ck xs) o) Ft;generalize ((Ar [],Jg id (BE ks) (Ck xs) o)::([]:Hp))=e at d w0;generalize Ar []=p at d;have u:∀{s j:Nat}{K:K2},CI j (.ptr s 0 0) K=K (.ptr s j 0):=λ{s j K}=>by rw[fA,JZ]
 have J:∀{K},AE Ad (.ptr p 0 0) e K=K (I id):=λ{K}=>AL (p:=0) rfl d (show 0<23 by decide);have Z:∀{K},AE Ak (.ptr p 1 0) e K=K (BE ks):=λ{K}=>AL (p:=1) rfl d (show 1<23 by decide);have l2:∀{K},AE Av (.ptr p 2 0) e K=K (Ck xs):=λ{K}=>AL (p:=2) rfl d (show 2<23 by decide);have t1:∀{K},Aq Ad .lss (I id) (.v (.int .i64 1)) K=K (Bo false):=λ{K}=>by rw[DO,Ir (by omega)]
 have t2:∀{K},Aq Ad .gtr (I id) (.v (.int .i64 1000000)) K=K (Bo false):=λ{K}=>by rw[Eh,Ir (by omega)]
 have t3:∀{K},Aq Ad .gtr (I (ks.length:Int)) (.v (.int .i64 6)) K=K (Bo false):=λ{K}=>by rw[Eh,Ir (by omega)]
 have t4:∀{K},Aq Ad .lss (I (xs.length:Int)) (.v (.int .i64 1)) K=K (Bo false):=λ{K}=>by rw[DO,Ir (by omega)]
 have t5:∀{K},Aq Ad .gtr (I (xs.length:Int)) (.v (.int .i64 40)) K=K (Bo false):=λ{K}=>by rw[Eh,Ir (by omega)]
 have an:∀{K:K2},Ap (r! L (n+44)) Dl [BE ks,A1m] e K=K (Bo false):=λ{K}=>AO (q:=false) (A7p (n:=n+1) (by omega) (by omega) R) (λK=>by kernel_rfl);rw[u,J,t1];simp only[gT,u,J,BK,t2,QA,Z,Na,t3,an,l2,QR,t4,t5];rw[AY];have M:∀{K:KV},(r! L (n+44)).call Ph [BE ks] e K=K (.ptr (Ar e) 0 0) ((Ar e,Yf (BE ks) Aw)::e):=λ{K}=>by
  rw[dK];unfold OE Ih;have b2:∀{K:K2},Cb LN [(0,1,YT),(1,1,BE ks)] K=K (.agg [YT,BE ks,Aw]):=λ{K}=>r_ rfl;rw[B6K (n:=n+42),b2,DZ rfl]
 rw[M];have g:=Ay (H:=e) (x:=Yf (BE ks) Aw) (by simp);have m:=A6 (x:=Yf (BE ks) Aw) (w0.lt d) d;have w1:=AG (x:=Yf (BE ks) Aw) w0;have A:=w0.lt d;generalize ((Ar e,Yf (BE ks) Aw)::e)=F at g m w1;generalize Ar e=c at g A;have C:∀{K},AE Av (.ptr p 2 0) F K=K (Ck xs):=λ{K}=>AL (p:=2) rfl m (show 2<23 by decide);simp only[BF];rw[C,QR];refine B7L (n:=n+2) Q f (by omega) (by omega) ?_ (L+20) 0 _ F (by omega) (by omega) (.inl ⟨rfl,rfl,rfl⟩) (λ_=>rfl) (λ⟨_,_,_,h⟩=>by cases h) (λ⟨_,_,_,h⟩=>by cases h) m g w1;intro v H B O Y hc;have t:ty.length-1<ty.length:=by omega
 have⟨a,w,r⟩:=A5P B t;have y:∀{K},AE A0 (.ptr p 3 0) H K=K (.agg (Cz o)):=λ{K}=>DD (p:=3) rfl Y (show 23<=23 by decide);have N:uu ty[ty.length-1]=o:=by rw[X,<-f];simp[List.getD,KJ t]
 rw[N]at r;have lc:∀{K},AE Ak (.ptr c 2 0) H K=K v:=λ{K}=>AL (p:=2) rfl hc (show 2<3 by decide);have ln:∀{K:K2},Ba Ak v K=K (I ty.length):=λ{K}=>LD rfl B;simp only[Iy,B1,u,lc,ln,iH (ty:=Ad) (i:=ty.length) (by omega) (by omega),w,r,y,C1n];rw[AY];exact P _ _ (λb=>by
  have⟨q,hq⟩:=nW (D:=depth-2) (b:=b) B O;exact⟨_,Zo (D:=depth-1) (Al hq (Al (q:=false) C7 (Al (q:=false) C7 AD)))⟩)
def A9t(j:100<L)(m:WTy L (n+2) ks xs ty)(q:o=uu (ty.getD (xs.length-1) 0))(a:ty.length=xs.length)(p:∀k∈ks,k<52)(hb:ks.length<=6)(hn:1<=xs.length)(d:xs.length<=40)(h1:1<=id)(h2:id<=1000000):
 CS (r! L (n+46)) Gy [.agg (B0 id (BE ks) (Ck xs) o)] (Bo true):=by
 intro K i;rw[dL];unfold OG Ih;rw[DZ (O0 (.inr ⟨_,_,rfl⟩) (.inr ⟨_,_,rfl⟩))];have c:=Ay (H:=[]) (x:=Jg id (BE ks) (Ck xs) o) (by simp);generalize ((Ar [],Jg id (BE ks) (Ck xs) o)::([]:Hp))=e at c;have ck:∀{K:K2},Ap (r! L (n+45)) Pi [.agg (B0 id (BE ks) (Ck xs) o)] e K=K (.tup [Sd ty,I 0,I 0]):=λ{K}=>AO (B41 j m q a p hb hn d h1 h2) (WX (.inr ⟨_,_,rfl⟩) (.inr ⟨_,_,rfl⟩));have h:∀{K:K2},C9 (.tup [Sd ty,I 0,I 0]) 2 K=K (I 0):=λ{K}=>r_ rfl;have f:∀{K:K2},C9 (.tup [Sd ty,I 0,I 0]) 0 K=K (Sd ty):=λ{K}=>r_ rfl;have g:∀{K:K2},C9 (.tup [Sd ty,I 0,I 0]) 1 K=K (I 0):=λ{K}=>r_ rfl;rw[Bu rfl rfl c,ck,f,g,h,H_];exact i _ _ (λb=>⟨false,λK=>by kernel_rfl⟩)
end
end
section
variable{H:Hp}{i p:Nat}
variable{L n:Nat}
def SL:Ha:=[112,114,111,99,101,100,117,114,101,32]
def uI:Ha:=[103,105,118,101,110,32]
def C0q:Ha:=[111,117,116,112,117,116,32]
def rY(k:Nat):Ha:=uI++LM k++[10]
def xH(t:Ha):Ha:=t++[10]
def uC(id:Nat)(ks:Hb)(ts:List Ha)(o:Nat):Ha:=SL++dg id++[10]++ks.flatMap rY++ts.flatMap xH++C0q++LM o++[10]
def G7(k:Nat):(LM k).length<60:=by
 by_cases h:k<52
 ·have:=G9.1 (show((List.range 52).all λk=>decide ((LM k).length<60))=true by kernel_rfl) k (Lf.2 h);simpa using this
 ·have:LM k=[]:=by
   unfold LM;rw[TV,l1j (Nat.le_of_not_lt h)];rfl
  rw[this];decide
def A5a(k:Nat):(dg k).length<=3:=by
 unfold dg;split
 ·simp
 ·split<;>simp
def B1F(ks:Hb):(ks.flatMap rY).length<=67*ks.length:=by
 induction ks with
 |nil=>simp
 |cons k ks ih=>
  have:=G7 k;simp only[nM,EN,LI,rY,uI,Rv]at ih⊢;omega
def B1i{ts:List Ha}(h:∀t∈ts,t.length<100):(ts.flatMap xH).length<=100*ts.length:=by
 induction ts with
 |nil=>simp
 |cons t ts ih=>
  have h1:=h t (by simp);have h2:=ih λu a=>h u (by simp[a]);simp only[nM,EN,LI,xH,Rv]at h2⊢;omega
def sB{α:Type}{f:α->Ha}(l:List α)(h:i<l.length):(l.take (i+1)).flatMap f=(l.take i).flatMap f++f l[i]:=by
 rw[nL h,l2l];simp
section
variable{K:KV}{x:Af}{ks:Hb}{ts:List Ha}{xs:List Nd}{id:Int}{o:UD}{s0:Ha}
def B9R{a:AV->AV->KV}(e:∀k∈ks,k<52)(hb:ks.length<100)(u:s0.length<1000)(g:Ah H p=some (Jg id (BE ks) (Ck xs) o))(m:a (.ptr p 0 0) (S (s0++ks.flatMap rY)) (I ks.length) H=x):
 ∀(f i:Nat)(w:AV),i<=ks.length->ks.length-i<f->Sq (L+20) (r! L (n+40)) K a f (.ptr p 0 0) (S (s0++(ks.take i).flatMap rY)) (I i) w H=x:=by
 intro f
 induction f with
 |zero=>intro i w _ h;omega
 |succ f ih=>
  intro i w hi v;rw[lW];unfold Su DN Ia A4;have b:∀{s j:Nat}{K:K2},CI j (.ptr s 0 0) K=K (.ptr s j 0):=λ{s j K}=>by rw[fA,JZ]
  have c:∀{K},AE Ak (.ptr p 1 0) H K=K (BE ks):=λ{K}=>AL (p:=1) rfl g (show 1<23 by decide);rw[b,c,Na];by_cases h:i<ks.length
  ·have q:=B1F (ks.take i);have r:(ks.take i).length<=ks.length:=by simp;omega
   have t:=G7 ks[i];rw[XA2 (by omega),Cy,b,c,ZY h,ZX,VD _ _ _ (e _ (Ql h)),EG,EF,BA (by simp only[EN,LI,Rv];omega),BA (by simp only[EN,LI,Rv];omega),BA (by simp only[EN,LI,Rv];omega),CW (by omega)];have d:s0++(ks.take i).flatMap rY++[103,105,118,101,110,32]++LM ks[i]++[10]=s0++(ks.take (i+1)).flatMap rY:=by
    rw[sB ks h];simp[rY,uI]
   rw[d];exact ih (i+1) _ (by omega) (by omega)
  ·rw[Fk (by omega),AY];have:i=ks.length:=by omega
   subst this;rw[rW];exact m
def B9S{c:AV->KV}{u:AV}(r:∀i(h:i<xs.length),PS (r! L (n+41)) J5 [.agg xs[i].cs] (S (ts.getD i [])))(g:∀t∈ts,t.length<100)(e:ts.length=xs.length)(hb:xs.length<100)(C:s0.length<10000)(v:Ah H p=some (Jg id (BE ks) (Ck xs) o))(w:c (.ptr p 0 0) (S (s0++ts.flatMap xH)) H=x):
 ∀(f i:Nat),i<=xs.length->xs.length-i<f->Ss (L+20) (r! L (n+41)) K c f (.ptr p 0 0) (S (s0++(ts.take i).flatMap xH)) u (I i) H=x:=by
 intro f
 induction f with
 |zero=>intro i _ h;omega
 |succ f ih=>
  intro i hi D;rw[lY];unfold Sv DN Ia A4;have d:∀{s j:Nat}{K:K2},CI j (.ptr s 0 0) K=K (.ptr s j 0):=λ{s j K}=>by rw[fA,JZ]
  have k:∀{K},AE Av (.ptr p 2 0) H K=K (Ck xs):=λ{K}=>AL (p:=2) rfl v (show 2<23 by decide);rw[d,k,QR];by_cases h:i<xs.length
  ·have a:i<ts.length:=by omega
   have m:ts.getD i []=ts[i]:=by simp[List.getD,KJ a]
   have y:=B1i (ts:=ts.take i) λt hm=>g t (l29 hm);have A:(ts.take i).length<=ts.length:=by simp;omega
   have B:=g ts[i] (Ql a);have b:=r i h;rw[m]at b;rw[XA2 (by omega),Cy,d,k,kH h,kF,b,BA (by simp only[EN,LI,Rv];omega),BA (by simp only[EN,LI,Rv];omega),CW (by omega)];have q:s0++(ts.take i).flatMap xH++ts[i]++[10]=s0++(ts.take (i+1)).flatMap xH:=by
    rw[sB ts a];simp[xH]
   rw[q];exact ih (i+1) (by omega) (by omega)
  ·rw[Fk (by omega),AY];have:i=ts.length:=by omega
   subst this;rw[rW];exact w
def B0C{i c:Nat}(N:100<L)(f:i<950)(v:CS (r! L (n+44)) Gb [.agg (B0 i (BE ks) (Ck xs) (uu c))] (Bo true))(y:∀i(h:i<xs.length),PS (r! L (n+44)) J5 [.agg xs[i].cs] (S (ts.getD i [])))(m:∀t∈ts,t.length<100)(d:ts.length=xs.length)(w:∀k∈ks,k<52)(hb:ks.length<=6)(A:xs.length<=40)(B:c<52):
 CS (r! L (n+45)) JO [.agg (B0 i (BE ks) (Ck xs) (uu c))] (.tup [S (uC i ks ts c),I 0]):=by
 intro K u;rw[qE];unfold UK DN A4;rw[DZ (O0 (.inr ⟨_,_,rfl⟩) (.inr ⟨_,_,rfl⟩))];have a:=Ay (H:=[]) (x:=Jg i (BE ks) (Ck xs) (uu c)) (by simp);generalize ((Ar [],Jg i (BE ks) (Ck xs) (uu c))::([]:Hp))=e at a;generalize Ar []=p at a;have g:∀{s j:Nat}{K:K2},CI j (.ptr s 0 0) K=K (.ptr s j 0):=λ{s j K}=>by rw[fA,JZ]
 have C:∀{K},AE Ad (.ptr p 0 0) e K=K (I i):=λ{K}=>AL (p:=0) rfl a (show 0<23 by decide);have hv:∀{K:K2},Ap (r! L (n+44)) Gb [.agg (B0 i (BE ks) (Ck xs) (uu c))] e K=K (Bo true):=λ{K}=>AO v (WX (.inr ⟨_,_,rfl⟩) (.inr ⟨_,_,rfl⟩));have d1:=A5a i;rw[Bu rfl rfl a,hv,ntT,AY,g,C,C5G L (n+34) i f,BA (by simp only[EN,LI,Rv];omega),BA (by simp only[EN,LI,Rv];omega)];simp only[BF];have q:([112,114,111,99,101,100,117,114,101,32]++dg i++[10]:Ha)=(SL++dg i++[10])++(ks.take 0).flatMap rY:=by simp[SL]
 rw[q];have b0:(SL++dg i++[10]).length<=14:=by simp only[EN,LI,Rv,SL];omega
 refine B9R (n:=n+4) w (by omega) (by omega) a ?_ (L+20) 0 _ (by omega) (by omega);have r:(SL++dg i++[10])++ks.flatMap rY=((SL++dg i++[10])++ks.flatMap rY)++(ts.take 0).flatMap xH:=by simp
 rw[r];have F:=B1F ks;have b1:((SL++dg i++[10])++ks.flatMap rY).length<=500:=by rw[EN];omega
 refine B9S (n:=n+3) y m d (by omega) (by omega) a ?_ (L+20) 0 (by omega) (by omega);have D:∀{K},AE A0 (.ptr p 3 0) e K=K (.agg (Cz (uu c))):=λ{K}=>DD (p:=3) rfl a (show 23<=23 by decide);have J:=B1i m;have M:=G7 c;have b2:(((SL++dg i++[10])++ks.flatMap rY)++ts.flatMap xH).length<=5000:=by rw[EN];omega
 rw[g,D,VD _ _ _ B,EG,EF,BA (by rw[EN];simp only[LI,Rv] at*;omega),BA (by rw[EN];simp only[LI,Rv] at*;omega),BA (by rw[EN,EN];simp only[LI,Rv] at*;omega)];exact u _ _ (λb=>⟨false,λK=>by kernel_rfl⟩)
end
end
section
variable{v:AV}{H:Hp}{b p r:Nat}
variable{L n:Nat}
section
variable{K:KV}{x:Af}{ks:Hb}{ts:List Ha}{xs:List Nd}{id:Int}{o:UD}{s0:Ha}
abbrev pks(p:Nat)(id:Int)(ks:Hb)(xs:List Nd)(o:UD):List (Nat×Row):=[(p,Jg id (BE ks) (Ck xs) o)]
def A6N{kp:List (Nat×Row)}{l s:Ha}(h:Bd r kp b l v H)(hb:b<100000000)(g:s.length<1000)(f:∀c a,Bd r kp (b+1000) (l++s) c a->K (.tup [I s.length,.v .nilIface]) a=x):
 (r! L (n+2)).call BN [.ptr r 0 0,S s] H K=x:=by
 have:=h.sz;exact S' h.bld (by omega) λc a d e=>f c a (h.step d e (by rw[EN];omega))
def Bd.al{r b e:Nat}{kp:List (Nat×Row)}{l:Ha}{zs vs:Is}(h:Bd r kp b l v H)(hz:vs.length=zs.length):∃a,a=upd ((Ar H,c_ e zs)::H) (Ar H) (c_ e vs)/\Ah a (Ar H)=some (c_ e vs)/\Bd r kp b l v a:=by
 refine⟨_,rfl,AC (Ay (H:=H) (x:=.cells true e zs) (by simp)),⟨(h.bld.cons (y:=.cells true e zs)).upd (by have:=h.bld.lt;omega) (λd=>by have:=h.bld.vlt d;omega),λp c=>?_,h.sz⟩⟩;have⟨p1,p2,p3⟩:=h.ks p c;have:=h.bld.wf.lt p1;exact⟨by rw[Ag (by omega)];exact A6 this p1,p2,p3⟩
def B7J{c:AV->AV->AV->AV->KV}{kp:List (Nat×Row)}(t:∀k∈ks,k<52)(hb:ks.length<100)(s:b<1000000)(w:∀v H,Bd r kp (b+1000*ks.length) (s0++ks.flatMap rY) v H->c (.ptr p 0 0) (.ptr r 0 0) (BE ks) (I ks.length) (I ks.length) H=x):
 ∀(f i:Nat)(v:AV)(H:Hp),i<=ks.length->ks.length-i<f->Bd r kp (b+1000*i) (s0++(ks.take i).flatMap rY) v H->Ns (L+20) (r! L (n+40)) K c f (.ptr p 0 0) (.ptr r 0 0) (BE ks) (I ks.length) (I i) AV.dk AV.dk AV.dk H=x:=by
 intro f
 induction f with
 |zero=>intro i v H _ h;omega
 |succ f ih=>
  intro i v H hi C d;rw[YL];unfold Nu Ia A4;by_cases h:i<ks.length
  ·have B:=G7 ks[i];rw[XA2 (by omega),Cy,ZY h,ZX,Bv (cs:=Gc) rfl,BO (cs:=Gc) (vs:=Cz (uu ks[i])) (Ay (by simp)) rfl rfl rfl];have⟨A,m,u,g⟩:=d.al (e:=AB) (zs:=Gc) (vs:=Cz (uu ks[i])) rfl;rw[<-m,Bu rfl rfl u,Vr _ _ _ (t _ (Ql h)),EG,EF,BA (by simp only[LI,Rv];omega),BA (by simp only[EN,LI,Rv];omega)];refine A6N (n:=n+38) g (by omega) (by simp only[EN,LI,Rv];omega) λy j a=>?_;rw[CW (by omega)];have q:s0++(ks.take i).flatMap rY++([103,105,118,101,110,32]++LM ks[i]++[10])=s0++(ks.take (i+1)).flatMap rY:=by
    rw[sB ks h];simp[rY,uI]
   rw[q,lB,<-Nat.mul_succ]at a;exact ih (i+1) y j (by omega) (by omega) a
  ·rw[Fk (by omega),AY];have:i=ks.length:=by omega
   subst this;rw[rW]at d;exact w v H d
def B7K{m:AV->KV}{kp:List (Nat×Row)}{a w c:AV}(D:∀i(h:i<xs.length),PS (r! L (n+41)) FI [.agg xs[i].cs] (S (ts.getD i [])))(F:∀t∈ts,t.length<100)(k:ts.length=xs.length)(hb:xs.length<100)(C:b<10000000)(M:∀v H,Bd r kp (b+1000*xs.length) (s0++ts.flatMap xH) v H->m (.ptr p 0 0) (.ptr r 0 0) H=x):
 ∀(f i:Nat)(v:AV)(H:Hp),i<=xs.length->xs.length-i<f->Bd r kp (b+1000*i) (s0++(ts.take i).flatMap xH) v H->Nt (L+20) (r! L (n+41)) K m f (.ptr p 0 0) (.ptr r 0 0) a w c (Ck xs) (I xs.length) (I i) H=x:=by
 intro f
 induction f with
 |zero=>intro i v H _ h;omega
 |succ f ih=>
  intro i v H hi Q q;rw[YM];unfold Nv Ia A4;by_cases h:i<xs.length
  ·have d:i<ts.length:=by omega
   have y:ts.getD i []=ts[i]:=by simp[List.getD,KJ d]
   have P:=F ts[i] (Ql d);have j:=D i h;rw[y]at j;rw[XA2 (by omega),Cy,kH h,kF,Bv (cs:=LL) rfl,BO (cs:=LL) (vs:=xs[i].cs) (Ay (by simp)) rfl rfl rfl];have⟨O,A,J,s⟩:=q.al (e:=AX) (zs:=LL) (vs:=xs[i].cs) rfl;rw[<-A,Bu rfl rfl J,j,BA (by simp only[LI,Rv];omega)];refine A6N (n:=n+39) s (by omega) (by simp only[EN,LI,Rv];omega) λN u g=>?_;rw[CW (by omega)];have B:s0++(ts.take i).flatMap xH++(ts[i]++[10])=s0++(ts.take (i+1)).flatMap xH:=by
    rw[sB ts d];simp[xH]
   rw[B,lB,<-Nat.mul_succ]at g;exact ih (i+1) N u (by omega) (by omega) g
  ·rw[Fk (by omega),AY];have:i=ts.length:=by omega
   subst this;rw[rW]at q;exact M v H (k▸q)
def A9v{i a:Nat}(hL:100<L)(C:i<950)(V:CS (r! L (n+46)) Gy [.agg (B0 i (BE ks) (Ck xs) (uu a))] (Bo true))(Y:∀i(h:i<xs.length),PS (r! L (n+46)) FI [.agg xs[i].cs] (S (ts.getD i [])))(ht:∀t∈ts,t.length<100)(A:ts.length=xs.length)(X:∀k∈ks,k<52)(hb:ks.length<=6)(Z:xs.length<=40)(ho:a<52):
 CS (r! L (n+47)) Gz [.agg (B0 i (BE ks) (Ck xs) (uu a))] (.tup [S (uC i ks ts a),I 0]):=by
 intro K R;rw[dM];unfold OH DN A4;rw[DZ (O0 (.inr ⟨_,_,rfl⟩) (.inr ⟨_,_,rfl⟩))];have c:=Ay (H:=[]) (x:=Jg i (BE ks) (Ck xs) (uu a)) (by simp);have w0:=AG (x:=Jg i (BE ks) (Ck xs) (uu a)) Ft;generalize ((Ar [],Jg i (BE ks) (Ck xs) (uu a))::([]:Hp))=f at c w0;generalize Ar []=p at c;have B:∀{s j:Nat}{K:K2},CI j (.ptr s 0 0) K=K (.ptr s j 0):=λ{s j K}=>by rw[fA,JZ]
 have hv:∀{K:K2},Ap (r! L (n+46)) Gy [.agg (B0 i (BE ks) (Ck xs) (uu a))] f K=K (Bo true):=λ{K}=>AO V (WX (.inr ⟨_,_,rfl⟩) (.inr ⟨_,_,rfl⟩));have d1:=A5a i;rw[Bu rfl rfl c,hv,ntT,AY,Bv (cs:=[.v (.pointer none),zL]) rfl];have D:=Ay (H:=f) (x:=.cells true EB [.v (.pointer none),zL]) (by simp);have y:=w0.lt c;have e:Bd (Ar f) (pks p i ks xs (uu a)) 0 [] Aw ((Ar f,c_ EB [.v (.pointer none),zL])::f):=
  ⟨⟨⟨_,.inr rfl,.inl D⟩,.inl ⟨rfl,rfl,rfl⟩,λ⟨_,_,_,h⟩=>(by cases h),AG w0⟩,λq hq=>by
   simp only[XY]at hq;subst hq;exact⟨A6 y c,by simp only;omega,λ⟨_,_,_,h⟩=>(by cases h)⟩,MC _⟩
 generalize ((Ar f,c_ EB [.v (.pointer none),zL])::f)=M at e;generalize Ar f=r at e;have d:∀{b l v H},Bd r (pks p i ks xs (uu a)) b l v H->Ah H p=some (Jg i (BE ks) (Ck xs) (uu a)):=λh=>(h.ks (p,_) (XY.2 rfl)).1;have l0:∀{K},AE Ad (.ptr p 0 0) M K=K (I i):=λ{K}=>AL (p:=0) rfl (d e) (show 0<23 by decide);rw[B,l0,C5y L (n+36) i C,BA (by simp only[LI,Rv];omega),BA (by simp only[EN,LI,Rv];omega)];refine A6N (n:=n+44) e (by omega) (by simp only[EN,LI,Rv];omega) λv2 F g=>?_;simp only[BF];have l1:∀{K},AE Ak (.ptr p 1 0) F K=K (BE ks):=λ{K}=>AL (p:=1) rfl (d g) (show 1<23 by decide);rw[B,l1,Na];have O:([]++([112,114,111,99,101,100,117,114,101,32]++dg i++[10]):Ha)=(SL++dg i++[10])++(ks.take 0).flatMap rY:=by simp[SL]
 rw[O]at g;refine B7J (n:=n+6) X (by omega) (b:=0+1000) (by omega) (λv3 J m=>?_) (L+20) 0 v2 F (by omega) (by omega) g;have l2:∀{K},AE Av (.ptr p 2 0) J K=K (Ck xs):=λ{K}=>AL (p:=2) rfl (d m) (show 2<23 by decide);rw[B,l2,QR];have P:(SL++dg i++[10])++ks.flatMap rY=((SL++dg i++[10])++ks.flatMap rY)++(ts.take 0).flatMap xH:=by simp
 rw[P]at m;refine B7K (n:=n+5) Y ht A (by omega) (b:=0+1000+1000*ks.length) (by omega) (λv4 N w=>?_) (L+20) 0 v3 J (by omega) (by omega) m;have lo:∀{K},AE A0 (.ptr p 3 0) N K=K (.agg (Cz (uu a))):=λ{K}=>DD (p:=3) rfl (d w) (show 23<=23 by decide);have g3:=G7 a;rw[B,lo,Vr _ _ _ ho,EG,EF,BA (by simp only[LI,Rv];omega),BA (by simp only[EN,LI,Rv];omega)];refine A6N (n:=n+44) w (by omega) (by simp only[EN,LI,Rv];omega) λv5 H5 u=>?_;have Q:((SL++dg i++[10])++ks.flatMap rY)++ts.flatMap xH++([111,117,116,112,117,116,32]++LM a++[10])=uC i ks ts a:=by simp[uC,C0q]
 rw[Q]at u;have z1:=u.sz;obtain⟨H6,hs⟩:=A16 (n:=n+45) u.bld (by unfold uC;rw[EN];simp only[LI,Rv];omega) (by omega);rw[hs];exact R _ _ (λb=>⟨false,λK=>by kernel_rfl⟩)
end
end
end Go.Abs
end
