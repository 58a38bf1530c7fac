import Derived.Test.YthfokedilloheaaGreatDoorP12
import Derived.Test.YthfokedilloheaaGreatDoorP13
import Derived.Test.YthfokedilloheaaGreatDoorP14
import Derived.Test.YthfokedilloheaaGreatDoorP15
set_option linter.all false
set_option maxHeartbeats 100000000
noncomputable section
namespace Go.Abs
open Go.RowKit Go.Proofs
set_option maxRecDepth 100000
section
variable{H:Hp}{k4:Ru}{t:Int×Int}
variable{L n:Nat}
attribute [local irreducible] Aq rt oV eBi eEq cnd As XU A1
def B78(h: -8<=t.2/\t.2<=8/\t.2≠0):PS (rt (L+20) (n+41)) KC [.agg (OZ t)] (Bo false):=by
 refine CS.ps (λK a=>?_) (λH=>λK=>by kernel_rfl);have h1:PO (rt (L+20) (n+40)) E0 [.agg (qa t.2)] (Bo true):=(sI (by omega) (by omega)).o;have h2:PO (rt (L+20) (n+40)) OR [.agg (qa t.2)] (Bo false):=by
  have:=(B3f (L:=L) (n:=n) (z:=t.2) (by omega) (by omega)).o;rw[HN h.2.2]at this;exact this
 rewrite[YN];unfold Nw HX
 try rewrite[zO]
 try rewrite[bO]
 try rewrite[qO]
 try rewrite[cO]
 generalize rt (L+20) (n+40)=R at*
 conv=>lhs;whnf
 rewrite[h1]
 conv=>lhs;whnf
 rewrite[h2]
 conv=>lhs;whnf
 exact a _ _ (λb=>⟨false,λK=>by kernel_rfl⟩)
abbrev sH:AV:=.fn (.func KC) [] []
abbrev A9s:AV:=.fn (.func Na) [] []
section
variable{ts:kG}{K:KV}{x:Af}
def lTm{K:K2}:AE BY (.iptr (OZ t)) H K=K (.agg (OZ t)):=id rfl
def B54(a:TmsOk ts):∀(f i:Nat),i<=ts.length->ts.length-i<f->
 E7 (L+20) (rt (L+20) (n+41)) K k4 f (FI ts) sH (I ts.length) (I i) H=k4 H:=by
 have hb:=a.len;intro f
 induction f with
 |zero=>intro i _ h;omega
 |succ f ih=>
  intro i hi c;rw[Kx];unfold E8 HV A2;by_cases h:i<ts.length
  ·have hr:=a.rng _ (NT h);rw[FG (by omega),Co,Xt h,lTm];have b:∀K,Cw (E (L+20)) (rt (L+20) (n+41)) sH [.agg (OZ ts[i])] H K=Aq (rt (L+20) (n+41)) KC [.agg (OZ ts[i])] H λv=>K v H:=λK=>by kernel_rfl
   rw[b,B78 hr.2.2,Ba,Dd (by omega)];exact ih (i+1) (by omega) (by omega)
  ·rw[FB (by omega),Ba]
def A3c(c:TmsOk ts):CS (rt (L+20) (n+43)) Eo [FI ts,sH] (Bo false):=by
 have hb:=c.len;intro K a;rw[JY];unfold Em L8;have hi:CS (rt (L+20) (n+42)) Hi [FI ts,sH] (I (-1)):=by
  intro K a;rw[KP];unfold EF A2;simp only[BH];have d:(AV.v (.int .i64 0))=I ((0:Nat):Int):=rfl;rw[Q7,d,B54 c _ 0 (by omega) (by omega)];exact a _ _ (λb=>⟨false,λK=>by kernel_rfl⟩)
 rw[AQ (q:=false) hi (λK=>by cases ts<;>kernel_rfl),KX];exact a _ _ (λb=>⟨false,λK=>by kernel_rfl⟩)
def A8P:PS (rt (L+20) (n+1)) Na [.agg (OZ t)] (I t.1):=by
 refine CS.ps (λK a=>?_) (λH=>λK=>by kernel_rfl);rewrite[iD];unfold QP HX
 try rewrite[zO]
 try rewrite[bO]
 try rewrite[qO]
 try rewrite[cO]
 generalize rt (L+20) (n+0)=R at*
 conv=>lhs;whnf
 exact a _ _ (λb=>⟨false,λK=>by kernel_rfl⟩)
def B8X(j:TmsOk ts)(u:∀H,k4 H=x):∀(f i:Nat)(H:Hp),i<=ts.length->ts.length-i<f->Wf H->
 HT (L+20) (rt (L+20) (n+1)) K k4 f (FI ts) A9s (FI ts) (I ts.length) (I i) H=x:=by
 have hb:=j.len;intro f
 induction f with
 |zero=>intro i H _ h;omega
 |succ f ih=>
  intro i H hi B w;rw[Pn];unfold HU HV Dm G8 A2 MF Hv;by_cases h:i<ts.length
  ·have hr:=j.rng _ (NT h);rw[FG (by omega),Co,Xt h,lTm,Bv (cs:=[zI,zS,zS]) rfl];have d:=Ax (H:=H) (x:=.cells true Bf [zI,zS,zS]) (by simp);rw[BQ (vs:=OZ ts[i]) d rfl rfl rfl];have b:=AC (q:=true) (e:=Bf) (cs:=OZ ts[i]) d;have w1:=Bi (r:=Ar H) (y:=.cells true Bf (OZ ts[i])) (AF (x:=.cells true Bf [zI,zS,zS]) w);generalize upd ((Ar H,c_ Bf [zI,zS,zS])::H) (Ar H) (c_ Bf (OZ ts[i]))=a at b w1;generalize Ar H=r at b;have m1:∀K,AE BY (.ptr r 0 0) a K=K (.agg (OZ ts[i])):=λK=>GE (p:=0) rfl b (show 3<=3 from LH _);have m:∀(t:Int×Int)(K:KV),Cw (E (L+20)) (rt (L+20) (n+1)) A9s [.agg (OZ t)] a K=K (I t.1) a:=λt K=>by
    have:Cw (E (L+20)) (rt (L+20) (n+1)) A9s [.agg (OZ t)] a K=Aq (rt (L+20) (n+1)) Na [.agg (OZ t)] a λv=>K v a:=by kernel_rfl
    rw[this,A8P]
   have i1:∀K,As Ac .lss (I ts[i].1) (.v (.int .i64 1)) K=K (Bo false):=λK=>FB (by omega);have i2:∀K,As Ac .gtr (I ts[i].1) (.v (.int .i64 1000000)) K=K (Bo false):=λK=>by rw[DT,HN (by omega)]
   rw[m1,m];simp only[i1,i2,gT,BW,RF];by_cases g:0<i
   ·have k:∀K,As Ac .gtr (I (i:Int)) (.v (.int .i64 0)) K=K (Bo true):=λK=>by rw[DT,GI (by omega)]
    have c:i-1<ts.length:=by omega
    have mm:∀K,eMM false (I ((i-1:Nat):Int)) (.v (.int .i64 0)) K=K (I ((i-1:Nat):Int)):=λK=>by
     have e:eMM false (I ((i-1:Nat):Int)) (.v (.int .i64 0)) K=ck (decide (IntKind.i64=IntKind.i64)) (@Bool.rec (λ_=>Af) (K (.v (.int .i64 0))) (K (I ((i-1:Nat):Int))) (qL 0 ((i-1:Nat):Int))):=rfl;rw[e,LI,GI (Int.natCast_nonneg _)];rfl
    have s:ts[i-1].1<ts[i].1:=(l26.1 j.asc) (i-1) i c h (by omega);have A:∀K,As Ac .geq (I ts[i-1].1) (I ts[i].1) K=K (Bo false):=λK=>by rw[KX,HN (by omega)]
    simp only[k,BW,gT,gF g (by omega:i<1000000000),mm,Xt c,lTm,m,A,Ul,RF];rw[Ba,Dd (by omega)];exact ih (i+1) a (by omega) (by omega) w1
   ·have k:∀K,As Ac .gtr (I (i:Int)) (.v (.int .i64 0)) K=K (Bo false):=λK=>by rw[DT,HN (by omega)]
    simp only[k,BW,gT,eP,Ul,RF];rw[Ba,Dd (by omega)];exact ih (i+1) a (by omega) (by omega) w1
  ·rw[FB (by omega),Ba];exact u H
def A6H(a:TmsOk ts):CS (rt (L+20) (n+2)) I0 [FI ts,A9s] (Bo true):=by
 have hb:=a.len;intro K d;rw[PQ];unfold Iw A2 MF;simp only[BH];have c:(AV.v (.int .i64 0))=I ((0:Nat):Int):=rfl;rw[Q7,c];exact B8X a (λH=>d _ _ (λb=>⟨false,λK=>by kernel_rfl⟩)) (L+20) 0 [] (by omega) (by omega) Fq
def A37{c r:Int}(i: -80<=c)(j:c<=80)(k:0<=r)(m:r<=8)(a:TmsOk ts):CS (rt (L+20) (n+44)) LU [.agg (dJ (qn c) (qd c) (FI ts) (qn r) (qd r))] (Bo true):=by
 intro K g;have hb:=a.len;have h1:PO (rt (L+20) (n+43)) E0 [.agg (qa c)] (Bo true):=(sI (n:=n+3) (by omega) (by omega)).o;have h2:PO (rt (L+20) (n+43)) E0 [.agg (qa r)] (Bo true):=(sI (n:=n+3) (by omega) (by omega)).o;have d:PO (rt (L+20) (n+43)) Qz [.agg (qa r)] (I (if r=0 then 0 else 1)):=(B3g (n:=n+3) (by omega) (by omega)).o;have e:LS (rt (L+20) (n+43)) I0 [FI ts,A9s] (Bo true):=(A6H (n:=n+41) a).ls;have f:LS (rt (L+20) (n+43)) Eo [FI ts,sH] (Bo false):=(A3c (n:=n) a).ls;have hz:ts=[]\/∃t l,ts=t::l:=by cases ts with|nil=>exact .inl rfl|cons t l=>exact .inr ⟨t,l,rfl⟩
 rcases hz with rfl|⟨t,l,rfl⟩
 all_goals
  rewrite[mE];unfold SP HX
  try rewrite[zO]
  try rewrite[bO]
  try rewrite[qO]
  try rewrite[cO]
  generalize rt (L+20) (n+43)=R at*
  conv=>lhs;whnf
  rewrite[h1]
  conv=>lhs;whnf
  rewrite[h2]
  conv=>lhs;whnf
  rewrite[d]
  conv=>lhs;whnf
  rewrite[A5U ?hc]
  case hc=>(split<;>omega)
  conv=>lhs;whnf
  rewrite[A5K ?hc]
  case hc=>(first|decide|(have h:l.length+1<=6:=hb;show((l.length+1:Nat):Int)<=64;omega))
  conv=>lhs;whnf
  rewrite[(e) false _ _ ?hq]
  case hq=>exact λK=>by kernel_rfl
  conv=>lhs;whnf
  rewrite[(f) false _ _ ?hq]
  case hq=>exact λK=>by kernel_rfl
  conv=>lhs;whnf
  exact g _ _ (λb=>⟨false,λK=>by kernel_rfl⟩)
end
end
section
variable{v:AV}{H:Hp}{r:Nat}{y:Row}
variable{L n:Nat}{K:KV}{x:Af}
structure Bld(r:Nat)(l:Ha)(v:AV)(H:Hp):Prop where
 at_:∃tw:Nat,(tw=Hy\/tw=EA)/\(Ai H r=some (c_ tw [.v (.pointer none),v])\/Ai H r=some (c_ tw [.ptr r 0 0,v]))
 sl:AU H Bj 1 v l.length (L3 l)
 ne:¬A4 v r
 wf:Wf H
structure Kp(r:Nat)(v:AV)(H:Hp)(v':AV)(H':Hp):Prop where
 keep:∀u y,Ai H u=some y->u≠r->¬A4 v u->Ai H' u=some y
 new:∀u,A4 v' u->A4 v u\/Ar H<=u
 nx:Ar H<=Ar H'
def Kp.refl(r:Nat)(v:AV)(H:Hp):Kp r v H v H:=⟨λ_ _ h _ _=>h,λ_ h=>.inl h,LH _⟩
def Kp.trans{v e b:AV}{H H' a:Hp}(w:Wf H)(h:Kp r v H e H')(k:Kp r e H' b a):Kp r v H b a:=
 ⟨λu y c h1 h2=>k.keep u y (h.keep u y c h1 h2) h1 (λf=>by
  rcases h.new u f with d|d
  ·exact h2 d
  ·have:=w.lt c;omega),
  λu c=>by
   rcases k.new u c with h1|h1
   ·exact h.new u h1
   ·exact .inr (by have:=h.nx;omega),fG h.nx k.nx⟩
theorem Bld.upd{r s:Nat}{l:Ha}(h:Bld r l v H)(h1:s≠r)(h2:¬A4 v s):Bld r l v (upd H s y):=
 ⟨by rw[Ag h1.symm];exact h.at_,h.sl.lat h.wf (Lat.upd H s y (P:=λu=>u=s) rfl) (λu a e=>h2 (e▸a)),h.ne,Bi h.wf⟩
theorem Bld.cons{l:Ha}(h:Bld r l v H):Bld r l v ((Ar H,y)::H):=by
 refine⟨?_,h.sl.lat h.wf (Lat.cons H y (λ_=>False)) (λ_ _ h=>h),h.ne,AF h.wf⟩;obtain⟨b,a,h1|h1⟩:=h.at_
 ·exact⟨b,a,.inl (A6 (h.wf.lt h1) h1)⟩
 ·exact⟨b,a,.inr (A6 (h.wf.lt h1) h1)⟩
def I_{l s:Ha}(h:Bld r l v H)(hb:l.length+s.length<1000000000)(hx:∀i t,Bld r (l++s) i t->Kp r v H i t->K (.tup [I s.length,.v .nilIface]) t=x):(r! L (n+2)).call BI [.ptr r 0 0,S s] H K=x:=by
 rw[NR];unfold GC DI;rw[Pg];unfold HI DI;have J:∀K:K2,CL 0 (.ptr r 0 0) K=K (.ptr r 0 0):=λK=>id rfl;have a1:∀K:K2,CL 1 (.ptr r 0 0) K=K (.ptr r 1 0):=λK=>id rfl;obtain⟨w,m,Q⟩:=h.at_;have main:∀j,Ai j r=some (c_ w [.ptr r 0 0,v])->Bld r l v j->Kp r v H v j->(L0 (.ptr r 0 0) λv3=>CL 1 v3 λv4=>AE AS v4 j λv5=>Dy Bj 1 AT Ah v5 (S s) j λv6 X=>
  L0 (.ptr r 0 0) λv8=>CL 1 v8 λv9=>DN AS v9 v6 X λF=>Bp Ah (S s) λR=>K (.tup [R,.v .nilIface]) F)=x:=λj k c O=>by
  rw[I3,a1,AL (p:=1) rfl k (by simp)];show Dy Bj 1 AT Ah v (S s) j _=x;obtain⟨i,t,h1,h2,V,D⟩:=apt (ie:=AT) (i2:=Ah) c.sl (λK=>C0y (K:=K)) (by rw[Qo];omega) (A6e s) (by decide) rfl rfl (by show(l.length+s.length)*1<=_;omega) (by omega);rw[h1,I3,a1];have A:Ai t r=some (c_ w [.ptr r 0 0,v]):=D.keep c.wf r _ k c.ne;have C:=D.wf c.wf;rw[jP]at h2;have g:B0 i=[i]/\AV.one i=true:=by
   rcases h2 with⟨rfl,_⟩|⟨a,b,rfl,_⟩<;>exact⟨rfl,rfl⟩
  rw[D5 (q:=true) (e:=w) (cs:=[.ptr r 0 0,v]) A (by simp) rfl g.1 g.2,Qf rfl];have Z:=c.wf.lt k;have B:¬A4 i r:=λd=>by have:=V r d;omega
  refine hx i _ ⟨⟨w,m,.inr (AC A)⟩,?_,B,Bi C⟩ ?_
  ·rw[Ez];exact h2.lat C (Lat.upd t r _ (P:=λu=>u=r) rfl) (λu d e=>B (e▸d))
  ·refine O.trans h.wf ⟨λu y d hn hv=>?_,λu d=>.inr (by rw[V u d];exact LH _),by rw[B1];exact D.nx⟩;rw[Ag hn];exact D.keep c.wf u y d hv
 rw[I3,J];rcases Q with f|f
 ·rw[AL (p:=0) rfl f (by simp)];show Rb Cl BJ .eql (.v (.pointer none)) (.v (.pointer none)) _=x;have M:∀K:K2,Rb Cl BJ .eql (.v (.pointer none)) (.v (.pointer none)) K=K (Bo true):=λK=>id rfl;rw[M,Co];have N:∀K:K2,A1Z BJ (.ptr r 0 0) H K=K (.ptr r 0 0):=λK=>by
   have:A1Z BJ (.ptr r 0 0) H K=IQ H r λx=>Kq x λ_ cs=>HQ cs 0 λcl=>ck (Nat.blt (Nat.add 0 0) cl&& !Nat.beq BJ.size 0) (K (.ptr r 0 0)):=rfl;rw[this,Bn f];rfl
  have Y:∀K:K2,A1U A3Y EA (.ptr r 0 0) H K=K (.ptr r 0 0):=λK=>by
   have:A1U A3Y EA (.ptr r 0 0) H K=IQ H r λx=>gH x λq E cs=>HQ cs 0 λcl=>ck (q&&B4S A3Y E cl (Nat.add 0 0) EA) (K (.ptr r 0 0)):=rfl;rw[this,Bn f];rcases m with rfl|rfl<;>rfl
  rw[N,Y,I3,J,D5 (q:=true) (e:=w) (cs:=[.v (.pointer none),v]) f (by simp) rfl rfl rfl];refine main _ (AC f) ⟨⟨w,m,.inr (AC f)⟩,h.sl.lat h.wf (Lat.upd H r _ (P:=λu=>u=r) rfl) (λu d e=>h.ne (e▸d)),h.ne,Bi h.wf⟩ ⟨λu y d hn _=>by rw[Ag hn];exact d,λu d=>.inl d,by rw[B1];exact LH _⟩
 ·rw[AL (p:=0) rfl f (by simp)];show Rb Cl BJ .eql (.ptr r 0 0) (.v (.pointer none)) _=x;have M:∀K:K2,Rb Cl BJ .eql (.ptr r 0 0) (.v (.pointer none)) K=K (Bo false):=λK=>id rfl;rw[M,Ba,I3,J,AL (p:=0) rfl f (by simp)];show Rb Cl BJ .neq (.ptr r 0 0) (.ptr r 0 0) _=x;have N:∀K:K2,Rb Cl BJ .neq (.ptr r 0 0) (.ptr r 0 0) K=K (Bo false):=λK=>by
   have:Rb Cl BJ .neq (.ptr r 0 0) (.ptr r 0 0) K=ck (Nat.beq r r&&(Nat.beq (Nat.add 0 0) (Nat.add 0 0)&& !Nat.beq BJ.size 0)) (K (Bo false)):=rfl;rw[this,oH];rfl
  rw[N,Ba];exact main H f h (Kp.refl r v H)
end
section
variable{a v v0:AV}{H H0:Hp}{k2:Ru}{zs:List Ha}{e r:Nat}{t:TI}
variable{L n:Nat}{K:KV}{x:Af}
def Sr(H:Hp)(r:Nat)(v a:AV)(cs:Is):Prop:=a=.list cs.length cs\/(a=Av/\cs=[])\/∃k q e,a=.sl 1 k 0 cs.length/\Ai H k=some (.cells q e cs)/\k≠r/\¬A4 v k
def Sr.kp{H H':Hp}{v f a:AV}{cs:Is}(h:Sr H r v a cs)(w:Wf H)(k:Kp r v H f H'):Sr H' r f a cs:=by
 rcases h with h|h|⟨i,q,e,h1,h2,b,c⟩
 ·exact .inl h
 ·exact .inr (.inl h)
 ·refine .inr (.inr ⟨i,q,e,h1,k.keep i _ h2 b c,b,λg=>?_⟩);rcases k.new i g with d|d
  ·exact c d
  ·have:=w.lt h2;omega
def Sr.len{cs:Is}{e z:Nat}{K:K2}(h:Sr H r v a cs)(c:t.d=.slice e z):Bp t a K=K (I cs.length):=by
 obtain⟨s,b,d,zr⟩:=t;simp only at c;subst c;rcases h with rfl|⟨rfl,rfl⟩|⟨i,q,e,rfl,_⟩<;>exact id rfl
def Sr.get{r i:Nat}{cs:Is}{t f:TI}{K:K2}(h:Sr H r v a cs)(b:t.d=.slice e 1)(c:f.d.isAgg=false)(hi:i<cs.length):(D1 t a (I i) λp=>AE f p H K)=K (cs.getD i .dk):=by
 rcases h with rfl|⟨_,rfl⟩|⟨k,q,j,rfl,g,_⟩
 ·rw[eV b rfl (by omega) (by omega),mI,Ny c]
 ·simp at hi
 ·rw[W! b (by omega) (by omega),mI,AL (p:=i) c g hi]
def C1G{zs:List Int}(B:zs.length<100)(hz:∀z∈zs, -10<=z/\z<390){l:Ha}(hb:l.length<900000000)(w0:Wf H0)(u:∀k b,Bld r (l++Jn zs) k b->Kp r v0 H0 k b->k2 b=x):∀(f i:Nat)(v:AV)(H:Hp),i<=zs.length->zs.length-i<f->Bld r (l++Jn (zs.take i)) v H->Kp r v0 H0 v H->Sr H r v a (Fi zs)->
 GA (L+20) (r! L (n+9)) K k2 f (.ptr r 0 0) a (I zs.length) (I i) H=x:=by
 intro f
 induction f with
 |zero=>intro i v H _ h;omega
 |succ f ih=>
  intro i v H hi A j m q;rw[NP];unfold GB HV A2;by_cases h:i<zs.length
  ·have g:=hz zs[i] (NT h);have p:=F7 (zs.take i);have w:(zs.take i).length<=zs.length:=by simp;omega
   have y:=TN zs[i];rw[FG (by omega),Co,q.get rfl rfl (by simp[Fi];omega),Xg h,A0A (L:=L) (n:=n+1) g.1 g.2,Fl,Fk,I3];have s:∀K:K2,CL 0 (.ptr r 0 0) K=K (.ptr r 0 0):=λK=>id rfl;rw[s];refine I_ (n:=n+7) j (by rw[Ez];omega) λk b c d=>?_;rw[Dd (by omega)];rw[eK,<-zX zs h]at c;exact ih (i+1) k b (by omega) (by omega) c (m.trans w0 d) (q.kp j.wf d)
  ·rw[FB (by omega),Ba];have:i=zs.length:=by omega
   subst this;rw[wC]at j;exact u v H j m
def A6J{zs:List Int}{l:Ha}(k:100<L)(i:zs.length<100)(hz:∀z∈zs, -10<=z/\z<390)(hb:l.length<900000000)(c:Bld r l v H)(d:Sr H r v a (Fi zs))(j:∀f b,Bld r (l++Jn zs) f b->Kp r v H f b->K (.tup []) b=x):(r! L (n+10)).call BP [.ptr r 0 0,a] H K=x:=by
 rw[Oz];unfold GY A2;rw[d.len rfl];simp only[BH];have g:(AV.v (.int .i64 0))=I ((0:Nat):Int):=rfl;have h:(Fi zs).length=zs.length:=by simp[Fi]
 rw[g,h];exact C1G (n:=n) i hz hb c.wf j (L+20) 0 v H (by omega) (by omega) (by simpa [Jn] using c) (Kp.refl r v H) d
def C1C(C:zs.length<100)(hz:∀z∈zs,z.length<390){l:Ha}(hb:l.length<900000000)(w0:Wf H0)(w:∀k b,Bld r (l++I5 zs) k b->Kp r v0 H0 k b->k2 b=x):∀(f i:Nat)(v:AV)(H:Hp),i<=zs.length->zs.length-i<f->Bld r (l++I5 (zs.take i)) v H->Kp r v0 H0 v H->Sr H r v a (A9 zs)->
 HD (L+20) (r! L (n+9)) K k2 f (.ptr r 0 0) a (I zs.length) (I i) H=x:=by
 intro f
 induction f with
 |zero=>intro i v H _ h;omega
 |succ f ih=>
  intro i v H hi B g p j;rw[Pd];unfold HE HV A2;by_cases h:i<zs.length
  ·have m:=hz zs[i] (NT h);have q:=F6 (zs.take i) (λs j=>hz s (l29 j));have y:(zs.take i).length<=zs.length:=by simp;omega
   have A:(U_ zs[i]).length<=400:=by unfold U_;rw[Ez];have:=TN (zs[i].length:Int);omega
   rw[FG (by omega),Co,j.get rfl rfl (by simp[A9];omega),Px h,A0z L n m,Fl,Fk,I3];have u:∀K:K2,CL 0 (.ptr r 0 0) K=K (.ptr r 0 0):=λK=>id rfl;rw[u];refine I_ (n:=n+7) g (by rw[Ez];omega) λk b c d=>?_;rw[Dd (by omega)];rw[eK,<-zW zs h]at c;exact ih (i+1) k b (by omega) (by omega) c (p.trans w0 d) (j.kp g.wf d)
  ·rw[FB (by omega),Ba];have:i=zs.length:=by omega
   subst this;rw[wC]at g;exact w v H g p
def J'{l:Ha}(k:100<L)(i:zs.length<100)(hz:∀z∈zs,z.length<390)(hb:l.length<900000000)(c:Bld r l v H)(d:Sr H r v a (A9 zs))(j:∀f b,Bld r (l++I5 zs) f b->Kp r v H f b->K (.tup []) b=x):(r! L (n+10)).call C5 [.ptr r 0 0,a] H K=x:=by
 rw[PJ];unfold Iu A2;rw[d.len rfl];simp only[BH];have g:(AV.v (.int .i64 0))=I ((0:Nat):Int):=rfl;have h:(A9 zs).length=zs.length:=by simp[A9]
 rw[g,h];exact C1C (n:=n) i hz hb c.wf j (L+20) 0 v H (by omega) (by omega) (by simpa [I5] using c) (Kp.refl r v H) d
end
section
variable{v:AV}{q:Bool}{H:Hp}{e i k r:Nat}
variable{L n:Nat}{K:KV}{x:Af}
abbrev Rts:=List (Ha×Ha)
def rtC(q:Ha×Ha):Is:=[S q.1,S q.2]
def R9(l:Rts):Ha:=(l.map λq=>I5 [q.1,q.2]).flatten
def A7I(l:Rts)(h:i<l.length):R9 (l.take (i+1))=R9 (l.take i)++I5 [l[i].1,l[i].2]:=by
 unfold R9;rw[oJ h,XS,List.flatten_append];simp only[XC,List.map_nil,l1d,List.flatten_nil,US]
def OS(l:Rts)(h:∀q∈l,q.1.length<390/\q.2.length<390):(R9 l).length<=800*l.length:=by
 induction l with
 |nil=>simp[R9]
 |cons s l ih=>
  have a:=ih (λs c=>h s (by simp[c]));have b:=F6 [s.1,s.2] (by simp;exact h s (by simp));simp only[R9,XC,l1d,Ez,Mr,Rk]at a b⊢;omega
def Kp.cons{y:Row}(w:Wf H):Kp r v H v ((Ar H,y)::H):=⟨λu z a _ _=>A6 (w.lt a) a,λu a=>.inl a,l1u _⟩
theorem Bld.lt{l:Ha}(h:Bld r l v H):r<Ar H:=by obtain⟨_,_,h1|h1⟩:=h.at_<;>exact h.wf.lt h1
def Bld.vlt{r u:Nat}{l:Ha}(h:Bld r l v H)(a:A4 v u):u<Ar H:=h.sl.lt h.wf a
def C0B{r m i:Nat}{K:K2}(h:i<m):D1 Jq (.sl 2 r 0 m) (I i) K=K (.ptr r (2*i) 0):=by
 have a:D1 Jq (.sl 2 r 0 m) (I (i:Int)) K=iN (i:Int) λk=>ck (Nat.blt k m) (fN (Nat.add 0 (Nat.mul k 2)) λq=>K (.ptr r q 0)):=rfl;rw[a,Kr,Ef];have h2:Nat.blt i m=true:=by rw[Xe];exact h
 have b:Nat.add 0 (Nat.mul i 2)=2*i:=by show 0+i*2=_;omega
 rw[h2,b];rfl
def C1D{rs:Rts}{k2:Ru}(hl:rs.length<100)(hz:∀z∈rs,z.1.length<390/\z.2.length<390){l:Ha}(hL:100<L)(hb:l.length<800000000){v0:AV}{H0:Hp}(w0:Wf H0)(Q:k≠r)(hx:∀F m,Bld r (l++R9 rs) F m->Kp r v0 H0 F m->k2 m=x):∀(f i:Nat)(v:AV)(H:Hp),i<=rs.length->rs.length-i<f->Bld r (l++R9 (rs.take i)) v H->Kp r v0 H0 v H->Ai H k=some (.cells q e (rs.flatMap rtC))->¬A4 v k->
 GS (L+20) (r! L (n+10)) K k2 f (.ptr r 0 0) (.sl 2 k 0 rs.length) (I rs.length) (I i) H=x:=by
 intro f
 induction f with
 |zero=>intro i v H _ h;omega
 |succ f ih=>
  intro i v H hi hf d Y C D;rw[Oj];unfold GT DI HV A2;by_cases h:i<rs.length
  ·have V:=hz rs[i] (NT h);have Z:=OS (rs.take i) (λs C=>hz s (l29 C));have h5:(rs.take i).length<=rs.length:=by simp;omega
   rw[FG (by omega),Co,C0B h];have N:=iZ rtC 2 (λ_=>rfl) rs;have M:=uY rtC 2 (λ_=>rfl) rs i h;have R:∀K,AE A8 (.ptr k (2*i) 0) H K=K (.agg (rtC rs[i])):=λK=>by
    rw[GE (p:=2*i) rfl C (by rw[N];show 2*i+2<=_;omega),Nat.mul_comm 2 i];show K (.agg (((rs.flatMap rtC).drop (i*2)).take 2))=_;rw[M]
   rw[R,Bv (cs:=[zS,zS]) rfl];have B:=Ax (H:=H) (x:=.cells true Bu [zS,zS]) (by simp);rw[BQ (vs:=rtC rs[i]) B rfl rfl rfl];have g:=AC (q:=true) (e:=Bu) (cs:=rtC rs[i]) B;have aa:=d.lt;have b:=(d.cons (y:=.cells true Bu [zS,zS])).upd (s:=Ar H) (y:=.cells true Bu (rtC rs[i])) (by omega) (λc=>by have:=d.vlt c;omega);have A:Kp r v H v (upd ((Ar H,c_ Bu [zS,zS])::H) (Ar H) (c_ Bu (rtC rs[i]))):=⟨λu y c h1 h2=>by
    have:=d.wf.lt c;rw[Ag (by omega)];exact A6 this c,λu c=>.inl c,by rw[B1];exact l1u _⟩
   generalize upd ((Ar H,c_ Bu [zS,zS])::H) (Ar H) (c_ Bu (rtC rs[i]))=a at g b A;generalize Ar H=t at g;have g0:∀K:K2,CL 0 (.ptr t 0 0) K=K (.ptr t 0 0):=λK=>id rfl;have g1:∀K:K2,CL 1 (.ptr t 0 0) K=K (.ptr t 1 0):=λK=>id rfl;have m0:∀K,AE Ah (.ptr t 0 0) a K=K (S rs[i].1):=λK=>AL (p:=0) rfl g (show 0<2 by decide);have m1:∀K,AE Ah (.ptr t 1 0) a K=K (S rs[i].2):=λK=>AL (p:=1) rfl g (show 1<2 by decide);rw[g0,m0,g1,m1];have bs:∀K:KV,FV Al 1 Ah 2 [(0,1,S rs[i].1),(1,1,S rs[i].2)] a K=K (.sl 1 (Ar a) 0 2) ((Ar a,.cells false Al (A9 [rs[i].1,rs[i].2]))::a):=λK=>by
    have e:FV Al 1 Ah 2 [(0,1,S rs[i].1),(1,1,S rs[i].2)] a K=It a λs=>K (.sl 1 s 0 2) ((s,.cells false Al (A9 [rs[i].1,rs[i].2]))::a):=rfl;rw[e,Ca]
   rw[bs];have J:=b.cons (y:=.cells false Al (A9 [rs[i].1,rs[i].2]));have P:Kp r v H v ((Ar a,.cells false Al (A9 [rs[i].1,rs[i].2]))::a):=A.trans d.wf (Kp.cons b.wf);refine J' (n:=n) hL (zs:=[rs[i].1,rs[i].2]) (by simp) (by simp;exact V) (by rw[Ez];omega) J (.inr (.inr ⟨Ar a,false,Al,rfl,Ax (by simp),by have:=b.lt;omega,λc=>by have:=b.vlt c;omega⟩)) λF m w O=>?_;rw[Dd (by omega)];rw[eK,<-A7I rs h]at w;have j:=P.trans d.wf O;refine ih (i+1) F m (by omega) (by omega) w (Y.trans w0 j) (j.keep k _ C Q D) (λc=>?_);rcases j.new k c with X|X
   ·exact D X
   ·have:=d.wf.lt C;omega
  ·rw[FB (by omega),Ba];have:i=rs.length:=by omega
   subst this;rw[wC]at d;exact hx v H d Y
def A8T{rs:Rts}{l:Ha}(h:100<L)(j:rs.length<100)(hz:∀z∈rs,z.1.length<390/\z.2.length<390)(hb:l.length<800000000)(d:Bld r l v H)(b:k≠r)(m:Ai H k=some (.cells q e (rs.flatMap rtC)))(c:¬A4 v k)(p:∀f a,Bld r (l++R9 rs) f a->Kp r v H f a->K (.tup []) a=x):(r! L (n+11)).call CU [.ptr r 0 0,.sl 2 k 0 rs.length] H K=x:=by
 rw[Pj];unfold HL A2;have el:∀K,Bp Jq (.sl 2 k 0 rs.length) K=K (I rs.length):=λK=>id rfl;rw[el];simp only[BH];have g:(AV.v (.int .i64 0))=I ((0:Nat):Int):=rfl;rw[g];exact C1D (n:=n) j hz h hb d.wf b p (L+20) 0 v H (by omega) (by omega) (by simpa [R9] using d) (Kp.refl r v H) m c
end
section
variable{L n:Nat}{K:KV}{x:Af}
structure Bd(r:Nat)(ks:List (Nat×Row))(b:Nat)(l:Ha)(v:AV)(H:Hp):Prop where
 bld:Bld r l v H
 ks:∀p∈ks,Ai H p.1=some p.2/\p.1≠r/\¬A4 v p.1
 sz:l.length<=b
def Bd.step{r b d:Nat}{ks:List (Nat×Row)}{l a:Ha}{v c:AV}{H H':Hp}(h:Bd r ks b l v H)(g:Bld r a c H')(k:Kp r v H c H')(j:a.length<=d):Bd r ks d a c H':=
 ⟨g,λp i=>by
  obtain⟨h1,h2,e⟩:=h.ks p i;refine⟨k.keep p.1 _ h1 h2 e,h2,λm=>?_⟩;rcases k.new p.1 m with f|f
  ·exact e f
  ·have:=h.bld.wf.lt h1;omega,j⟩
def Bd.less{r b:Nat}{ks:List (Nat×Row)}{p:Nat×Row}{l:Ha}{v:AV}{H:Hp}(h:Bd r (p::ks) b l v H):Bd r ks b l v H:=⟨h.bld,λq hq=>h.ks q (List.mem_cons_of_mem _ hq),h.sz⟩
section
variable{r b:Nat}{ks:List (Nat×Row)}{l:Ha}{v:AV}{H:Hp}
def nW(h:Bd r ks b l v H)(f:100<L)(hb:b<500000000)(zs:List Int)(i:zs.length<100)(hz:∀z∈zs, -10<=z/\z<390)(k:∀c a,Bd r ks (b+50000) (l++Jn zs) c a->K (.tup []) a=x):
 (r! L (n+10)).call BP [.ptr r 0 0,.sl 1 (Ar H) 0 zs.length] ((Ar H,.cells false GL (Fi zs))::H) K=x:=by
 have h1:=h.sz;have h2:=F7 zs;have d:(Fi zs).length=zs.length:=by simp[Fi]
 refine A6J (n:=n) f i hz (by omega) h.bld.cons (.inr (.inr ⟨Ar H,false,GL,by rw[d],Ax (by simp),by have:=h.bld.lt;omega,λj=>by have:=h.bld.vlt j;omega⟩)) λc a e g=>?_;exact k c a (h.step e ((Kp.cons h.bld.wf).trans h.bld.wf g) (by rw[Ez];omega))
def B2g(h:Bd r ks b l v H)(e:100<L)(hb:b<500000000)(zs:List Ha)(g:zs.length<100)(hz:∀z∈zs,z.length<390)(j:∀c a,Bd r ks (b+50000) (l++I5 zs) c a->K (.tup []) a=x):
 (r! L (n+10)).call C5 [.ptr r 0 0,.sl 1 (Ar H) 0 zs.length] ((Ar H,.cells false Al (A9 zs))::H) K=x:=by
 have h1:=h.sz;have h2:=F6 zs hz;refine J' (n:=n) e g hz (by omega) h.bld.cons (.inr (.inr ⟨Ar H,false,Al,by rw[AZ],Ax (by simp),by have:=h.bld.lt;omega,λi=>by have:=h.bld.vlt i;omega⟩)) λc a d f=>?_;exact j c a (h.step d ((Kp.cons h.bld.wf).trans h.bld.wf f) (by rw[Ez];omega))
def C17(h:Bd r ks b l v H)(f:100<L)(hb:b<500000000)(zs:List Ha)(a:AV)(g:a=.list zs.length (A9 zs)\/(a=Av/\zs=[]))(j:zs.length<100)(hz:∀z∈zs,z.length<390)(k:∀d c,Bd r ks (b+50000) (l++I5 zs) d c->K (.tup []) c=x):
 (r! L (n+10)).call C5 [.ptr r 0 0,a] H K=x:=by
 have h1:=h.sz;have h2:=F6 zs hz;refine J' (n:=n) f j hz (by omega) h.bld ?_ λd c e i=>k d c (h.step e i (by rw[Ez];omega));rcases g with rfl|⟨rfl,rfl⟩
 ·exact .inl (by rw[AZ])
 ·exact .inr (.inl ⟨rfl,rfl⟩)
def Y_(h:Bd r ks b l v H)(e:100<L)(hb:b<500000000)(rs:Rts)(j:rs.length<50)(hz:∀z∈rs,z.1.length<390/\z.2.length<390)(i:∀c a,Bd r ks (b+50000) (l++R9 rs) c a->K (.tup []) a=x):
 (r! L (n+11)).call CU [.ptr r 0 0,.sl 2 (Ar H) 0 rs.length] ((Ar H,.cells false Bu (rs.flatMap rtC))::H) K=x:=by
 have h1:=h.sz;have h2:=OS rs hz;refine A8T (n:=n) e (by omega) hz (by omega) h.bld.cons (by have:=h.bld.lt;omega) (Ax (by simp)) (λg=>by have:=h.bld.vlt g;omega) λc a d f=>?_;exact i c a (h.step d ((Kp.cons h.bld.wf).trans h.bld.wf f) (by rw[Ez];omega))
theorem Bd.cons{y:Row}(h:Bd r ks b l v H):Bd r ks b l v ((Ar H,y)::H):=h.step h.bld.cons (Kp.cons h.bld.wf) h.sz
def C1K(h:Bld r l v H):(r! L (n+1)).call Ii [.ptr r 0 0] H K=K (I l.length) H:=by
 rw[Tu];unfold Ka HX;have a1:∀K:K2,CL 1 (.ptr r 0 0) K=K (.ptr r 1 0):=λK=>id rfl;rw[I3,a1];have c:∀K,AE AS (.ptr r 1 0) H K=K v:=λK=>by
  obtain⟨_,_,a|a⟩:=h.at_<;>exact AL (p:=1) rfl a (by simp)
 rw[c,Ly rfl h.sl]
def A0y(h:Bld r l v H)(u:0<l.length)(hb:l.length<1000000000):∃a,∀K,(r! L (n+1)).call EM [.ptr r 0 0] H K=K (S l) a:=by
 rcases h.sl with⟨_,h1,_⟩|⟨s,q,rfl,t,hc⟩
 ·omega
 ·refine⟨upd H s .gone,λK=>?_⟩;rw[QM];unfold IW HX;have a1:∀K:K2,CL 1 (.ptr r 0 0) K=K (.ptr r 1 0):=λK=>id rfl;have i:∀K,AE AS (.ptr r 1 0) H K=K (.sl 1 s 0 l.length):=λK=>by
   obtain⟨_,_,c|c⟩:=h.at_<;>exact AL (p:=1) rfl c (by simp)
  have j:∀K,A7K (.sl 1 s 0 l.length) K=K (.ptr s 0 0):=λK=>by
   have:A7K (.sl 1 s 0 l.length) K=ck (Nat.beq 1 1&&Nat.blt 0 l.length) (K (.ptr s 0 0)):=rfl;rw[this];have:(Nat.beq 1 1&&Nat.blt 0 l.length)=true:=by simp;omega
   rw[this];rfl
  have k:∀K,Bp AS (.sl 1 s 0 l.length) K=K (I l.length):=λK=>id rfl;have m:∀K:KV,A4g Bj (.ptr s 0 0) (I l.length) H K=K (S l) (upd H s .gone):=λK=>by
   have:A4g Bj (.ptr s 0 0) (I l.length) H K=iN (l.length:Int) λn=>IQ H s λx=>Kq x λE cs=>ck (Nat.beq E Bj&&(Nat.blt 0 n&&Nat.blt n 9223372036854775807)) (EL n (Do (Nat.add 0 0) cs) λd=>fu8 d λl=>LJ H s .gone λa=>K (.v (.string ⟨⟨l⟩⟩)) a):=rfl;rw[this,Kr,Bn t];show ck (Nat.beq Bj Bj&&(Nat.blt 0 l.length&&Nat.blt l.length 9223372036854775807)) _=_;have g:(Nat.beq Bj Bj&&(Nat.blt 0 l.length&&Nat.blt l.length 9223372036854775807))=true:=by simp;omega
   rw[g];show EL l.length (Do 0 (L3 l)) _=_;have f:∀(l:Ha)(K:Ha->Af),fu8 (L3 l) K=K l:=λl=>by
    induction l with
    |nil=>intro K;rfl
    |cons b l ih=>
     intro K;have e:fu8 (L3 (b::l)) K=iN (b.toNat:Int) λn=>fu8 (L3 l) λl=>K (UInt8.ofNat n::l):=rfl;rw[e,Kr,ih];simp
   rw[C9,KZ _ _ _ (by rw[rC,Qo];exact LH _),rC,l25 (by rw[Qo];exact LH _),f,Dg]
  simp only[I3,B6,a1,i,j,k,m,BW]
end
end
section
variable{H:Hp}
variable{L n:Nat}{K:KV}{x:Af}
def tmB(t:Int×Int):Ha:=Jn [t.1]++R9 [(qn t.2,qd t.2)]
def Ro(ts:kG):Ha:=(ts.map tmB).flatten
def yM(l:kG){i:Nat}(h:i<l.length):Ro (l.take (i+1))=Ro (l.take i)++tmB l[i]:=by
 unfold Ro;rw[oJ h,XS,List.flatten_append];simp only[XC,List.map_nil,l1d,List.flatten_nil,US]
def Xx{z:Int}:FV GL 1 Ac 1 [(0,1,I z)] H K=K (.sl 1 (Ar H) 0 1) ((Ar H,.cells false GL (Fi [z]))::H):=by
 have e:FV GL 1 Ac 1 [(0,1,I z)] H K=It H λs=>K (.sl 1 s 0 1) ((s,.cells false GL (Fi [z]))::H):=rfl;rw[e,Ca]
def ZF{z:Ha}:FV Al 1 Ah 1 [(0,1,S z)] H K=K (.sl 1 (Ar H) 0 1) ((Ar H,.cells false Al (A9 [z]))::H):=by
 have e:FV Al 1 Ah 1 [(0,1,S z)] H K=It H λs=>K (.sl 1 s 0 1) ((s,.cells false Al (A9 [z]))::H):=rfl;rw[e,Ca]
def Y?{a b:Ha}:FV Bu 2 A8 1 [(0,2,.agg [S a,S b])] H K=K (.sl 2 (Ar H) 0 1) ((Ar H,.cells false Bu (([(a,b)]:Rts).flatMap rtC))::H):=by
 have e:FV Bu 2 A8 1 [(0,2,.agg [S a,S b])] H K=It H λs=>K (.sl 2 s 0 1) ((s,.cells false Bu (([(a,b)]:Rts).flatMap rtC))::H):=rfl;rw[e,Ca]
def C4h{r c:Nat}{ks:List (Nat×Row)}{ts:kG}{g:AV->KV}(P:TmsOk ts)(M:100<L){b:Nat}(hb:b<100000000){l:Ha}(hx:∀v' F,Bd r ks (b+100000*ts.length) (l++Ro ts) v' F->g (.ptr c 0 0) (.ptr r 0 0) F=x):∀(f i:Nat)(v:AV)(H:Hp),i<=ts.length->ts.length-i<f->Bd r ks (b+100000*i) (l++Ro (ts.take i)) v H->
 MD (L+20) (r! L (n+11)) K g f (.ptr c 0 0) (.ptr r 0 0) (FI ts) (I ts.length) (I i) H=x:=by
 have N:=P.len;intro f
 induction f with
 |zero=>intro i v H _ h;omega
 |succ f ih=>
  intro i v H hi hf a;rw[XX];unfold ME DI HV A2;by_cases h:i<ts.length
  ·have hr:=P.rng _ (NT h);rw[FG (by omega),Co,Xt h,lTm,Bv (cs:=[zI,zS,zS]) rfl];have u:=Ax (H:=H) (x:=.cells true Bf [zI,zS,zS]) (by simp);rw[BQ (vs:=OZ ts[i]) u rfl rfl rfl];have d:=AC (q:=true) (e:=Bf) (cs:=OZ ts[i]) u;have O:=a.bld.lt;have w:=(a.bld.cons (y:=.cells true Bf [zI,zS,zS])).upd (s:=Ar H) (y:=.cells true Bf (OZ ts[i])) (by omega) (λD=>by have:=a.bld.vlt D;omega);have j:Bd r ((Ar H,c_ Bf (OZ ts[i]))::ks) (b+100000*i) (l++Ro (ts.take i)) v (upd ((Ar H,c_ Bf [zI,zS,zS])::H) (Ar H) (c_ Bf (OZ ts[i]))):=⟨w,λp B=>by
    rcases Xd.1 B with rfl|B
    ·exact⟨d,by simp only;omega,λD=>by have:=a.bld.vlt D;omega⟩
    ·obtain⟨p1,p2,p3⟩:=a.ks p B;have:=a.bld.wf.lt p1;exact⟨by rw[Ag (by omega)];exact A6 this p1,p2,p3⟩,a.sz⟩
   generalize upd ((Ar H,c_ Bf [zI,zS,zS])::H) (Ar H) (c_ Bf (OZ ts[i]))=Q at d j;generalize Ar H=t at d j;have Y:∀K:K2,CL 0 (.ptr t 0 0) K=K (.ptr t 0 0):=λK=>id rfl;have Z:∀K:K2,CL 1 (.ptr t 0 0) K=K (.ptr t 1 0):=λK=>id rfl;have m0:∀K,AE Ac (.ptr t 0 0) Q K=K (I ts[i].1):=λK=>AL (p:=0) rfl d (show 0<3 by decide);rw[Y,m0,Xx];refine nW (n:=n+1) j M (by omega) [ts[i].1] (by simp) (by simp;omega) λv2 J k=>?_;have C:Ai J t=some (c_ Bf (OZ ts[i])):=(k.ks (t,c_ Bf (OZ ts[i])) (by simp)).1;have m1:∀K,AE A8 (.ptr t 1 0) J K=K (.agg (qa ts[i].2)):=λK=>GE (p:=1) rfl C (show 3<=3 from LH _);rw[Z,m1,Y?];have aa:=Yq (z:=ts[i].2) (by omega) (by omega);have ab:=Yr ts[i].2;refine Y_ (n:=n) k M (by omega) [(qn ts[i].2,qd ts[i].2)] (by simp) (by simp;omega) λv3 R A=>?_;rw[Dd (by omega)];have V:l++Ro (ts.take i)++Jn [ts[i].1]++R9 [(qn ts[i].2,qd ts[i].2)]=l++Ro (ts.take (i+1)):=by
    rw[yM ts h];simp[tmB]
   have X:b+100000*i+50000+50000=b+100000*(i+1):=by omega
   have m:=A.less;rw[V,X]at m;exact ih (i+1) v3 R (by omega) (by omega) m
  ·rw[FB (by omega),Ba];have:i=ts.length:=by omega
   subst this;rw[wC]at a;exact hx v H a
end
section
variable{L n:Nat}
def Vh(r:RD)(vd:Int):Ha:=Jn [r.k]++R9 [(r.a1,r.a2),(r.b1,r.b2),(r.c1,r.c2),(r.d1,r.d2)]++Jn [vd]
def NL(kd:Int)(m:ND)(un ca cb:Ha)(ts:kG)(ra rb:Ha)(ps:List Ha)(pt:Ha)(tail:Ha):Ha:=
 []++Jn [kd,m.lab,m.num,m.itm,m.tim,m.day]++I5 [un]++R9 [(ca,cb)]++Jn [(ts.length:Int)]++Ro ts++R9 [(ra,rb)]++Jn [(ps.length:Int)]++I5 ps++I5 [pt]++tail
def B3e:PS (r! L (n+40)) dL [.agg [I 0,Av,Av]] (.tup [S [],I 200]):=BM (λH K=>by kernel_rfl) (by kernel_rfl)
def B3i:PS (r! L (n+40)) Qy [.agg [I 0,Av,Av]] (Bo true):=BM (λH K=>by kernel_rfl) (by kernel_rfl)
def DV(ps:List Ha):AV:=match ps with
 |[]=>Av
 |p::ps=>.list (p::ps).length (A9 (p::ps))
section
variable{m:ND}{u o:UD}{ca cb ra rb:Ha}{T P ins nds:AV}{kd id vd:Int}{r:RD}{c:Nat}{H:Hp}{K:K2}
abbrev Lo(kd:Int)(m:ND)(u:UD)(ca cb:Ha)(T:AV)(ra rb:Ha)(P:AV)(id:Int)(ins nds:AV)(o:UD)(r:RD)(vd:Int):Row:=.cells true Ad (E4 kd m u ca cb T ra rb P id ins nds o r vd)
def Tl(e:Sl T)(d:Sl P)(a:Sl ins)(b:Sl nds):(E4 kd m u ca cb T ra rb P id ins nds o r vd).all AV.one=true:=by
 rcases e with rfl|⟨_,_,rfl⟩<;>rcases d with rfl|⟨_,_,rfl⟩<;>rcases a with rfl|⟨_,_,rfl⟩<;>rcases b with rfl|⟨_,_,rfl⟩<;>rfl
def Xv(e:Sl T)(d:Sl P)(a:Sl ins)(b:Sl nds):Rm true depth [.agg (E4 kd m u ca cb T ra rb P id ins nds o r vd)] [.agg (E4 kd m u ca cb T ra rb P id ins nds o r vd)] H false:=by
 rcases e with rfl|⟨_,_,rfl⟩<;>rcases d with rfl|⟨_,_,rfl⟩<;>rcases a with rfl|⟨_,_,rfl⟩<;>rcases b with rfl|⟨_,_,rfl⟩<;>exact λK=>by kernel_rfl
def Wl(a:Sl ins)(b:Sl nds):Rm true depth [.agg (BL id ins nds o)] [.agg (BL id ins nds o)] H false:=by
 rcases a with rfl|⟨_,_,rfl⟩<;>rcases b with rfl|⟨_,_,rfl⟩<;>exact λK=>by kernel_rfl
def cA(a:Ai H c=some (Lo kd m u ca cb T ra rb P id ins nds o r vd)):AE Ae (.ptr c 0 0) H K=K (.agg (E4 kd m u ca cb T ra rb P id ins nds o r vd)):=Br rfl rfl a
def cI0(a:Ai H c=some (Lo kd m u ca cb T ra rb P id ins nds o r vd)):AE Ac (.ptr c 0 0) H K=K (I kd):=AL (p:=0) rfl a (show 0<68 by decide)
def cI1(a:Ai H c=some (Lo kd m u ca cb T ra rb P id ins nds o r vd)):AE Ac (.ptr c 1 0) H K=K (I m.lab):=AL (p:=1) rfl a (show 1<68 by decide)
def cI2(a:Ai H c=some (Lo kd m u ca cb T ra rb P id ins nds o r vd)):AE Ac (.ptr c 2 0) H K=K (I m.num):=AL (p:=2) rfl a (show 2<68 by decide)
def cI3(a:Ai H c=some (Lo kd m u ca cb T ra rb P id ins nds o r vd)):AE Ac (.ptr c 3 0) H K=K (I m.itm):=AL (p:=3) rfl a (show 3<68 by decide)
def cI4(a:Ai H c=some (Lo kd m u ca cb T ra rb P id ins nds o r vd)):AE Ac (.ptr c 4 0) H K=K (I m.tim):=AL (p:=4) rfl a (show 4<68 by decide)
def cI5(a:Ai H c=some (Lo kd m u ca cb T ra rb P id ins nds o r vd)):AE Ac (.ptr c 5 0) H K=K (I m.day):=AL (p:=5) rfl a (show 5<68 by decide)
def cU(a:Ai H c=some (Lo kd m u ca cb T ra rb P id ins nds o r vd)):AE A0 (.ptr c 6 0) H K=K (.agg (CN u)):=GE (p:=6) rfl a (show 26<=68 by decide)
def cC(a:Ai H c=some (Lo kd m u ca cb T ra rb P id ins nds o r vd)):AE A8 (.ptr c 26 0) H K=K (.agg ([S ca,S cb])):=GE (p:=26) rfl a (show 28<=68 by decide)
def cT(a:Ai H c=some (Lo kd m u ca cb T ra rb P id ins nds o r vd)):AE AD (.ptr c 28 0) H K=K (T):=AL (p:=28) rfl a (show 28<68 by decide)
def cR(a:Ai H c=some (Lo kd m u ca cb T ra rb P id ins nds o r vd)):AE A8 (.ptr c 29 0) H K=K (.agg ([S ra,S rb])):=GE (p:=29) rfl a (show 31<=68 by decide)
def cP(a:Ai H c=some (Lo kd m u ca cb T ra rb P id ins nds o r vd)):AE Ab (.ptr c 31 0) H K=K (P):=AL (p:=31) rfl a (show 31<68 by decide)
def cPr(a:Ai H c=some (Lo kd m u ca cb T ra rb P id ins nds o r vd)):AE AW (.ptr c 32 0) H K=K (.agg (BL id ins nds o)):=GE (p:=32) rfl a (show 55<=68 by decide)
def cRk(a:Ai H c=some (Lo kd m u ca cb T ra rb P id ins nds o r vd)):AE Ac (.ptr c 55 0) H K=K (I r.k):=AL (p:=55) rfl a (show 55<68 by decide)
def cR1(a:Ai H c=some (Lo kd m u ca cb T ra rb P id ins nds o r vd)):AE A8 (.ptr c 56 0) H K=K (.agg ([S r.a1,S r.a2])):=GE (p:=56) rfl a (show 58<=68 by decide)
def cR2(a:Ai H c=some (Lo kd m u ca cb T ra rb P id ins nds o r vd)):AE A8 (.ptr c 58 0) H K=K (.agg ([S r.b1,S r.b2])):=GE (p:=58) rfl a (show 60<=68 by decide)
def cR3(a:Ai H c=some (Lo kd m u ca cb T ra rb P id ins nds o r vd)):AE A8 (.ptr c 60 0) H K=K (.agg ([S r.c1,S r.c2])):=GE (p:=60) rfl a (show 62<=68 by decide)
def cR4(a:Ai H c=some (Lo kd m u ca cb T ra rb P id ins nds o r vd)):AE A8 (.ptr c 62 0) H K=K (.agg ([S r.d1,S r.d2])):=GE (p:=62) rfl a (show 64<=68 by decide)
def cV(a:Ai H c=some (Lo kd m u ca cb T ra rb P id ins nds o r vd)):AE Ac (.ptr c 64 0) H K=K (I vd):=AL (p:=64) rfl a (show 64<68 by decide)
def cS(a:Ai H c=some (Lo kd m u ca cb T ra rb P id ins nds o r vd)):AE Qp (.ptr c 65 0) H K=K (.agg ([I 0,Av,Av])):=GE (p:=65) rfl a (show 68<=68 by decide)
def fA{c j k:Nat}:CL j (.ptr c k 0) K=K (.ptr c (k+j) 0):=by
 have e:CL j (.ptr c k 0) K=fN (Nat.add k j) λq=>K (.ptr c q 0):=rfl;rw[e,Ef];rfl
end
def gC(ts:kG)(h:∀t∈ts,(qn t.2).length<390/\(qd t.2).length<390):(Ro ts).length<=900*ts.length:=by
 induction ts with
 |nil=>simp[Ro]
 |cons t l ih=>
  have h1:=ih (λt b=>h t (by simp[b]));have h2:=F7 [t.1];have a:=OS [(qn t.2,qd t.2)] (by simp;exact h t (by simp));simp only[Ro,XC,l1d,Ez,Mr,Rk,tmB]at h1 h2 a⊢;omega
def Bd.tms0{r b:Nat}{ks:List (Nat×Row)}{l:Ha}{v:AV}{H:Hp}(ts:kG)(h:Bd r ks b l v H):Bd r ks (b+100000*0) (l++Ro (ts.take 0)) v H:=by
 rw[show Ro (ts.take 0)=[] from rfl,US];exact h
def B5x(z:Int):0<(enc z).length:=by
 unfold enc B1t;split<;>simp
def B5L{a b c d e f:Int}{H:Hp}{K:KV}:FV GL 1 Ac 6 [(0,1,I a),(1,1,I b),(2,1,I c),(3,1,I d),(4,1,I e),(5,1,I f)] H K=K (.sl 1 (Ar H) 0 6) ((Ar H,.cells false GL (Fi [a,b,c,d,e,f]))::H):=by
 have g:FV GL 1 Ac 6 [(0,1,I a),(1,1,I b),(2,1,I c),(3,1,I d),(4,1,I e),(5,1,I f)] H K=It H λs=>K (.sl 1 s 0 6) ((s,.cells false GL (Fi [a,b,c,d,e,f]))::H):=rfl;rw[g,Ca]
def B5K{a1 a2 b1 b2 c1 c2 d1 d2:Ha}{H:Hp}{K:KV}:FV Bu 2 A8 4 [(0,2,.agg [S a1,S a2]),(2,2,.agg [S b1,S b2]),(4,2,.agg [S c1,S c2]),(6,2,.agg [S d1,S d2])] H K=K (.sl 2 (Ar H) 0 4) ((Ar H,.cells false Bu (([(a1,a2),(b1,b2),(c1,c2),(d1,d2)]:Rts).flatMap rtC))::H):=by
 have g:FV Bu 2 A8 4 [(0,2,.agg [S a1,S a2]),(2,2,.agg [S b1,S b2]),(4,2,.agg [S c1,S c2]),(6,2,.agg [S d1,S d2])] H K=It H λs=>K (.sl 2 s 0 4) ((s,.cells false Bu (([(a1,a2),(b1,b2),(c1,c2),(d1,d2)]:Rts).flatMap rtC))::H):=rfl;rw[g,Ca]
def jG{ps:List Ha}{K:K2}:Bp Ab (DV ps) K=K (I ps.length):=by cases ps<;>exact id rfl
section
variable{m:ND}{u o:UD}{ca cb ra rb un pt:Ha}{ts:kG}{ps:List Ha}{ins nds:AV}{kd id vd pe:Int}{r:RD}
set_option maxHeartbeats 2000000 in
def A3b(w:100<L)(hm:m.ok)(bj:kd=1\/kd=2\/kd=3)(ht:TmsOk ts)(hI:Sl ins)(hN:Sl nds)(hp:ps.length<=6)(ab:∀s∈ps,s.length<390)(ah:un.length<390)(ad:pt.length<390)(hr:r.k=0\/r.k=1\/r.k=2\/r.k=3)(ae:∀q∈[(r.a1,r.a2),(r.b1,r.b2),(r.c1,r.c2),(r.d1,r.d2)],q.1.length<390/\q.2.length<390)(hv:0<=vd/\vd<=3)(bh:ca.length<10/\cb.length<10/\ra.length<10/\rb.length<10)(ar:LS (r! L (n+61)) Er [.agg (E4 kd m u ca cb (FI ts) ra rb (DV ps) id ins nds o r vd)] (Bo true))(ax:PS (r! L (n+61)) Jy [.agg (CN u)] (.tup [S un,I 0]))(ap:LS (r! L (n+61)) Gx [.agg (BL id ins nds o)] (.tup [S pt,I pe])):
 CS (r! L (n+62)) Nx [.agg (E4 kd m u ca cb (FI ts) ra rb (DV ps) id ins nds o r vd)] (.tup [S (NL kd m un ca cb ts ra rb ps pt (if kd=3 then Vh r vd else[])),I 0]):=by
 intro K hK;obtain⟨q1,q2,q3,q4,q5,q6,q7,q8,q9,bm⟩:=hm;have hT:=Hw ts;have hP:Sl (DV ps):=by cases ps with|nil=>exact .inl rfl|cons p l=>exact .inr ⟨_,_,rfl⟩
 have bk:=ht.len;rw[YM];unfold Nv DI XT Dm A2 Hv;rw[Es (Tl hT hP hI hN)];have f:=Ax (H:=[]) (x:=Lo kd m u ca cb (FI ts) ra rb (DV ps) id ins nds o r vd) (by simp);have w0:=AF (x:=Lo kd m u ca cb (FI ts) ra rb (DV ps) id ins nds o r vd) Fq;generalize ((Ar [],Lo kd m u ca cb (FI ts) ra rb (DV ps) id ins nds o r vd)::([]:Hp))=A at f w0;generalize Ar []=c at f;have af:∀K,Aq (r! L (n+61)) Er [.agg (E4 kd m u ca cb (FI ts) ra rb (DV ps) id ins nds o r vd)] A K=K (Bo true):=λK=>by rw[zO];exact ar false _ _ (Xv hT hP hI hN) K
 rw[cA f,af,ntT,Ba];have f0:∀{j:Nat}{K:K2},CL j (.ptr c 0 0) K=K (.ptr c j 0):=λ{j K}=>by rw[fA,Kk]
 rw[f0,cS f,B3e (n:=n+21),Fl,Fk,I6];simp only[show(!decide ((200:Int)=0))=true from rfl,gT,BW,f0,cS f];simp only[B3i (L:=L) (n:=n+21) A,ntT,BW,Ul];rw[Ba,Bv (cs:=[.v (.pointer none),zL]) rfl];have aq:=Ax (H:=A) (x:=.cells true Hy [.v (.pointer none),zL]) (by simp);have Z:=w0.lt f;have B:Bd (Ar A) [(c,Lo kd m u ca cb (FI ts) ra rb (DV ps) id ins nds o r vd)] 0 [] Av ((Ar A,c_ Hy [.v (.pointer none),zL])::A):=
  ⟨⟨⟨_,.inl rfl,.inl aq⟩,.inl ⟨rfl,rfl,rfl⟩,λ⟨_,_,_,h⟩=>(by cases h),AF w0⟩,λp hp=>by
   simp only[XR]at hp;subst hp;exact⟨A6 Z f,by simp only;omega,λ⟨_,_,_,h⟩=>(by cases h)⟩,LH _⟩
 generalize ((Ar A,c_ Hy [.v (.pointer none),zL])::A)=H1 at B;generalize Ar A=g at B;have d:∀{b l v H},Bd g [(c,Lo kd m u ca cb (FI ts) ra rb (DV ps) id ins nds o r vd)] b l v H->Ai H c=some (Lo kd m u ca cb (FI ts) ra rb (DV ps) id ins nds o r vd):=λh=>(h.ks (c,_) (XR.2 rfl)).1;have a:=d B;simp only[BH];rw[cI0 a,cI1 a,cI2 a,cI3 a,cI4 a,cI5 a,B5L];refine nW (n:=n+51) B w (by decide) [kd,m.lab,m.num,m.itm,m.tim,m.day] (by simp) (by simp only[Xd,List.mem_nil_iff,or_false];rintro z (rfl|rfl|rfl|rfl|rfl|rfl)<;>omega) λv2 H2 N=>?_;have a:=d N;rw[cU a,ax,Fl,Fk,ZF];refine B2g (n:=n+51) N w (by decide) [un] (by simp) (by simpa using ah) λv3 H3 O=>?_;have a:=d O;have g0:∀{K:K2},CL 0 (.ptr c 26 0) K=K (.ptr c 26 0):=r_ rfl;have g2:∀{K:K2},CL 2 (.ptr c 26 0) K=K (.ptr c 28 0):=r_ rfl;have g3:∀{K:K2},CL 3 (.ptr c 26 0) K=K (.ptr c 29 0):=r_ rfl;rw[g0,cC a,Y?];refine Y_ (n:=n+50) O w (by decide) [(ca,cb)] (by simp) (by simp;omega) λv4 H4 Q=>?_;have a:=d Q;rw[g2,cT a,Q7,Xx];refine nW (n:=n+51) Q w (by decide) [(ts.length:Int)] (by simp) (by simp;omega) λv5 H5 R=>?_;have a:=d R;rw[g2,cT a,Q7];have e0:(AV.v (.int .i64 0))=I ((0:Nat):Int):=rfl;rw[e0];refine C4h (n:=n+50) (c:=c) ht w (b:=200000) (by decide) ?_ (L+20) 0 v5 H5 (by omega) (by omega) (R.tms0 ts);intro v6 H6 i;simp only[f0];have a:=d i;have ao:200000+100000*ts.length<=800000:=by omega
 have i:Bd g [(c,Lo kd m u ca cb (FI ts) ra rb (DV ps) id ins nds o r vd)] 800000 _ v6 H6:=⟨i.bld,i.ks,fG i.sz ao⟩
 rw[g3,cR a,Y?];refine Y_ (n:=n+50) i w (by decide) [(ra,rb)] (by simp) (by simp;omega) λv7 H7 V=>?_;have a:=d V;rw[cP a,jG,Xx];refine nW (n:=n+51) V w (by decide) [(ps.length:Int)] (by simp) (by simp;omega) λv8 H8 X=>?_;have a:=d X;rw[cP a];refine C17 (n:=n+51) X w (by decide) ps (DV ps) (by cases ps with|nil=>exact .inr ⟨rfl,rfl⟩|cons p l=>exact .inl rfl) (by omega) ab λv9 H9 Y=>?_;have a:=d Y;have ac:∀K,Aq (r! L (n+61)) Gx [.agg (BL id ins nds o)] H9 K=K (.tup [S pt,I pe]):=λK=>by rw[zO];exact ap false _ _ (Wl hI hN) K
 rw[cPr a,ac,Fl,Fk,ZF];refine B2g (n:=n+51) Y w (by decide) [pt] (by simp) (by simpa using ad) λay ak y=>?_;have a:=d y;have aa:∀tail:Ha,tail.length<=5000->(NL kd m un ca cb ts ra rb ps pt tail).length<=32768/\0<(NL kd m un ca cb ts ra rb ps pt tail).length:=λtail ag=>by
  have a1:=F7 [kd,m.lab,m.num,m.itm,m.tim,m.day];have a2:=F6 [un] (by simpa using ah);have a3:=OS [(ca,cb)] (by simp;omega);have a4:=F7 [(ts.length:Int)];have a5:=gC ts (λt h=>by have:=ht.rng t h;have:=Yq (z:=t.2) (by omega) (by omega);have:=Yr t.2;omega);have a6:=OS [(ra,rb)] (by simp;omega);have a7:=F7 [(ps.length:Int)];have a8:=F6 ps ab;have a9:=F6 [pt] (by simpa using ad);have bg:0<(Jn [kd,m.lab,m.num,m.itm,m.tim,m.day]).length:=by
   have:=B5x kd;simp only[Jn,XC,l1d,Ez];omega
  simp only[Mr,Rk]at a1 a2 a3 a4 a6 a7 a9;simp only[NL,Ez,Rk];omega
 have fin:∀(tail:Ha)(b:Nat)(v:AV)(H:Hp),tail.length<=5000->(if kd=3 then Vh r vd else[])=tail->Bd g [(c,Lo kd m u ca cb (FI ts) ra rb (DV ps) id ins nds o r vd)] b (NL kd m un ca cb ts ra rb ps pt tail) v H->
  (CL 0 (.ptr g 0 0) λba=>(r! L (n+61)).call Ii [ba] H λbc J=>As Ac .gtr bc (.v (.int .i64 32768)) λbd=>
   A1 bd (K (.tup [.v (.string ⟨⟨[]⟩⟩),.v (.int .i64 210)]) J) (CL 0 (.ptr g 0 0) λai=>(r! L (n+61)).call EM [ai] J λaj F=>K (.tup [aj,.v (.int .i64 0)]) F))=some (.tup [S (NL kd m un ca cb ts ra rb ps pt (if kd=3 then Vh r vd else[])),I 0],[]):=λtail b v H ag he hB=>by
  obtain⟨k1,k2⟩:=aa tail ag;have r0:∀{K:K2},CL 0 (.ptr g 0 0) K=K (.ptr g 0 0):=r_ rfl;rw[r0,C1K (n:=n+60) hB.bld,DT,HN (by omega),Ba,r0];obtain⟨H',e⟩:=A0y (L:=L) (n:=n+60) hB.bld k2 (by omega);rw[e,he];rw[he]at hK;exact hK _ _ (λb=>⟨false,λK=>by kernel_rfl⟩)
 rw[cI0 a,Cv];by_cases h3:kd=3
 ·rw[GI h3,Co];have j0:∀{K:K2},CL 0 (.ptr c 55 0) K=K (.ptr c 55 0):=r_ rfl;have j1:∀{K:K2},CL 1 (.ptr c 55 0) K=K (.ptr c 56 0):=r_ rfl;have j3:∀{K:K2},CL 3 (.ptr c 55 0) K=K (.ptr c 58 0):=r_ rfl;have j5:∀{K:K2},CL 5 (.ptr c 55 0) K=K (.ptr c 60 0):=r_ rfl;have j7:∀{K:K2},CL 7 (.ptr c 55 0) K=K (.ptr c 62 0):=r_ rfl;rw[j0,cRk a,Xx];refine nW (n:=n+51) y w (by decide) [r.k] (by simp) (by simp;omega) λbn be C=>?_;have a:=d C;rw[j1,cR1 a,j3,cR2 a,j5,cR3 a,j7,cR4 a,B5K];refine Y_ (n:=n+50) C w (by decide) [(r.a1,r.a2),(r.b1,r.b2),(r.c1,r.c2),(r.d1,r.d2)] (by simp) ae λbo bf D=>?_;have a:=d D;rw[cV a,Xx];refine nW (n:=n+51) D w (by decide) [vd] (by simp) (by simp;omega) λaz am M=>?_;refine fin (Vh r vd) (800000+50000+50000+50000+50000+50000+50000+50000) az am ?_ (by rw[Dr h3]) ?_
  ·have a1:=F7 [r.k];have a2:=OS [(r.a1,r.a2),(r.b1,r.b2),(r.c1,r.c2),(r.d1,r.d2)] ae;have a3:=F7 [vd];simp only[Mr,Rk]at a1 a2 a3;simp only[Vh,Ez];omega
  ·have:NL kd m un ca cb ts ra rb ps pt (Vh r vd)=[]++Jn [kd,m.lab,m.num,m.itm,m.tim,m.day]++I5 [un]++R9 [(ca,cb)]++Jn [(ts.length:Int)]++Ro ts++R9 [(ra,rb)]++Jn [(ps.length:Int)]++I5 ps++I5 [pt]++Jn [r.k]++R9 [(r.a1,r.a2),(r.b1,r.b2),(r.c1,r.c2),(r.d1,r.d2)]++Jn [vd]:=by
    unfold NL Vh;simp only[eK]
   rw[this];exact M
 ·rw[HN h3,Ba];refine fin [] (800000+50000+50000+50000+50000) ay ak (by simp) (by rw[CD h3]) ?_;have:NL kd m un ca cb ts ra rb ps pt []=[]++Jn [kd,m.lab,m.num,m.itm,m.tim,m.day]++I5 [un]++R9 [(ca,cb)]++Jn [(ts.length:Int)]++Ro ts++R9 [(ra,rb)]++Jn [(ps.length:Int)]++I5 ps++I5 [pt]:=by
   unfold NL;rw[US]
  rw[this];exact y
end
end
section
variable{L n:Nat}
def C4N{cs:Is}{b:Ha}(h:40000<L)(h1:cs.all AV.one=true)(hz:cs.length=68)(c:∀H,Rm true depth [.agg cs] [.agg cs] H false)(hb:b.length<=32768)(e:CS (r! L (n+62)) Nx [.agg cs] (.tup [S b,I 0])):CS (r! L (n+63)) FL [.agg cs] (S (sha b)):=by
 intro K f;rw[eF];unfold PN HX;rw[Es h1];have a:=Ax (H:=[]) (x:=.cells true Ad cs) (by simp);generalize ((Ar [],c_ Ad cs)::([]:Hp))=d at a;rw[Br rfl hz.symm a,AQ e (c d),Fl,Fk,I6];show A1 (.v (.bool false)) _ _=_;rw[Ba];have g:∀K,Aq (r! L (n+62)) Xp [S b] d K=K (S (sha b)):=λK=>AQ (C2i (L:=L+20) (n:=n+54) (by omega) (by omega)) (Ao (q:=false) (q':=false) CA AI);rw[g];exact f _ _ (λb=>⟨false,λK=>by kernel_rfl⟩)
end
section
variable{nds:AV}{H:Hp}{i:Nat}
variable{L n:Nat}
structure Nd where
 op:Int
 (vn vd:Ha)
 u:UD
 (n l r:Int)
abbrev Nd.cs(x:Nd):Is:=[I x.op,S x.vn,S x.vd,I x.u.p0,I x.u.q0,I x.u.p1,I x.u.q1,I x.u.p2,I x.u.q2,I x.u.p3,I x.u.q3,I x.u.p4,I x.u.q4,I x.u.p5,I x.u.q5,I x.u.p6,I x.u.q6,S x.u.fn,S x.u.fd,S x.u.on,S x.u.od,I x.u.kd,I x.u.sc,I x.n,I x.l,I x.r]
def HO(k:Nat):Is:=CN (uu k)
abbrev BS(ks:Hb):AV:=.list ks.length (ks.flatMap HO)
def N?(x:Nd):Is:=x.cs
abbrev Cx(xs:List Nd):AV:=.list xs.length (xs.flatMap N?)
def Q8{ks:Hb}{K:K2}:Bp Ap (BS ks) K=K (I ks.length):=id rfl
def VF{xs:List Nd}{K:K2}:Bp Az (Cx xs) K=K (I xs.length):=id rfl
def jJ{ks:Hb}{K:K2}(h:i<ks.length):D1 Ap (BS ks) (I i) K=K (.iptr (HO ks[i])):=Xu (f:=HO) rfl (λ_=>rfl) h
def rL{xs:List Nd}{K:K2}(h:i<xs.length):D1 Az (Cx xs) (I i) K=K (.iptr (N? xs[i])):=Xu (f:=N?) rfl (λ_=>rfl) h
def jH{k:Nat}{K:K2}:AE A0 (.iptr (HO k)) H K=K (.agg (CN (uu k))):=id rfl
def rK{x:Nd}{K:K2}:AE AN (.iptr (N? x)) H K=K (.agg x.cs):=id rfl
abbrev Jc(id:Int)(ins nds:AV)(o:UD):Row:=.cells true C4 (BL id ins nds o)
section
attribute [local irreducible] Aq rt oV eBi eEq cnd As XU A1
def Zq{z a hi:Int}(h1:a<=z)(h2:z<=hi):PS (r! L (n+1)) D3 [I z,I a,I hi] (Bo true):=by
 refine CS.ps (λK c=>?_) (λH=>λK=>by kernel_rfl);rewrite[lT];unfold Sz q3N
 try rewrite[zO]
 try rewrite[bO]
 try rewrite[qO]
 try rewrite[cO]
 conv=>lhs;whnf
 rewrite[A5U h1]
 conv=>lhs;whnf
 rewrite[A5K h2]
 conv=>lhs;whnf
 exact c _ _ (λb=>⟨false,λK=>by kernel_rfl⟩)
end
section
variable{K:KV}{x:Af}{ks:Hb}{xs:List Nd}{id:Int}{o:UD}
def B99{k31:KV}{c:Nat}(b:∀k∈ks,k<52)(hb:ks.length<100)(e:k31 (.ptr c 0 0) H=x)(d:Ai H c=some (Jc id (BS ks) nds o)):∀(f i:Nat),i<=ks.length->ks.length-i<f->
 QE (L+20) (r! L (n+40)) K k31 f (.ptr c 0 0) (I i) H=x:=by
 intro f
 induction f with
 |zero=>intro i _ h;omega
 |succ f ih=>
  intro i hi g;rw[gJ];unfold QF DI UU HV A2 Hv;have f1:∀K:K2,CL 1 (.ptr c 0 0) K=K (.ptr c 1 0):=λK=>r_ rfl;have a:∀K,AE Ap (.ptr c 1 0) H K=K (BS ks):=λK=>AL (p:=1) rfl d (show 1<23 by decide);rw[f1,a,Q8];by_cases h:i<ks.length
  ·rw[FG (by omega),Co,f1,a,jJ h,jH,Sv _ _ _ (b _ (NT h)),ntT,Ba,Dd (by omega)];exact ih (i+1) (by omega) (by omega)
  ·rw[FB (by omega),Ba];exact e
def Oh{ins nds:AV}(a:Sl ins)(b:Sl nds):(BL id ins nds o).all AV.one=true:=by
 rcases a with rfl|⟨_,_,rfl⟩<;>rcases b with rfl|⟨_,_,rfl⟩<;>rfl
def B0g(t:100<L)(g:∀k∈ks,k<52)(hb:ks.length<=6)(hn:1<=xs.length)(h:xs.length<=40)(h1:1<=id)(h2:id<=1000000):CS (r! L (n+41)) OJ [.agg (BL id (BS ks) (Cx xs) o)] (.tup [Bo true,Bo true]):=by
 intro K f;rw[lU];unfold S0 UU Dm A2 Hv;rw[Es (Oh (.inr ⟨_,_,rfl⟩) (.inr ⟨_,_,rfl⟩))];have a:=Ax (H:=[]) (x:=Jc id (BS ks) (Cx xs) o) (by simp);generalize ((Ar [],Jc id (BS ks) (Cx xs) o)::([]:Hp))=d at a;generalize Ar []=c at a;simp only[BH];refine B99 g (by omega) ?_ a (L+20) 0 (by omega) (by omega);have e:∀{j:Nat}{K:K2},CL j (.ptr c 0 0) K=K (.ptr c j 0):=λ{j K}=>by rw[fA,Kk]
 have m:∀{K},AE Ac (.ptr c 0 0) d K=K (I id):=λ{K}=>AL (p:=0) rfl a (show 0<23 by decide);have q:∀{K},AE Ap (.ptr c 1 0) d K=K (BS ks):=λ{K}=>AL (p:=1) rfl a (show 1<23 by decide);have r:∀{K},AE Az (.ptr c 2 0) d K=K (Cx xs):=λ{K}=>AL (p:=2) rfl a (show 2<23 by decide);have w1:∀{K:K2},Aq (r! L (n+40)) D3 [I id,.v (.int .i64 1),.v (.int .i64 1000000)] d K=K (Bo true):=λ{K}=>Zq (n:=n+39) h1 h2 d K;have s:∀{K:K2},Aq (r! L (n+40)) D3 [I (xs.length:Int),.v (.int .i64 1),.v (.int .i64 40)] d K=K (Bo true):=λ{K}=>Zq (n:=n+39) (by omega) (by omega) d K;have q1:∀{K},As Ac .leq (I (ks.length:Int)) (.v (.int .i64 6)) K=K (Bo true):=λ{K}=>by rw[jL,GI (by omega)]
 have q2:∀{K},As Ac .gtr (I (xs.length:Int)) (.v (.int .i64 0)) K=K (Bo true):=λ{K}=>by rw[DT,GI (by omega)]
 simp only[e,m,q,r,B6,BW,gT,w1,s,Q8,VF,q1,q2,Ul];exact f _ _ (λb=>⟨false,λK=>by kernel_rfl⟩)
end
end
section
variable{x:Value}
variable{L n:Nat}
def Yv:Value->Bool
 |.int _ _=>true
 |.string _=>true
 |.bool _=>true
 |.slice none 0 0=>true
 |_=>false
def pl:Nat->AV->Bool
 |_,.v x=>Yv x
 |d+1,.list _ cs=>cs.all (pl d)
 |d+1,.agg cs=>cs.all (pl d)
 |d+1,.tup cs=>cs.all (pl d)
 |_,_=>false
def B1r:∀l:Ha,fZ.eqbL l l=true:=by
 intro l
 induction l with
 |nil=>rfl
 |cons a l ih=>simp only[fZ.eqbL,ih,l1g];exact oH _
def kO(h:Yv x=true):fZ x x=true:=by
 unfold Yv at h;split at h
 ·simp[fZ]
 ·exact B1r _
 ·simp[fZ]
 ·rfl
 ·cases h
def A8b{f:AV->AV->Bool}:∀l:Is,(∀a∈l,f a a=true)->vW f l l=true:=by
 intro l
 induction l with
 |nil=>intro _;rfl
 |cons a l ih=>intro h;simp only[vW,h a (by simp),ih λb hb=>h b (by simp[hb]),l1g]
def Tq:∀(d:Nat)(a:AV),pl d a=true->VQ d a a=true:=by
 intro d
 induction d with
 |zero=>intro a h;cases a<;>first|exact kO h|cases h
 |succ d ih=>
  intro a h;cases a<;>first
   |exact kO h
   |(simp only[pl,G9]at h;simp only[VQ,oH,l1b];exact A8b _ λb hb=>ih b (h b hb))
   |cases h
def A8c{a:AV}(h:pl 6 a=true):fB a a=true:=by
 cases a<;>first|exact kO h|exact Tq 6 _ h|cases h
def Vp{v:AV}{H:Hp}{K:Af}(h:pl 6 v=true):QB (Bc (some (v,H)) v) K=K:=by
 show QB (some (.v (.bool (fB v v)),[])) K=K;rw[A8c h];rfl
def A7v(h:Yv x=true)(a:x≠.slice none 0 0):iO x x=some true:=by
 unfold Yv at h;split at h
 ·show(match decide (_=_) with|true=>some (ieq _ _)|false=>none)=_;rw[GI rfl,QX,GI rfl]
 ·show some (eqB _ _)=_;rw[QZ];simp
 ·show some (_==_)=_;simp
 ·exact absurd rfl a
 ·cases h
def A2w:∀xs:Hx,(∀x∈xs,Yv x=true/\x≠.slice none 0 0)->Zi xs xs=some true:=by
 intro xs
 induction xs with
 |nil=>intro _;rfl
 |cons x xs ih=>
  intro h;have e:Zi (x::xs) (x::xs)=(match iO x x with
   |some b=>(match Zi xs xs with|some c=>some (b&&c)|none=>none)
   |none=>none):=rfl
  rw[e,A7v (h x (by simp)).1 (h x (by simp)).2,ih λy a=>h y (by simp[a])];rfl
def C3X{x:Nd}{K:K2}:XU LW .eql (.agg x.cs) (.agg x.cs) K=K (Bo true):=by
 have e:∀(xs:Hx),Zi xs xs=some true->∀K:K2,(match(generalizing:=false) Zi xs xs,BinOp.eql with
  |some q,.eql=>bB q K
  |some q,.neq=>bB (!q) K
  |_,_=>(none:Af))=K (Bo true):=λxs h K=>by rw[h];rfl
 exact e [.int .i64 x.op,.string ⟨⟨x.vn⟩⟩,.string ⟨⟨x.vd⟩⟩,.int .i64 x.u.p0,.int .i64 x.u.q0,.int .i64 x.u.p1,.int .i64 x.u.q1,.int .i64 x.u.p2,.int .i64 x.u.q2,.int .i64 x.u.p3,.int .i64 x.u.q3,.int .i64 x.u.p4,.int .i64 x.u.q4,.int .i64 x.u.p5,.int .i64 x.u.q5,.int .i64 x.u.p6,.int .i64 x.u.q6,
  .string ⟨⟨x.u.fn⟩⟩,.string ⟨⟨x.u.fd⟩⟩,.string ⟨⟨x.u.on⟩⟩,.string ⟨⟨x.u.od⟩⟩,.int .i64 x.u.kd,.int .i64 x.u.sc,.int .i64 x.n,.int .i64 x.l,.int .i64 x.r]
  (A2w _ (by simp[Yv])) K
end
section
variable{at_:Int}
variable{L n:Nat}
def ZZ(i:Nat):Nd:=⟨2,[],[],u0,i,0,0⟩
abbrev L4:Is:=[zI,zS,zS,zI,zI,zI,zI,zI,zI,zI,zI,zI,zI,zI,zI,zI,zI,zS,zS,zS,zS,zI,zI,zI,zI,zI]
abbrev Ga:Is:=[zI,zI,zI,zI,zI,zI,zI,zI,zI,zI,zI,zI,zI,zI,zS,zS,zS,zS,zI,zI]
abbrev XL(x:Nd):Row:=.cells true AY x.cs
section
variable{K:KV}{x:Af}{ks:Hb}{xs:List Nd}{id:Int}{o:UD}{i:Nat}
def A3O{x:Nd}:x.cs.all AV.one=true:=rfl
def zU{t:TI}{a:Int}{K:K2}:As t .eql (I a) (.v (.int .i64 a)) K=K (Bo true):=by rw[Cv,GI rfl]
def A12(hb:ks.length<=6)(hi:i<ks.length):CS (r! L (n+2)) F2 [.agg (BL id (BS ks) (Cx xs) o),.agg (ZZ i).cs,I at_] (.tup [Bo true,Bo false]):=by
 intro K P;rw[Vr];unfold Om DI XT Dm A2 MF Hv;rw[Es (Oh (.inr ⟨_,_,rfl⟩) (.inr ⟨_,_,rfl⟩))];have g:=Ax (H:=[]) (x:=Jc id (BS ks) (Cx xs) o) (by simp);have w0:=AF (x:=Jc id (BS ks) (Cx xs) o) Fq;generalize ((Ar [],Jc id (BS ks) (Cx xs) o)::([]:Hp))=t at g w0;generalize Ar []=p at g;rw[Es A3O];have c:=Ax (H:=t) (x:=XL (ZZ i)) (by simp);have k:Ai ((Ar t,XL (ZZ i))::t) p=some (Jc id (BS ks) (Cx xs) o):=A6 (w0.lt g) g;have w1:=AF (x:=XL (ZZ i)) w0;generalize ((Ar t,XL (ZZ i))::t)=a at c k w1;generalize Ar t=r at c;have A:∀{s j:Nat}{K:K2},CL j (.ptr s 0 0) K=K (.ptr s j 0):=λ{s j K}=>by rw[fA,Kk]
 have Q:∀{K},AE Ac (.ptr r 0 0) a K=K (I 2):=λ{K}=>AL (p:=0) rfl c (show 0<26 by decide);have b0:∀{K:K2},BR AN [(0,1,I 2)] K=K (.agg (I 2::L4.tail)):=λ{K}=>r_ rfl;rw[A,Q,b0,Bv (cs:=L4) rfl];have hm:=Ax (H:=a) (x:=.cells true AY L4) (by simp);rw[BQ (vs:=I 2::L4.tail) hm rfl rfl rfl];have d:=AC (q:=true) (e:=AY) (cs:=I 2::L4.tail) hm;have w2:=Bi (r:=Ar a) (y:=.cells true AY (I 2::L4.tail)) (AF (x:=.cells true AY L4) w1);have Z:=w1.lt c;have O:=w1.lt k;have f:Ai (upd ((Ar a,c_ AY L4)::a) (Ar a) (c_ AY (I 2::L4.tail))) r=some (XL (ZZ i)):=by
  rw[Ag (by omega)];exact A6 Z c
 have F:Ai (upd ((Ar a,c_ AY L4)::a) (Ar a) (c_ AY (I 2::L4.tail))) p=some (Jc id (BS ks) (Cx xs) o):=by
  rw[Ag (by omega)];exact A6 O k
 generalize upd ((Ar a,c_ AY L4)::a) (Ar a) (c_ AY (I 2::L4.tail))=w at d w2 f F;have D:Ar a≠r:=by omega
 have C:Ar a≠p:=by omega
 generalize Ar a=m at d D C
 try simp only[BH]
 have V:∀{K},AE Ac (.ptr r 0 0) w K=K (I 2):=λ{K}=>AL (p:=0) rfl f (show 0<26 by decide);have N:∀{K},AE Ac (.ptr r 23 0) w K=K (I i):=λ{K}=>AL (p:=23) rfl f (show 23<26 by decide);rw[A,V,Cv,HN (by decide),Ba,zU,Co,A,N,A];rw[D5 (v:=I i) d (show 23<26 by decide) rfl rfl rfl];have B:=AC (q:=true) (e:=AY) (cs:=(I 2::L4.tail).set 23 (I i)) d;have h:Ai (upd w m (c_ AY ((I 2::L4.tail).set 23 (I i)))) r=some (XL (ZZ i)):=by
  rw[Ag (Ne.symm D)];exact f
 have J:Ai (upd w m (c_ AY ((I 2::L4.tail).set 23 (I i)))) p=some (Jc id (BS ks) (Cx xs) o):=by
  rw[Ag (Ne.symm C)];exact F
 generalize upd w m (c_ AY ((I 2::L4.tail).set 23 (I i)))=u at B h J;have Y:∀{K},AE AN (.ptr m 0 0) u K=K (.agg (ZZ i).cs):=λ{K}=>Br rfl rfl B;have X:∀{K},AE AN (.ptr r 0 0) u K=K (.agg (ZZ i).cs):=λ{K}=>Br rfl rfl h;have M:∀{K},AE Ac (.ptr r 23 0) u K=K (I i):=λ{K}=>AL (p:=23) rfl h (show 23<26 by decide);have R:∀{K},AE Ap (.ptr p 1 0) u K=K (BS ks):=λ{K}=>AL (p:=1) rfl J (show 1<23 by decide);have sb:∀{K},As Ac .sub (I (ks.length:Int)) (.v (.int .i64 1)) K=K (I ((ks.length:Int)-1)):=λ{K}=>by rw[J6,CX (by omega) (by omega)]
 have wi:∀{K:K2},Aq (r! L (n+1)) D3 [I (i:Int),.v (.int .i64 0),I ((ks.length:Int)-1)] u K=K (Bo true):=λ{K}=>Zq (n:=n) (by omega) (by omega) u K;simp only[X,Y,C3X,gT,A,BW,M,R,Q8,sb,wi,Ul];exact P _ _ (λb=>⟨false,λK=>by kernel_rfl⟩)
def HF{H:Hp}{e:Nat}{zs vs:Is}(w:Wf H)(hz:vs.length=zs.length):∃a,a=upd ((Ar H,c_ e zs)::H) (Ar H) (c_ e vs)/\Ai a (Ar H)=some (c_ e vs)/\Wf a/\(∀s x,Ai H s=some x->Ai a s=some x/\s≠Ar H):=by
 have hm:=Ax (H:=H) (x:=.cells true e zs) (by simp);refine⟨_,rfl,AC hm,Bi (AF w),λs x h=>?_⟩;have:=w.lt h;exact⟨by rw[Ag (by omega)];exact A6 this h,by omega⟩
def Zp(hb:ks.length<=6)(hi:i<ks.length){w:AV}:CS (r! L (n+3)) CJ [.agg (BL id (BS ks) (Cx xs) o),.agg (ZZ i).cs,I at_,w] (.tup [.agg (CN (uu ks[i])),I 0]):=by
 intro K hK;rw[HH];unfold Ho q4N;rw[Es (Oh (.inr ⟨_,_,rfl⟩) (.inr ⟨_,_,rfl⟩))];have c:=Ax (H:=[]) (x:=Jc id (BS ks) (Cx xs) o) (by simp);have w0:=AF (x:=Jc id (BS ks) (Cx xs) o) Fq;generalize ((Ar [],Jc id (BS ks) (Cx xs) o)::([]:Hp))=t at c w0;generalize Ar []=p at c;rw[Es A3O];have a:=Ax (H:=t) (x:=XL (ZZ i)) (by simp);have f:Ai ((Ar t,XL (ZZ i))::t) p=some (Jc id (BS ks) (Cx xs) o):=A6 (w0.lt c) c;have w1:=AF (x:=XL (ZZ i)) w0;generalize ((Ar t,XL (ZZ i))::t)=C at a f w1;generalize Ar t=r at a;rw[Bv (cs:=Ga) rfl];have h:=Ax (H:=C) (x:=.cells true AB Ga) (by simp);have d:=A6 (x:=.cells true AB Ga) (w1.lt a) a;have g:=A6 (x:=.cells true AB Ga) (w1.lt f) f;have w2:=AF (x:=.cells true AB Ga) w1;generalize ((Ar C,c_ AB Ga)::C)=D at h d g w2;generalize Ar C=q at h;have lp:∀{K},AE AW (.ptr p 0 0) D K=K (.agg (BL id (BS ks) (Cx xs) o)):=λ{K}=>Br rfl rfl g;have ln:∀{K},AE AN (.ptr r 0 0) D K=K (.agg (ZZ i).cs):=λ{K}=>Br rfl rfl d;have fx:Rm true depth [.agg (BL id (BS ks) (Cx xs) o),.agg (ZZ i).cs,I at_] [.agg (BL id (BS ks) (Cx xs) o),.agg (ZZ i).cs,I at_] D false:=λK=>by kernel_rfl
 have sh:∀{K:K2},Aq (r! L (n+2)) F2 [.agg (BL id (BS ks) (Cx xs) o),.agg (ZZ i).cs,I at_] D K=K (.tup [Bo true,Bo false]):=λ{K}=>AQ (A12 hb hi) fx;have Y:∀{K:K2},BR A0 [] K=K (.agg Ga):=λ{K}=>r_ rfl;rw[lp,ln,sh,Fl,Fk,ntT,Ba,Y,Bv (cs:=Ga) rfl];rw[BQ (vs:=Ga) (Ax (by simp)) rfl rfl rfl];obtain⟨H3,e3, -,w3,J⟩:=HF (e:=AB) (zs:=Ga) (vs:=Ga) w2 rfl;rw[<-e3,Y,Bv (cs:=Ga) rfl,BQ (vs:=Ga) (Ax (by simp)) rfl rfl rfl];obtain⟨X,e4, -,w4,M⟩:=HF (e:=AB) (zs:=Ga) (vs:=Ga) w3 rfl;rw[<-e4]
 try simp only[BH]
 have F:∀{s j:Nat}{K:K2},CL j (.ptr s 0 0) K=K (.ptr s j 0):=λ{s j K}=>by rw[fA,Kk]
 have y:=(M _ _ (J _ _ d).1).1;have O:=(M _ _ (J _ _ g).1).1;have Q:=(M _ _ (J _ _ h).1).1;have lu:∀{K},AE A0 (.ptr r 3 0) X K=K (.agg Ga):=λ{K}=>GE (p:=3) rfl y (show 23<=26 by decide);rw[Ba,F,lu,Bv (cs:=Ga) rfl,BQ (vs:=Ga) (Ax (by simp)) rfl rfl rfl];obtain⟨u,e5,m,w5,N⟩:=HF (e:=AB) (zs:=Ga) (vs:=Ga) w4 rfl;rw[<-e5];obtain⟨A,nr⟩:=N _ _ y;obtain⟨P,np⟩:=N _ _ O;obtain⟨R,Z⟩:=N _ _ Q;generalize Ar X=v at m nr np Z;have l0:∀{K},AE Ac (.ptr r 0 0) u K=K (I 2):=λ{K}=>AL (p:=0) rfl A (show 0<26 by decide);have V:∀{K},AE Ac (.ptr r 23 0) u K=K (I i):=λ{K}=>AL (p:=23) rfl A (show 23<26 by decide);have l1:∀{K},AE Ap (.ptr p 1 0) u K=K (BS ks):=λ{K}=>AL (p:=1) rfl P (show 1<23 by decide);rw[F,l0,zU,Co,F,l1,F,V,jJ hi,jH,BQ (vs:=CN (uu ks[i])) m rfl rfl rfl];have B:=AC (q:=true) (e:=AB) (cs:=CN (uu ks[i])) m;have k:Ai (upd u v (c_ AB (CN (uu ks[i])))) q=some (c_ AB Ga):=by rw[Ag Z];exact R
 generalize upd u v (c_ AB (CN (uu ks[i])))=H6 at B k;rw[I6];show A1 (.v (.bool false)) _ _=_;rw[Ba,Br rfl rfl B,BQ (vs:=CN (uu ks[i])) k rfl rfl rfl,Br rfl rfl (AC k)];exact hK _ _ (λb=>⟨false,λK=>by kernel_rfl⟩)
end
end
section
variable{v:AV}{b:Bool}{H:Hp}
variable{L n:Nat}
def A81{k:Nat}{K:KV}:FV AB 20 A0 1 [(0,20,.agg (CN (uu k)))] H K=K (.sl 20 (Ar H) 0 1) ((Ar H,.cells false AB (HO k))::H):=by
 have e:FV AB 20 A0 1 [(0,20,.agg (CN (uu k)))] H K=It H (λs=>K (.sl 20 s 0 1) ((s,.cells false AB (HO k))::H)):=r_ rfl;rw[e,Ca]
def C4i{l:Hb}(k:Nat)(h:AU H AB 20 v l.length (l.flatMap HO))(w:Wf H)(hn:l.length<100):
 ∃d a,(∀K:KV,(FV AB 20 A0 1 [(0,20,.agg (CN (uu k)))] H λv1 i=>Dy AB 20 A0 Ap v v1 i K)=K d a)/\AU a AB 20 d (l++[k]).length ((l++[k]).flatMap HO)/\Wf a/\Ar H<=Ar a/\(∀s x,Ai H s=some x->¬A4 v s->Ai a s=some x)/\(∀s,A4 d s->Ar H<=s):=by
 have g:AU ((Ar H,.cells false AB (HO k))::H) AB 20 v l.length (l.flatMap HO):=h.lat w (Lat.cons H _ (λ_=>False)) (λ_ _ h=>h);have c:AU ((Ar H,.cells false AB (HO k))::H) AB 20 (.sl 20 (Ar H) 0 1) 1 (HO k):=.inr ⟨Ar H,false,rfl,Ax (by simp),by show 20=_;rfl⟩;obtain⟨d,a,h1,h2,j,m⟩:=apt (ie:=A0) (i2:=Ap) g (λK=>OT (K:=K) c) rfl rfl (by decide) rfl rfl (by show(l.length+1)*192<=_;omega) (by omega);have e:=(Lat.cons H (.cells false AB (HO k)) (A4 v)).trans m (R:=A4 v) (λ_ _ h=>h) (λ_ _ h=>h);refine⟨d,a,λK=>?_,by rw[Ez,l2l];simpa using h2,e.wf w,e.nx,λs x f hn=>e.keep w s x f hn,λs f=>?_⟩
 ·rw[A81];exact h1 K
 ·rw[j s f];exact l1u _
def C3e(k:Nat):Hx:=[.int .i64 (uu k).p0,.int .i64 (uu k).q0,.int .i64 (uu k).p1,.int .i64 (uu k).q1,.int .i64 (uu k).p2,.int .i64 (uu k).q2,.int .i64 (uu k).p3,.int .i64 (uu k).q3,.int .i64 (uu k).p4,.int .i64 (uu k).q4,.int .i64 (uu k).p5,.int .i64 (uu k).q5,.int .i64 (uu k).p6,.int .i64 (uu k).q6,
 .string ⟨⟨(uu k).fn⟩⟩,.string ⟨⟨(uu k).fd⟩⟩,.string ⟨⟨(uu k).on⟩⟩,.string ⟨⟨(uu k).od⟩⟩,.int .i64 (uu k).kd,.int .i64 (uu k).sc]
def C02(k:Nat):HO k=(C3e k).map λx=>.v x:=rfl
def C3d(l:Hb):l.flatMap HO=(l.flatMap C3e).map λx=>.v x:=by
 induction l with
 |nil=>rfl
 |cons k l ih=>rw[oK,oK,XS,ih,C02]
def RO(l:Hb):AV:=match l with
 |[]=>Av
 |k::l=>.list (k::l).length ((k::l).flatMap HO)
def mQ{D:Nat}{l:Hb}(h:AU H AB 20 v l.length (l.flatMap HO))(d:l=[]->v=Av):∃q,Fx b (D+1) v (RO l) H q:=by
 rcases h with⟨rfl,h2,_⟩|⟨r,q,rfl,h2,c⟩
 ·cases l with
  |nil=>exact⟨false,CA⟩
  |cons a l=>simp at h2
 ·cases l with
  |nil=>have:=d rfl;cases this
  |cons a l=>
   refine⟨true,?_⟩;show Fx b (D+1) _ (.list (a::l).length ((a::l).flatMap HO)) H true;rw[C3d]at h2 c⊢;exact VA (q':=false) h2 c (K7 _root_.id _)
def B6x{l:Hb}(h:AU H AB 20 v l.length (l.flatMap HO))(a:l=[]->v=Av):∃q,Fx b depth v (RO l) H q:=mQ (D:=depth-1) h a
end
section
variable{d:Nat}
variable{L n:Nat}
section
variable{K:KV}{x:Af}{ks ty:Hb}{xs:List Nd}{id:Int}{o:UD}
def RTy(L n:Nat)(id:Int)(ks:Hb)(xs:List Nd)(o:UD)(ty:Hb):Prop:=
 ∀i(h:i<xs.length),CS (r! L (n+42)) CJ [.agg (BL id (BS ks) (Cx xs) o),.agg xs[i].cs,I i,RO (ty.take i)] (.tup [.agg (CN (uu (ty.getD i 0))),I 0])
def B9C:∀l:Hb,(l.flatMap HO).all (pl d)=true:=by
 intro l
 induction l with
 |nil=>rfl
 |cons a l ih=>rw[oK,List.all_append,ih];cases d<;>rfl
def B9B:∀l:List Nd,(l.flatMap N?).all (pl d)=true:=by
 intro l
 induction l with
 |nil=>rfl
 |cons a l ih=>rw[oK,List.all_append,ih];cases d<;>rfl
def B4F(l:Hb):pl (d+1) (BS l)=true:=B9C l
def A5v(l:List Nd):pl (d+1) (Cx l)=true:=B9B l
def B4E:pl 6 (.agg (BL id (BS ks) (Cx xs) o))=true:=by
 show(pl 5 (I id)&&(pl 5 (BS ks)&&(pl 5 (Cx xs)&&true)))=true;rw[B4F,A5v];rfl
def B98{u:AV->KV}{p:Nat}(hT:RTy L n id ks xs o ty)(g:ty.length=xs.length)(hb:xs.length<100)(hx:∀v H,AU H AB 20 v ty.length (ty.flatMap HO)->(ty=[]->v=Av)->Ai H p=some (Jc id (BS ks) (Cx xs) o)->u (.ptr p 0 0) v H=x):
 ∀(f i:Nat)(v:AV)(H:Hp),i<=xs.length->xs.length-i<f->AU H AB 20 v (ty.take i).length ((ty.take i).flatMap HO)->(ty.take i=[]->v=Av)->¬A4 v p->Ai H p=some (Jc id (BS ks) (Cx xs) o)->Wf H->
 Sf (L+20) (r! L (n+42)) K u f (.ptr p 0 0) v (I i) H=x:=by
 intro f
 induction f with
 |zero=>intro i v H _ h;omega
 |succ f ih=>
  intro i v H hi hf a A hr c w;rw[lB];unfold Sg DI A2;have N:∀{s j:Nat}{K:K2},CL j (.ptr s 0 0) K=K (.ptr s j 0):=λ{s j K}=>by rw[fA,Kk]
  have R:∀{K},AE Az (.ptr p 2 0) H K=K (Cx xs):=λ{K}=>AL (p:=2) rfl c (show 2<23 by decide);have lp:∀{K},AE AW (.ptr p 0 0) H K=K (.agg (BL id (BS ks) (Cx xs) o)):=λ{K}=>Br rfl rfl c;rw[N,R,VF];by_cases h:i<xs.length
  ·have y:∀{H:Hp}(_:AU H AB 20 v (ty.take i).length ((ty.take i).flatMap HO)){K:K2},Aq (r! L (n+42)) CJ [.agg (BL id (BS ks) (Cx xs) o),.agg xs[i].cs,I i,v] H K=K (.tup [.agg (CN (uu (ty.getD i 0))),I 0]):=λ{H}a{K}=>by
    obtain⟨q,hq⟩:=B6x (b:=true) a A;have a1:Fx true depth (.agg (BL id (BS ks) (Cx xs) o)) (.agg (BL id (BS ks) (Cx xs) o)) H false:=λK=>by kernel_rfl
    have a2:Fx true depth (.agg xs[i].cs) (.agg xs[i].cs) H false:=λK=>by kernel_rfl
    exact AQ (hT i h) (Ao a1 (Ao a2 (Ao (q:=false) CA (Ao hq AI))))
   rw[FG (by omega),Co];simp only[lp,B6,N,R,rL h,rK,y a,Fl,Fk];rw[Bv (cs:=Ga) rfl,BW];have hz:=Ax (H:=H) (x:=.cells true AB Ga) (by simp);rw[BQ (vs:=CN (uu (ty.getD i 0))) hz rfl rfl rfl,BW];have k:=A6 (x:=.cells true AB Ga) (w.lt c) c;have C:AU ((Ar H,c_ AB Ga)::H) AB 20 v (ty.take i).length ((ty.take i).flatMap HO):=a.lat w (Lat.cons H _ (λ_=>False)) (λ_ _ h=>h);obtain⟨X,Z,F,V,O⟩:=HF (e:=AB) (zs:=Ga) (vs:=CN (uu (ty.getD i 0))) w rfl;rw[<-Z];have m:=(O _ _ c).1;have D:AU X AB 20 v (ty.take i).length ((ty.take i).flatMap HO):=by
    rcases a with a|⟨r,q,h1,h2,h3⟩
    ·exact .inl a
    ·exact .inr ⟨r,q,h1,(O _ _ h2).1,h3⟩
   have M:∀{K},AE AW (.ptr p 0 0) ((Ar H,c_ AB Ga)::H) K=K (.agg (BL id (BS ks) (Cx xs) o)):=λ{K}=>Br rfl rfl k;have J:∀{K},AE Az (.ptr p 2 0) ((Ar H,c_ AB Ga)::H) K=K (Cx xs):=λ{K}=>AL (p:=2) rfl k (show 2<23 by decide);rw[M,Vp B4E,J,Vp (A5v xs),Vp (by rfl),y C,Vp (by rfl),I6];show A1 (.v (.bool false)) _ _=_;rw[Ba,Br rfl rfl F];have Q:ty.take i++[ty.getD i 0]=ty.take (i+1):=by
    have P:i<ty.length:=by omega
    rw[oJ P];simp[List.getD,KL P]
   obtain⟨v',Y,e5,t,w5, -,keep,new⟩:=C4i (ty.getD i 0) D V (by rw[zF];omega);rw[e5,Dd (by omega)];rw[Q]at t;exact ih (i+1) v' Y (by omega) (by omega) t (λe=>by rw[<-Q]at e;simp at e) (λB=>by have:=new _ B;have:=V.lt m;omega) (keep _ _ m hr) w5
  ·rw[FB (by omega),Ba];have:i=xs.length:=by omega
   subst this;rw[<-g,wC]at a A;exact hx v H a A c
end
end
section
variable{L n:Nat}
def A5i{H:Hp}{v:AV}{l:Hb}{i:Nat}(h:AU H AB 20 v l.length (l.flatMap HO))(hi:i<l.length):∃a,(∀K:K2,D1 Ap v (I i) K=K a)/\(∀K:K2,AE A0 a H K=K (.agg (CN (uu l[i])))):=by
 rcases h with⟨_,h2,_⟩|⟨r,q,rfl,h2,b⟩
 ·omega
 ·refine⟨.ptr r (i*20) 0,λK=>?_,λK=>?_⟩
  ·have c:D1 Ap (.sl 20 r 0 l.length) (I (i:Int)) K=iN (i:Int) λm=>ck (Nat.blt m l.length) (fN (Nat.add 0 (Nat.mul m 20)) λp=>K (.ptr r p 0)):=r_ rfl;rw[c,Kr,Ef];have b:Nat.blt i l.length=true:=by rw[Xe];exact hi
   rw[b];show K (.ptr r (0+i*20) 0)=_;rw[Kk]
  ·rw[GE rfl h2 (by rw[b];show i*20+20<=_;omega)];have:((l.flatMap HO).drop (i*20)).take 20=HO l[i]:=uY HO 20 (λ_=>rfl) l i hi;show K (.agg (((l.flatMap HO).drop (i*20)).take 20))=_;rw[this];rfl
def C3W{u:UD}{K:K2}:XU LV .neq (.agg (CN u)) (.agg (CN u)) K=K (Bo false):=by
 have e:∀(xs:Hx),Zi xs xs=some true->∀K:K2,(match(generalizing:=false) Zi xs xs,BinOp.neq with
  |some q,.eql=>bB q K
  |some q,.neq=>bB (!q) K
  |_,_=>(none:Af))=K (Bo false):=λxs h K=>by rw[h];rfl
 exact e [.int .i64 u.p0,.int .i64 u.q0,.int .i64 u.p1,.int .i64 u.q1,.int .i64 u.p2,.int .i64 u.q2,.int .i64 u.p3,.int .i64 u.q3,.int .i64 u.p4,.int .i64 u.q4,.int .i64 u.p5,.int .i64 u.q5,.int .i64 u.p6,.int .i64 u.q6,
  .string ⟨⟨u.fn⟩⟩,.string ⟨⟨u.fd⟩⟩,.string ⟨⟨u.on⟩⟩,.string ⟨⟨u.od⟩⟩,.int .i64 u.kd,.int .i64 u.sc]
  (A2w _ (by simp[Yv])) K
section
variable{ks ty:Hb}{xs:List Nd}{id:Int}
def B4y(B:100<L)(C:RTy L n id ks xs (uu (ty.getD (xs.length-1) 0)) ty)(d:ty.length=xs.length)(F:∀k∈ks,k<52)(hb:ks.length<=6)(hn:1<=xs.length)(i:xs.length<=40)(h1:1<=id)(h2:id<=1000000):
 CS (r! L (n+43)) UF [.agg (BL id (BS ks) (Cx xs) (uu (ty.getD (xs.length-1) 0)))] (.tup [RO ty,I 0,I 0]):=by
 intro K A;rw[pS];unfold Uq UU Nc A2;rw[Es (Oh (.inr ⟨_,_,rfl⟩) (.inr ⟨_,_,rfl⟩))];have c:=Ax (H:=[]) (x:=Jc id (BS ks) (Cx xs) (uu (ty.getD (xs.length-1) 0))) (by simp);have w0:=AF (x:=Jc id (BS ks) (Cx xs) (uu (ty.getD (xs.length-1) 0))) Fq;generalize ((Ar [],Jc id (BS ks) (Cx xs) (uu (ty.getD (xs.length-1) 0)))::([]:Hp))=r at c w0;generalize Ar []=p at c;have t:∀{K:K2},Aq (r! L (n+42)) OJ [.agg (BL id (BS ks) (Cx xs) (uu (ty.getD (xs.length-1) 0)))] r K=K (.tup [Bo true,Bo true]):=λ{K}=>AQ (B0g (n:=n+1) B F hb hn i h1 h2) (Wl (.inr ⟨_,_,rfl⟩) (.inr ⟨_,_,rfl⟩));rw[Br rfl rfl c,t,Fl,Fk,ntT,Ba];simp only[BH];refine B98 C d (by omega) ?_ (L+20) 0 _ r (by omega) (by omega) (.inl ⟨rfl,rfl,rfl⟩) (λ_=>rfl) (λ⟨_,_,_,h⟩=>by cases h) c w0;intro v H m y M;have w:∀{s j:Nat}{K:K2},CL j (.ptr s 0 0) K=K (.ptr s j 0):=λ{s j K}=>by rw[fA,Kk]
 have f:ty.length-1<ty.length:=by omega
 obtain⟨a,g,e⟩:=A5i m f;have J:∀{K},AE A0 (.ptr p 3 0) H K=K (.agg (CN (uu (ty.getD (xs.length-1) 0)))):=λ{K}=>GE (p:=3) rfl M (show 23<=23 by decide);have u:ty[ty.length-1]=ty.getD (xs.length-1) 0:=by rw[<-d];simp[List.getD,KL f]
 rw[u]at e;rw[Ly rfl m,B6,gF (by omega) (by omega),B6,g,B6,e,B6,w,B6,J,B6,C3W,B6,Ba];exact A _ _ (λb=>by
  obtain⟨q,hq⟩:=mQ (D:=depth-2) (b:=b) m y;exact⟨_,eQ (D:=depth-1) (Ao hq (Ao (q:=false) CA (Ao (q:=false) CA AI)))⟩)
def B03(j:100<L)(m:RTy L n id ks xs (uu (ty.getD (xs.length-1) 0)) ty)(a:ty.length=xs.length)(p:∀k∈ks,k<52)(hb:ks.length<=6)(hn:1<=xs.length)(d:xs.length<=40)(h1:1<=id)(h2:id<=1000000):
 CS (r! L (n+44)) FZ [.agg (BL id (BS ks) (Cx xs) (uu (ty.getD (xs.length-1) 0)))] (Bo true):=by
 intro K i;rw[pQ];unfold Uo HX;rw[Es (Oh (.inr ⟨_,_,rfl⟩) (.inr ⟨_,_,rfl⟩))];have c:=Ax (H:=[]) (x:=Jc id (BS ks) (Cx xs) (uu (ty.getD (xs.length-1) 0))) (by simp);generalize ((Ar [],Jc id (BS ks) (Cx xs) (uu (ty.getD (xs.length-1) 0)))::([]:Hp))=e at c;have ck:∀{K:K2},Aq (r! L (n+43)) UF [.agg (BL id (BS ks) (Cx xs) (uu (ty.getD (xs.length-1) 0)))] e K=K (.tup [RO ty,I 0,I 0]):=λ{K}=>AQ (B4y j m a p hb hn d h1 h2) (Wl (.inr ⟨_,_,rfl⟩) (.inr ⟨_,_,rfl⟩));have h:∀{K:K2},CV (.tup [RO ty,I 0,I 0]) 2 K=K (I 0):=λ{K}=>r_ rfl;have f:∀{K:K2},CV (.tup [RO ty,I 0,I 0]) 0 K=K (RO ty):=λ{K}=>r_ rfl;have g:∀{K:K2},CV (.tup [RO ty,I 0,I 0]) 1 K=K (I 0):=λ{K}=>r_ rfl;rw[Br rfl rfl c,ck,f,g,h,zU];exact i _ _ (λb=>⟨false,λK=>by kernel_rfl⟩)
end
end
section
variable{L n:Nat}
section
variable{ks:Hb}{xs:List Nd}{id:Int}{o:UD}
def L2(ks:Hb):List Nd:=(List.range ks.length).map ZZ
def Ed:(L2 ks).length=ks.length:=by simp[L2]
def iQ{i:Nat}(h:i<(L2 ks).length):(L2 ks)[i]=ZZ i:=by simp[L2]
def B93(hb:ks.length<=6):RTy L n id ks (L2 ks) o ks:=by
 intro i h;rw[iQ h];have hi:i<ks.length:=by rw[Ed]at h;exact h
 have e:ks.getD i 0=ks[i]:=by simp[List.getD,KL hi]
 rw[e];exact Zp (n:=n+39) hb hi
def qW{y:Nd}{k:Nat}(hb:ks.length<=6)(c:CS (r! L (n+42)) CJ [.agg (BL id (BS ks) (Cx (L2 ks++[y])) o),.agg y.cs,I ks.length,RO ks] (.tup [.agg (CN (uu k)),I 0])):
 RTy L n id ks (L2 ks++[y]) o (ks++[k]):=by
 intro i h;rw[Ez,Ed]at h;by_cases hi:i<ks.length
 ·have e:(L2 ks++[y])[i]'(by rw[Ez,Ed];exact h)=ZZ i:=by
   rw[List.getElem_append_left (by rw[Ed];exact hi)];exact iQ _
  rw[e];have a:(ks++[k]).getD i 0=ks[i]:=by simp[List.getD,l0m hi,KL hi]
  rw[a];exact Zp (n:=n+39) hb hi
 ·have b:i=ks.length:=by simp at h;omega
  subst b;have e:(L2 ks++[y])[ks.length]'(by rw[Ez,Ed];exact h)=y:=by
   rw[List.getElem_append_right (by rw[Ed];omega)];simp
  rw[e];have a:(ks++[k]).getD ks.length 0=k:=by simp[List.getD]
  rw[a,List.take_left']
  ·exact c
  ·rfl
end
end
section
def dg(k:Nat):Ha:=if k<10 then[UInt8.ofNat (48+k)] else if k<100 then[UInt8.ofNat (48+k/10),UInt8.ofNat (48+k%10)] else[UInt8.ofNat (48+k/100),UInt8.ofNat (48+k/10%10),UInt8.ofNat (48+k%10)]
variable(L n:Nat)
def B9v:((List.range 50).all λk=>(λi=>JQ (Bc (Du (r! L (n+10)) Cg [I (i:Nat)]) (S (dg i)))) (k+0))=true:=by kernel_rfl
def B9u:((List.range 50).all λk=>(λi=>JQ (Bc (Du (r! L (n+10)) Cg [I (i:Nat)]) (S (dg i)))) (k+50))=true:=by kernel_rfl
def B9t:((List.range 50).all λk=>(λi=>JQ (Bc (Du (r! L (n+10)) Cg [I (i:Nat)]) (S (dg i)))) (k+100))=true:=by kernel_rfl
def B9s:((List.range 50).all λk=>(λi=>JQ (Bc (Du (r! L (n+10)) Cg [I (i:Nat)]) (S (dg i)))) (k+150))=true:=by kernel_rfl
def B9r:((List.range 50).all λk=>(λi=>JQ (Bc (Du (r! L (n+10)) Cg [I (i:Nat)]) (S (dg i)))) (k+200))=true:=by kernel_rfl
def B9q:((List.range 50).all λk=>(λi=>JQ (Bc (Du (r! L (n+10)) Cg [I (i:Nat)]) (S (dg i)))) (k+250))=true:=by kernel_rfl
def B9p:((List.range 50).all λk=>(λi=>JQ (Bc (Du (r! L (n+10)) Cg [I (i:Nat)]) (S (dg i)))) (k+300))=true:=by kernel_rfl
def B9o:((List.range 50).all λk=>(λi=>JQ (Bc (Du (r! L (n+10)) Cg [I (i:Nat)]) (S (dg i)))) (k+350))=true:=by kernel_rfl
def B9n:((List.range 50).all λk=>(λi=>JQ (Bc (Du (r! L (n+10)) Cg [I (i:Nat)]) (S (dg i)))) (k+400))=true:=by kernel_rfl
def B9m:((List.range 50).all λk=>(λi=>JQ (Bc (Du (r! L (n+10)) Cg [I (i:Nat)]) (S (dg i)))) (k+450))=true:=by kernel_rfl
def B4x:((List.range 50).all λk=>(λi=>JQ (Bc (Du (r! L (n+10)) Cg [I (i:Nat)]) (S (dg i)))) (k+500))=true:=by kernel_rfl
def B4w:((List.range 50).all λk=>(λi=>JQ (Bc (Du (r! L (n+10)) Cg [I (i:Nat)]) (S (dg i)))) (k+550))=true:=by kernel_rfl
def B4v:((List.range 50).all λk=>(λi=>JQ (Bc (Du (r! L (n+10)) Cg [I (i:Nat)]) (S (dg i)))) (k+600))=true:=by kernel_rfl
def B4u:((List.range 50).all λk=>(λi=>JQ (Bc (Du (r! L (n+10)) Cg [I (i:Nat)]) (S (dg i)))) (k+650))=true:=by kernel_rfl
def B4t:((List.range 50).all λk=>(λi=>JQ (Bc (Du (r! L (n+10)) Cg [I (i:Nat)]) (S (dg i)))) (k+700))=true:=by kernel_rfl
def B4s:((List.range 50).all λk=>(λi=>JQ (Bc (Du (r! L (n+10)) Cg [I (i:Nat)]) (S (dg i)))) (k+750))=true:=by kernel_rfl
def B4r:((List.range 50).all λk=>(λi=>JQ (Bc (Du (r! L (n+10)) Cg [I (i:Nat)]) (S (dg i)))) (k+800))=true:=by kernel_rfl
def B4q:((List.range 50).all λk=>(λi=>JQ (Bc (Du (r! L (n+10)) Cg [I (i:Nat)]) (S (dg i)))) (k+850))=true:=by kernel_rfl
def B4p:((List.range 50).all λk=>(λi=>JQ (Bc (Du (r! L (n+10)) Cg [I (i:Nat)]) (S (dg i)))) (k+900))=true:=by kernel_rfl
def C4W(i:Nat)(h:i<950):PS (r! L (n+10)) Cg [I (i:Nat)] (S (dg i)):=by
 refine BM (λH=>by first|exact λK=>by kernel_rfl) ?_;by_cases p:i<50
 ·have:=G9.1 (B9v L n) (i-0) (KT.2 (by omega));have e:i-0+0=i:=by omega
  simp only[e]at this;exact this
 by_cases h1:i<100
 ·have:=G9.1 (B9u L n) (i-50) (KT.2 (by omega));have e:i-50+50=i:=by omega
  simp only[e]at this;exact this
 by_cases h2:i<150
 ·have:=G9.1 (B9t L n) (i-100) (KT.2 (by omega));have e:i-100+100=i:=by omega
  simp only[e]at this;exact this
 by_cases q:i<200
 ·have:=G9.1 (B9s L n) (i-150) (KT.2 (by omega));have e:i-150+150=i:=by omega
  simp only[e]at this;exact this
 by_cases r:i<250
 ·have:=G9.1 (B9r L n) (i-200) (KT.2 (by omega));have e:i-200+200=i:=by omega
  simp only[e]at this;exact this
 by_cases s:i<300
 ·have:=G9.1 (B9q L n) (i-250) (KT.2 (by omega));have e:i-250+250=i:=by omega
  simp only[e]at this;exact this
 by_cases t:i<350
 ·have:=G9.1 (B9p L n) (i-300) (KT.2 (by omega));have e:i-300+300=i:=by omega
  simp only[e]at this;exact this
 by_cases u:i<400
 ·have:=G9.1 (B9o L n) (i-350) (KT.2 (by omega));have e:i-350+350=i:=by omega
  simp only[e]at this;exact this
 by_cases v:i<450
 ·have:=G9.1 (B9n L n) (i-400) (KT.2 (by omega));have e:i-400+400=i:=by omega
  simp only[e]at this;exact this
 by_cases w:i<500
 ·have:=G9.1 (B9m L n) (i-450) (KT.2 (by omega));have e:i-450+450=i:=by omega
  simp only[e]at this;exact this
 by_cases a:i<550
 ·have:=G9.1 (B4x L n) (i-500) (KT.2 (by omega));have e:i-500+500=i:=by omega
  simp only[e]at this;exact this
 by_cases b:i<600
 ·have:=G9.1 (B4w L n) (i-550) (KT.2 (by omega));have e:i-550+550=i:=by omega
  simp only[e]at this;exact this
 by_cases c:i<650
 ·have:=G9.1 (B4v L n) (i-600) (KT.2 (by omega));have e:i-600+600=i:=by omega
  simp only[e]at this;exact this
 by_cases d:i<700
 ·have:=G9.1 (B4u L n) (i-650) (KT.2 (by omega));have e:i-650+650=i:=by omega
  simp only[e]at this;exact this
 by_cases f:i<750
 ·have:=G9.1 (B4t L n) (i-700) (KT.2 (by omega));have e:i-700+700=i:=by omega
  simp only[e]at this;exact this
 by_cases g:i<800
 ·have:=G9.1 (B4s L n) (i-750) (KT.2 (by omega));have e:i-750+750=i:=by omega
  simp only[e]at this;exact this
 by_cases j:i<850
 ·have:=G9.1 (B4r L n) (i-800) (KT.2 (by omega));have e:i-800+800=i:=by omega
  simp only[e]at this;exact this
 by_cases k:i<900
 ·have:=G9.1 (B4q L n) (i-850) (KT.2 (by omega));have e:i-850+850=i:=by omega
  simp only[e]at this;exact this
 by_cases m:i<950
 ·have:=G9.1 (B4p L n) (i-900) (KT.2 (by omega));have e:i-900+900=i:=by omega
  simp only[e]at this;exact this
 omega
end
section
variable(L n:Nat)
def B7l:((List.range 50).all λk=>(λi=>JQ (Bc (Du (r! L (n+10)) BU [I (i:Nat)]) (S (dg i)))) (k+0))=true:=by kernel_rfl
def B7k:((List.range 50).all λk=>(λi=>JQ (Bc (Du (r! L (n+10)) BU [I (i:Nat)]) (S (dg i)))) (k+50))=true:=by kernel_rfl
def B7j:((List.range 50).all λk=>(λi=>JQ (Bc (Du (r! L (n+10)) BU [I (i:Nat)]) (S (dg i)))) (k+100))=true:=by kernel_rfl
def B7i:((List.range 50).all λk=>(λi=>JQ (Bc (Du (r! L (n+10)) BU [I (i:Nat)]) (S (dg i)))) (k+150))=true:=by kernel_rfl
def B7h:((List.range 50).all λk=>(λi=>JQ (Bc (Du (r! L (n+10)) BU [I (i:Nat)]) (S (dg i)))) (k+200))=true:=by kernel_rfl
def B7g:((List.range 50).all λk=>(λi=>JQ (Bc (Du (r! L (n+10)) BU [I (i:Nat)]) (S (dg i)))) (k+250))=true:=by kernel_rfl
def B7f:((List.range 50).all λk=>(λi=>JQ (Bc (Du (r! L (n+10)) BU [I (i:Nat)]) (S (dg i)))) (k+300))=true:=by kernel_rfl
def B7e:((List.range 50).all λk=>(λi=>JQ (Bc (Du (r! L (n+10)) BU [I (i:Nat)]) (S (dg i)))) (k+350))=true:=by kernel_rfl
def B7d:((List.range 50).all λk=>(λi=>JQ (Bc (Du (r! L (n+10)) BU [I (i:Nat)]) (S (dg i)))) (k+400))=true:=by kernel_rfl
def B7c:((List.range 50).all λk=>(λi=>JQ (Bc (Du (r! L (n+10)) BU [I (i:Nat)]) (S (dg i)))) (k+450))=true:=by kernel_rfl
def B3v:((List.range 50).all λk=>(λi=>JQ (Bc (Du (r! L (n+10)) BU [I (i:Nat)]) (S (dg i)))) (k+500))=true:=by kernel_rfl
def B3u:((List.range 50).all λk=>(λi=>JQ (Bc (Du (r! L (n+10)) BU [I (i:Nat)]) (S (dg i)))) (k+550))=true:=by kernel_rfl
def B3t:((List.range 50).all λk=>(λi=>JQ (Bc (Du (r! L (n+10)) BU [I (i:Nat)]) (S (dg i)))) (k+600))=true:=by kernel_rfl
def B3s:((List.range 50).all λk=>(λi=>JQ (Bc (Du (r! L (n+10)) BU [I (i:Nat)]) (S (dg i)))) (k+650))=true:=by kernel_rfl
def B3r:((List.range 50).all λk=>(λi=>JQ (Bc (Du (r! L (n+10)) BU [I (i:Nat)]) (S (dg i)))) (k+700))=true:=by kernel_rfl
def B3q:((List.range 50).all λk=>(λi=>JQ (Bc (Du (r! L (n+10)) BU [I (i:Nat)]) (S (dg i)))) (k+750))=true:=by kernel_rfl
def B3p:((List.range 50).all λk=>(λi=>JQ (Bc (Du (r! L (n+10)) BU [I (i:Nat)]) (S (dg i)))) (k+800))=true:=by kernel_rfl
def B3o:((List.range 50).all λk=>(λi=>JQ (Bc (Du (r! L (n+10)) BU [I (i:Nat)]) (S (dg i)))) (k+850))=true:=by kernel_rfl
def B3n:((List.range 50).all λk=>(λi=>JQ (Bc (Du (r! L (n+10)) BU [I (i:Nat)]) (S (dg i)))) (k+900))=true:=by kernel_rfl
def C4O(i:Nat)(h:i<950):PS (r! L (n+10)) BU [I (i:Nat)] (S (dg i)):=by
 refine BM (λH=>by first|exact λK=>by kernel_rfl) ?_;by_cases p:i<50
 ·have:=G9.1 (B7l L n) (i-0) (KT.2 (by omega));have e:i-0+0=i:=by omega
  simp only[e]at this;exact this
 by_cases h1:i<100
 ·have:=G9.1 (B7k L n) (i-50) (KT.2 (by omega));have e:i-50+50=i:=by omega
  simp only[e]at this;exact this
 by_cases h2:i<150
 ·have:=G9.1 (B7j L n) (i-100) (KT.2 (by omega));have e:i-100+100=i:=by omega
  simp only[e]at this;exact this
 by_cases q:i<200
 ·have:=G9.1 (B7i L n) (i-150) (KT.2 (by omega));have e:i-150+150=i:=by omega
  simp only[e]at this;exact this
 by_cases r:i<250
 ·have:=G9.1 (B7h L n) (i-200) (KT.2 (by omega));have e:i-200+200=i:=by omega
  simp only[e]at this;exact this
 by_cases s:i<300
 ·have:=G9.1 (B7g L n) (i-250) (KT.2 (by omega));have e:i-250+250=i:=by omega
  simp only[e]at this;exact this
 by_cases t:i<350
 ·have:=G9.1 (B7f L n) (i-300) (KT.2 (by omega));have e:i-300+300=i:=by omega
  simp only[e]at this;exact this
 by_cases u:i<400
 ·have:=G9.1 (B7e L n) (i-350) (KT.2 (by omega));have e:i-350+350=i:=by omega
  simp only[e]at this;exact this
 by_cases v:i<450
 ·have:=G9.1 (B7d L n) (i-400) (KT.2 (by omega));have e:i-400+400=i:=by omega
  simp only[e]at this;exact this
 by_cases w:i<500
 ·have:=G9.1 (B7c L n) (i-450) (KT.2 (by omega));have e:i-450+450=i:=by omega
  simp only[e]at this;exact this
 by_cases a:i<550
 ·have:=G9.1 (B3v L n) (i-500) (KT.2 (by omega));have e:i-500+500=i:=by omega
  simp only[e]at this;exact this
 by_cases b:i<600
 ·have:=G9.1 (B3u L n) (i-550) (KT.2 (by omega));have e:i-550+550=i:=by omega
  simp only[e]at this;exact this
 by_cases c:i<650
 ·have:=G9.1 (B3t L n) (i-600) (KT.2 (by omega));have e:i-600+600=i:=by omega
  simp only[e]at this;exact this
 by_cases d:i<700
 ·have:=G9.1 (B3s L n) (i-650) (KT.2 (by omega));have e:i-650+650=i:=by omega
  simp only[e]at this;exact this
 by_cases f:i<750
 ·have:=G9.1 (B3r L n) (i-700) (KT.2 (by omega));have e:i-700+700=i:=by omega
  simp only[e]at this;exact this
 by_cases g:i<800
 ·have:=G9.1 (B3q L n) (i-750) (KT.2 (by omega));have e:i-750+750=i:=by omega
  simp only[e]at this;exact this
 by_cases j:i<850
 ·have:=G9.1 (B3p L n) (i-800) (KT.2 (by omega));have e:i-800+800=i:=by omega
  simp only[e]at this;exact this
 by_cases k:i<900
 ·have:=G9.1 (B3o L n) (i-850) (KT.2 (by omega));have e:i-850+850=i:=by omega
  simp only[e]at this;exact this
 by_cases m:i<950
 ·have:=G9.1 (B3n L n) (i-900) (KT.2 (by omega));have e:i-900+900=i:=by omega
  simp only[e]at this;exact this
 omega
end
section
def exN(j:Nat):Nd:=
 if j<3 then ZZ j
 else if j<39 then⟨(3+(j-3)/9:Nat),[],[],u0,0,((j-3)/3%3:Nat),((j-3)%3:Nat)⟩
 else⟨7,[],[],u0,mW ((j-39)%5),((j-39)/5:Nat),0⟩
def GK:List Ha:=[[],[99,111,110,115,116],[105,110,112,117,116],[97,100,100],[115,117,98],[109,117,108],[100,105,118],[112,111,119],[115,113,114,116]]
def exT(j:Nat):Ha:=
 if j<3 then GK.getD 2 []++[32]++dec j
 else if j<39 then GK.getD (3+(j-3)/9) []++[32]++dec ((j-3)/3%3:Nat)++[32]++dec ((j-3)%3:Nat)
 else GK.getD 7 []++[32]++dec ((j-39)/5:Nat)++[32]++dec (mW ((j-39)%5))
variable(L n:Nat)
def B0b:((List.range 54).all λi=>JQ (Bc (Du (r! L (n+41)) J0 [.agg (exN i).cs]) (S (exT i))))=true:=by kernel_rfl
end
section
def frL:List (Ha×Ha):=[([45,54],[49]),
 ([45,51],[49]),
 ([45,50],[49]),
 ([45,51],[50]),
 ([45,53],[49]),
 ([45,53],[50]),
 ([45,53],[51]),
 ([45,53],[52]),
 ([45,52],[49]),
 ([45,52],[51]),
 ([45,49],[49]),
 ([45,51],[52]),
 ([45,50],[51]),
 ([45,49],[50]),
 ([45,49],[51]),
 ([45,49],[52]),
 ([48],[49]),
 ([49],[49]),
 ([49],[50]),
 ([49],[51]),
 ([49],[52]),
 ([50],[49]),
 ([50],[51]),
 ([51],[49]),
 ([51],[50]),
 ([51],[52]),
 ([52],[49]),
 ([52],[51]),
 ([53],[49]),
 ([53],[50]),
 ([53],[51]),
 ([53],[52]),
 ([54],[49])]
def frn(i:Nat):Ha:=(frL.getD i ([],[])).1
def frd(i:Nat):Ha:=(frL.getD i ([],[])).2
abbrev fK(i:Nat):Is:=[S (frn i),S (frd i)]
def frt(i:Nat):Ha:=if frd i=[49] then frn i else frn i++[47]++frd i
def C3I:List Hb:=[[0,1,2,3],[4,5,6,7],[8,2,9,10],[1,3,10,11],[2,10,12,13],[10,13,14,15],[16,16,16,16],[17,18,19,20],[21,17,22,18],[23,24,17,25],[26,21,27,17],[28,29,30,31],[32,23,21,24]]
def mR(a b:Nat):Nat:=(C3I.getD a []).getD b 0
variable(L n:Nat)
def B0f:((List.range 13).all λk=>(λi=>JQ (Bc (Du (r! L (n+40)) Gv [I (((i/4:Nat):Int)-6),I (1+((i%4:Nat):Int))]) (.tup [.agg (fK (mR (i/4) (i%4))),I 0]))) (k+0))=true:=by kernel_rfl
def B0e:((List.range 13).all λk=>(λi=>JQ (Bc (Du (r! L (n+40)) Gv [I (((i/4:Nat):Int)-6),I (1+((i%4:Nat):Int))]) (.tup [.agg (fK (mR (i/4) (i%4))),I 0]))) (k+13))=true:=by kernel_rfl
def B0d:((List.range 13).all λk=>(λi=>JQ (Bc (Du (r! L (n+40)) Gv [I (((i/4:Nat):Int)-6),I (1+((i%4:Nat):Int))]) (.tup [.agg (fK (mR (i/4) (i%4))),I 0]))) (k+26))=true:=by kernel_rfl
def B0c:((List.range 13).all λk=>(λi=>JQ (Bc (Du (r! L (n+40)) Gv [I (((i/4:Nat):Int)-6),I (1+((i%4:Nat):Int))]) (.tup [.agg (fK (mR (i/4) (i%4))),I 0]))) (k+39))=true:=by kernel_rfl
def B9l(i:Nat)(h:i<52):PS (r! L (n+40)) Gv [I (((i/4:Nat):Int)-6),I (1+((i%4:Nat):Int))] (.tup [.agg (fK (mR (i/4) (i%4))),I 0]):=by
 refine BM (λH=>by first|exact λK=>by kernel_rfl) ?_;by_cases a:i<13
 ·have:=G9.1 (B0f L n) (i-0) (KT.2 (by omega));have e:i-0+0=i:=by omega
  simp only[e]at this;exact this
 by_cases h1:i<26
 ·have:=G9.1 (B0e L n) (i-13) (KT.2 (by omega));have e:i-13+13=i:=by omega
  simp only[e]at this;exact this
 by_cases h2:i<39
 ·have:=G9.1 (B0d L n) (i-26) (KT.2 (by omega));have e:i-26+26=i:=by omega
  simp only[e]at this;exact this
 by_cases b:i<52
 ·have:=G9.1 (B0c L n) (i-39) (KT.2 (by omega));have e:i-39+39=i:=by omega
  simp only[e]at this;exact this
 ·omega
def A18:((List.range 11).all λk=>(λi=>JQ (Bc (Du (r! L (n+40)) F4 [.agg (fK i)]) (Bo true))) (k+0))=true:=by kernel_rfl
def A17:((List.range 11).all λk=>(λi=>JQ (Bc (Du (r! L (n+40)) F4 [.agg (fK i)]) (Bo true))) (k+11))=true:=by kernel_rfl
def A16:((List.range 11).all λk=>(λi=>JQ (Bc (Du (r! L (n+40)) F4 [.agg (fK i)]) (Bo true))) (k+22))=true:=by kernel_rfl
def A75(i:Nat)(h:i<33):PS (r! L (n+40)) F4 [.agg (fK i)] (Bo true):=by
 refine BM (λH=>by first|exact λK=>by kernel_rfl) ?_;by_cases a:i<11
 ·have:=G9.1 (A18 L n) (i-0) (KT.2 (by omega));have e:i-0+0=i:=by omega
  simp only[e]at this;exact this
 by_cases h1:i<22
 ·have:=G9.1 (A17 L n) (i-11) (KT.2 (by omega));have e:i-11+11=i:=by omega
  simp only[e]at this;exact this
 by_cases h2:i<33
 ·have:=G9.1 (A16 L n) (i-22) (KT.2 (by omega));have e:i-22+22=i:=by omega
  simp only[e]at this;exact this
 ·omega
def A1b:((List.range 11).all λk=>(λi=>JQ (Bc (Du (r! L (n+40)) MS [.agg (fK i)]) (S (frt i)))) (k+0))=true:=by kernel_rfl
def A1a:((List.range 11).all λk=>(λi=>JQ (Bc (Du (r! L (n+40)) MS [.agg (fK i)]) (S (frt i)))) (k+11))=true:=by kernel_rfl
def A19:((List.range 11).all λk=>(λi=>JQ (Bc (Du (r! L (n+40)) MS [.agg (fK i)]) (S (frt i)))) (k+22))=true:=by kernel_rfl
def A76(i:Nat)(h:i<33):PS (r! L (n+40)) MS [.agg (fK i)] (S (frt i)):=by
 refine BM (λH=>by first|exact λK=>by kernel_rfl) ?_;by_cases a:i<11
 ·have:=G9.1 (A1b L n) (i-0) (KT.2 (by omega));have e:i-0+0=i:=by omega
  simp only[e]at this;exact this
 by_cases h1:i<22
 ·have:=G9.1 (A1a L n) (i-11) (KT.2 (by omega));have e:i-11+11=i:=by omega
  simp only[e]at this;exact this
 by_cases h2:i<33
 ·have:=G9.1 (A19 L n) (i-22) (KT.2 (by omega));have e:i-22+22=i:=by omega
  simp only[e]at this;exact this
 ·omega
end
section
variable(L n:Nat)
def A8Z:((List.range 54).all λi=>JQ (Bc (Du (r! L (n+41)) FJ [.agg (exN i).cs]) (S (exT i))))=true:=by kernel_rfl
def cnN(i k:Nat):Nd:=⟨1,frn i,frd i,uu k,0,0,0⟩
def cnT(i k:Nat):Ha:=GK.getD 1 []++[32]++frt i++[32]++L5 k
end
end Go.Abs
end
noncomputable section
end
noncomputable section
namespace Go.Abs
open Go.RowKit Go.Proofs
set_option maxRecDepth 100000
section
variable{v:AV}{args:Is}{f:Nat}{R:Rt}
variable{L n:Nat}
def RV(R:Rt)(f:Nat)(args:Is)(v:AV):Prop:=∀b,(R.call f args [] λv d=>Ia b d depth v λ_ e=>some (e,[]))=some (v,[])
def rR{args args':Is}{H:Hp}{q:Bool}{K:K2}(hc:RV R f args' v)(d:Rm true depth args args' H q):Aq R f args H K=K v:=by
 unfold Aq;rw[d];show Au (R.call f args' [] _) K=K v;rw[hc (!q)];rfl
def CS.rv(h:CS R f args v):RV R f args v:=λb=>h _ λe d hv=>by
 obtain⟨q,hq⟩:=hv b;exact hq _
abbrev fnA(f:Nat):AV:=.fn (.func f) [] []
abbrev fF(w:Ha)(F:AV)(g:Nat):AV:=.agg [S w,F,fnA g]
abbrev oW:AV:=.list 2 [fnA Qd,fnA jC]
abbrev B9A:AV:=.list 2 [fnA Qd,fnA Td]
abbrev B9L:AV:=.list 1 [fnA Td]
abbrev Yz:AV:=.imap [(.int .i64 1,fF (GK.getD 1 []) Av DQ),(.int .i64 2,fF (GK.getD 2 []) B9L FO),
 (.int .i64 3,fF (GK.getD 3 []) oW Fc),(.int .i64 4,fF (GK.getD 4 []) oW D4),
 (.int .i64 5,fF (GK.getD 5 []) oW Ee),(.int .i64 6,fF (GK.getD 6 []) oW DP),
 (.int .i64 7,fF (GK.getD 7 []) B9A ED),(.int .i64 8,fF (GK.getD 8 []) (.list 1 [fnA Qd]) Te)]
def B65:PS (r! L (n+1)) IE [] Yz:=BM (λH K=>by kernel_rfl) (by kernel_rfl)
abbrev XW(I U:AV):AV:=.iptr [Yz,I,U]
variable{I1:AV}{a b c i k:Nat}
end
section
variable{L n:Nat}
section
variable{H:Hp}{c:Nat}{v I1 F:AV}{l:Hb}{y:Nd}{w:Ha}{g k:Nat}
abbrev XH(I1 v:AV):Row:=.cells true ZI [Yz,I1,v]
def C0i(hc:Ai H c=some (XH I1 v))(h:AU H AB 20 v l.length (l.flatMap HO))(e:l=[]->v=Av)(f:Sl I1):Fx true depth (.ptr c 0 0) (XW I1 (RO l)) H true:=by
 obtain⟨q,hq⟩:=mQ (D:=depth-2) (b:=true) h e;have a1:Fx true (depth-1) Yz Yz H false:=λK=>r_ rfl;have a2:Fx true (depth-1) I1 I1 H false:=by rcases f with rfl|⟨_,_,rfl⟩<;>exact λK=>r_ rfl
 have d:Rm true (depth-1) [Yz,I1,v] [Yz,I1,RO l] H (false||(false||(q||false))):=Ao a1 (Ao a2 (Ao hq AI));intro K;show IQ H c (λx=>Kq x λ_ cs=>IK (Ia true H (depth-1)) (Do (Nat.add 0 0) cs) λ_ a=>K true (.iptr a))=_;rw[Bn hc];show IK (Ia true H (depth-1)) (Do 0 [Yz,I1,v]) (λ_ a=>K true (.iptr a))=_;rw[C9,rC,d]
def A52{f m:Nat}{args:Is}{K:KV}(hn:(E (L+20)).ne f=false)(hi:(E (L+20)).imp f=false)(hz:∀s,args≠[.ptr s 0 0]):Cw (E (L+20)) (rt (L+20) m) (fnA f) args H K=Aq (rt (L+20) m) f args H λv=>K v H:=by
 show Ta args [] (λa=>Ta [] a λall=>A1R ((E (L+20)).ne f) all H K (@Bool.rec (λ_=>Af) (zpm (E (L+20)) f (rt (L+20) m) all H λv=>K v H) ((rt (L+20) m).call f all H K) ((E (L+20)).imp f)))=_;rw[Jx,Jx,hn,hi,US,l3b];show zpm (E (L+20)) f (rt (L+20) m) args H (λv=>K v H)=_;rw[A2L hz]
def B0D{K:Af}(h:fB v v=true):QB (Bc (some (v,H)) v) K=K:=by
 show QB (some (.v (.bool (fB v v)),[])) K=K;rw[h];rfl
def A0Q{e z n:Nat}{cs:Is}(h:AU H e z v n cs):fB v v=true:=by
 rcases h with⟨rfl,_⟩|⟨r,q,rfl,_⟩
 ·rfl
 ·show(Nat.beq z z&&(Nat.beq r r&&(Nat.beq 0 0&&Nat.beq n n)))=true;simp
def B1U{K:K2}{t:TI}:As t .eql (I 0) (.v (.int .i64 0)) K=K (Bo true):=by rw[Cv,GI rfl]
def C1O(hc:Ai H c=some (XH I1 v))(hs:AU H AB 20 v l.length (l.flatMap HO))(h0:l=[]->v=Av)(hr:¬A4 v c)(wf:Wf H)(hb:l.length<100)(hI:Sl I1)(hF:Sl F)(hk:∀H K,(Xf .i64 (I y.op) λq=>ZB Bz true Yz q H K)=K (.tup [fF w F g,Bo true]))(ha:fB (.tup [fF w F g,Bo true]) (.tup [fF w F g,Bo true])=true)(hn:(E (L+20)).ne g=false)(hi:(E (L+20)).imp g=false)(hh:RV (r! L (n+41)) BV [XW I1 (RO l),fF w F g,.agg y.cs] (Bo true))(B:RV (r! L (n+41)) g [XW I1 (RO l),.agg y.cs] (.tup [.agg (CN (uu k)),I 0])):
 ∃f J,(∀K,(r! L (n+42)).call Jm [.ptr c 0 0,.agg y.cs] H K=K (Bo true) J)/\Ai J c=some (XH I1 f)/\AU J AB 20 f (l++[k]).length ((l++[k]).flatMap HO)/\¬A4 f c/\Wf J/\Ar H<=Ar J/\(∀s x,Ai H s=some x->s≠c->¬A4 v s->Ai J s=some x)/\(∀s,A4 f s->Ar H<=s):=by
 have i:=Ax (H:=H) (x:=XL y) (by simp);have t:=A6 (x:=XL y) (wf.lt hc) hc;have w1:=AF (x:=XL y) wf;have Y:AU ((Ar H,XL y)::H) AB 20 v l.length (l.flatMap HO):=hs.lat wf (Lat.cons H _ (λ_=>False)) (λ_ _ h=>h);have ad:∀s x,Ai H s=some x->Ai ((Ar H,XL y)::H) s=some x:=λs x h=>A6 (wf.lt h) h;have n1:Ar H<=Ar ((Ar H,XL y)::H):=l1u _;have aj:∀s,A4 v s->s<Ar H:=λs B=>by
  rcases hs with⟨rfl,_⟩|⟨r,q,rfl,h2,_⟩
  ·obtain⟨_,_,_,h⟩:=B;cases h
  ·obtain⟨_,_,_,h⟩:=B;cases h;exact wf.lt h2
 have ey:∀K:KV,GZ AY (.agg y.cs) H K=K (.ptr (Ar H) 0 0) ((Ar H,XL y)::H):=λK=>Es A3O;have yl:=wf.lt hc;generalize a4:((Ar H,XL y)::H)=d at i t w1 Y ad n1 ey;generalize a5:Ar H=r at i ey yl n1 aj;obtain⟨m,e2,X,w2,k2⟩:=HF (e:=C8) (zs:=[zS,zL,.v .nilFunc]) (vs:=[S w,F,fnA g]) w1 rfl;have ai:=Ax (H:=d) (x:=.cells true C8 [zS,zL,.v .nilFunc]) (by simp);have N:=A6 (x:=.cells true C8 [zS,zL,.v .nilFunc]) (w1.lt t) t;have ac:=A6 (x:=.cells true C8 [zS,zL,.v .nilFunc]) (w1.lt i) i;obtain⟨O,a6⟩:=k2 _ _ t;obtain⟨ao,a8⟩:=k2 _ _ i;have Z:AU m AB 20 v l.length (l.flatMap HO):=by
  rcases Y with h|⟨r,q,h1,h2,h3⟩
  ·exact .inl h
  ·exact .inr ⟨r,q,h1,(k2 _ _ h2).1,h3⟩
 have n2:Ar d<=Ar m:=by rw[e2,B1];exact l1u _
 obtain⟨C,e3,ak,w3,k3⟩:=HF (e:=AB) (zs:=Ga) (vs:=CN (uu k)) w2 rfl;obtain⟨A,a7⟩:=k3 _ _ O;have aa:AU C AB 20 v l.length (l.flatMap HO):=by
  rcases Z with h|⟨r,q,h1,h2,h3⟩
  ·exact .inl h
  ·exact .inr ⟨r,q,h1,(k3 _ _ h2).1,h3⟩
 have n3:Ar m<=Ar C:=by rw[e3,B1];exact l1u _
 obtain⟨f,M,e4,ab,w4,n4,k4,ah⟩:=C4i k aa w3 hb;have Q:=k4 _ _ A hr;have R:¬A4 f c:=λB=>by have:=ah c B;have:=w3.lt A;omega
 have D:B0 f=[f]/\AV.one f=true:=by
  rcases ab with⟨rfl,_⟩|⟨a,b,rfl,_⟩<;>exact⟨rfl,rfl⟩
 refine⟨f,upd M c (XH I1 f),λK=>?_,AC Q,ab.lat w4 (Lat.upd M c _ (P:=λu=>u=c) rfl) (λu B e=>R (e▸B)),R,Bi w4,by rw[B1];omega,λs x h h1 h2=>?_,λs B=>by have:=ah s B;omega⟩
 ·rw[Rv];unfold Jj DI G8 A2 MF Hv;rw[ey];have f0:∀{s j:Nat}{K:K2},CL j (.ptr s 0 0) K=K (.ptr s j 0):=λ{s j K}=>by rw[fA,Kk]
  have lk1:∀{K},AE DO (.ptr c 0 0) d K=K Yz:=λ{K}=>AL (p:=0) rfl t (show 0<3 by decide);have ay:∀{K},AE Ac (.ptr r 0 0) d K=K (I y.op):=λ{K}=>AL (p:=0) rfl i (show 0<26 by decide);have af:∀{K},AE DO (.ptr c 0 0) ((Ar d,c_ C8 [zS,zL,.v .nilFunc])::d) K=K Yz:=λ{K}=>AL (p:=0) rfl N (show 0<3 by decide);have ag:∀{K},AE Ac (.ptr r 0 0) ((Ar d,c_ C8 [zS,zL,.v .nilFunc])::d) K=K (I y.op):=λ{K}=>AL (p:=0) rfl ac (show 0<26 by decide);have al:∀{K:KV},Bw C8 Bz d K=K (.ptr (Ar d) 0 0) ((Ar d,c_ C8 [zS,zL,.v .nilFunc])::d):=λ{K}=>Bv rfl;have st:∀{K:Ru},DN Bz (.ptr (Ar d) 0 0) (fF w F g) ((Ar d,c_ C8 [zS,zL,.v .nilFunc])::d) K=K m:=λ{K}=>by
   rw[e2];exact BQ (vs:=[S w,F,fnA g]) ai rfl rfl (by rcases hF with rfl|⟨_,_,rfl⟩<;>rfl)
  have o1:∀{K:Af}{H:Hp},QB (Bc (some (Yz,H)) Yz) K=K:=λ{K H}=>by kernel_rfl
  have o2:∀{K:Af}{H:Hp}{z:Int},QB (Bc (some (I z,H)) (I z)) K=K:=λ{K H z}=>Vp (by rfl);have o3:∀{K:Af}{H:Hp},QB (Bc (some (.tup [fF w F g,Bo true],H)) (.tup [fF w F g,Bo true])) K=K:=λ{K H}=>by
   show QB (some (.v (.bool (fB _ _)),[])) K=K;rw[ha];rfl
  simp only[I3,B6,f0,lk1,ay,hk,Fl,Fk,al,BW,st,af,ag,o1,o2,o3,ntT];have ar:∀{K},AE Bz (.ptr (Ar d) 0 0) m K=K (fF w F g):=λ{K}=>Br rfl rfl X;have az:∀{K},AE AN (.ptr r 0 0) m K=K (.agg y.cs):=λ{K}=>Br rfl rfl ao;have aq:∀{K},AE Aa (.ptr (Ar d) 2 0) m K=K (fnA g):=λ{K}=>AL (p:=2) rfl X (show 2<3 by decide);have a1:=C0i O Z h0 hI;have a2:Fx true depth (fF w F g) (fF w F g) m false:=by rcases hF with rfl|⟨_,_,rfl⟩<;>exact λK=>by kernel_rfl
  have a3:Fx true depth (.agg y.cs) (.agg y.cs) m false:=λK=>by kernel_rfl
  have V:∀{K:K2},Aq (r! L (n+41)) BV [.ptr c 0 0,fF w F g,.agg y.cs] m K=K (Bo true):=λ{K}=>rR hh (Ao a1 (Ao a2 (Ao a3 AI)));have am:∀{K:K2},Aq (r! L (n+41)) g [.ptr c 0 0,.agg y.cs] m K=K (.tup [.agg (CN (uu k)),I 0]):=λ{K}=>rR B (Ao a1 (Ao a3 AI));simp only[gT,BW,ar,az,V,ntT,RF];rw[Ba,aq,A52 hn hi (by simp),am,Fl,Fk,Bv (cs:=Ga) rfl,BQ (cs:=Ga) (vs:=CN (uu k)) (Ax (by simp)) rfl rfl rfl,<-e3];have ap:∀{K},AE Ap (.ptr c 2 0) C K=K v:=λ{K}=>AL (p:=2) rfl A (show 2<3 by decide);have ax:∀{K},AE A0 (.ptr (Ar m) 0 0) C K=K (.agg (CN (uu k))):=λ{K}=>Br rfl rfl ak;simp only[I3,B6,f0,ap,ax];have e5:∀K:KV,Dy AB 20 A0 Ap v (.sl 20 (Ar C) 0 1) ((Ar C,.cells false AB (HO k))::C) K=K f M:=λK=>by have:=e4 K;rw[A81]at this;exact this
  have ae:∀{K},AE Ap (.ptr c 2 0) ((Ar C,.cells false AB (HO k))::C) K=K v:=λ{K}=>AL (p:=2) rfl (A6 (w3.lt A) A) (show 2<3 by decide);have s5:∀{K:Ru},DN Ap (.ptr c 2 0) f M K=K (upd M c (XH I1 f)):=λ{K}=>D5 Q (show 2<3 by decide) rfl D.1 D.2;have o4:∀{K:Af}{H:Hp},QB (Bc (some (v,H)) v) K=K:=λ{K H}=>B0D (A0Q aa);simp only[A81,BW,e5,s5,ae,o4,B1U]
 ·have a1:=ad s x h;have a2:=(k2 s x a1).1;have a3:=(k3 s x a2).1;rw[Ag h1];exact k4 s x a3 h2
end
end
section
variable{L n:Nat}
abbrev A0N:AV:=fnA GN
def B77{k:Nat}(c:k<52):PS (r! L (n+41)) GN [.agg (CN (uu k))] (Bo false):=by
 refine CS.ps (λK a=>?_) (λH=>λK=>by kernel_rfl);rw[Vs];unfold Ll HX;rw[Es rfl,Br (cs:=CN (uu k)) rfl rfl (Ax (by simp)),Yg _ _ _ c,ntT];exact a _ _ (λb=>⟨false,λK=>by kernel_rfl⟩)
def B3A{a:Ru}{K:KV}{ks:Hb}{H:Hp}(hb:ks.length<1000000000)(c:∀k∈ks,k<52):∀(f i:Nat),i<=ks.length->ks.length-i<f->
 E5 (L+20) (r! L (n+41)) K a f (BS ks) A0N (I ks.length) (I i) H=a H:=by
 intro f
 induction f with
 |zero=>intro i _ h;omega
 |succ f ih=>
  intro i hi d;rw[Kw];unfold E6 HV A2;by_cases h:i<ks.length
  ·rw[FG (by omega),Co,jJ h,jH];have b:∀K,Cw (E (L+20)) (r! L (n+41)) A0N [.agg (CN (uu ks[i]))] H K=Aq (r! L (n+41)) GN [.agg (CN (uu ks[i]))] H λv=>K v H:=λK=>A52 rfl rfl (by simp);rw[b,B77 (c _ (NT h)),Ba,Dd (by omega)];exact ih (i+1) (by omega) (by omega)
  ·rw[FB (by omega),Ba]
def A6U{ks:Hb}(hb:ks.length<1000000000)(e:ks.length<L)(d:∀k∈ks,k<52):CS (r! L (n+43)) Dh [BS ks,A0N] (Bo false):=by
 intro K a;rw[JX];unfold El L8;have hi:CS (r! L (n+42)) Hh [BS ks,A0N] (I (-1)):=by
  intro K a;rw[KO];unfold EE A2;simp only[BH];have c:(AV.v (.int .i64 0))=I ((0:Nat):Int):=rfl;rw[Q8,c,B3A hb d _ 0 (by omega) (by omega)];exact a _ _ (λb=>⟨false,λK=>by kernel_rfl⟩)
 rw[AQ (q:=false) hi (λK=>by kernel_rfl),KX];exact a _ _ (λb=>⟨false,λK=>by kernel_rfl⟩)
def WNd(L n:Nat)(a:AV)(l:Hb)(y:Nd)(k:Nat):Prop:=∃w F g,Sl F/\
 (∀H K,(Xf .i64 (I y.op) λq=>ZB Bz true Yz q H K)=K (.tup [fF w F g,Bo true]))/\
 fB (.tup [fF w F g,Bo true]) (.tup [fF w F g,Bo true])=true/\(E (L+20)).ne g=false/\(E (L+20)).imp g=false/\
 RV (r! L (n+41)) BV [XW a (RO l),fF w F g,.agg y.cs] (Bo true)/\
 RV (r! L (n+41)) g [XW a (RO l),.agg y.cs] (.tup [.agg (CN (uu k)),I 0])
def WTy(L n:Nat)(ks:Hb)(xs:List Nd)(ty:Hb):Prop:=∀i(h:i<xs.length),WNd L n (BS ks) (ty.take i) xs[i] (ty.getD i 0)
section
variable{K:KV}{x:Af}{ks ty:Hb}{xs:List Nd}{id:Int}{o:UD}
def B70{k:AV->KV}{p c:Nat}(hT:WTy L n ks xs ty)(a:ty.length=xs.length)(hb:xs.length<100)(A:p≠c)(hx:∀v H,AU H AB 20 v ty.length (ty.flatMap HO)->(ty=[]->v=Av)->Ai H p=some (Jc id (BS ks) (Cx xs) o)->Ai H c=some (XH (BS ks) v)->k (.ptr p 0 0) (.ptr c 0 0) H=x):
 ∀(f i:Nat)(v:AV)(H:Hp),i<=xs.length->xs.length-i<f->AU H AB 20 v (ty.take i).length ((ty.take i).flatMap HO)->(ty.take i=[]->v=Av)->¬A4 v p->¬A4 v c->Ai H p=some (Jc id (BS ks) (Cx xs) o)->Ai H c=some (XH (BS ks) v)->Wf H->
 Nn (L+20) (r! L (n+42)) K k f (.ptr p 0 0) (.ptr c 0 0) (Cx xs) (I xs.length) (I i) H=x:=by
 intro f
 induction f with
 |zero=>intro i v H _ h;omega
 |succ f ih=>
  intro i v H hi hf d m hr D P hc w;rw[Yu];unfold No HV A2;by_cases h:i<xs.length
  ·rw[FG (by omega),Co,rL h,rK,Bv (cs:=L4) rfl,BQ (cs:=L4) (vs:=xs[i].cs) (Ax (by simp)) rfl rfl rfl];obtain⟨V,Y,M,R,s⟩:=HF (e:=AY) (zs:=L4) (vs:=xs[i].cs) w rfl;rw[<-Y,Br rfl rfl M];have b:=(s _ _ P).1;have t:=(s _ _ hc).1;have J:AU V AB 20 v (ty.take i).length ((ty.take i).flatMap HO):=by
    rcases d with d|⟨r,q,h1,h2,h3⟩
    ·exact .inl d
    ·exact .inr ⟨r,q,h1,(s _ _ h2).1,h3⟩
   obtain⟨wd,F,g,hF,hk,ha,hn,y,hh,hu⟩:=hT i h;obtain⟨v',X,Z,u,j,C,w5,n5,k5,N⟩:=C1O (n:=n) t J m D R (by rw[zF];omega) (.inr ⟨_,_,rfl⟩) hF hk ha hn y hh hu;have Q:ty.take i++[ty.getD i 0]=ty.take (i+1):=by
    have O:i<ty.length:=by omega
    rw[oJ O];simp[List.getD,KL O]
   rw[Z,ntT,Ba,Dd (by omega)];rw[Q]at j;exact ih (i+1) v' X (by omega) (by omega) j (λe=>by rw[<-Q]at e;simp at e) (λB=>by have:=N _ B;have:=R.lt b;omega) C (k5 _ _ b A hr) u w5
  ·rw[FB (by omega),Ba];have:i=xs.length:=by omega
   subst this;rw[<-a,wC]at d m;exact hx v H d m P hc
set_option maxHeartbeats 1000000 in
def B3x(hL:100<L)(Q:WTy L (n+2) ks xs ty)(X:o=uu (ty.getD (xs.length-1) 0))(f:ty.length=xs.length)(R:∀k∈ks,k<52)(hb:ks.length<=6)(hn:1<=xs.length)(V:xs.length<=40)(h1:1<=id)(h2:id<=1000000):
 CS (r! L (n+45)) ON [.agg (BL id (BS ks) (Cx xs) o)] (.tup [RO ty,I 0,I 0]):=by
 intro K P;rw[ZS];unfold Ov DI UU eN Nc G8 A2 MF;rw[Es (Oh (.inr ⟨_,_,rfl⟩) (.inr ⟨_,_,rfl⟩))];have d:=Ax (H:=[]) (x:=Jc id (BS ks) (Cx xs) o) (by simp);have w0:=AF (x:=Jc id (BS ks) (Cx xs) o) Fq;generalize ((Ar [],Jc id (BS ks) (Cx xs) o)::([]:Hp))=e at d w0;generalize Ar []=p at d;have u:∀{s j:Nat}{K:K2},CL j (.ptr s 0 0) K=K (.ptr s j 0):=λ{s j K}=>by rw[fA,Kk]
 have J:∀{K},AE Ac (.ptr p 0 0) e K=K (I id):=λ{K}=>AL (p:=0) rfl d (show 0<23 by decide);have Z:∀{K},AE Ap (.ptr p 1 0) e K=K (BS ks):=λ{K}=>AL (p:=1) rfl d (show 1<23 by decide);have l2:∀{K},AE Az (.ptr p 2 0) e K=K (Cx xs):=λ{K}=>AL (p:=2) rfl d (show 2<23 by decide);have t1:∀{K},As Ac .lss (I id) (.v (.int .i64 1)) K=K (Bo false):=λ{K}=>by rw[Dk,HN (by omega)]
 have t2:∀{K},As Ac .gtr (I id) (.v (.int .i64 1000000)) K=K (Bo false):=λ{K}=>by rw[DT,HN (by omega)]
 have t3:∀{K},As Ac .gtr (I (ks.length:Int)) (.v (.int .i64 6)) K=K (Bo false):=λ{K}=>by rw[DT,HN (by omega)]
 have t4:∀{K},As Ac .lss (I (xs.length:Int)) (.v (.int .i64 1)) K=K (Bo false):=λ{K}=>by rw[Dk,HN (by omega)]
 have t5:∀{K},As Ac .gtr (I (xs.length:Int)) (.v (.int .i64 40)) K=K (Bo false):=λ{K}=>by rw[DT,HN (by omega)]
 have an:∀{K:K2},Aq (r! L (n+44)) Dh [BS ks,A0N] e K=K (Bo false):=λ{K}=>AQ (q:=false) (A6U (n:=n+1) (by omega) (by omega) R) (λK=>by kernel_rfl);rw[u,J,t1];simp only[gT,u,J,BW,t2,RF,Z,Q8,t3,an,l2,VF,t4,t5];rw[Ba];have M:∀{K:KV},(r! L (n+44)).call OM [BS ks] e K=K (.ptr (Ar e) 0 0) ((Ar e,XH (BS ks) Av)::e):=λ{K}=>by
  rw[ZP];unfold Oq HX;have b2:∀{K:K2},BR L6 [(0,1,Yz),(1,1,BS ks)] K=K (.agg [Yz,BS ks,Av]):=λ{K}=>r_ rfl;rw[B65 (n:=n+42),b2,Es rfl]
 rw[M];have g:=Ax (H:=e) (x:=XH (BS ks) Av) (by simp);have m:=A6 (x:=XH (BS ks) Av) (w0.lt d) d;have w1:=AF (x:=XH (BS ks) Av) w0;have A:=w0.lt d;generalize ((Ar e,XH (BS ks) Av)::e)=F at g m w1;generalize Ar e=c at g A;have C:∀{K},AE Az (.ptr p 2 0) F K=K (Cx xs):=λ{K}=>AL (p:=2) rfl m (show 2<23 by decide);simp only[BH];rw[C,VF];refine B70 (n:=n+2) Q f (by omega) (by omega) ?_ (L+20) 0 _ F (by omega) (by omega) (.inl ⟨rfl,rfl,rfl⟩) (λ_=>rfl) (λ⟨_,_,_,h⟩=>by cases h) (λ⟨_,_,_,h⟩=>by cases h) m g w1;intro v H B O Y hc;have t:ty.length-1<ty.length:=by omega
 obtain⟨a,w,r⟩:=A5i B t;have y:∀{K},AE A0 (.ptr p 3 0) H K=K (.agg (CN o)):=λ{K}=>GE (p:=3) rfl Y (show 23<=23 by decide);have N:uu ty[ty.length-1]=o:=by rw[X,<-f];simp[List.getD,KL t]
 rw[N]at r;have lc:∀{K},AE Ap (.ptr c 2 0) H K=K v:=λ{K}=>AL (p:=2) rfl hc (show 2<3 by decide);have ln:∀{K:K2},Bp Ap v K=K (I ty.length):=λ{K}=>Ly rfl B;simp only[I3,B6,u,lc,ln,gF (ty:=Ac) (i:=ty.length) (by omega) (by omega),w,r,y,C3W];rw[Ba];exact P _ _ (λb=>by
  obtain⟨q,hq⟩:=mQ (D:=depth-2) (b:=b) B O;exact⟨_,eQ (D:=depth-1) (Ao hq (Ao (q:=false) CA (Ao (q:=false) CA AI)))⟩)
def A8U(j:100<L)(m:WTy L (n+2) ks xs ty)(q:o=uu (ty.getD (xs.length-1) 0))(a:ty.length=xs.length)(p:∀k∈ks,k<52)(hb:ks.length<=6)(hn:1<=xs.length)(d:xs.length<=40)(h1:1<=id)(h2:id<=1000000):
 CS (r! L (n+46)) Gw [.agg (BL id (BS ks) (Cx xs) o)] (Bo true):=by
 intro K i;rw[ZQ];unfold Ot HX;rw[Es (Oh (.inr ⟨_,_,rfl⟩) (.inr ⟨_,_,rfl⟩))];have c:=Ax (H:=[]) (x:=Jc id (BS ks) (Cx xs) o) (by simp);generalize ((Ar [],Jc id (BS ks) (Cx xs) o)::([]:Hp))=e at c;have ck:∀{K:K2},Aq (r! L (n+45)) ON [.agg (BL id (BS ks) (Cx xs) o)] e K=K (.tup [RO ty,I 0,I 0]):=λ{K}=>AQ (B3x j m q a p hb hn d h1 h2) (Wl (.inr ⟨_,_,rfl⟩) (.inr ⟨_,_,rfl⟩));have h:∀{K:K2},CV (.tup [RO ty,I 0,I 0]) 2 K=K (I 0):=λ{K}=>r_ rfl;have f:∀{K:K2},CV (.tup [RO ty,I 0,I 0]) 0 K=K (RO ty):=λ{K}=>r_ rfl;have g:∀{K:K2},CV (.tup [RO ty,I 0,I 0]) 1 K=K (I 0):=λ{K}=>r_ rfl;rw[Br rfl rfl c,ck,f,g,h,zU];exact i _ _ (λb=>⟨false,λK=>by kernel_rfl⟩)
end
end
section
variable{H:Hp}{i p:Nat}
variable{L n:Nat}
def Sw:Ha:=[112,114,111,99,101,100,117,114,101,32]
def tO:Ha:=[103,105,118,101,110,32]
def B9H:Ha:=[111,117,116,112,117,116,32]
def rG(k:Nat):Ha:=tO++L5 k++[10]
def wB(t:Ha):Ha:=t++[10]
def tK(id:Nat)(ks:Hb)(ts:List Ha)(o:Nat):Ha:=Sw++dg id++[10]++ks.flatMap rG++ts.flatMap wB++B9H++L5 o++[10]
def G6(k:Nat):(L5 k).length<60:=by
 by_cases h:k<52
 ·have:=G9.1 (show((List.range 52).all λk=>decide ((L5 k).length<60))=true by kernel_rfl) k (KT.2 h);simpa using this
 ·have:L5 k=[]:=by
   unfold L5;rw[UT,l1j (Nat.le_of_not_lt h)];rfl
  rw[this];decide
def A4A(k:Nat):(dg k).length<=3:=by
 unfold dg;split
 ·simp
 ·split<;>simp
def B15(ks:Hb):(ks.flatMap rG).length<=67*ks.length:=by
 induction ks with
 |nil=>simp
 |cons k ks ih=>
  have:=G6 k;simp only[oK,Ez,Mr,rG,tO,Rk]at ih⊢;omega
def B0K{ts:List Ha}(h:∀t∈ts,t.length<100):(ts.flatMap wB).length<=100*ts.length:=by
 induction ts with
 |nil=>simp
 |cons t ts ih=>
  have h1:=h t (by simp);have h2:=ih λu a=>h u (by simp[a]);simp only[oK,Ez,Mr,wB,Rk]at h2⊢;omega
def rH{α:Type}{f:α->Ha}(l:List α)(h:i<l.length):(l.take (i+1)).flatMap f=(l.take i).flatMap f++f l[i]:=by
 rw[oJ h,l2l];simp
section
variable{K:KV}{x:Af}{ks:Hb}{ts:List Ha}{xs:List Nd}{id:Int}{o:UD}{s0:Ha}
def B94{a:AV->AV->KV}(e:∀k∈ks,k<52)(hb:ks.length<100)(u:s0.length<1000)(g:Ai H p=some (Jc id (BS ks) (Cx xs) o))(m:a (.ptr p 0 0) (S (s0++ks.flatMap rG)) (I ks.length) H=x):
 ∀(f i:Nat)(w:AV),i<=ks.length->ks.length-i<f->Sb (L+20) (r! L (n+40)) K a f (.ptr p 0 0) (S (s0++(ks.take i).flatMap rG)) (I i) w H=x:=by
 intro f
 induction f with
 |zero=>intro i w _ h;omega
 |succ f ih=>
  intro i w hi v;rw[kY];unfold Sd DI HV A2;have b:∀{s j:Nat}{K:K2},CL j (.ptr s 0 0) K=K (.ptr s j 0):=λ{s j K}=>by rw[fA,Kk]
  have c:∀{K},AE Ap (.ptr p 1 0) H K=K (BS ks):=λ{K}=>AL (p:=1) rfl g (show 1<23 by decide);rw[b,c,Q8];by_cases h:i<ks.length
  ·have q:=B15 (ks.take i);have r:(ks.take i).length<=ks.length:=by simp;omega
   have t:=G6 ks[i];rw[FG (by omega),Co,b,c,jJ h,jH,Vk _ _ _ (e _ (NT h)),Fl,Fk,B7 (by simp only[Ez,Mr,Rk];omega),B7 (by simp only[Ez,Mr,Rk];omega),B7 (by simp only[Ez,Mr,Rk];omega),Dd (by omega)];have d:s0++(ks.take i).flatMap rG++[103,105,118,101,110,32]++L5 ks[i]++[10]=s0++(ks.take (i+1)).flatMap rG:=by
    rw[rH ks h];simp[rG,tO]
   rw[d];exact ih (i+1) _ (by omega) (by omega)
  ·rw[FB (by omega),Ba];have:i=ks.length:=by omega
   subst this;rw[wC];exact m
def B95{c:AV->KV}{u:AV}(r:∀i(h:i<xs.length),PS (r! L (n+41)) J0 [.agg xs[i].cs] (S (ts.getD i [])))(g:∀t∈ts,t.length<100)(e:ts.length=xs.length)(hb:xs.length<100)(C:s0.length<10000)(v:Ai H p=some (Jc id (BS ks) (Cx xs) o))(w:c (.ptr p 0 0) (S (s0++ts.flatMap wB)) H=x):
 ∀(f i:Nat),i<=xs.length->xs.length-i<f->Sc (L+20) (r! L (n+41)) K c f (.ptr p 0 0) (S (s0++(ts.take i).flatMap wB)) u (I i) H=x:=by
 intro f
 induction f with
 |zero=>intro i _ h;omega
 |succ f ih=>
  intro i hi D;rw[kZ];unfold Se DI HV A2;have d:∀{s j:Nat}{K:K2},CL j (.ptr s 0 0) K=K (.ptr s j 0):=λ{s j K}=>by rw[fA,Kk]
  have k:∀{K},AE Az (.ptr p 2 0) H K=K (Cx xs):=λ{K}=>AL (p:=2) rfl v (show 2<23 by decide);rw[d,k,VF];by_cases h:i<xs.length
  ·have a:i<ts.length:=by omega
   have m:ts.getD i []=ts[i]:=by simp[List.getD,KL a]
   have y:=B0K (ts:=ts.take i) λt hm=>g t (l29 hm);have A:(ts.take i).length<=ts.length:=by simp;omega
   have B:=g ts[i] (NT a);have b:=r i h;rw[m]at b;rw[FG (by omega),Co,d,k,rL h,rK,b,B7 (by simp only[Ez,Mr,Rk];omega),B7 (by simp only[Ez,Mr,Rk];omega),Dd (by omega)];have q:s0++(ts.take i).flatMap wB++ts[i]++[10]=s0++(ts.take (i+1)).flatMap wB:=by
    rw[rH ts a];simp[wB]
   rw[q];exact ih (i+1) (by omega) (by omega)
  ·rw[FB (by omega),Ba];have:i=ts.length:=by omega
   subst this;rw[wC];exact w
def B04{i c:Nat}(N:100<L)(f:i<950)(v:CS (r! L (n+44)) FZ [.agg (BL i (BS ks) (Cx xs) (uu c))] (Bo true))(y:∀i(h:i<xs.length),PS (r! L (n+44)) J0 [.agg xs[i].cs] (S (ts.getD i [])))(m:∀t∈ts,t.length<100)(d:ts.length=xs.length)(w:∀k∈ks,k<52)(hb:ks.length<=6)(A:xs.length<=40)(B:c<52):
 CS (r! L (n+45)) JI [.agg (BL i (BS ks) (Cx xs) (uu c))] (.tup [S (tK i ks ts c),I 0]):=by
 intro K u;rw[pR];unfold Up DI A2;rw[Es (Oh (.inr ⟨_,_,rfl⟩) (.inr ⟨_,_,rfl⟩))];have a:=Ax (H:=[]) (x:=Jc i (BS ks) (Cx xs) (uu c)) (by simp);generalize ((Ar [],Jc i (BS ks) (Cx xs) (uu c))::([]:Hp))=e at a;generalize Ar []=p at a;have g:∀{s j:Nat}{K:K2},CL j (.ptr s 0 0) K=K (.ptr s j 0):=λ{s j K}=>by rw[fA,Kk]
 have C:∀{K},AE Ac (.ptr p 0 0) e K=K (I i):=λ{K}=>AL (p:=0) rfl a (show 0<23 by decide);have hv:∀{K:K2},Aq (r! L (n+44)) FZ [.agg (BL i (BS ks) (Cx xs) (uu c))] e K=K (Bo true):=λ{K}=>AQ v (Wl (.inr ⟨_,_,rfl⟩) (.inr ⟨_,_,rfl⟩));have d1:=A4A i;rw[Br rfl rfl a,hv,ntT,Ba,g,C,C4W L (n+34) i f,B7 (by simp only[Ez,Mr,Rk];omega),B7 (by simp only[Ez,Mr,Rk];omega)];simp only[BH];have q:([112,114,111,99,101,100,117,114,101,32]++dg i++[10]:Ha)=(Sw++dg i++[10])++(ks.take 0).flatMap rG:=by simp[Sw]
 rw[q];have b0:(Sw++dg i++[10]).length<=14:=by simp only[Ez,Mr,Rk,Sw];omega
 refine B94 (n:=n+4) w (by omega) (by omega) a ?_ (L+20) 0 _ (by omega) (by omega);have r:(Sw++dg i++[10])++ks.flatMap rG=((Sw++dg i++[10])++ks.flatMap rG)++(ts.take 0).flatMap wB:=by simp
 rw[r];have F:=B15 ks;have b1:((Sw++dg i++[10])++ks.flatMap rG).length<=500:=by rw[Ez];omega
 refine B95 (n:=n+3) y m d (by omega) (by omega) a ?_ (L+20) 0 (by omega) (by omega);have D:∀{K},AE A0 (.ptr p 3 0) e K=K (.agg (CN (uu c))):=λ{K}=>GE (p:=3) rfl a (show 23<=23 by decide);have J:=B0K m;have M:=G6 c;have b2:(((Sw++dg i++[10])++ks.flatMap rG)++ts.flatMap wB).length<=5000:=by rw[Ez];omega
 rw[g,D,Vk _ _ _ B,Fl,Fk,B7 (by rw[Ez];simp only[Mr,Rk] at*;omega),B7 (by rw[Ez];simp only[Mr,Rk] at*;omega),B7 (by rw[Ez,Ez];simp only[Mr,Rk] at*;omega)];exact u _ _ (λb=>⟨false,λK=>by kernel_rfl⟩)
end
end
section
variable{v:AV}{H:Hp}{b p r:Nat}
variable{L n:Nat}
section
variable{K:KV}{x:Af}{ks:Hb}{ts:List Ha}{xs:List Nd}{id:Int}{o:UD}{s0:Ha}
abbrev pks(p:Nat)(id:Int)(ks:Hb)(xs:List Nd)(o:UD):List (Nat×Row):=[(p,Jc id (BS ks) (Cx xs) o)]
def A6g{kp:List (Nat×Row)}{l s:Ha}(h:Bd r kp b l v H)(hb:b<100000000)(g:s.length<1000)(f:∀c a,Bd r kp (b+1000) (l++s) c a->K (.tup [I s.length,.v .nilIface]) a=x):
 (r! L (n+2)).call BI [.ptr r 0 0,S s] H K=x:=by
 have:=h.sz;exact I_ h.bld (by omega) λc a d e=>f c a (h.step d e (by rw[Ez];omega))
def Bd.al{r b e:Nat}{kp:List (Nat×Row)}{l:Ha}{zs vs:Is}(h:Bd r kp b l v H)(hz:vs.length=zs.length):∃a,a=upd ((Ar H,c_ e zs)::H) (Ar H) (c_ e vs)/\Ai a (Ar H)=some (c_ e vs)/\Bd r kp b l v a:=by
 refine⟨_,rfl,AC (Ax (H:=H) (x:=.cells true e zs) (by simp)),⟨(h.bld.cons (y:=.cells true e zs)).upd (by have:=h.bld.lt;omega) (λd=>by have:=h.bld.vlt d;omega),λp c=>?_,h.sz⟩⟩;obtain⟨p1,p2,p3⟩:=h.ks p c;have:=h.bld.wf.lt p1;exact⟨by rw[Ag (by omega)];exact A6 this p1,p2,p3⟩
def B6Y{c:AV->AV->AV->AV->KV}{kp:List (Nat×Row)}(t:∀k∈ks,k<52)(hb:ks.length<100)(s:b<1000000)(w:∀v H,Bd r kp (b+1000*ks.length) (s0++ks.flatMap rG) v H->c (.ptr p 0 0) (.ptr r 0 0) (BS ks) (I ks.length) (I ks.length) H=x):
 ∀(f i:Nat)(v:AV)(H:Hp),i<=ks.length->ks.length-i<f->Bd r kp (b+1000*i) (s0++(ks.take i).flatMap rG) v H->Nj (L+20) (r! L (n+40)) K c f (.ptr p 0 0) (.ptr r 0 0) (BS ks) (I ks.length) (I i) AV.dk AV.dk AV.dk H=x:=by
 intro f
 induction f with
 |zero=>intro i v H _ h;omega
 |succ f ih=>
  intro i v H hi C d;rw[Ys];unfold Nl HV A2;by_cases h:i<ks.length
  ·have B:=G6 ks[i];rw[FG (by omega),Co,jJ h,jH,Bv (cs:=Ga) rfl,BQ (cs:=Ga) (vs:=CN (uu ks[i])) (Ax (by simp)) rfl rfl rfl];obtain⟨A,m,u,g⟩:=d.al (e:=AB) (zs:=Ga) (vs:=CN (uu ks[i])) rfl;rw[<-m,Br rfl rfl u,UV _ _ _ (t _ (NT h)),Fl,Fk,B7 (by simp only[Mr,Rk];omega),B7 (by simp only[Ez,Mr,Rk];omega)];refine A6g (n:=n+38) g (by omega) (by simp only[Ez,Mr,Rk];omega) λy j a=>?_;rw[Dd (by omega)];have q:s0++(ks.take i).flatMap rG++([103,105,118,101,110,32]++L5 ks[i]++[10])=s0++(ks.take (i+1)).flatMap rG:=by
    rw[rH ks h];simp[rG,tO]
   rw[q,kE,<-Nat.mul_succ]at a;exact ih (i+1) y j (by omega) (by omega) a
  ·rw[FB (by omega),Ba];have:i=ks.length:=by omega
   subst this;rw[wC]at d;exact w v H d
def B6Z{m:AV->KV}{kp:List (Nat×Row)}{a w c:AV}(D:∀i(h:i<xs.length),PS (r! L (n+41)) FJ [.agg xs[i].cs] (S (ts.getD i [])))(F:∀t∈ts,t.length<100)(k:ts.length=xs.length)(hb:xs.length<100)(C:b<10000000)(M:∀v H,Bd r kp (b+1000*xs.length) (s0++ts.flatMap wB) v H->m (.ptr p 0 0) (.ptr r 0 0) H=x):
 ∀(f i:Nat)(v:AV)(H:Hp),i<=xs.length->xs.length-i<f->Bd r kp (b+1000*i) (s0++(ts.take i).flatMap wB) v H->Nk (L+20) (r! L (n+41)) K m f (.ptr p 0 0) (.ptr r 0 0) a w c (Cx xs) (I xs.length) (I i) H=x:=by
 intro f
 induction f with
 |zero=>intro i v H _ h;omega
 |succ f ih=>
  intro i v H hi Q q;rw[Yt];unfold Nm HV A2;by_cases h:i<xs.length
  ·have d:i<ts.length:=by omega
   have y:ts.getD i []=ts[i]:=by simp[List.getD,KL d]
   have P:=F ts[i] (NT d);have j:=D i h;rw[y]at j;rw[FG (by omega),Co,rL h,rK,Bv (cs:=L4) rfl,BQ (cs:=L4) (vs:=xs[i].cs) (Ax (by simp)) rfl rfl rfl];obtain⟨O,A,J,s⟩:=q.al (e:=AY) (zs:=L4) (vs:=xs[i].cs) rfl;rw[<-A,Br rfl rfl J,j,B7 (by simp only[Mr,Rk];omega)];refine A6g (n:=n+39) s (by omega) (by simp only[Ez,Mr,Rk];omega) λN u g=>?_;rw[Dd (by omega)];have B:s0++(ts.take i).flatMap wB++(ts[i]++[10])=s0++(ts.take (i+1)).flatMap wB:=by
    rw[rH ts d];simp[wB]
   rw[B,kE,<-Nat.mul_succ]at g;exact ih (i+1) N u (by omega) (by omega) g
  ·rw[FB (by omega),Ba];have:i=ts.length:=by omega
   subst this;rw[wC]at q;exact M v H (k▸q)
def A8V{i a:Nat}(hL:100<L)(C:i<950)(V:CS (r! L (n+46)) Gw [.agg (BL i (BS ks) (Cx xs) (uu a))] (Bo true))(Y:∀i(h:i<xs.length),PS (r! L (n+46)) FJ [.agg xs[i].cs] (S (ts.getD i [])))(ht:∀t∈ts,t.length<100)(A:ts.length=xs.length)(X:∀k∈ks,k<52)(hb:ks.length<=6)(Z:xs.length<=40)(ho:a<52):
 CS (r! L (n+47)) Gx [.agg (BL i (BS ks) (Cx xs) (uu a))] (.tup [S (tK i ks ts a),I 0]):=by
 intro K R;rw[ZR];unfold Ou DI A2;rw[Es (Oh (.inr ⟨_,_,rfl⟩) (.inr ⟨_,_,rfl⟩))];have c:=Ax (H:=[]) (x:=Jc i (BS ks) (Cx xs) (uu a)) (by simp);have w0:=AF (x:=Jc i (BS ks) (Cx xs) (uu a)) Fq;generalize ((Ar [],Jc i (BS ks) (Cx xs) (uu a))::([]:Hp))=f at c w0;generalize Ar []=p at c;have B:∀{s j:Nat}{K:K2},CL j (.ptr s 0 0) K=K (.ptr s j 0):=λ{s j K}=>by rw[fA,Kk]
 have hv:∀{K:K2},Aq (r! L (n+46)) Gw [.agg (BL i (BS ks) (Cx xs) (uu a))] f K=K (Bo true):=λ{K}=>AQ V (Wl (.inr ⟨_,_,rfl⟩) (.inr ⟨_,_,rfl⟩));have d1:=A4A i;rw[Br rfl rfl c,hv,ntT,Ba,Bv (cs:=[.v (.pointer none),zL]) rfl];have D:=Ax (H:=f) (x:=.cells true EA [.v (.pointer none),zL]) (by simp);have y:=w0.lt c;have e:Bd (Ar f) (pks p i ks xs (uu a)) 0 [] Av ((Ar f,c_ EA [.v (.pointer none),zL])::f):=
  ⟨⟨⟨_,.inr rfl,.inl D⟩,.inl ⟨rfl,rfl,rfl⟩,λ⟨_,_,_,h⟩=>(by cases h),AF w0⟩,λq hq=>by
   simp only[XR]at hq;subst hq;exact⟨A6 y c,by simp only;omega,λ⟨_,_,_,h⟩=>(by cases h)⟩,LH _⟩
 generalize ((Ar f,c_ EA [.v (.pointer none),zL])::f)=M at e;generalize Ar f=r at e;have d:∀{b l v H},Bd r (pks p i ks xs (uu a)) b l v H->Ai H p=some (Jc i (BS ks) (Cx xs) (uu a)):=λh=>(h.ks (p,_) (XR.2 rfl)).1;have l0:∀{K},AE Ac (.ptr p 0 0) M K=K (I i):=λ{K}=>AL (p:=0) rfl (d e) (show 0<23 by decide);rw[B,l0,C4O L (n+36) i C,B7 (by simp only[Mr,Rk];omega),B7 (by simp only[Ez,Mr,Rk];omega)];refine A6g (n:=n+44) e (by omega) (by simp only[Ez,Mr,Rk];omega) λv2 F g=>?_;simp only[BH];have l1:∀{K},AE Ap (.ptr p 1 0) F K=K (BS ks):=λ{K}=>AL (p:=1) rfl (d g) (show 1<23 by decide);rw[B,l1,Q8];have O:([]++([112,114,111,99,101,100,117,114,101,32]++dg i++[10]):Ha)=(Sw++dg i++[10])++(ks.take 0).flatMap rG:=by simp[Sw]
 rw[O]at g;refine B6Y (n:=n+6) X (by omega) (b:=0+1000) (by omega) (λv3 J m=>?_) (L+20) 0 v2 F (by omega) (by omega) g;have l2:∀{K},AE Az (.ptr p 2 0) J K=K (Cx xs):=λ{K}=>AL (p:=2) rfl (d m) (show 2<23 by decide);rw[B,l2,VF];have P:(Sw++dg i++[10])++ks.flatMap rG=((Sw++dg i++[10])++ks.flatMap rG)++(ts.take 0).flatMap wB:=by simp
 rw[P]at m;refine B6Z (n:=n+5) Y ht A (by omega) (b:=0+1000+1000*ks.length) (by omega) (λv4 N w=>?_) (L+20) 0 v3 J (by omega) (by omega) m;have lo:∀{K},AE A0 (.ptr p 3 0) N K=K (.agg (CN (uu a))):=λ{K}=>GE (p:=3) rfl (d w) (show 23<=23 by decide);have g3:=G6 a;rw[B,lo,UV _ _ _ ho,Fl,Fk,B7 (by simp only[Mr,Rk];omega),B7 (by simp only[Ez,Mr,Rk];omega)];refine A6g (n:=n+44) w (by omega) (by simp only[Ez,Mr,Rk];omega) λv5 H5 u=>?_;have Q:((Sw++dg i++[10])++ks.flatMap rG)++ts.flatMap wB++([111,117,116,112,117,116,32]++L5 a++[10])=tK i ks ts a:=by simp[tK,B9H]
 rw[Q]at u;have z1:=u.sz;obtain⟨H6,hs⟩:=A0y (n:=n+45) u.bld (by unfold tK;rw[Ez];simp only[Mr,Rk];omega) (by omega);rw[hs];exact R _ _ (λb=>⟨false,λK=>by kernel_rfl⟩)
end
end
end Go.Abs
end
