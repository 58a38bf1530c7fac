import Derived.Test.YtojijcneheboaaaGreatDoorP11
import Derived.Test.YtojijcneheboaaaGreatDoorP12
import Derived.Test.YtojijcneheboaaaGreatDoorP13
import Derived.Test.YtojijcneheboaaaGreatDoorP14
set_option linter.all false
set_option maxHeartbeats 0
noncomputable section
namespace Go.Abs
open Go.RowKit Go.Proofs
set_option maxRecDepth 100000
section
variable{H:Hp}{k4:Ru}{t:Int×Int}
variable{L n:Nat}
attribute [local irreducible] Aj rt jQ eBi eEq cnd Ap PW A2
def B4G(h: -8<=t.2/\t.2<=8/\t.2≠0):PS (rt (L+20) (n+41)) J5 [.agg (MC t)] (Bo false):=by
 refine CS.ps (λK a=>?_) (λH=>λK=>by kernel_rfl);have h1:PO (rt (L+20) (n+40)) DQ [.agg (qa t.2)] (Bo true):=(nJ (by omega) (by omega)).o;have h2:PO (rt (L+20) (n+40)) NO [.agg (qa t.2)] (Bo false):=by
  have:=(B0K (L:=L) (n:=n) (z:=t.2) (by omega) (by omega)).o;rw[KD h.2.2]at this;exact this
 rewrite[WM];unfold Mt XA3
 try rewrite[zO]
 try rewrite[bO]
 try rewrite[qO]
 try rewrite[cO]
 generalize rt (L+20) (n+40)=R at*
 conv=>lhs;whnf
 rewrite[h1]
 conv=>lhs;whnf
 rewrite[h2]
 conv=>lhs;whnf
 exact a _ _ (λb=>⟨false,λK=>by kernel_rfl⟩)
abbrev nI:AV:=.fn (.func J5) [] []
abbrev A6Y:AV:=.fn (.func XA5) [] []
section
variable{ts:Yj}{K:KV}{x:Af}
def lTm{K:K2}:A7 B1 (.iptr (MC t)) H K=K (.agg (MC t)):=id rfl
def B2D(a:TmsOk ts):∀(f i:Nat),i<=ts.length->ts.length-i<f->
 DW (L+20) (rt (L+20) (n+41)) K k4 f (DD ts) nI (I ts.length) (I i) H=k4 H:=by
 have hb:=a.len;intro f
 induction f with
 |zero=>intro i _ h;omega
 |succ f ih=>
  intro i e d;rw[Jw];unfold DX HN Az;by_cases h:i<ts.length
  ·have hr:=a.rng _ (Of h);rw[Fo (by omega),CA,SG h,lTm];have c:∀K,C7 (E (L+20)) (rt (L+20) (n+41)) nI [.agg (MC ts[i])] H K=Aj (rt (L+20) (n+41)) J5 [.agg (MC ts[i])] H λv=>K v H:=λK=>by kernel_rfl
   rw[c,B4G hr.2.2,Bm,Dg (by omega)];exact ih (i+1) (by omega) (by omega)
  ·rw[XA2 (by omega),Bm]
def A1k(c:TmsOk ts):CS (rt (L+20) (n+43)) DK [DD ts,nI] (Bo false):=by
 have hb:=c.len;intro K a;rw[Jj];unfold DI NW;have e:CS (rt (L+20) (n+42)) Gs [DD ts,nI] (I (-1)):=by
  intro K a;rw[JF];unfold Ej Az;simp only[BJ];have d:(AV.v (.int .i64 0))=I ((0:Nat):Int):=rfl;rw[NR,d,B2D c _ 0 (by omega) (by omega)];exact a _ _ (λb=>⟨false,λK=>by kernel_rfl⟩)
 rw[AE (q:=false) e (λK=>by cases ts<;>kernel_rfl),NT];exact a _ _ (λb=>⟨false,λK=>by kernel_rfl⟩)
def A6A:PS (rt (L+20) (n+1)) XA5 [.agg (MC t)] (I t.1):=by
 refine CS.ps (λK a=>?_) (λH=>λK=>by kernel_rfl);rewrite[ZS];unfold PN XA3
 try rewrite[zO]
 try rewrite[bO]
 try rewrite[qO]
 try rewrite[cO]
 generalize rt (L+20) (n+0)=R at*
 conv=>lhs;whnf
 exact a _ _ (λb=>⟨false,λK=>by kernel_rfl⟩)
def B6w(k:TmsOk ts)(A:∀H,k4 H=x):∀(f i:Nat)(H:Hp),i<=ts.length->ts.length-i<f->Wf H->
 GW (L+20) (rt (L+20) (n+1)) K k4 f (DD ts) A6Y (DD ts) (I ts.length) (I i) H=x:=by
 have hb:=k.len;intro f
 induction f with
 |zero=>intro i H _ h;omega
 |succ f ih=>
  intro i H D C w;rw[Oi];unfold GX HN BK JD Az MS Fk;by_cases h:i<ts.length
  ·have hr:=k.rng _ (Of h);rw[Fo (by omega),CA,SG h,lTm,AP (cs:=[zI,zS,zS]) rfl];have g:=Av (H:=H) (x:=.cells true AT [zI,zS,zS]) (by simp);rw[Bv (vs:=MC ts[i]) g rfl rfl rfl];have c:=A5 (q:=true) (e:=AT) (cs:=MC ts[i]) g;have w1:=Bs (r:=Ax H) (y:=.cells true AT (MC ts[i])) (AM (x:=.cells true AT [zI,zS,zS]) w);generalize upd ((Ax H,c_ AT [zI,zS,zS])::H) (Ax H) (c_ AT (MC ts[i]))=a at c w1;generalize Ax H=r at c;have m1:∀K,A7 B1 (.ptr r 0 0) a K=K (.agg (MC ts[i])):=λK=>Dl (p:=0) rfl c (show 3<=3 from Oj _);have s:∀(t:Int×Int)(K:KV),C7 (E (L+20)) (rt (L+20) (n+1)) A6Y [.agg (MC t)] a K=K (I t.1) a:=λt K=>by
    have:C7 (E (L+20)) (rt (L+20) (n+1)) A6Y [.agg (MC t)] a K=Aj (rt (L+20) (n+1)) XA5 [.agg (MC t)] a λv=>K v a:=by kernel_rfl
    rw[this,A6A]
   have i1:∀K,Ap Ac .lss (I ts[i].1) (.v (.int .i64 1)) K=K (Bo false):=λK=>XA2 (by omega);have i2:∀K,Ap Ac .gtr (I ts[i].1) (.v (.int .i64 1000000)) K=K (Bo false):=λK=>by rw[DB,KD (by omega)]
   rw[m1,s];simp only[i1,i2,gT,Ck,ZG];by_cases j:0<i
   ·have m:∀K,Ap Ac .gtr (I (i:Int)) (.v (.int .i64 0)) K=K (Bo true):=λK=>by rw[DB,Ki (by omega)]
    have d:i-1<ts.length:=by omega
    have mm:∀K,zF false (I ((i-1:Nat):Int)) (.v (.int .i64 0)) K=K (I ((i-1:Nat):Int)):=λK=>by
     have e:zF false (I ((i-1:Nat):Int)) (.v (.int .i64 0)) K=ck (decide (IntKind.i64=IntKind.i64)) (@Bool.rec (λ_=>Af) (K (.v (.int .i64 0))) (K (I ((i-1:Nat):Int))) (lH 0 ((i-1:Nat):Int))):=rfl;rw[e,KE,Ki (Int.natCast_nonneg _)];rfl
    have u:ts[i-1].1<ts[i].1:=(l20.1 k.asc) (i-1) i d h (by omega);have B:∀K,Ap Ac .geq (I ts[i-1].1) (I ts[i].1) K=K (Bo false):=λK=>by rw[NT,KD (by omega)]
    simp only[m,Ck,gT,nY j (by omega:i<1000000000),mm,SG d,lTm,s,B,Xu,ZG];rw[Bm,Dg (by omega)];exact ih (i+1) a (by omega) (by omega) w1
   ·have m:∀K,Ap Ac .gtr (I (i:Int)) (.v (.int .i64 0)) K=K (Bo false):=λK=>by rw[DB,KD (by omega)]
    simp only[m,Ck,gT,Z_,Xu,ZG];rw[Bm,Dg (by omega)];exact ih (i+1) a (by omega) (by omega) w1
  ·rw[XA2 (by omega),Bm];exact A H
def A4A(a:TmsOk ts):CS (rt (L+20) (n+2)) Hw [DD ts,A6Y] (Bo true):=by
 have hb:=a.len;intro K d;rw[OE];unfold Hr Az MS;simp only[BJ];have c:(AV.v (.int .i64 0))=I ((0:Nat):Int):=rfl;rw[NR,c];exact B6w a (λH=>d _ _ (λb=>⟨false,λK=>by kernel_rfl⟩)) (L+20) 0 [] (by omega) (by omega) E1
def A1g{c r:Int}(i: -80<=c)(j:c<=80)(k:0<=r)(m:r<=8)(a:TmsOk ts):CS (rt (L+20) (n+44)) KJ [.agg (Lp (qn c) (qd c) (DD ts) (qn r) (qd r))] (Bo true):=by
 intro K g;have hb:=a.len;have h1:PO (rt (L+20) (n+43)) DQ [.agg (qa c)] (Bo true):=(nJ (n:=n+3) (by omega) (by omega)).o;have h2:PO (rt (L+20) (n+43)) DQ [.agg (qa r)] (Bo true):=(nJ (n:=n+3) (by omega) (by omega)).o;have d:PO (rt (L+20) (n+43)) Pv [.agg (qa r)] (I (if r=0 then 0 else 1)):=(B0L (n:=n+3) (by omega) (by omega)).o;have e:LS (rt (L+20) (n+43)) Hw [DD ts,A6Y] (Bo true):=(A4A (n:=n+41) a).ls;have f:LS (rt (L+20) (n+43)) DK [DD ts,nI] (Bo false):=(A1k (n:=n) a).ls;have hz:ts=[]\/∃t l,ts=t::l:=by cases ts with|nil=>exact .inl rfl|cons t l=>exact .inr ⟨t,l,rfl⟩
 rcases hz with rfl|⟨t,l,rfl⟩
 all_goals
  rewrite[gM];unfold R5 XA3
  try rewrite[zO]
  try rewrite[bO]
  try rewrite[qO]
  try rewrite[cO]
  generalize rt (L+20) (n+43)=R at*
  conv=>lhs;whnf
  rewrite[h1]
  conv=>lhs;whnf
  rewrite[h2]
  conv=>lhs;whnf
  rewrite[d]
  conv=>lhs;whnf
  rewrite[A3T ?hc]
  case hc=>(split<;>omega)
  conv=>lhs;whnf
  rewrite[A3M ?hc]
  case hc=>(first|decide|(have h:l.length+1<=6:=hb;show((l.length+1:Nat):Int)<=64;omega))
  conv=>lhs;whnf
  rewrite[(e) false _ _ ?hq]
  case hq=>exact λK=>by kernel_rfl
  conv=>lhs;whnf
  rewrite[(f) false _ _ ?hq]
  case hq=>exact λK=>by kernel_rfl
  conv=>lhs;whnf
  exact g _ _ (λb=>⟨false,λK=>by kernel_rfl⟩)
end
end
section
variable{v:AV}{H:Hp}{r:Nat}{y:Row}
variable{L n:Nat}{K:KV}{x:Af}
structure Bld(r:Nat)(l:Ha)(v:AV)(H:Hp):Prop where
 at_:∃tw:Nat,(tw=GA\/tw=Ee)/\(Al H r=some (c_ tw [.v (.pointer none),v])\/Al H r=some (c_ tw [.ptr r 0 0,v]))
 sl:AZ H Bk 1 v l.length (L3 l)
 ne:¬A6 v r
 wf:Wf H
structure Kp(r:Nat)(v:AV)(H:Hp)(v':AV)(H':Hp):Prop where
 keep:∀u y,Al H u=some y->u≠r->¬A6 v u->Al H' u=some y
 new:∀u,A6 v' u->A6 v u\/Ax H<=u
 nx:Ax H<=Ax H'
def Kp.refl(r:Nat)(v:AV)(H:Hp):Kp r v H v H:=⟨λ_ _ h _ _=>h,λ_ h=>.inl h,Oj _⟩
def Kp.trans{v g c:AV}{H e a:Hp}(w:Wf H)(h:Kp r v H g e)(k:Kp r g e c a):Kp r v H c a:=
 ⟨λu y d h1 h2=>k.keep u y (h.keep u y d h1 h2) h1 (λi=>by
  rcases h.new u i with f|f
  ·exact h2 f
  ·have:=w.lt d;omega),
  λu d=>by
   rcases k.new u d with h1|h1
   ·exact h.new u h1
   ·exact .inr (by have:=h.nx;omega),gP h.nx k.nx⟩
theorem Bld.upd{r s:Nat}{l:Ha}(h:Bld r l v H)(h1:s≠r)(h2:¬A6 v s):Bld r l v (upd H s y):=
 ⟨by rw[Ah h1.symm];exact h.at_,h.sl.lat h.wf (Lat.upd H s y (P:=λu=>u=s) rfl) (λu a e=>h2 (e▸a)),h.ne,Bs h.wf⟩
theorem Bld.cons{l:Ha}(h:Bld r l v H):Bld r l v ((Ax H,y)::H):=by
 refine⟨?_,h.sl.lat h.wf (Lat.cons H y (λ_=>False)) (λ_ _ h=>h),h.ne,AM h.wf⟩;obtain⟨c,a,h1|h1⟩:=h.at_
 ·exact⟨c,a,.inl (AK (h.wf.lt h1) h1)⟩
 ·exact⟨c,a,.inr (AK (h.wf.lt h1) h1)⟩
def wV{l s:Ha}(h:Bld r l v H)(hb:l.length+s.length<1000000000)(hx:∀i t,Bld r (l++s) i t->Kp r v H i t->K (.tup [I s.length,.v .nilIface]) t=x):(r! L (n+2)).call B5 [.ptr r 0 0,S s] H K=x:=by
 rw[MR];unfold FW E0;rw[NZ];unfold GH E0;have J:∀K:K2,Cl 0 (.ptr r 0 0) K=K (.ptr r 0 0):=λK=>id rfl;have a1:∀K:K2,Cl 1 (.ptr r 0 0) K=K (.ptr r 1 0):=λK=>id rfl;obtain⟨w,m,Q⟩:=h.at_;have main:∀j,Al j r=some (c_ w [.ptr r 0 0,v])->Bld r l v j->Kp r v H v j->(Ox (.ptr r 0 0) λv3=>Cl 1 v3 λv4=>A7 AN v4 j λv5=>Ed Bk 1 AY Ag v5 (S s) j λv6 X=>
  Ox (.ptr r 0 0) λv8=>Cl 1 v8 λv9=>Dr AN v9 v6 X λF=>Bh Ag (S s) λR=>K (.tup [R,.v .nilIface]) F)=x:=λj k c O=>by
  rw[I2,a1,AH (p:=1) rfl k (by simp)];show Ed Bk 1 AY Ag v (S s) j _=x;obtain⟨i,t,h1,h2,V,D⟩:=apt (ie:=AY) (i2:=Ag) c.sl (λK=>B8d (K:=K)) (by rw[Ph];omega) (A4c s) (by decide) rfl rfl (by show(l.length+s.length)*1<=_;omega) (by omega);rw[h1,I2,a1];have A:Al t r=some (c_ w [.ptr r 0 0,v]):=D.keep c.wf r _ k c.ne;have C:=D.wf c.wf;rw[zR]at h2;have g:B2 i=[i]/\AV.one i=true:=by
   rcases h2 with⟨rfl,_⟩|⟨a,b,rfl,_⟩<;>exact⟨rfl,rfl⟩
  rw[Em (q:=true) (e:=w) (cs:=[.ptr r 0 0,v]) A (by simp) rfl g.1 g.2,OP rfl];have Z:=c.wf.lt k;have B:¬A6 i r:=λd=>by have:=V r d;omega
  refine hx i _ ⟨⟨w,m,.inr (A5 A)⟩,?_,B,Bs C⟩ ?_
  ·rw[EJ];exact h2.lat C (Lat.upd t r _ (P:=λu=>u=r) rfl) (λu d e=>B (e▸d))
  ·refine O.trans h.wf ⟨λu y d hn hv=>?_,λu d=>.inr (by rw[V u d];exact Oj _),by rw[BV];exact D.nx⟩;rw[Ah hn];exact D.keep c.wf u y d hv
 rw[I2,J];rcases Q with f|f
 ·rw[AH (p:=0) rfl f (by simp)];show dY BR B6 .eql (.v (.pointer none)) (.v (.pointer none)) _=x;have M:∀K:K2,dY BR B6 .eql (.v (.pointer none)) (.v (.pointer none)) K=K (Bo true):=λK=>id rfl;rw[M,CA];have N:∀K:K2,A0m B6 (.ptr r 0 0) H K=K (.ptr r 0 0):=λK=>by
   have:A0m B6 (.ptr r 0 0) H K=IN H r λx=>Ku x λ_ cs=>HD cs 0 λcl=>ck (Nat.blt (Nat.add 0 0) cl&& !Nat.beq B6.size 0) (K (.ptr r 0 0)):=rfl;rw[this,Bq f];rfl
  have Y:∀K:K2,A0h A23 Ee (.ptr r 0 0) H K=K (.ptr r 0 0):=λK=>by
   have:A0h A23 Ee (.ptr r 0 0) H K=IN H r λx=>fJ x λq E cs=>HD cs 0 λcl=>ck (q&&B2n A23 E cl (Nat.add 0 0) Ee) (K (.ptr r 0 0)):=rfl;rw[this,Bq f];rcases m with rfl|rfl<;>rfl
  rw[N,Y,I2,J,Em (q:=true) (e:=w) (cs:=[.v (.pointer none),v]) f (by simp) rfl rfl rfl];refine main _ (A5 f) ⟨⟨w,m,.inr (A5 f)⟩,h.sl.lat h.wf (Lat.upd H r _ (P:=λu=>u=r) rfl) (λu d e=>h.ne (e▸d)),h.ne,Bs h.wf⟩ ⟨λu y d hn _=>by rw[Ah hn];exact d,λu d=>.inl d,by rw[BV];exact Oj _⟩
 ·rw[AH (p:=0) rfl f (by simp)];show dY BR B6 .eql (.ptr r 0 0) (.v (.pointer none)) _=x;have M:∀K:K2,dY BR B6 .eql (.ptr r 0 0) (.v (.pointer none)) K=K (Bo false):=λK=>id rfl;rw[M,Bm,I2,J,AH (p:=0) rfl f (by simp)];show dY BR B6 .neq (.ptr r 0 0) (.ptr r 0 0) _=x;have N:∀K:K2,dY BR B6 .neq (.ptr r 0 0) (.ptr r 0 0) K=K (Bo false):=λK=>by
   have:dY BR B6 .neq (.ptr r 0 0) (.ptr r 0 0) K=ck (Nat.beq r r&&(Nat.beq (Nat.add 0 0) (Nat.add 0 0)&& !Nat.beq B6.size 0)) (K (Bo false)):=rfl;rw[this,ZX];rfl
  rw[N,Bm];exact main H f h (Kp.refl r v H)
end
section
variable{a v v0:AV}{H H0:Hp}{k2:Ru}{zs:List Ha}{e r:Nat}{t:TI}
variable{L n:Nat}{K:KV}{x:Af}
def Sr(H:Hp)(r:Nat)(v a:AV)(cs:Is):Prop:=a=.list cs.length cs\/(a=A1/\cs=[])\/∃k q e,a=.sl 1 k 0 cs.length/\Al H k=some (.cells q e cs)/\k≠r/\¬A6 v k
def Sr.kp{H c:Hp}{v j a:AV}{cs:Is}(h:Sr H r v a cs)(w:Wf H)(k:Kp r v H j c):Sr c r j a cs:=by
 rcases h with h|h|⟨i,q,e,h1,h2,d,f⟩
 ·exact .inl h
 ·exact .inr (.inl h)
 ·refine .inr (.inr ⟨i,q,e,h1,k.keep i _ h2 d f,d,λm=>?_⟩);rcases k.new i m with g|g
  ·exact f g
  ·have:=w.lt h2;omega
def Sr.len{cs:Is}{e z:Nat}{K:K2}(h:Sr H r v a cs)(c:t.d=.slice e z):Bh t a K=K (I cs.length):=by
 obtain⟨s,b,d,zr⟩:=t;simp only at c;subst c;rcases h with rfl|⟨rfl,rfl⟩|⟨i,q,e,rfl,_⟩<;>exact id rfl
def Sr.get{r i:Nat}{cs:Is}{t j:TI}{K:K2}(h:Sr H r v a cs)(c:t.d=.slice e 1)(g:j.d.isAgg=false)(f:i<cs.length):(Dh t a (I i) λp=>A7 j p H K)=K (cs.getD i .dk):=by
 rcases h with rfl|⟨_,rfl⟩|⟨k,q,s,rfl,m,_⟩
 ·rw[Xa c rfl (by omega) (by omega),eS,OQ g]
 ·simp at f
 ·rw[zH c (by omega) (by omega),eS,AH (p:=i) g m f]
def B9g{zs:List Int}(C:zs.length<100)(hz:∀z∈zs, -10<=z/\z<390){l:Ha}(hb:l.length<900000000)(w0:Wf H0)(u:∀m c,Bld r (l++Iv zs) m c->Kp r v0 H0 m c->k2 c=x):∀(f i:Nat)(v:AV)(H:Hp),i<=zs.length->zs.length-i<f->Bld r (l++Iv (zs.take i)) v H->Kp r v0 H0 v H->Sr H r v a (EB zs)->
 FT (L+20) (r! L (n+9)) K k2 f (.ptr r 0 0) a (I zs.length) (I i) H=x:=by
 intro f
 induction f with
 |zero=>intro i v H _ h;omega
 |succ f ih=>
  intro i v H B A k hk q;rw[MP];unfold FU HN Az;by_cases h:i<zs.length
  ·have j:=hz zs[i] (Of h);have p:=Fa (zs.take i);have w:(zs.take i).length<=zs.length:=by simp;omega
   have y:=SE zs[i];rw[Fo (by omega),CA,q.get rfl rfl (by simp[EB];omega),R9 h,J! (L:=L) (n:=n+1) j.1 j.2,CI,CH,I2];have s:∀K:K2,Cl 0 (.ptr r 0 0) K=K (.ptr r 0 0):=λK=>id rfl;rw[s];refine wV (n:=n+7) k (by rw[EJ];omega) λm c d g=>?_;rw[Dg (by omega)];rw[eU,<-vO zs h]at d;exact ih (i+1) m c (by omega) (by omega) d (hk.trans w0 g) (q.kp k.wf g)
  ·rw[XA2 (by omega),Bm];have:i=zs.length:=by omega
   subst this;rw[tN]at k;exact u v H k hk
def A4B{zs:List Int}{l:Ha}(m:100<L)(j:zs.length<100)(hz:∀z∈zs, -10<=z/\z<390)(hb:l.length<900000000)(d:Bld r l v H)(f:Sr H r v a (EB zs))(k:∀g c,Bld r (l++Iv zs) g c->Kp r v H g c->K (.tup []) c=x):(r! L (n+10)).call BB [.ptr r 0 0,a] H K=x:=by
 rw[Nv];unfold Gk Az;rw[f.len rfl];simp only[BJ];have h:(AV.v (.int .i64 0))=I ((0:Nat):Int):=rfl;have i:(EB zs).length=zs.length:=by simp[EB]
 rw[h,i];exact B9g (n:=n) j hz hb d.wf k (L+20) 0 v H (by omega) (by omega) (by simpa [Iv] using d) (Kp.refl r v H) f
def B9e(D:zs.length<100)(hz:∀z∈zs,z.length<390){l:Ha}(hb:l.length<900000000)(w0:Wf H0)(w:∀m c,Bld r (l++HE zs) m c->Kp r v0 H0 m c->k2 c=x):∀(f i:Nat)(v:AV)(H:Hp),i<=zs.length->zs.length-i<f->Bld r (l++HE (zs.take i)) v H->Kp r v0 H0 v H->Sr H r v a (AJ zs)->
 GD (L+20) (r! L (n+9)) K k2 f (.ptr r 0 0) a (I zs.length) (I i) H=x:=by
 intro f
 induction f with
 |zero=>intro i v H _ h;omega
 |succ f ih=>
  intro i v H C B j hk k;rw[NX];unfold GE HN Az;by_cases h:i<zs.length
  ·have p:=hz zs[i] (Of h);have q:=EZ (zs.take i) (λs k=>hz s (l24 k));have y:(zs.take i).length<=zs.length:=by simp;omega
   have A:(yZ zs[i]).length<=400:=by unfold yZ;rw[EJ];have:=SE (zs[i].length:Int);omega
   rw[Fo (by omega),CA,k.get rfl rfl (by simp[AJ];omega),Ot h,J' L n p,CI,CH,I2];have u:∀K:K2,Cl 0 (.ptr r 0 0) K=K (.ptr r 0 0):=λK=>id rfl;rw[u];refine wV (n:=n+7) j (by rw[EJ];omega) λm c d g=>?_;rw[Dg (by omega)];rw[eU,<-vN zs h]at d;exact ih (i+1) m c (by omega) (by omega) d (hk.trans w0 g) (k.kp j.wf g)
  ·rw[XA2 (by omega),Bm];have:i=zs.length:=by omega
   subst this;rw[tN]at j;exact w v H j hk
def wW{l:Ha}(m:100<L)(j:zs.length<100)(hz:∀z∈zs,z.length<390)(hb:l.length<900000000)(d:Bld r l v H)(f:Sr H r v a (AJ zs))(k:∀g c,Bld r (l++HE zs) g c->Kp r v H g c->K (.tup []) c=x):(r! L (n+10)).call Ca [.ptr r 0 0,a] H K=x:=by
 rw[OA];unfold Ho Az;rw[f.len rfl];simp only[BJ];have h:(AV.v (.int .i64 0))=I ((0:Nat):Int):=rfl;have i:(AJ zs).length=zs.length:=by simp[AJ]
 rw[h,i];exact B9e (n:=n) j hz hb d.wf k (L+20) 0 v H (by omega) (by omega) (by simpa [HE] using d) (Kp.refl r v H) f
end
section
variable{v:AV}{q:Bool}{H:Hp}{e i k r:Nat}
variable{L n:Nat}{K:KV}{x:Af}
abbrev Rts:=List (Ha×Ha)
def rtC(q:Ha×Ha):Is:=[S q.1,S q.2]
def Qu(l:Rts):Ha:=(l.map λq=>HE [q.1,q.2]).flatten
def A5t(l:Rts)(h:i<l.length):Qu (l.take (i+1))=Qu (l.take i)++HE [l[i].1,l[i].2]:=by
 unfold Qu;rw[tO h,Yr,List.flatten_append];simp only[VC,List.map_nil,l18,List.flatten_nil,YV]
def NP(l:Rts)(h:∀q∈l,q.1.length<390/\q.2.length<390):(Qu l).length<=800*l.length:=by
 induction l with
 |nil=>simp[Qu]
 |cons s l ih=>
  have a:=ih (λs d=>h s (by simp[d]));have c:=EZ [s.1,s.2] (by simp;exact h s (by simp));simp only[Qu,VC,l18,EJ,Kj,PQ]at a c⊢;omega
def Kp.cons{y:Row}(w:Wf H):Kp r v H v ((Ax H,y)::H):=⟨λu z a _ _=>AK (w.lt a) a,λu a=>.inl a,l1p _⟩
theorem Bld.lt{l:Ha}(h:Bld r l v H):r<Ax H:=by obtain⟨_,_,h1|h1⟩:=h.at_<;>exact h.wf.lt h1
def Bld.vlt{r u:Nat}{l:Ha}(h:Bld r l v H)(a:A6 v u):u<Ax H:=h.sl.lt h.wf a
def B8j{r m i:Nat}{K:K2}(h:i<m):Dh Iw (.sl 2 r 0 m) (I i) K=K (.ptr r (2*i) 0):=by
 have a:Dh Iw (.sl 2 r 0 m) (I (i:Int)) K=iN (i:Int) λk=>ck (Nat.blt k m) (fN (Nat.add 0 (Nat.mul k 2)) λq=>K (.ptr r q 0)):=rfl;rw[a,JH,D5];have h2:Nat.blt i m=true:=by rw[VD];exact h
 have c:Nat.add 0 (Nat.mul i 2)=2*i:=by show 0+i*2=_;omega
 rw[h2,c];rfl
def B9f{rs:Rts}{k2:Ru}(hl:rs.length<100)(hz:∀z∈rs,z.1.length<390/\z.2.length<390){l:Ha}(hL:100<L)(hb:l.length<800000000){v0:AV}{H0:Hp}(w0:Wf H0)(R:k≠r)(hx:∀J w,Bld r (l++Qu rs) J w->Kp r v0 H0 J w->k2 w=x):∀(f i:Nat)(v:AV)(H:Hp),i<=rs.length->rs.length-i<f->Bld r (l++Qu (rs.take i)) v H->Kp r v0 H0 v H->Al H k=some (.cells q e (rs.flatMap rtC))->¬A6 v k->
 Gg (L+20) (r! L (n+10)) K k2 f (.ptr r 0 0) (.sl 2 k 0 rs.length) (I rs.length) (I i) H=x:=by
 intro f
 induction f with
 |zero=>intro i v H _ h;omega
 |succ f ih=>
  intro i v H hi hf g hk D F;rw[Nj];unfold Gh E0 HN Az;by_cases h:i<rs.length
  ·have X:=hz rs[i] (Of h);have Z:=NP (rs.take i) (λs D=>hz s (l24 D));have h5:(rs.take i).length<=rs.length:=by simp;omega
   rw[Fo (by omega),CA,B8j h];have O:=dI rtC 2 (λ_=>rfl) rs;have N:=dJ rtC 2 (λ_=>rfl) rs i h;have V:∀K,A7 Aw (.ptr k (2*i) 0) H K=K (.agg (rtC rs[i])):=λK=>by
    rw[Dl (p:=2*i) rfl D (by rw[O];show 2*i+2<=_;omega),Nat.mul_comm 2 i];show K (.agg (((rs.flatMap rtC).drop (i*2)).take 2))=_;rw[N]
   rw[V,AP (cs:=[zS,zS]) rfl];have C:=Av (H:=H) (x:=.cells true Bf [zS,zS]) (by simp);rw[Bv (vs:=rtC rs[i]) C rfl rfl rfl];have j:=A5 (q:=true) (e:=Bf) (cs:=rtC rs[i]) C;have aa:=g.lt;have c:=(g.cons (y:=.cells true Bf [zS,zS])).upd (s:=Ax H) (y:=.cells true Bf (rtC rs[i])) (by omega) (λd=>by have:=g.vlt d;omega);have B:Kp r v H v (upd ((Ax H,c_ Bf [zS,zS])::H) (Ax H) (c_ Bf (rtC rs[i]))):=⟨λu y d h1 h2=>by
    have:=g.wf.lt d;rw[Ah (by omega)];exact AK this d,λu d=>.inl d,by rw[BV];exact l1p _⟩
   generalize upd ((Ax H,c_ Bf [zS,zS])::H) (Ax H) (c_ Bf (rtC rs[i]))=a at j c B;generalize Ax H=t at j;have g0:∀K:K2,Cl 0 (.ptr t 0 0) K=K (.ptr t 0 0):=λK=>id rfl;have g1:∀K:K2,Cl 1 (.ptr t 0 0) K=K (.ptr t 1 0):=λK=>id rfl;have m0:∀K,A7 Ag (.ptr t 0 0) a K=K (S rs[i].1):=λK=>AH (p:=0) rfl j (show 0<2 by decide);have m1:∀K,A7 Ag (.ptr t 1 0) a K=K (S rs[i].2):=λK=>AH (p:=1) rfl j (show 1<2 by decide);rw[g0,m0,g1,m1];have bs:∀K:KV,Gt Ao 1 Ag 2 [(0,1,S rs[i].1),(1,1,S rs[i].2)] a K=K (.sl 1 (Ax a) 0 2) ((Ax a,.cells false Ao (AJ [rs[i].1,rs[i].2]))::a):=λK=>by
    have e:Gt Ao 1 Ag 2 [(0,1,S rs[i].1),(1,1,S rs[i].2)] a K=HV a λs=>K (.sl 1 s 0 2) ((s,.cells false Ao (AJ [rs[i].1,rs[i].2]))::a):=rfl;rw[e,BW]
   rw[bs];have M:=c.cons (y:=.cells false Ao (AJ [rs[i].1,rs[i].2]));have Q:Kp r v H v ((Ax a,.cells false Ao (AJ [rs[i].1,rs[i].2]))::a):=B.trans g.wf (Kp.cons c.wf);refine wW (n:=n) hL (zs:=[rs[i].1,rs[i].2]) (by simp) (by simp;exact X) (by rw[EJ];omega) M (.inr (.inr ⟨Ax a,false,Ao,rfl,Av (by simp),by have:=c.lt;omega,λd=>by have:=c.vlt d;omega⟩)) λJ w A P=>?_;rw[Dg (by omega)];rw[eU,<-A5t rs h]at A;have m:=Q.trans g.wf P;refine ih (i+1) J w (by omega) (by omega) A (hk.trans w0 m) (m.keep k _ D R F) (λd=>?_);rcases m.new k d with Y|Y
   ·exact F Y
   ·have:=g.wf.lt D;omega
  ·rw[XA2 (by omega),Bm];have:i=rs.length:=by omega
   subst this;rw[tN]at g;exact hx v H g hk
def A6E{rs:Rts}{l:Ha}(m:100<L)(p:rs.length<100)(hz:∀z∈rs,z.1.length<390/\z.2.length<390)(hb:l.length<800000000)(f:Bld r l v H)(c:k≠r)(s:Al H k=some (.cells q e (rs.flatMap rtC)))(d:¬A6 v k)(t:∀g a,Bld r (l++Qu rs) g a->Kp r v H g a->K (.tup []) a=x):(r! L (n+11)).call Cw [.ptr r 0 0,.sl 2 k 0 rs.length] H K=x:=by
 rw[Ob];unfold GJ Az;have j:∀K,Bh Iw (.sl 2 k 0 rs.length) K=K (I rs.length):=λK=>id rfl;rw[j];simp only[BJ];have h:(AV.v (.int .i64 0))=I ((0:Nat):Int):=rfl;rw[h];exact B9f (n:=n) p hz m hb f.wf c t (L+20) 0 v H (by omega) (by omega) (by simpa [Qu] using f) (Kp.refl r v H) s d
end
section
variable{L n:Nat}{K:KV}{x:Af}
structure Bd(r:Nat)(ks:List (Nat×Row))(b:Nat)(l:Ha)(v:AV)(H:Hp):Prop where
 bld:Bld r l v H
 ks:∀p∈ks,Al H p.1=some p.2/\p.1≠r/\¬A6 v p.1
 sz:l.length<=b
def Bd.step{r b e:Nat}{ks:List (Nat×Row)}{l c:Ha}{v d:AV}{H a:Hp}(h:Bd r ks b l v H)(i:Bld r c d a)(k:Kp r v H d a)(m:c.length<=e):Bd r ks e c d a:=
 ⟨i,λp j=>by
  obtain⟨h1,h2,f⟩:=h.ks p j;refine⟨k.keep p.1 _ h1 h2 f,h2,λq=>?_⟩;rcases k.new p.1 q with g|g
  ·exact f g
  ·have:=h.bld.wf.lt h1;omega,m⟩
def Bd.less{r b:Nat}{ks:List (Nat×Row)}{p:Nat×Row}{l:Ha}{v:AV}{H:Hp}(h:Bd r (p::ks) b l v H):Bd r ks b l v H:=⟨h.bld,λq hq=>h.ks q (List.mem_cons_of_mem _ hq),h.sz⟩
section
variable{r b:Nat}{ks:List (Nat×Row)}{l:Ha}{v:AV}{H:Hp}
def iW(h:Bd r ks b l v H)(f:100<L)(hb:b<500000000)(zs:List Int)(g:zs.length<100)(hz:∀z∈zs, -10<=z/\z<390)(j:∀c a,Bd r ks (b+50000) (l++Iv zs) c a->K (.tup []) a=x):
 (r! L (n+10)).call BB [.ptr r 0 0,.sl 1 (Ax H) 0 zs.length] ((Ax H,.cells false Gq (EB zs))::H) K=x:=by
 have h1:=h.sz;have h2:=Fa zs;have d:(EB zs).length=zs.length:=by simp[EB]
 refine A4B (n:=n) f g hz (by omega) h.bld.cons (.inr (.inr ⟨Ax H,false,Gq,by rw[d],Av (by simp),by have:=h.bld.lt;omega,λi=>by have:=h.bld.vlt i;omega⟩)) λc a e hk=>?_;exact j c a (h.step e ((Kp.cons h.bld.wf).trans h.bld.wf hk) (by rw[EJ];omega))
def A9N(h:Bd r ks b l v H)(e:100<L)(hb:b<500000000)(zs:List Ha)(f:zs.length<100)(hz:∀z∈zs,z.length<390)(i:∀c a,Bd r ks (b+50000) (l++HE zs) c a->K (.tup []) a=x):
 (r! L (n+10)).call Ca [.ptr r 0 0,.sl 1 (Ax H) 0 zs.length] ((Ax H,.cells false Ao (AJ zs))::H) K=x:=by
 have h1:=h.sz;have h2:=EZ zs hz;refine wW (n:=n) e f hz (by omega) h.bld.cons (.inr (.inr ⟨Ax H,false,Ao,by rw[Cb],Av (by simp),by have:=h.bld.lt;omega,λg=>by have:=h.bld.vlt g;omega⟩)) λc a d hk=>?_;exact i c a (h.step d ((Kp.cons h.bld.wf).trans h.bld.wf hk) (by rw[EJ];omega))
def B8G(h:Bd r ks b l v H)(f:100<L)(hb:b<500000000)(zs:List Ha)(a:AV)(g:a=.list zs.length (AJ zs)\/(a=A1/\zs=[]))(i:zs.length<100)(hz:∀z∈zs,z.length<390)(j:∀d c,Bd r ks (b+50000) (l++HE zs) d c->K (.tup []) c=x):
 (r! L (n+10)).call Ca [.ptr r 0 0,a] H K=x:=by
 have h1:=h.sz;have h2:=EZ zs hz;refine wW (n:=n) f i hz (by omega) h.bld ?_ λd c e hk=>j d c (h.step e hk (by rw[EJ];omega));rcases g with rfl|⟨rfl,rfl⟩
 ·exact .inl (by rw[Cb])
 ·exact .inr (.inl ⟨rfl,rfl⟩)
def zV(h:Bd r ks b l v H)(e:100<L)(hb:b<500000000)(rs:Rts)(i:rs.length<50)(hz:∀z∈rs,z.1.length<390/\z.2.length<390)(g:∀c a,Bd r ks (b+50000) (l++Qu rs) c a->K (.tup []) a=x):
 (r! L (n+11)).call Cw [.ptr r 0 0,.sl 2 (Ax H) 0 rs.length] ((Ax H,.cells false Bf (rs.flatMap rtC))::H) K=x:=by
 have h1:=h.sz;have h2:=NP rs hz;refine A6E (n:=n) e (by omega) hz (by omega) h.bld.cons (by have:=h.bld.lt;omega) (Av (by simp)) (λf=>by have:=h.bld.vlt f;omega) λc a d hk=>?_;exact g c a (h.step d ((Kp.cons h.bld.wf).trans h.bld.wf hk) (by rw[EJ];omega))
theorem Bd.cons{y:Row}(h:Bd r ks b l v H):Bd r ks b l v ((Ax H,y)::H):=h.step h.bld.cons (Kp.cons h.bld.wf) h.sz
def B9j(h:Bld r l v H):(r! L (n+1)).call Hl [.ptr r 0 0] H K=K (I l.length) H:=by
 rw[Sh];unfold Jl XA3;have a1:∀K:K2,Cl 1 (.ptr r 0 0) K=K (.ptr r 1 0):=λK=>id rfl;rw[I2,a1];have c:∀K,A7 AN (.ptr r 1 0) H K=K v:=λK=>by
  obtain⟨_,_,a|a⟩:=h.at_<;>exact AH (p:=1) rfl a (by simp)
 rw[c,Kr rfl h.sl]
def I_(h:Bld r l v H)(u:0<l.length)(hb:l.length<1000000000):∃a,∀K,(r! L (n+1)).call Eu [.ptr r 0 0] H K=K (S l) a:=by
 rcases h.sl with⟨_,h1,_⟩|⟨s,q,rfl,t,hc⟩
 ·omega
 ·refine⟨upd H s .gone,λK=>?_⟩;rw[PM];unfold HX XA3;have a1:∀K:K2,Cl 1 (.ptr r 0 0) K=K (.ptr r 1 0):=λK=>id rfl;have i:∀K,A7 AN (.ptr r 1 0) H K=K (.sl 1 s 0 l.length):=λK=>by
   obtain⟨_,_,c|c⟩:=h.at_<;>exact AH (p:=1) rfl c (by simp)
  have j:∀K,A5w (.sl 1 s 0 l.length) K=K (.ptr s 0 0):=λK=>by
   have:A5w (.sl 1 s 0 l.length) K=ck (Nat.beq 1 1&&Nat.blt 0 l.length) (K (.ptr s 0 0)):=rfl;rw[this];have:(Nat.beq 1 1&&Nat.blt 0 l.length)=true:=by simp;omega
   rw[this];rfl
  have k:∀K,Bh AN (.sl 1 s 0 l.length) K=K (I l.length):=λK=>id rfl;have m:∀K:KV,A2p Bk (.ptr s 0 0) (I l.length) H K=K (S l) (upd H s .gone):=λK=>by
   have:A2p Bk (.ptr s 0 0) (I l.length) H K=iN (l.length:Int) λn=>IN H s λx=>Ku x λE cs=>ck (Nat.beq E Bk&&(Nat.blt 0 n&&Nat.blt n 9223372036854775807)) (FI n (D0 (Nat.add 0 0) cs) λd=>fu8 d λl=>JI H s .gone λa=>K (.v (.string ⟨⟨l⟩⟩)) a):=rfl;rw[this,JH,Bq t];show ck (Nat.beq Bk Bk&&(Nat.blt 0 l.length&&Nat.blt l.length 9223372036854775807)) _=_;have g:(Nat.beq Bk Bk&&(Nat.blt 0 l.length&&Nat.blt l.length 9223372036854775807))=true:=by simp;omega
   rw[g];show FI l.length (D0 0 (L3 l)) _=_;have f:∀(l:Ha)(K:Ha->Af),fu8 (L3 l) K=K l:=λl=>by
    induction l with
    |nil=>intro K;rfl
    |cons b l ih=>
     intro K;have e:fu8 (L3 (b::l)) K=iN (b.toNat:Int) λn=>fu8 (L3 l) λl=>K (UInt8.ofNat n::l):=rfl;rw[e,JH,ih];simp
   rw[C9,MH _ _ _ (by rw[tJ,Ph];exact Oj _),tJ,l1z (by rw[Ph];exact Oj _),f,C5]
  simp only[I2,BN,a1,i,j,k,m,Ck]
end
end
section
variable{H:Hp}
variable{L n:Nat}{K:KV}{x:Af}
def tmB(t:Int×Int):Ha:=Iv [t.1]++Qu [(qn t.2,qd t.2)]
def Qi(ts:Yj):Ha:=(ts.map tmB).flatten
def uH(l:Yj){i:Nat}(h:i<l.length):Qi (l.take (i+1))=Qi (l.take i)++tmB l[i]:=by
 unfold Qi;rw[tO h,Yr,List.flatten_append];simp only[VC,List.map_nil,l18,List.flatten_nil,YV]
def XL{z:Int}:Gt Gq 1 Ac 1 [(0,1,I z)] H K=K (.sl 1 (Ax H) 0 1) ((Ax H,.cells false Gq (EB [z]))::H):=by
 have e:Gt Gq 1 Ac 1 [(0,1,I z)] H K=HV H λs=>K (.sl 1 s 0 1) ((s,.cells false Gq (EB [z]))::H):=rfl;rw[e,BW]
def eH{z:Ha}:Gt Ao 1 Ag 1 [(0,1,S z)] H K=K (.sl 1 (Ax H) 0 1) ((Ax H,.cells false Ao (AJ [z]))::H):=by
 have e:Gt Ao 1 Ag 1 [(0,1,S z)] H K=HV H λs=>K (.sl 1 s 0 1) ((s,.cells false Ao (AJ [z]))::H):=rfl;rw[e,BW]
def zU{a b:Ha}:Gt Bf 2 Aw 1 [(0,2,.agg [S a,S b])] H K=K (.sl 2 (Ax H) 0 1) ((Ax H,.cells false Bf (([(a,b)]:Rts).flatMap rtC))::H):=by
 have e:Gt Bf 2 Aw 1 [(0,2,.agg [S a,S b])] H K=HV H λs=>K (.sl 2 s 0 1) ((s,.cells false Bf (([(a,b)]:Rts).flatMap rtC))::H):=rfl;rw[e,BW]
def C1P{r c:Nat}{ks:List (Nat×Row)}{ts:Yj}{g:AV->KV}(P:TmsOk ts)(M:100<L){b:Nat}(hb:b<100000000){l:Ha}(hx:∀v' F,Bd r ks (b+100000*ts.length) (l++Qi ts) v' F->g (.ptr c 0 0) (.ptr r 0 0) F=x):∀(f i:Nat)(v:AV)(H:Hp),i<=ts.length->ts.length-i<f->Bd r ks (b+100000*i) (l++Qi (ts.take i)) v H->
 L1 (L+20) (r! L (n+11)) K g f (.ptr c 0 0) (.ptr r 0 0) (DD ts) (I ts.length) (I i) H=x:=by
 have N:=P.len;intro f
 induction f with
 |zero=>intro i v H _ h;omega
 |succ f ih=>
  intro i v H hi hf a;rw[VV];unfold L2 E0 HN Az;by_cases h:i<ts.length
  ·have hr:=P.rng _ (Of h);rw[Fo (by omega),CA,SG h,lTm,AP (cs:=[zI,zS,zS]) rfl];have u:=Av (H:=H) (x:=.cells true AT [zI,zS,zS]) (by simp);rw[Bv (vs:=MC ts[i]) u rfl rfl rfl];have d:=A5 (q:=true) (e:=AT) (cs:=MC ts[i]) u;have O:=a.bld.lt;have w:=(a.bld.cons (y:=.cells true AT [zI,zS,zS])).upd (s:=Ax H) (y:=.cells true AT (MC ts[i])) (by omega) (λD=>by have:=a.bld.vlt D;omega);have j:Bd r ((Ax H,c_ AT (MC ts[i]))::ks) (b+100000*i) (l++Qi (ts.take i)) v (upd ((Ax H,c_ AT [zI,zS,zS])::H) (Ax H) (c_ AT (MC ts[i]))):=⟨w,λp B=>by
    rcases Qd.1 B with rfl|B
    ·exact⟨d,by simp only;omega,λD=>by have:=a.bld.vlt D;omega⟩
    ·obtain⟨p1,p2,p3⟩:=a.ks p B;have:=a.bld.wf.lt p1;exact⟨by rw[Ah (by omega)];exact AK this p1,p2,p3⟩,a.sz⟩
   generalize upd ((Ax H,c_ AT [zI,zS,zS])::H) (Ax H) (c_ AT (MC ts[i]))=Q at d j;generalize Ax H=t at d j;have Y:∀K:K2,Cl 0 (.ptr t 0 0) K=K (.ptr t 0 0):=λK=>id rfl;have Z:∀K:K2,Cl 1 (.ptr t 0 0) K=K (.ptr t 1 0):=λK=>id rfl;have m0:∀K,A7 Ac (.ptr t 0 0) Q K=K (I ts[i].1):=λK=>AH (p:=0) rfl d (show 0<3 by decide);rw[Y,m0,XL];refine iW (n:=n+1) j M (by omega) [ts[i].1] (by simp) (by simp;omega) λv2 J k=>?_;have C:Al J t=some (c_ AT (MC ts[i])):=(k.ks (t,c_ AT (MC ts[i])) (by simp)).1;have m1:∀K,A7 Aw (.ptr t 1 0) J K=K (.agg (qa ts[i].2)):=λK=>Dl (p:=1) rfl C (show 3<=3 from Oj _);rw[Z,m1,zU];have aa:=Wt (z:=ts[i].2) (by omega) (by omega);have ab:=Wu ts[i].2;refine zV (n:=n) k M (by omega) [(qn ts[i].2,qd ts[i].2)] (by simp) (by simp;omega) λv3 R A=>?_;rw[Dg (by omega)];have V:l++Qi (ts.take i)++Iv [ts[i].1]++Qu [(qn ts[i].2,qd ts[i].2)]=l++Qi (ts.take (i+1)):=by
    rw[uH ts h];simp[tmB]
   have X:b+100000*i+50000+50000=b+100000*(i+1):=by omega
   have m:=A.less;rw[V,X]at m;exact ih (i+1) v3 R (by omega) (by omega) m
  ·rw[XA2 (by omega),Bm];have:i=ts.length:=by omega
   subst this;rw[tN]at a;exact hx v H a
end
section
variable{L n:Nat}
def TN(r:RD)(vd:Int):Ha:=Iv [r.k]++Qu [(r.a1,r.a2),(r.b1,r.b2),(r.c1,r.c2),(r.d1,r.d2)]++Iv [vd]
def ML(kd:Int)(m:ND)(un ca cb:Ha)(ts:Yj)(ra rb:Ha)(ps:List Ha)(pt:Ha)(tail:Ha):Ha:=
 []++Iv [kd,m.lab,m.num,m.itm,m.tim,m.day]++HE [un]++Qu [(ca,cb)]++Iv [(ts.length:Int)]++Qi ts++Qu [(ra,rb)]++Iv [(ps.length:Int)]++HE ps++HE [pt]++tail
def B0I:PS (r! L (n+40)) Yw [.agg [I 0,A1,A1]] (.tup [S [],I 200]):=B3 (λH K=>by kernel_rfl) (by kernel_rfl)
def B0M:PS (r! L (n+40)) Pu [.agg [I 0,A1,A1]] (Bo true):=B3 (λH K=>by kernel_rfl) (by kernel_rfl)
def Dp(ps:List Ha):AV:=match ps with
 |[]=>A1
 |p::ps=>.list (p::ps).length (AJ (p::ps))
section
variable{m:ND}{u o:UD}{ca cb ra rb:Ha}{T P ins nds:AV}{kd id vd:Int}{r:RD}{c:Nat}{H:Hp}{K:K2}
abbrev Ke(kd:Int)(m:ND)(u:UD)(ca cb:Ha)(T:AV)(ra rb:Ha)(P:AV)(id:Int)(ins nds:AV)(o:UD)(r:RD)(vd:Int):Row:=.cells true Ad (C6 kd m u ca cb T ra rb P id ins nds o r vd)
def RZ(f:Sl T)(e:Sl P)(a:Sl ins)(d:Sl nds):(C6 kd m u ca cb T ra rb P id ins nds o r vd).all AV.one=true:=by
 rcases f with rfl|⟨_,_,rfl⟩<;>rcases e with rfl|⟨_,_,rfl⟩<;>rcases a with rfl|⟨_,_,rfl⟩<;>rcases d with rfl|⟨_,_,rfl⟩<;>rfl
def Vz(f:Sl T)(e:Sl P)(a:Sl ins)(d:Sl nds):Py true depth [.agg (C6 kd m u ca cb T ra rb P id ins nds o r vd)] [.agg (C6 kd m u ca cb T ra rb P id ins nds o r vd)] H false:=by
 rcases f with rfl|⟨_,_,rfl⟩<;>rcases e with rfl|⟨_,_,rfl⟩<;>rcases a with rfl|⟨_,_,rfl⟩<;>rcases d with rfl|⟨_,_,rfl⟩<;>exact λK=>by kernel_rfl
def UN(a:Sl ins)(d:Sl nds):Py true depth [.agg (Bp id ins nds o)] [.agg (Bp id ins nds o)] H false:=by
 rcases a with rfl|⟨_,_,rfl⟩<;>rcases d with rfl|⟨_,_,rfl⟩<;>exact λK=>by kernel_rfl
def cA(a:Al H c=some (Ke kd m u ca cb T ra rb P id ins nds o r vd)):A7 Ae (.ptr c 0 0) H K=K (.agg (C6 kd m u ca cb T ra rb P id ins nds o r vd)):=AX rfl rfl a
def cI0(a:Al H c=some (Ke kd m u ca cb T ra rb P id ins nds o r vd)):A7 Ac (.ptr c 0 0) H K=K (I kd):=AH (p:=0) rfl a (show 0<68 by decide)
def cI1(a:Al H c=some (Ke kd m u ca cb T ra rb P id ins nds o r vd)):A7 Ac (.ptr c 1 0) H K=K (I m.lab):=AH (p:=1) rfl a (show 1<68 by decide)
def cI2(a:Al H c=some (Ke kd m u ca cb T ra rb P id ins nds o r vd)):A7 Ac (.ptr c 2 0) H K=K (I m.num):=AH (p:=2) rfl a (show 2<68 by decide)
def cI3(a:Al H c=some (Ke kd m u ca cb T ra rb P id ins nds o r vd)):A7 Ac (.ptr c 3 0) H K=K (I m.itm):=AH (p:=3) rfl a (show 3<68 by decide)
def cI4(a:Al H c=some (Ke kd m u ca cb T ra rb P id ins nds o r vd)):A7 Ac (.ptr c 4 0) H K=K (I m.tim):=AH (p:=4) rfl a (show 4<68 by decide)
def cI5(a:Al H c=some (Ke kd m u ca cb T ra rb P id ins nds o r vd)):A7 Ac (.ptr c 5 0) H K=K (I m.day):=AH (p:=5) rfl a (show 5<68 by decide)
def cU(a:Al H c=some (Ke kd m u ca cb T ra rb P id ins nds o r vd)):A7 Au (.ptr c 6 0) H K=K (.agg (BX u)):=Dl (p:=6) rfl a (show 26<=68 by decide)
def cC(a:Al H c=some (Ke kd m u ca cb T ra rb P id ins nds o r vd)):A7 Aw (.ptr c 26 0) H K=K (.agg ([S ca,S cb])):=Dl (p:=26) rfl a (show 28<=68 by decide)
def cT(a:Al H c=some (Ke kd m u ca cb T ra rb P id ins nds o r vd)):A7 Ay (.ptr c 28 0) H K=K (T):=AH (p:=28) rfl a (show 28<68 by decide)
def cR(a:Al H c=some (Ke kd m u ca cb T ra rb P id ins nds o r vd)):A7 Aw (.ptr c 29 0) H K=K (.agg ([S ra,S rb])):=Dl (p:=29) rfl a (show 31<=68 by decide)
def cP(a:Al H c=some (Ke kd m u ca cb T ra rb P id ins nds o r vd)):A7 Ab (.ptr c 31 0) H K=K (P):=AH (p:=31) rfl a (show 31<68 by decide)
def cPr(a:Al H c=some (Ke kd m u ca cb T ra rb P id ins nds o r vd)):A7 AI (.ptr c 32 0) H K=K (.agg (Bp id ins nds o)):=Dl (p:=32) rfl a (show 55<=68 by decide)
def cRk(a:Al H c=some (Ke kd m u ca cb T ra rb P id ins nds o r vd)):A7 Ac (.ptr c 55 0) H K=K (I r.k):=AH (p:=55) rfl a (show 55<68 by decide)
def cR1(a:Al H c=some (Ke kd m u ca cb T ra rb P id ins nds o r vd)):A7 Aw (.ptr c 56 0) H K=K (.agg ([S r.a1,S r.a2])):=Dl (p:=56) rfl a (show 58<=68 by decide)
def cR2(a:Al H c=some (Ke kd m u ca cb T ra rb P id ins nds o r vd)):A7 Aw (.ptr c 58 0) H K=K (.agg ([S r.b1,S r.b2])):=Dl (p:=58) rfl a (show 60<=68 by decide)
def cR3(a:Al H c=some (Ke kd m u ca cb T ra rb P id ins nds o r vd)):A7 Aw (.ptr c 60 0) H K=K (.agg ([S r.c1,S r.c2])):=Dl (p:=60) rfl a (show 62<=68 by decide)
def cR4(a:Al H c=some (Ke kd m u ca cb T ra rb P id ins nds o r vd)):A7 Aw (.ptr c 62 0) H K=K (.agg ([S r.d1,S r.d2])):=Dl (p:=62) rfl a (show 64<=68 by decide)
def cV(a:Al H c=some (Ke kd m u ca cb T ra rb P id ins nds o r vd)):A7 Ac (.ptr c 64 0) H K=K (I vd):=AH (p:=64) rfl a (show 64<68 by decide)
def cS(a:Al H c=some (Ke kd m u ca cb T ra rb P id ins nds o r vd)):A7 Pi (.ptr c 65 0) H K=K (.agg ([I 0,A1,A1])):=Dl (p:=65) rfl a (show 68<=68 by decide)
def fA{c j k:Nat}:Cl j (.ptr c k 0) K=K (.ptr c (k+j) 0):=by
 have e:Cl j (.ptr c k 0) K=fN (Nat.add k j) λq=>K (.ptr c q 0):=rfl;rw[e,D5];rfl
end
def Zy(ts:Yj)(h:∀t∈ts,(qn t.2).length<390/\(qd t.2).length<390):(Qi ts).length<=900*ts.length:=by
 induction ts with
 |nil=>simp[Qi]
 |cons t l ih=>
  have h1:=ih (λt d=>h t (by simp[d]));have h2:=Fa [t.1];have a:=NP [(qn t.2,qd t.2)] (by simp;exact h t (by simp));simp only[Qi,VC,l18,EJ,Kj,PQ,tmB]at h1 h2 a⊢;omega
def Bd.tms0{r b:Nat}{ks:List (Nat×Row)}{l:Ha}{v:AV}{H:Hp}(ts:Yj)(h:Bd r ks b l v H):Bd r ks (b+100000*0) (l++Qi (ts.take 0)) v H:=by
 rw[show Qi (ts.take 0)=[] from rfl,YV];exact h
def B3c(z:Int):0<(enc z).length:=by
 unfold enc A97;split<;>simp
def B3v{a b c d e f:Int}{H:Hp}{K:KV}:Gt Gq 1 Ac 6 [(0,1,I a),(1,1,I b),(2,1,I c),(3,1,I d),(4,1,I e),(5,1,I f)] H K=K (.sl 1 (Ax H) 0 6) ((Ax H,.cells false Gq (EB [a,b,c,d,e,f]))::H):=by
 have g:Gt Gq 1 Ac 6 [(0,1,I a),(1,1,I b),(2,1,I c),(3,1,I d),(4,1,I e),(5,1,I f)] H K=HV H λs=>K (.sl 1 s 0 6) ((s,.cells false Gq (EB [a,b,c,d,e,f]))::H):=rfl;rw[g,BW]
def B3u{a1 a2 b1 b2 c1 c2 d1 d2:Ha}{H:Hp}{K:KV}:Gt Bf 2 Aw 4 [(0,2,.agg [S a1,S a2]),(2,2,.agg [S b1,S b2]),(4,2,.agg [S c1,S c2]),(6,2,.agg [S d1,S d2])] H K=K (.sl 2 (Ax H) 0 4) ((Ax H,.cells false Bf (([(a1,a2),(b1,b2),(c1,c2),(d1,d2)]:Rts).flatMap rtC))::H):=by
 have g:Gt Bf 2 Aw 4 [(0,2,.agg [S a1,S a2]),(2,2,.agg [S b1,S b2]),(4,2,.agg [S c1,S c2]),(6,2,.agg [S d1,S d2])] H K=HV H λs=>K (.sl 2 s 0 4) ((s,.cells false Bf (([(a1,a2),(b1,b2),(c1,c2),(d1,d2)]:Rts).flatMap rtC))::H):=rfl;rw[g,BW]
def RU{ps:List Ha}{K:K2}:Bh Ab (Dp ps) K=K (I ps.length):=by cases ps<;>exact id rfl
section
variable{m:ND}{u o:UD}{ca cb ra rb un pt:Ha}{ts:Yj}{ps:List Ha}{ins nds:AV}{kd id vd pe:Int}{r:RD}
set_option maxHeartbeats 2000000 in
def A1j(w:100<L)(hm:m.ok)(bj:kd=1\/kd=2\/kd=3)(ht:TmsOk ts)(hI:Sl ins)(hN:Sl nds)(hp:ps.length<=6)(ab:∀s∈ps,s.length<390)(ah:un.length<390)(ad:pt.length<390)(hr:r.k=0\/r.k=1\/r.k=2\/r.k=3)(ae:∀q∈[(r.a1,r.a2),(r.b1,r.b2),(r.c1,r.c2),(r.d1,r.d2)],q.1.length<390/\q.2.length<390)(hv:0<=vd/\vd<=3)(bh:ca.length<10/\cb.length<10/\ra.length<10/\rb.length<10)(ar:LS (r! L (n+61)) DL [.agg (C6 kd m u ca cb (DD ts) ra rb (Dp ps) id ins nds o r vd)] (Bo true))(ax:PS (r! L (n+61)) I7 [.agg (BX u)] (.tup [S un,I 0]))(ap:LS (r! L (n+61)) FN [.agg (Bp id ins nds o)] (.tup [S pt,I pe])):
 CS (r! L (n+62)) Mx [.agg (C6 kd m u ca cb (DD ts) ra rb (Dp ps) id ins nds o r vd)] (.tup [S (ML kd m un ca cb ts ra rb ps pt (if kd=3 then TN r vd else[])),I 0]):=by
 intro K hK;obtain⟨q1,q2,q3,q4,q5,q6,q7,q8,q9,bm⟩:=hm;have hT:=G9 ts;have hP:Sl (Dp ps):=by cases ps with|nil=>exact .inl rfl|cons p l=>exact .inr ⟨_,_,rfl⟩
 have bk:=ht.len;rw[WL];unfold Mr E0 Sm BK Az Fk;rw[Fb (RZ hT hP hI hN)];have f:=Av (H:=[]) (x:=Ke kd m u ca cb (DD ts) ra rb (Dp ps) id ins nds o r vd) (by simp);have w0:=AM (x:=Ke kd m u ca cb (DD ts) ra rb (Dp ps) id ins nds o r vd) E1;generalize ((Ax [],Ke kd m u ca cb (DD ts) ra rb (Dp ps) id ins nds o r vd)::([]:Hp))=A at f w0;generalize Ax []=c at f;have af:∀K,Aj (r! L (n+61)) DL [.agg (C6 kd m u ca cb (DD ts) ra rb (Dp ps) id ins nds o r vd)] A K=K (Bo true):=λK=>by rw[zO];exact ar false _ _ (Vz hT hP hI hN) K
 rw[cA f,af,xR,Bm];have f0:∀{j:Nat}{K:K2},Cl j (.ptr c 0 0) K=K (.ptr c j 0):=λ{j K}=>by rw[fA,Kk]
 rw[f0,cS f,B0I (n:=n+21),CI,CH,HF];simp only[show(!decide ((200:Int)=0))=true from rfl,gT,Ck,f0,cS f];simp only[B0M (L:=L) (n:=n+21) A,xR,Ck,Xu];rw[Bm,AP (cs:=[.v (.pointer none),zL]) rfl];have aq:=Av (H:=A) (x:=.cells true GA [.v (.pointer none),zL]) (by simp);have Z:=w0.lt f;have B:Bd (Ax A) [(c,Ke kd m u ca cb (DD ts) ra rb (Dp ps) id ins nds o r vd)] 0 [] A1 ((Ax A,c_ GA [.v (.pointer none),zL])::A):=
  ⟨⟨⟨_,.inl rfl,.inl aq⟩,.inl ⟨rfl,rfl,rfl⟩,λ⟨_,_,_,h⟩=>(by cases h),AM w0⟩,λp hp=>by
   simp only[ZW]at hp;subst hp;exact⟨AK Z f,by simp only;omega,λ⟨_,_,_,h⟩=>(by cases h)⟩,Oj _⟩
 generalize ((Ax A,c_ GA [.v (.pointer none),zL])::A)=H1 at B;generalize Ax A=g at B;have d:∀{b l v H},Bd g [(c,Ke kd m u ca cb (DD ts) ra rb (Dp ps) id ins nds o r vd)] b l v H->Al H c=some (Ke kd m u ca cb (DD ts) ra rb (Dp ps) id ins nds o r vd):=λh=>(h.ks (c,_) (ZW.2 rfl)).1;have a:=d B;simp only[BJ];rw[cI0 a,cI1 a,cI2 a,cI3 a,cI4 a,cI5 a,B3v];refine iW (n:=n+51) B w (by decide) [kd,m.lab,m.num,m.itm,m.tim,m.day] (by simp) (by simp only[Qd,List.mem_nil_iff,or_false];rintro z (rfl|rfl|rfl|rfl|rfl|rfl)<;>omega) λv2 H2 N=>?_;have a:=d N;rw[cU a,ax,CI,CH,eH];refine A9N (n:=n+51) N w (by decide) [un] (by simp) (by simpa using ah) λv3 H3 O=>?_;have a:=d O;have g0:∀{K:K2},Cl 0 (.ptr c 26 0) K=K (.ptr c 26 0):=r_ rfl;have g2:∀{K:K2},Cl 2 (.ptr c 26 0) K=K (.ptr c 28 0):=r_ rfl;have g3:∀{K:K2},Cl 3 (.ptr c 26 0) K=K (.ptr c 29 0):=r_ rfl;rw[g0,cC a,zU];refine zV (n:=n+50) O w (by decide) [(ca,cb)] (by simp) (by simp;omega) λv4 H4 Q=>?_;have a:=d Q;rw[g2,cT a,NR,XL];refine iW (n:=n+51) Q w (by decide) [(ts.length:Int)] (by simp) (by simp;omega) λv5 H5 R=>?_;have a:=d R;rw[g2,cT a,NR];have e0:(AV.v (.int .i64 0))=I ((0:Nat):Int):=rfl;rw[e0];refine C1P (n:=n+50) (c:=c) ht w (b:=200000) (by decide) ?_ (L+20) 0 v5 H5 (by omega) (by omega) (R.tms0 ts);intro v6 H6 i;simp only[f0];have a:=d i;have ao:200000+100000*ts.length<=800000:=by omega
 have i:Bd g [(c,Ke kd m u ca cb (DD ts) ra rb (Dp ps) id ins nds o r vd)] 800000 _ v6 H6:=⟨i.bld,i.ks,gP i.sz ao⟩
 rw[g3,cR a,zU];refine zV (n:=n+50) i w (by decide) [(ra,rb)] (by simp) (by simp;omega) λv7 H7 V=>?_;have a:=d V;rw[cP a,RU,XL];refine iW (n:=n+51) V w (by decide) [(ps.length:Int)] (by simp) (by simp;omega) λv8 H8 X=>?_;have a:=d X;rw[cP a];refine B8G (n:=n+51) X w (by decide) ps (Dp ps) (by cases ps with|nil=>exact .inr ⟨rfl,rfl⟩|cons p l=>exact .inl rfl) (by omega) ab λv9 H9 Y=>?_;have a:=d Y;have ac:∀K,Aj (r! L (n+61)) FN [.agg (Bp id ins nds o)] H9 K=K (.tup [S pt,I pe]):=λK=>by rw[zO];exact ap false _ _ (UN hI hN) K
 rw[cPr a,ac,CI,CH,eH];refine A9N (n:=n+51) Y w (by decide) [pt] (by simp) (by simpa using ad) λay ak y=>?_;have a:=d y;have aa:∀tail:Ha,tail.length<=5000->(ML kd m un ca cb ts ra rb ps pt tail).length<=32768/\0<(ML kd m un ca cb ts ra rb ps pt tail).length:=λtail ag=>by
  have a1:=Fa [kd,m.lab,m.num,m.itm,m.tim,m.day];have a2:=EZ [un] (by simpa using ah);have a3:=NP [(ca,cb)] (by simp;omega);have a4:=Fa [(ts.length:Int)];have a5:=Zy ts (λt h=>by have:=ht.rng t h;have:=Wt (z:=t.2) (by omega) (by omega);have:=Wu t.2;omega);have a6:=NP [(ra,rb)] (by simp;omega);have a7:=Fa [(ps.length:Int)];have a8:=EZ ps ab;have a9:=EZ [pt] (by simpa using ad);have bg:0<(Iv [kd,m.lab,m.num,m.itm,m.tim,m.day]).length:=by
   have:=B3c kd;simp only[Iv,VC,l18,EJ];omega
  simp only[Kj,PQ]at a1 a2 a3 a4 a6 a7 a9;simp only[ML,EJ,PQ];omega
 have fin:∀(tail:Ha)(b:Nat)(v:AV)(H:Hp),tail.length<=5000->(if kd=3 then TN r vd else[])=tail->Bd g [(c,Ke kd m u ca cb (DD ts) ra rb (Dp ps) id ins nds o r vd)] b (ML kd m un ca cb ts ra rb ps pt tail) v H->
  (Cl 0 (.ptr g 0 0) λba=>(r! L (n+61)).call Hl [ba] H λbc J=>Ap Ac .gtr bc (.v (.int .i64 32768)) λbd=>
   A2 bd (K (.tup [.v (.string ⟨⟨[]⟩⟩),.v (.int .i64 210)]) J) (Cl 0 (.ptr g 0 0) λai=>(r! L (n+61)).call Eu [ai] J λaj F=>K (.tup [aj,.v (.int .i64 0)]) F))=some (.tup [S (ML kd m un ca cb ts ra rb ps pt (if kd=3 then TN r vd else[])),I 0],[]):=λtail b v H ag he hB=>by
  obtain⟨k1,k2⟩:=aa tail ag;have r0:∀{K:K2},Cl 0 (.ptr g 0 0) K=K (.ptr g 0 0):=r_ rfl;rw[r0,B9j (n:=n+60) hB.bld,DB,KD (by omega),Bm,r0];obtain⟨H',e⟩:=I_ (L:=L) (n:=n+60) hB.bld k2 (by omega);rw[e,he];rw[he]at hK;exact hK _ _ (λb=>⟨false,λK=>by kernel_rfl⟩)
 rw[cI0 a,Dn];by_cases h3:kd=3
 ·rw[Ki h3,CA];have j0:∀{K:K2},Cl 0 (.ptr c 55 0) K=K (.ptr c 55 0):=r_ rfl;have j1:∀{K:K2},Cl 1 (.ptr c 55 0) K=K (.ptr c 56 0):=r_ rfl;have j3:∀{K:K2},Cl 3 (.ptr c 55 0) K=K (.ptr c 58 0):=r_ rfl;have j5:∀{K:K2},Cl 5 (.ptr c 55 0) K=K (.ptr c 60 0):=r_ rfl;have j7:∀{K:K2},Cl 7 (.ptr c 55 0) K=K (.ptr c 62 0):=r_ rfl;rw[j0,cRk a,XL];refine iW (n:=n+51) y w (by decide) [r.k] (by simp) (by simp;omega) λbn be C=>?_;have a:=d C;rw[j1,cR1 a,j3,cR2 a,j5,cR3 a,j7,cR4 a,B3u];refine zV (n:=n+50) C w (by decide) [(r.a1,r.a2),(r.b1,r.b2),(r.c1,r.c2),(r.d1,r.d2)] (by simp) ae λbo bf D=>?_;have a:=d D;rw[cV a,XL];refine iW (n:=n+51) D w (by decide) [vd] (by simp) (by simp;omega) λaz am M=>?_;refine fin (TN r vd) (800000+50000+50000+50000+50000+50000+50000+50000) az am ?_ (by rw[CZ h3]) ?_
  ·have a1:=Fa [r.k];have a2:=NP [(r.a1,r.a2),(r.b1,r.b2),(r.c1,r.c2),(r.d1,r.d2)] ae;have a3:=Fa [vd];simp only[Kj,PQ]at a1 a2 a3;simp only[TN,EJ];omega
  ·have:ML kd m un ca cb ts ra rb ps pt (TN r vd)=[]++Iv [kd,m.lab,m.num,m.itm,m.tim,m.day]++HE [un]++Qu [(ca,cb)]++Iv [(ts.length:Int)]++Qi ts++Qu [(ra,rb)]++Iv [(ps.length:Int)]++HE ps++HE [pt]++Iv [r.k]++Qu [(r.a1,r.a2),(r.b1,r.b2),(r.c1,r.c2),(r.d1,r.d2)]++Iv [vd]:=by
    unfold ML TN;simp only[eU]
   rw[this];exact M
 ·rw[KD h3,Bm];refine fin [] (800000+50000+50000+50000+50000) ay ak (by simp) (by rw[Cr h3]) ?_;have:ML kd m un ca cb ts ra rb ps pt []=[]++Iv [kd,m.lab,m.num,m.itm,m.tim,m.day]++HE [un]++Qu [(ca,cb)]++Iv [(ts.length:Int)]++Qi ts++Qu [(ra,rb)]++Iv [(ps.length:Int)]++HE ps++HE [pt]:=by
   unfold ML;rw[YV]
  rw[this];exact y
end
end
section
variable{L n:Nat}
def C2q{cs:Is}{b:Ha}(h:40000<L)(h1:cs.all AV.one=true)(hz:cs.length=68)(c:∀H,Py true depth [.agg cs] [.agg cs] H false)(hb:b.length<=32768)(e:CS (r! L (n+62)) Mx [.agg cs] (.tup [S b,I 0])):CS (r! L (n+63)) Lm [.agg cs] (S (sha b)):=by
 intro K f;rw[YO];unfold OD XA3;rw[Fb h1];have a:=Av (H:=[]) (x:=.cells true Ad cs) (by simp);generalize ((Ax [],c_ Ad cs)::([]:Hp))=d at a;rw[AX rfl hz.symm a,AE e (c d),CI,CH,HF];show A2 (.v (.bool false)) _ _=_;rw[Bm];have g:∀K,Aj (r! L (n+62)) Vw [S b] d K=K (S (sha b)):=λK=>AE (B9R (L:=L+20) (n:=n+54) (by omega) (by omega)) (Aq (q:=false) (q':=false) CG AG);rw[g];exact f _ _ (λb=>⟨false,λK=>by kernel_rfl⟩)
end
section
variable{nds:AV}{H:Hp}{i:Nat}
variable{L n:Nat}
structure Nd where
 op:Int
 (vn vd:Ha)
 u:UD
 (n l r:Int)
abbrev Nd.cs(x:Nd):Is:=[I x.op,S x.vn,S x.vd,I x.u.p0,I x.u.q0,I x.u.p1,I x.u.q1,I x.u.p2,I x.u.q2,I x.u.p3,I x.u.q3,I x.u.p4,I x.u.q4,I x.u.p5,I x.u.q5,I x.u.p6,I x.u.q6,S x.u.fn,S x.u.fd,S x.u.on,S x.u.od,I x.u.kd,I x.u.sc,I x.n,I x.l,I x.r]
def GP(k:Nat):Is:=BX (uu k)
abbrev B0(ks:Hb):AV:=.list ks.length (ks.flatMap GP)
def xT(x:Nd):Is:=x.cs
abbrev BL(xs:List Nd):AV:=.list xs.length (xs.flatMap xT)
def NS{ks:Hb}{K:K2}:Bh Ai (B0 ks) K=K (I ks.length):=id rfl
def RW{xs:List Nd}{K:K2}:Bh Ar (BL xs) K=K (I xs.length):=id rfl
def XH{ks:Hb}{K:K2}(h:i<ks.length):Dh Ai (B0 ks) (I i) K=K (.iptr (GP ks[i])):=iM (f:=GP) rfl (λ_=>rfl) h
def dW{xs:List Nd}{K:K2}(h:i<xs.length):Dh Ar (BL xs) (I i) K=K (.iptr (xT xs[i])):=iM (f:=xT) rfl (λ_=>rfl) h
def XF{k:Nat}{K:K2}:A7 Au (.iptr (GP k)) H K=K (.agg (BX (uu k))):=id rfl
def dU{x:Nd}{K:K2}:A7 AD (.iptr (xT x)) H K=K (.agg x.cs):=id rfl
abbrev Ih(id:Int)(ins nds:AV)(o:UD):Row:=.cells true BO (Bp id ins nds o)
section
attribute [local irreducible] Aj rt jQ eBi eEq cnd Ap PW A2
def Xs{z c a:Int}(h1:c<=z)(h2:z<=a):PS (r! L (n+1)) Dd [I z,I c,I a] (Bo true):=by
 refine CS.ps (λK d=>?_) (λH=>λK=>by kernel_rfl);rewrite[gG];unfold Ro q3N
 try rewrite[zO]
 try rewrite[bO]
 try rewrite[qO]
 try rewrite[cO]
 conv=>lhs;whnf
 rewrite[A3T h1]
 conv=>lhs;whnf
 rewrite[A3M h2]
 conv=>lhs;whnf
 exact d _ _ (λb=>⟨false,λK=>by kernel_rfl⟩)
end
section
variable{K:KV}{x:Af}{ks:Hb}{xs:List Nd}{id:Int}{o:UD}
def B6L{a:KV}{c:Nat}(hk:∀k∈ks,k<52)(hb:ks.length<100)(g:a (.ptr c 0 0) H=x)(e:Al H c=some (Ih id (B0 ks) nds o)):∀(f i:Nat),i<=ks.length->ks.length-i<f->
 PD (L+20) (r! L (n+40)) K a f (.ptr c 0 0) (I i) H=x:=by
 intro f
 induction f with
 |zero=>intro i _ h;omega
 |succ f ih=>
  intro i m j;rw[ZB];unfold PE E0 VH HN Az Fk;have f1:∀K:K2,Cl 1 (.ptr c 0 0) K=K (.ptr c 1 0):=λK=>r_ rfl;have d:∀K,A7 Ai (.ptr c 1 0) H K=K (B0 ks):=λK=>AH (p:=1) rfl e (show 1<23 by decide);rw[f1,d,NS];by_cases h:i<ks.length
  ·rw[Fo (by omega),CA,f1,d,XH h,XF,Rg _ _ _ (hk _ (Of h)),xR,Bm,Dg (by omega)];exact ih (i+1) (by omega) (by omega)
  ·rw[XA2 (by omega),Bm];exact g
def Nh{ins nds:AV}(a:Sl ins)(c:Sl nds):(Bp id ins nds o).all AV.one=true:=by
 rcases a with rfl|⟨_,_,rfl⟩<;>rcases c with rfl|⟨_,_,rfl⟩<;>rfl
def A7K(s:100<L)(hk:∀k∈ks,k<52)(hb:ks.length<=6)(hn:1<=xs.length)(g:xs.length<=40)(h1:1<=id)(h2:id<=1000000):CS (r! L (n+41)) NH [.agg (Bp id (B0 ks) (BL xs) o)] (.tup [Bo true,Bo true]):=by
 intro K f;rw[gH];unfold Rp VH BK Az Fk;rw[Fb (Nh (.inr ⟨_,_,rfl⟩) (.inr ⟨_,_,rfl⟩))];have a:=Av (H:=[]) (x:=Ih id (B0 ks) (BL xs) o) (by simp);generalize ((Ax [],Ih id (B0 ks) (BL xs) o)::([]:Hp))=d at a;generalize Ax []=c at a;simp only[BJ];refine B6L hk (by omega) ?_ a (L+20) 0 (by omega) (by omega);have e:∀{j:Nat}{K:K2},Cl j (.ptr c 0 0) K=K (.ptr c j 0):=λ{j K}=>by rw[fA,Kk]
 have h:∀{K},A7 Ac (.ptr c 0 0) d K=K (I id):=λ{K}=>AH (p:=0) rfl a (show 0<23 by decide);have m:∀{K},A7 Ai (.ptr c 1 0) d K=K (B0 ks):=λ{K}=>AH (p:=1) rfl a (show 1<23 by decide);have q:∀{K},A7 Ar (.ptr c 2 0) d K=K (BL xs):=λ{K}=>AH (p:=2) rfl a (show 2<23 by decide);have w1:∀{K:K2},Aj (r! L (n+40)) Dd [I id,.v (.int .i64 1),.v (.int .i64 1000000)] d K=K (Bo true):=λ{K}=>Xs (n:=n+39) h1 h2 d K;have r:∀{K:K2},Aj (r! L (n+40)) Dd [I (xs.length:Int),.v (.int .i64 1),.v (.int .i64 40)] d K=K (Bo true):=λ{K}=>Xs (n:=n+39) (by omega) (by omega) d K;have q1:∀{K},Ap Ac .leq (I (ks.length:Int)) (.v (.int .i64 6)) K=K (Bo true):=λ{K}=>by rw[eA,Ki (by omega)]
 have q2:∀{K},Ap Ac .gtr (I (xs.length:Int)) (.v (.int .i64 0)) K=K (Bo true):=λ{K}=>by rw[DB,Ki (by omega)]
 simp only[e,h,m,q,BN,Ck,gT,w1,r,NS,RW,q1,q2,Xu];exact f _ _ (λb=>⟨false,λK=>by kernel_rfl⟩)
end
end
section
variable{x:Value}
variable{L n:Nat}
def Wz:Value->Bool
 |.int _ _=>true
 |.string _=>true
 |.bool _=>true
 |.slice none 0 0=>true
 |_=>false
def pl:Nat->AV->Bool
 |_,.v x=>Wz x
 |d+1,.list _ cs=>cs.all (pl d)
 |d+1,.agg cs=>cs.all (pl d)
 |d+1,.tup cs=>cs.all (pl d)
 |_,_=>false
def A94:∀l:Ha,Zv.eqbL l l=true:=by
 intro l
 induction l with
 |nil=>rfl
 |cons a l ih=>simp only[Zv.eqbL,ih,D?];exact ZX _
def fD(h:Wz x=true):Zv x x=true:=by
 unfold Wz at h;split at h
 ·simp[Zv]
 ·exact A94 _
 ·simp[Zv]
 ·rfl
 ·cases h
def A5Y{f:AV->AV->Bool}:∀l:Is,(∀a∈l,f a a=true)->rK f l l=true:=by
 intro l
 induction l with
 |nil=>intro _;rfl
 |cons a l ih=>intro h;simp only[rK,h a (by simp),ih λb hb=>h b (by simp[hb]),D?]
def Uq:∀(d:Nat)(a:AV),pl d a=true->Ze d a a=true:=by
 intro d
 induction d with
 |zero=>intro a h;cases a<;>first|exact fD h|cases h
 |succ d ih=>
  intro a h;cases a<;>first
   |exact fD h
   |(simp only[pl,G8]at h;simp only[Ze,ZX,D_];exact A5Y _ λb hb=>ih b (h b hb))
   |cases h
def A5Z{a:AV}(h:pl 6 a=true):Zd a a=true:=by
 cases a<;>first|exact fD h|exact Uq 6 _ h|cases h
def Rk{v:AV}{H:Hp}{K:Af}(h:pl 6 v=true):Qb (AS (some (v,H)) v) K=K:=by
 show Qb (some (.v (.bool (Zd v v)),[])) K=K;rw[A5Z h];rfl
def A5i(h:Wz x=true)(a:x≠.slice none 0 0):ZZ x x=some true:=by
 unfold Wz at h;split at h
 ·show(match decide (_=_) with|true=>some (yO _ _)|false=>none)=_;rw[Ki rfl,L0,Ki rfl]
 ·show some (F' _ _)=_;rw[PU];simp
 ·show some (_==_)=_;simp
 ·exact absurd rfl a
 ·cases h
def A0L:∀xs:Hx,(∀x∈xs,Wz x=true/\x≠.slice none 0 0)->VW xs xs=some true:=by
 intro xs
 induction xs with
 |nil=>intro _;rfl
 |cons x xs ih=>
  intro h;have e:VW (x::xs) (x::xs)=(match ZZ x x with
   |some b=>(match VW xs xs with|some c=>some (b&&c)|none=>none)
   |none=>none):=rfl
  rw[e,A5i (h x (by simp)).1 (h x (by simp)).2,ih λy a=>h y (by simp[a])];rfl
def C1v{x:Nd}{K:K2}:PW HQ .eql (.agg x.cs) (.agg x.cs) K=K (Bo true):=by
 have e:∀(xs:Hx),VW xs xs=some true->∀K:K2,(match(generalizing:=false) VW xs xs,BinOp.eql with
  |some q,.eql=>bB q K
  |some q,.neq=>bB (!q) K
  |_,_=>(none:Af))=K (Bo true):=λxs h K=>by rw[h];rfl
 exact e [.int .i64 x.op,.string ⟨⟨x.vn⟩⟩,.string ⟨⟨x.vd⟩⟩,.int .i64 x.u.p0,.int .i64 x.u.q0,.int .i64 x.u.p1,.int .i64 x.u.q1,.int .i64 x.u.p2,.int .i64 x.u.q2,.int .i64 x.u.p3,.int .i64 x.u.q3,.int .i64 x.u.p4,.int .i64 x.u.q4,.int .i64 x.u.p5,.int .i64 x.u.q5,.int .i64 x.u.p6,.int .i64 x.u.q6,
  .string ⟨⟨x.u.fn⟩⟩,.string ⟨⟨x.u.fd⟩⟩,.string ⟨⟨x.u.on⟩⟩,.string ⟨⟨x.u.od⟩⟩,.int .i64 x.u.kd,.int .i64 x.u.sc,.int .i64 x.n,.int .i64 x.l,.int .i64 x.r]
  (A0L _ (by simp[Wz])) K
end
section
variable{at_:Int}
variable{L n:Nat}
def Yh(i:Nat):Nd:=⟨2,[],[],u0,i,0,0⟩
abbrev Kw:Is:=[zI,zS,zS,zI,zI,zI,zI,zI,zI,zI,zI,zI,zI,zI,zI,zI,zI,zS,zS,zS,zS,zI,zI,zI,zI,zI]
abbrev F5:Is:=[zI,zI,zI,zI,zI,zI,zI,zI,zI,zI,zI,zI,zI,zI,zS,zS,zS,zS,zI,zI]
abbrev VK(x:Nd):Row:=.cells true AL x.cs
section
variable{K:KV}{x:Af}{ks:Hb}{xs:List Nd}{id:Int}{o:UD}{i:Nat}
def A1S{x:Nd}:x.cs.all AV.one=true:=rfl
def vL{t:TI}{a:Int}{K:K2}:Ap t .eql (I a) (.v (.int .i64 a)) K=K (Bo true):=by rw[Dn,Ki rfl]
def P_(hb:ks.length<=6)(hi:i<ks.length):CS (r! L (n+2)) EW [.agg (Bp id (B0 ks) (BL xs) o),.agg (Yh i).cs,I at_] (.tup [Bo true,Bo false]):=by
 intro K P;rw[TU];unfold Nm E0 Sm BK Az MS Fk;rw[Fb (Nh (.inr ⟨_,_,rfl⟩) (.inr ⟨_,_,rfl⟩))];have g:=Av (H:=[]) (x:=Ih id (B0 ks) (BL xs) o) (by simp);have w0:=AM (x:=Ih id (B0 ks) (BL xs) o) E1;generalize ((Ax [],Ih id (B0 ks) (BL xs) o)::([]:Hp))=t at g w0;generalize Ax []=p at g;rw[Fb A1S];have c:=Av (H:=t) (x:=VK (Yh i)) (by simp);have k:Al ((Ax t,VK (Yh i))::t) p=some (Ih id (B0 ks) (BL xs) o):=AK (w0.lt g) g;have w1:=AM (x:=VK (Yh i)) w0;generalize ((Ax t,VK (Yh i))::t)=a at c k w1;generalize Ax t=r at c;have A:∀{s j:Nat}{K:K2},Cl j (.ptr s 0 0) K=K (.ptr s j 0):=λ{s j K}=>by rw[fA,Kk]
 have Q:∀{K},A7 Ac (.ptr r 0 0) a K=K (I 2):=λ{K}=>AH (p:=0) rfl c (show 0<26 by decide);have b0:∀{K:K2},BZ AD [(0,1,I 2)] K=K (.agg (I 2::Kw.tail)):=λ{K}=>r_ rfl;rw[A,Q,b0,AP (cs:=Kw) rfl];have hm:=Av (H:=a) (x:=.cells true AL Kw) (by simp);rw[Bv (vs:=I 2::Kw.tail) hm rfl rfl rfl];have d:=A5 (q:=true) (e:=AL) (cs:=I 2::Kw.tail) hm;have w2:=Bs (r:=Ax a) (y:=.cells true AL (I 2::Kw.tail)) (AM (x:=.cells true AL Kw) w1);have Z:=w1.lt c;have O:=w1.lt k;have f:Al (upd ((Ax a,c_ AL Kw)::a) (Ax a) (c_ AL (I 2::Kw.tail))) r=some (VK (Yh i)):=by
  rw[Ah (by omega)];exact AK Z c
 have F:Al (upd ((Ax a,c_ AL Kw)::a) (Ax a) (c_ AL (I 2::Kw.tail))) p=some (Ih id (B0 ks) (BL xs) o):=by
  rw[Ah (by omega)];exact AK O k
 generalize upd ((Ax a,c_ AL Kw)::a) (Ax a) (c_ AL (I 2::Kw.tail))=w at d w2 f F;have D:Ax a≠r:=by omega
 have C:Ax a≠p:=by omega
 generalize Ax a=m at d D C
 try simp only[BJ]
 have V:∀{K},A7 Ac (.ptr r 0 0) w K=K (I 2):=λ{K}=>AH (p:=0) rfl f (show 0<26 by decide);have N:∀{K},A7 Ac (.ptr r 23 0) w K=K (I i):=λ{K}=>AH (p:=23) rfl f (show 23<26 by decide);rw[A,V,Dn,KD (by decide),Bm,vL,CA,A,N,A];rw[Em (v:=I i) d (show 23<26 by decide) rfl rfl rfl];have B:=A5 (q:=true) (e:=AL) (cs:=(I 2::Kw.tail).set 23 (I i)) d;have h:Al (upd w m (c_ AL ((I 2::Kw.tail).set 23 (I i)))) r=some (VK (Yh i)):=by
  rw[Ah (Ne.symm D)];exact f
 have J:Al (upd w m (c_ AL ((I 2::Kw.tail).set 23 (I i)))) p=some (Ih id (B0 ks) (BL xs) o):=by
  rw[Ah (Ne.symm C)];exact F
 generalize upd w m (c_ AL ((I 2::Kw.tail).set 23 (I i)))=u at B h J;have Y:∀{K},A7 AD (.ptr m 0 0) u K=K (.agg (Yh i).cs):=λ{K}=>AX rfl rfl B;have X:∀{K},A7 AD (.ptr r 0 0) u K=K (.agg (Yh i).cs):=λ{K}=>AX rfl rfl h;have M:∀{K},A7 Ac (.ptr r 23 0) u K=K (I i):=λ{K}=>AH (p:=23) rfl h (show 23<26 by decide);have R:∀{K},A7 Ai (.ptr p 1 0) u K=K (B0 ks):=λ{K}=>AH (p:=1) rfl J (show 1<23 by decide);have sb:∀{K},Ap Ac .sub (I (ks.length:Int)) (.v (.int .i64 1)) K=K (I ((ks.length:Int)-1)):=λ{K}=>by rw[IE,Cz (by omega) (by omega)]
 have wi:∀{K:K2},Aj (r! L (n+1)) Dd [I (i:Int),.v (.int .i64 0),I ((ks.length:Int)-1)] u K=K (Bo true):=λ{K}=>Xs (n:=n) (by omega) (by omega) u K;simp only[X,Y,C1v,gT,A,Ck,M,R,NS,sb,wi,Xu];exact P _ _ (λb=>⟨false,λK=>by kernel_rfl⟩)
def DY{H:Hp}{e:Nat}{zs vs:Is}(w:Wf H)(hz:vs.length=zs.length):∃a,a=upd ((Ax H,c_ e zs)::H) (Ax H) (c_ e vs)/\Al a (Ax H)=some (c_ e vs)/\Wf a/\(∀s x,Al H s=some x->Al a s=some x/\s≠Ax H):=by
 have hm:=Av (H:=H) (x:=.cells true e zs) (by simp);refine⟨_,rfl,A5 hm,Bs (AM w),λs x h=>?_⟩;have:=w.lt h;exact⟨by rw[Ah (by omega)];exact AK this h,by omega⟩
def Xr(hb:ks.length<=6)(Z:i<ks.length){w:AV}:CS (r! L (n+3)) Ct [.agg (Bp id (B0 ks) (BL xs) o),.agg (Yh i).cs,I at_,w] (.tup [.agg (BX (uu ks[i])),I 0]):=by
 intro K hK;rw[GG];unfold Gv q4N;rw[Fb (Nh (.inr ⟨_,_,rfl⟩) (.inr ⟨_,_,rfl⟩))];have c:=Av (H:=[]) (x:=Ih id (B0 ks) (BL xs) o) (by simp);have w0:=AM (x:=Ih id (B0 ks) (BL xs) o) E1;generalize ((Ax [],Ih id (B0 ks) (BL xs) o)::([]:Hp))=t at c w0;generalize Ax []=p at c;rw[Fb A1S];have a:=Av (H:=t) (x:=VK (Yh i)) (by simp);have f:Al ((Ax t,VK (Yh i))::t) p=some (Ih id (B0 ks) (BL xs) o):=AK (w0.lt c) c;have w1:=AM (x:=VK (Yh i)) w0;generalize ((Ax t,VK (Yh i))::t)=C at a f w1;generalize Ax t=r at a;rw[AP (cs:=F5) rfl];have h:=Av (H:=C) (x:=.cells true A4 F5) (by simp);have d:=AK (x:=.cells true A4 F5) (w1.lt a) a;have g:=AK (x:=.cells true A4 F5) (w1.lt f) f;have w2:=AM (x:=.cells true A4 F5) w1;generalize ((Ax C,c_ A4 F5)::C)=D at h d g w2;generalize Ax C=q at h;have lp:∀{K},A7 AI (.ptr p 0 0) D K=K (.agg (Bp id (B0 ks) (BL xs) o)):=λ{K}=>AX rfl rfl g;have ln:∀{K},A7 AD (.ptr r 0 0) D K=K (.agg (Yh i).cs):=λ{K}=>AX rfl rfl d;have fx:Py true depth [.agg (Bp id (B0 ks) (BL xs) o),.agg (Yh i).cs,I at_] [.agg (Bp id (B0 ks) (BL xs) o),.agg (Yh i).cs,I at_] D false:=λK=>by kernel_rfl
 have sh:∀{K:K2},Aj (r! L (n+2)) EW [.agg (Bp id (B0 ks) (BL xs) o),.agg (Yh i).cs,I at_] D K=K (.tup [Bo true,Bo false]):=λ{K}=>AE (P_ hb Z) fx;have Y:∀{K:K2},BZ Au [] K=K (.agg F5):=λ{K}=>r_ rfl;rw[lp,ln,sh,CI,CH,xR,Bm,Y,AP (cs:=F5) rfl];rw[Bv (vs:=F5) (Av (by simp)) rfl rfl rfl];obtain⟨H3,e3, -,w3,J⟩:=DY (e:=A4) (zs:=F5) (vs:=F5) w2 rfl;rw[<-e3,Y,AP (cs:=F5) rfl,Bv (vs:=F5) (Av (by simp)) rfl rfl rfl];obtain⟨X,e4, -,w4,M⟩:=DY (e:=A4) (zs:=F5) (vs:=F5) w3 rfl;rw[<-e4]
 try simp only[BJ]
 have F:∀{s j:Nat}{K:K2},Cl j (.ptr s 0 0) K=K (.ptr s j 0):=λ{s j K}=>by rw[fA,Kk]
 have y:=(M _ _ (J _ _ d).1).1;have O:=(M _ _ (J _ _ g).1).1;have Q:=(M _ _ (J _ _ h).1).1;have lu:∀{K},A7 Au (.ptr r 3 0) X K=K (.agg F5):=λ{K}=>Dl (p:=3) rfl y (show 23<=26 by decide);rw[Bm,F,lu,AP (cs:=F5) rfl,Bv (vs:=F5) (Av (by simp)) rfl rfl rfl];obtain⟨u,e5,m,w5,N⟩:=DY (e:=A4) (zs:=F5) (vs:=F5) w4 rfl;rw[<-e5];obtain⟨A,nr⟩:=N _ _ y;obtain⟨P,np⟩:=N _ _ O;obtain⟨R,nq⟩:=N _ _ Q;generalize Ax X=v at m nr np nq;have l0:∀{K},A7 Ac (.ptr r 0 0) u K=K (I 2):=λ{K}=>AH (p:=0) rfl A (show 0<26 by decide);have V:∀{K},A7 Ac (.ptr r 23 0) u K=K (I i):=λ{K}=>AH (p:=23) rfl A (show 23<26 by decide);have l1:∀{K},A7 Ai (.ptr p 1 0) u K=K (B0 ks):=λ{K}=>AH (p:=1) rfl P (show 1<23 by decide);rw[F,l0,vL,CA,F,l1,F,V,XH Z,XF,Bv (vs:=BX (uu ks[i])) m rfl rfl rfl];have B:=A5 (q:=true) (e:=A4) (cs:=BX (uu ks[i])) m;have k:Al (upd u v (c_ A4 (BX (uu ks[i])))) q=some (c_ A4 F5):=by rw[Ah nq];exact R
 generalize upd u v (c_ A4 (BX (uu ks[i])))=H6 at B k;rw[HF];show A2 (.v (.bool false)) _ _=_;rw[Bm,AX rfl rfl B,Bv (vs:=BX (uu ks[i])) k rfl rfl rfl,AX rfl rfl (A5 k)];exact hK _ _ (λb=>⟨false,λK=>by kernel_rfl⟩)
end
end
section
variable{v:AV}{H:Hp}
variable{L n:Nat}
def A5Q{k:Nat}{K:KV}:Gt A4 20 Au 1 [(0,20,.agg (BX (uu k)))] H K=K (.sl 20 (Ax H) 0 1) ((Ax H,.cells false A4 (GP k))::H):=by
 have e:Gt A4 20 Au 1 [(0,20,.agg (BX (uu k)))] H K=HV H (λs=>K (.sl 20 s 0 1) ((s,.cells false A4 (GP k))::H)):=r_ rfl;rw[e,BW]
def C1R{l:Hb}(k:Nat)(h:AZ H A4 20 v l.length (l.flatMap GP))(w:Wf H)(hn:l.length<100):
 ∃d a,(∀K:KV,(Gt A4 20 Au 1 [(0,20,.agg (BX (uu k)))] H λv1 i=>Ed A4 20 Au Ai v v1 i K)=K d a)/\AZ a A4 20 d (l++[k]).length ((l++[k]).flatMap GP)/\Wf a/\Ax H<=Ax a/\(∀s x,Al H s=some x->¬A6 v s->Al a s=some x)/\(∀s,A6 d s->Ax H<=s):=by
 have g:AZ ((Ax H,.cells false A4 (GP k))::H) A4 20 v l.length (l.flatMap GP):=h.lat w (Lat.cons H _ (λ_=>False)) (λ_ _ h=>h);have c:AZ ((Ax H,.cells false A4 (GP k))::H) A4 20 (.sl 20 (Ax H) 0 1) 1 (GP k):=.inr ⟨Ax H,false,rfl,Av (by simp),by show 20=_;rfl⟩;obtain⟨d,a,h1,h2,j,m⟩:=apt (ie:=Au) (i2:=Ai) g (λK=>NQ (K:=K) c) rfl rfl (by decide) rfl rfl (by show(l.length+1)*192<=_;omega) (by omega);have e:=(Lat.cons H (.cells false A4 (GP k)) (A6 v)).trans m (R:=A6 v) (λ_ _ h=>h) (λ_ _ h=>h);refine⟨d,a,λK=>?_,by rw[EJ,l2g];simpa using h2,e.wf w,e.nx,λs x f hn=>e.keep w s x f hn,λs f=>?_⟩
 ·rw[A5Q];exact h1 K
 ·rw[j s f];exact l1p _
def C0H(k:Nat):Hx:=[.int .i64 (uu k).p0,.int .i64 (uu k).q0,.int .i64 (uu k).p1,.int .i64 (uu k).q1,.int .i64 (uu k).p2,.int .i64 (uu k).q2,.int .i64 (uu k).p3,.int .i64 (uu k).q3,.int .i64 (uu k).p4,.int .i64 (uu k).q4,.int .i64 (uu k).p5,.int .i64 (uu k).q5,.int .i64 (uu k).p6,.int .i64 (uu k).q6,
 .string ⟨⟨(uu k).fn⟩⟩,.string ⟨⟨(uu k).fd⟩⟩,.string ⟨⟨(uu k).on⟩⟩,.string ⟨⟨(uu k).od⟩⟩,.int .i64 (uu k).kd,.int .i64 (uu k).sc]
def B7F(k:Nat):GP k=(C0H k).map λx=>.v x:=rfl
def C0G(l:Hb):l.flatMap GP=(l.flatMap C0H).map λx=>.v x:=by
 induction l with
 |nil=>rfl
 |cons k l ih=>rw[jH,jH,Yr,ih,B7F]
def QD(l:Hb):AV:=match l with
 |[]=>A1
 |k::l=>.list (k::l).length ((k::l).flatMap GP)
def iA{D:Nat}{b:Bool}{l:Hb}(h:AZ H A4 20 v l.length (l.flatMap GP))(d:l=[]->v=A1):∃q,Fx b (D+1) v (QD l) H q:=by
 rcases h with⟨rfl,h2,_⟩|⟨r,q,rfl,h2,c⟩
 ·cases l with
  |nil=>exact⟨false,CG⟩
  |cons a l=>simp at h2
 ·cases l with
  |nil=>have:=d rfl;cases this
  |cons a l=>
   refine⟨true,?_⟩;show Fx b (D+1) _ (.list (a::l).length ((a::l).flatMap GP)) H true;rw[C0G]at h2 c⊢;exact WS (q':=false) h2 c (KF _root_.id _)
def B48{b:Bool}{l:Hb}(h:AZ H A4 20 v l.length (l.flatMap GP))(a:l=[]->v=A1):∃q,Fx b depth v (QD l) H q:=iA (D:=depth-1) h a
end
section
variable{d:Nat}
variable{L n:Nat}
section
variable{K:KV}{x:Af}{ks ty:Hb}{xs:List Nd}{id:Int}{o:UD}
def RTy(L n:Nat)(id:Int)(ks:Hb)(xs:List Nd)(o:UD)(ty:Hb):Prop:=
 ∀i(h:i<xs.length),CS (r! L (n+42)) Ct [.agg (Bp id (B0 ks) (BL xs) o),.agg xs[i].cs,I i,QD (ty.take i)] (.tup [.agg (BX (uu (ty.getD i 0))),I 0])
def B7b:∀l:Hb,(l.flatMap GP).all (pl d)=true:=by
 intro l
 induction l with
 |nil=>rfl
 |cons a l ih=>rw[jH,List.all_append,ih];cases d<;>rfl
def B7a:∀l:List Nd,(l.flatMap xT).all (pl d)=true:=by
 intro l
 induction l with
 |nil=>rfl
 |cons a l ih=>rw[jH,List.all_append,ih];cases d<;>rfl
def B2d(l:Hb):pl (d+1) (B0 l)=true:=B7b l
def A3y(l:List Nd):pl (d+1) (BL l)=true:=B7a l
def B2c:pl 6 (.agg (Bp id (B0 ks) (BL xs) o))=true:=by
 show(pl 5 (I id)&&(pl 5 (B0 ks)&&(pl 5 (BL xs)&&true)))=true;rw[B2d,A3y];rfl
def B6K{u:AV->KV}{p:Nat}(hT:RTy L n id ks xs o ty)(g:ty.length=xs.length)(hb:xs.length<100)(hx:∀v H,AZ H A4 20 v ty.length (ty.flatMap GP)->(ty=[]->v=A1)->Al H p=some (Ih id (B0 ks) (BL xs) o)->u (.ptr p 0 0) v H=x):
 ∀(f i:Nat)(v:AV)(H:Hp),i<=xs.length->xs.length-i<f->AZ H A4 20 v (ty.take i).length ((ty.take i).flatMap GP)->(ty.take i=[]->v=A1)->¬A6 v p->Al H p=some (Ih id (B0 ks) (BL xs) o)->Wf H->
 QS (L+20) (r! L (n+42)) K u f (.ptr p 0 0) v (I i) H=x:=by
 intro f
 induction f with
 |zero=>intro i v H _ h;omega
 |succ f ih=>
  intro i v H hi hf a A hr c w;rw[fM];unfold QT E0 Az;have N:∀{s j:Nat}{K:K2},Cl j (.ptr s 0 0) K=K (.ptr s j 0):=λ{s j K}=>by rw[fA,Kk]
  have R:∀{K},A7 Ar (.ptr p 2 0) H K=K (BL xs):=λ{K}=>AH (p:=2) rfl c (show 2<23 by decide);have lp:∀{K},A7 AI (.ptr p 0 0) H K=K (.agg (Bp id (B0 ks) (BL xs) o)):=λ{K}=>AX rfl rfl c;rw[N,R,RW];by_cases h:i<xs.length
  ·have y:∀{H:Hp}(_:AZ H A4 20 v (ty.take i).length ((ty.take i).flatMap GP)){K:K2},Aj (r! L (n+42)) Ct [.agg (Bp id (B0 ks) (BL xs) o),.agg xs[i].cs,I i,v] H K=K (.tup [.agg (BX (uu (ty.getD i 0))),I 0]):=λ{H}a{K}=>by
    obtain⟨q,hq⟩:=B48 (b:=true) a A;have a1:Fx true depth (.agg (Bp id (B0 ks) (BL xs) o)) (.agg (Bp id (B0 ks) (BL xs) o)) H false:=λK=>by kernel_rfl
    have a2:Fx true depth (.agg xs[i].cs) (.agg xs[i].cs) H false:=λK=>by kernel_rfl
    exact AE (hT i h) (Aq a1 (Aq a2 (Aq (q:=false) CG (Aq hq AG))))
   rw[Fo (by omega),CA];simp only[lp,BN,N,R,dW h,dU,y a,CI,CH];rw[AP (cs:=F5) rfl,Ck];have hz:=Av (H:=H) (x:=.cells true A4 F5) (by simp);rw[Bv (vs:=BX (uu (ty.getD i 0))) hz rfl rfl rfl,Ck];have k:=AK (x:=.cells true A4 F5) (w.lt c) c;have C:AZ ((Ax H,c_ A4 F5)::H) A4 20 v (ty.take i).length ((ty.take i).flatMap GP):=a.lat w (Lat.cons H _ (λ_=>False)) (λ_ _ h=>h);obtain⟨X,Z,F,V,O⟩:=DY (e:=A4) (zs:=F5) (vs:=BX (uu (ty.getD i 0))) w rfl;rw[<-Z];have m:=(O _ _ c).1;have D:AZ X A4 20 v (ty.take i).length ((ty.take i).flatMap GP):=by
    rcases a with a|⟨r,q,h1,h2,h3⟩
    ·exact .inl a
    ·exact .inr ⟨r,q,h1,(O _ _ h2).1,h3⟩
   have M:∀{K},A7 AI (.ptr p 0 0) ((Ax H,c_ A4 F5)::H) K=K (.agg (Bp id (B0 ks) (BL xs) o)):=λ{K}=>AX rfl rfl k;have J:∀{K},A7 Ar (.ptr p 2 0) ((Ax H,c_ A4 F5)::H) K=K (BL xs):=λ{K}=>AH (p:=2) rfl k (show 2<23 by decide);rw[M,Rk B2c,J,Rk (A3y xs),Rk (by rfl),y C,Rk (by rfl),HF];show A2 (.v (.bool false)) _ _=_;rw[Bm,AX rfl rfl F];have Q:ty.take i++[ty.getD i 0]=ty.take (i+1):=by
    have P:i<ty.length:=by omega
    rw[tO P];simp[List.getD,JC P]
   obtain⟨v',Y,e5,t,w5, -,keep,new⟩:=C1R (ty.getD i 0) D V (by rw[E'];omega);rw[e5,Dg (by omega)];rw[Q]at t;exact ih (i+1) v' Y (by omega) (by omega) t (λe=>by rw[<-Q]at e;simp at e) (λB=>by have:=new _ B;have:=V.lt m;omega) (keep _ _ m hr) w5
  ·rw[XA2 (by omega),Bm];have:i=xs.length:=by omega
   subst this;rw[<-g,tN]at a A;exact hx v H a A c
end
end
section
variable{L n:Nat}
def A3l{H:Hp}{v:AV}{l:Hb}{i:Nat}(h:AZ H A4 20 v l.length (l.flatMap GP))(d:i<l.length):∃a,(∀K:K2,Dh Ai v (I i) K=K a)/\(∀K:K2,A7 Au a H K=K (.agg (BX (uu l[i])))):=by
 rcases h with⟨_,h2,_⟩|⟨r,q,rfl,h2,c⟩
 ·omega
 ·refine⟨.ptr r (i*20) 0,λK=>?_,λK=>?_⟩
  ·have e:Dh Ai (.sl 20 r 0 l.length) (I (i:Int)) K=iN (i:Int) λm=>ck (Nat.blt m l.length) (fN (Nat.add 0 (Nat.mul m 20)) λp=>K (.ptr r p 0)):=r_ rfl;rw[e,JH,D5];have c:Nat.blt i l.length=true:=by rw[VD];exact d
   rw[c];show K (.ptr r (0+i*20) 0)=_;rw[Kk]
  ·rw[Dl rfl h2 (by rw[c];show i*20+20<=_;omega)];have:((l.flatMap GP).drop (i*20)).take 20=GP l[i]:=dJ GP 20 (λ_=>rfl) l i d;show K (.agg (((l.flatMap GP).drop (i*20)).take 20))=_;rw[this];rfl
def B8k{u:UD}{K:K2}:PW GT .neq (.agg (BX u)) (.agg (BX u)) K=K (Bo false):=by
 have e:∀(xs:Hx),VW xs xs=some true->∀K:K2,(match(generalizing:=false) VW xs xs,BinOp.neq with
  |some q,.eql=>bB q K
  |some q,.neq=>bB (!q) K
  |_,_=>(none:Af))=K (Bo false):=λxs h K=>by rw[h];rfl
 exact e [.int .i64 u.p0,.int .i64 u.q0,.int .i64 u.p1,.int .i64 u.q1,.int .i64 u.p2,.int .i64 u.q2,.int .i64 u.p3,.int .i64 u.q3,.int .i64 u.p4,.int .i64 u.q4,.int .i64 u.p5,.int .i64 u.q5,.int .i64 u.p6,.int .i64 u.q6,
  .string ⟨⟨u.fn⟩⟩,.string ⟨⟨u.fd⟩⟩,.string ⟨⟨u.on⟩⟩,.string ⟨⟨u.od⟩⟩,.int .i64 u.kd,.int .i64 u.sc]
  (A0L _ (by simp[Wz])) K
section
variable{ks ty:Hb}{xs:List Nd}{id:Int}
def B27(B:100<L)(C:RTy L n id ks xs (uu (ty.getD (xs.length-1) 0)) ty)(d:ty.length=xs.length)(hk:∀k∈ks,k<52)(hb:ks.length<=6)(hn:1<=xs.length)(i:xs.length<=40)(h1:1<=id)(h2:id<=1000000):
 CS (r! L (n+43)) Tq [.agg (Bp id (B0 ks) (BL xs) (uu (ty.getD (xs.length-1) 0)))] (.tup [QD ty,I 0,I 0]):=by
 intro K A;rw[kK];unfold Tf VH Lo Az;rw[Fb (Nh (.inr ⟨_,_,rfl⟩) (.inr ⟨_,_,rfl⟩))];have c:=Av (H:=[]) (x:=Ih id (B0 ks) (BL xs) (uu (ty.getD (xs.length-1) 0))) (by simp);have w0:=AM (x:=Ih id (B0 ks) (BL xs) (uu (ty.getD (xs.length-1) 0))) E1;generalize ((Ax [],Ih id (B0 ks) (BL xs) (uu (ty.getD (xs.length-1) 0)))::([]:Hp))=r at c w0;generalize Ax []=p at c;have t:∀{K:K2},Aj (r! L (n+42)) NH [.agg (Bp id (B0 ks) (BL xs) (uu (ty.getD (xs.length-1) 0)))] r K=K (.tup [Bo true,Bo true]):=λ{K}=>AE (A7K (n:=n+1) B hk hb hn i h1 h2) (UN (.inr ⟨_,_,rfl⟩) (.inr ⟨_,_,rfl⟩));rw[AX rfl rfl c,t,CI,CH,xR,Bm];simp only[BJ];refine B6K C d (by omega) ?_ (L+20) 0 _ r (by omega) (by omega) (.inl ⟨rfl,rfl,rfl⟩) (λ_=>rfl) (λ⟨_,_,_,h⟩=>by cases h) c w0;intro v H m y J;have w:∀{s j:Nat}{K:K2},Cl j (.ptr s 0 0) K=K (.ptr s j 0):=λ{s j K}=>by rw[fA,Kk]
 have f:ty.length-1<ty.length:=by omega
 obtain⟨a,g,e⟩:=A3l m f;have F:∀{K},A7 Au (.ptr p 3 0) H K=K (.agg (BX (uu (ty.getD (xs.length-1) 0)))):=λ{K}=>Dl (p:=3) rfl J (show 23<=23 by decide);have u:ty[ty.length-1]=ty.getD (xs.length-1) 0:=by rw[<-d];simp[List.getD,JC f]
 rw[u]at e;rw[Kr rfl m,BN,nY (by omega) (by omega),BN,g,BN,e,BN,w,BN,F,BN,B8k,BN,Bm];exact A _ _ (λb=>by
  obtain⟨q,hq⟩:=iA (D:=depth-2) (b:=b) m y;exact⟨_,Vq (D:=depth-1) (Aq hq (Aq (q:=false) CG (Aq (q:=false) CG AG)))⟩)
def A7x(j:100<L)(m:RTy L n id ks xs (uu (ty.getD (xs.length-1) 0)) ty)(a:ty.length=xs.length)(hk:∀k∈ks,k<52)(hb:ks.length<=6)(hn:1<=xs.length)(d:xs.length<=40)(h1:1<=id)(h2:id<=1000000):
 CS (r! L (n+44)) F4 [.agg (Bp id (B0 ks) (BL xs) (uu (ty.getD (xs.length-1) 0)))] (Bo true):=by
 intro K i;rw[kI];unfold Td XA3;rw[Fb (Nh (.inr ⟨_,_,rfl⟩) (.inr ⟨_,_,rfl⟩))];have c:=Av (H:=[]) (x:=Ih id (B0 ks) (BL xs) (uu (ty.getD (xs.length-1) 0))) (by simp);generalize ((Ax [],Ih id (B0 ks) (BL xs) (uu (ty.getD (xs.length-1) 0)))::([]:Hp))=e at c;have ck:∀{K:K2},Aj (r! L (n+43)) Tq [.agg (Bp id (B0 ks) (BL xs) (uu (ty.getD (xs.length-1) 0)))] e K=K (.tup [QD ty,I 0,I 0]):=λ{K}=>AE (B27 j m a hk hb hn d h1 h2) (UN (.inr ⟨_,_,rfl⟩) (.inr ⟨_,_,rfl⟩));have h:∀{K:K2},Ci (.tup [QD ty,I 0,I 0]) 2 K=K (I 0):=λ{K}=>r_ rfl;have f:∀{K:K2},Ci (.tup [QD ty,I 0,I 0]) 0 K=K (QD ty):=λ{K}=>r_ rfl;have g:∀{K:K2},Ci (.tup [QD ty,I 0,I 0]) 1 K=K (I 0):=λ{K}=>r_ rfl;rw[AX rfl rfl c,ck,f,g,h,vL];exact i _ _ (λb=>⟨false,λK=>by kernel_rfl⟩)
end
end
section
variable{L n:Nat}
section
variable{ks:Hb}{xs:List Nd}{id:Int}{o:UD}
def Kd(ks:Hb):List Nd:=(List.range ks.length).map Yh
def Dz:(Kd ks).length=ks.length:=by simp[Kd]
def dD{i:Nat}(h:i<(Kd ks).length):(Kd ks)[i]=Yh i:=by simp[Kd]
def B6G(hb:ks.length<=6):RTy L n id ks (Kd ks) o ks:=by
 intro i h;rw[dD h];have a:i<ks.length:=by rw[Dz]at h;exact h
 have e:ks.getD i 0=ks[i]:=by simp[List.getD,JC a]
 rw[e];exact Xr (n:=n+39) hb a
def lR{y:Nd}{k:Nat}(hb:ks.length<=6)(f:CS (r! L (n+42)) Ct [.agg (Bp id (B0 ks) (BL (Kd ks++[y])) o),.agg y.cs,I ks.length,QD ks] (.tup [.agg (BX (uu k)),I 0])):
 RTy L n id ks (Kd ks++[y]) o (ks++[k]):=by
 intro i h;rw[EJ,Dz]at h;by_cases a:i<ks.length
 ·have e:(Kd ks++[y])[i]'(by rw[EJ,Dz];exact h)=Yh i:=by
   rw[List.getElem_append_left (by rw[Dz];exact a)];exact dD _
  rw[e];have c:(ks++[k]).getD i 0=ks[i]:=by simp[List.getD,l0l a,JC a]
  rw[c];exact Xr (n:=n+39) hb a
 ·have d:i=ks.length:=by simp at h;omega
  subst d;have e:(Kd ks++[y])[ks.length]'(by rw[EJ,Dz];exact h)=y:=by
   rw[List.getElem_append_right (by rw[Dz];omega)];simp
  rw[e];have c:(ks++[k]).getD ks.length 0=k:=by simp[List.getD]
  rw[c,List.take_left']
  ·exact f
  ·rfl
end
end
section
def dg(k:Nat):Ha:=if k<10 then[UInt8.ofNat (48+k)] else if k<100 then[UInt8.ofNat (48+k/10),UInt8.ofNat (48+k%10)] else[UInt8.ofNat (48+k/100),UInt8.ofNat (48+k/10%10),UInt8.ofNat (48+k%10)]
variable(L n:Nat)
def B74:((List.range 50).all λk=>(λi=>Jc (AS (CU (r! L (n+10)) BM [I (i:Nat)]) (S (dg i)))) (k+0))=true:=by kernel_rfl
def B73:((List.range 50).all λk=>(λi=>Jc (AS (CU (r! L (n+10)) BM [I (i:Nat)]) (S (dg i)))) (k+50))=true:=by kernel_rfl
def B72:((List.range 50).all λk=>(λi=>Jc (AS (CU (r! L (n+10)) BM [I (i:Nat)]) (S (dg i)))) (k+100))=true:=by kernel_rfl
def B71:((List.range 50).all λk=>(λi=>Jc (AS (CU (r! L (n+10)) BM [I (i:Nat)]) (S (dg i)))) (k+150))=true:=by kernel_rfl
def B70:((List.range 50).all λk=>(λi=>Jc (AS (CU (r! L (n+10)) BM [I (i:Nat)]) (S (dg i)))) (k+200))=true:=by kernel_rfl
def B6Z:((List.range 50).all λk=>(λi=>Jc (AS (CU (r! L (n+10)) BM [I (i:Nat)]) (S (dg i)))) (k+250))=true:=by kernel_rfl
def B6Y:((List.range 50).all λk=>(λi=>Jc (AS (CU (r! L (n+10)) BM [I (i:Nat)]) (S (dg i)))) (k+300))=true:=by kernel_rfl
def B6X:((List.range 50).all λk=>(λi=>Jc (AS (CU (r! L (n+10)) BM [I (i:Nat)]) (S (dg i)))) (k+350))=true:=by kernel_rfl
def B6W:((List.range 50).all λk=>(λi=>Jc (AS (CU (r! L (n+10)) BM [I (i:Nat)]) (S (dg i)))) (k+400))=true:=by kernel_rfl
def B6V:((List.range 50).all λk=>(λi=>Jc (AS (CU (r! L (n+10)) BM [I (i:Nat)]) (S (dg i)))) (k+450))=true:=by kernel_rfl
def B26:((List.range 50).all λk=>(λi=>Jc (AS (CU (r! L (n+10)) BM [I (i:Nat)]) (S (dg i)))) (k+500))=true:=by kernel_rfl
def B25:((List.range 50).all λk=>(λi=>Jc (AS (CU (r! L (n+10)) BM [I (i:Nat)]) (S (dg i)))) (k+550))=true:=by kernel_rfl
def B24:((List.range 50).all λk=>(λi=>Jc (AS (CU (r! L (n+10)) BM [I (i:Nat)]) (S (dg i)))) (k+600))=true:=by kernel_rfl
def B23:((List.range 50).all λk=>(λi=>Jc (AS (CU (r! L (n+10)) BM [I (i:Nat)]) (S (dg i)))) (k+650))=true:=by kernel_rfl
def B22:((List.range 50).all λk=>(λi=>Jc (AS (CU (r! L (n+10)) BM [I (i:Nat)]) (S (dg i)))) (k+700))=true:=by kernel_rfl
def B21:((List.range 50).all λk=>(λi=>Jc (AS (CU (r! L (n+10)) BM [I (i:Nat)]) (S (dg i)))) (k+750))=true:=by kernel_rfl
def B20:((List.range 50).all λk=>(λi=>Jc (AS (CU (r! L (n+10)) BM [I (i:Nat)]) (S (dg i)))) (k+800))=true:=by kernel_rfl
def B1Z:((List.range 50).all λk=>(λi=>Jc (AS (CU (r! L (n+10)) BM [I (i:Nat)]) (S (dg i)))) (k+850))=true:=by kernel_rfl
def B1Y:((List.range 50).all λk=>(λi=>Jc (AS (CU (r! L (n+10)) BM [I (i:Nat)]) (S (dg i)))) (k+900))=true:=by kernel_rfl
def C2y(i:Nat)(h:i<950):PS (r! L (n+10)) BM [I (i:Nat)] (S (dg i)):=by
 refine B3 (λH=>by first|exact λK=>by kernel_rfl) ?_;by_cases q:i<50
 ·have:=G8.1 (B74 L n) (i-0) (JM.2 (by omega));have e:i-0+0=i:=by omega
  simp only[e]at this;exact this
 by_cases h1:i<100
 ·have:=G8.1 (B73 L n) (i-50) (JM.2 (by omega));have e:i-50+50=i:=by omega
  simp only[e]at this;exact this
 by_cases h2:i<150
 ·have:=G8.1 (B72 L n) (i-100) (JM.2 (by omega));have e:i-100+100=i:=by omega
  simp only[e]at this;exact this
 by_cases r:i<200
 ·have:=G8.1 (B71 L n) (i-150) (JM.2 (by omega));have e:i-150+150=i:=by omega
  simp only[e]at this;exact this
 by_cases s:i<250
 ·have:=G8.1 (B70 L n) (i-200) (JM.2 (by omega));have e:i-200+200=i:=by omega
  simp only[e]at this;exact this
 by_cases t:i<300
 ·have:=G8.1 (B6Z L n) (i-250) (JM.2 (by omega));have e:i-250+250=i:=by omega
  simp only[e]at this;exact this
 by_cases u:i<350
 ·have:=G8.1 (B6Y L n) (i-300) (JM.2 (by omega));have e:i-300+300=i:=by omega
  simp only[e]at this;exact this
 by_cases v:i<400
 ·have:=G8.1 (B6X L n) (i-350) (JM.2 (by omega));have e:i-350+350=i:=by omega
  simp only[e]at this;exact this
 by_cases w:i<450
 ·have:=G8.1 (B6W L n) (i-400) (JM.2 (by omega));have e:i-400+400=i:=by omega
  simp only[e]at this;exact this
 by_cases x:i<500
 ·have:=G8.1 (B6V L n) (i-450) (JM.2 (by omega));have e:i-450+450=i:=by omega
  simp only[e]at this;exact this
 by_cases a:i<550
 ·have:=G8.1 (B26 L n) (i-500) (JM.2 (by omega));have e:i-500+500=i:=by omega
  simp only[e]at this;exact this
 by_cases c:i<600
 ·have:=G8.1 (B25 L n) (i-550) (JM.2 (by omega));have e:i-550+550=i:=by omega
  simp only[e]at this;exact this
 by_cases d:i<650
 ·have:=G8.1 (B24 L n) (i-600) (JM.2 (by omega));have e:i-600+600=i:=by omega
  simp only[e]at this;exact this
 by_cases f:i<700
 ·have:=G8.1 (B23 L n) (i-650) (JM.2 (by omega));have e:i-650+650=i:=by omega
  simp only[e]at this;exact this
 by_cases g:i<750
 ·have:=G8.1 (B22 L n) (i-700) (JM.2 (by omega));have e:i-700+700=i:=by omega
  simp only[e]at this;exact this
 by_cases j:i<800
 ·have:=G8.1 (B21 L n) (i-750) (JM.2 (by omega));have e:i-750+750=i:=by omega
  simp only[e]at this;exact this
 by_cases k:i<850
 ·have:=G8.1 (B20 L n) (i-800) (JM.2 (by omega));have e:i-800+800=i:=by omega
  simp only[e]at this;exact this
 by_cases m:i<900
 ·have:=G8.1 (B1Z L n) (i-850) (JM.2 (by omega));have e:i-850+850=i:=by omega
  simp only[e]at this;exact this
 by_cases p:i<950
 ·have:=G8.1 (B1Y L n) (i-900) (JM.2 (by omega));have e:i-900+900=i:=by omega
  simp only[e]at this;exact this
 omega
end
section
variable(L n:Nat)
def B4T:((List.range 50).all λk=>(λi=>Jc (AS (CU (r! L (n+10)) BD [I (i:Nat)]) (S (dg i)))) (k+0))=true:=by kernel_rfl
def B4S:((List.range 50).all λk=>(λi=>Jc (AS (CU (r! L (n+10)) BD [I (i:Nat)]) (S (dg i)))) (k+50))=true:=by kernel_rfl
def B4R:((List.range 50).all λk=>(λi=>Jc (AS (CU (r! L (n+10)) BD [I (i:Nat)]) (S (dg i)))) (k+100))=true:=by kernel_rfl
def B4Q:((List.range 50).all λk=>(λi=>Jc (AS (CU (r! L (n+10)) BD [I (i:Nat)]) (S (dg i)))) (k+150))=true:=by kernel_rfl
def B4P:((List.range 50).all λk=>(λi=>Jc (AS (CU (r! L (n+10)) BD [I (i:Nat)]) (S (dg i)))) (k+200))=true:=by kernel_rfl
def B4O:((List.range 50).all λk=>(λi=>Jc (AS (CU (r! L (n+10)) BD [I (i:Nat)]) (S (dg i)))) (k+250))=true:=by kernel_rfl
def B4N:((List.range 50).all λk=>(λi=>Jc (AS (CU (r! L (n+10)) BD [I (i:Nat)]) (S (dg i)))) (k+300))=true:=by kernel_rfl
def B4M:((List.range 50).all λk=>(λi=>Jc (AS (CU (r! L (n+10)) BD [I (i:Nat)]) (S (dg i)))) (k+350))=true:=by kernel_rfl
def B4L:((List.range 50).all λk=>(λi=>Jc (AS (CU (r! L (n+10)) BD [I (i:Nat)]) (S (dg i)))) (k+400))=true:=by kernel_rfl
def B4K:((List.range 50).all λk=>(λi=>Jc (AS (CU (r! L (n+10)) BD [I (i:Nat)]) (S (dg i)))) (k+450))=true:=by kernel_rfl
def B0V:((List.range 50).all λk=>(λi=>Jc (AS (CU (r! L (n+10)) BD [I (i:Nat)]) (S (dg i)))) (k+500))=true:=by kernel_rfl
def B0U:((List.range 50).all λk=>(λi=>Jc (AS (CU (r! L (n+10)) BD [I (i:Nat)]) (S (dg i)))) (k+550))=true:=by kernel_rfl
def B0T:((List.range 50).all λk=>(λi=>Jc (AS (CU (r! L (n+10)) BD [I (i:Nat)]) (S (dg i)))) (k+600))=true:=by kernel_rfl
def B0S:((List.range 50).all λk=>(λi=>Jc (AS (CU (r! L (n+10)) BD [I (i:Nat)]) (S (dg i)))) (k+650))=true:=by kernel_rfl
def B0R:((List.range 50).all λk=>(λi=>Jc (AS (CU (r! L (n+10)) BD [I (i:Nat)]) (S (dg i)))) (k+700))=true:=by kernel_rfl
def B0Q:((List.range 50).all λk=>(λi=>Jc (AS (CU (r! L (n+10)) BD [I (i:Nat)]) (S (dg i)))) (k+750))=true:=by kernel_rfl
def B0P:((List.range 50).all λk=>(λi=>Jc (AS (CU (r! L (n+10)) BD [I (i:Nat)]) (S (dg i)))) (k+800))=true:=by kernel_rfl
def B0O:((List.range 50).all λk=>(λi=>Jc (AS (CU (r! L (n+10)) BD [I (i:Nat)]) (S (dg i)))) (k+850))=true:=by kernel_rfl
def B0N:((List.range 50).all λk=>(λi=>Jc (AS (CU (r! L (n+10)) BD [I (i:Nat)]) (S (dg i)))) (k+900))=true:=by kernel_rfl
def C2r(i:Nat)(h:i<950):PS (r! L (n+10)) BD [I (i:Nat)] (S (dg i)):=by
 refine B3 (λH=>by first|exact λK=>by kernel_rfl) ?_;by_cases q:i<50
 ·have:=G8.1 (B4T L n) (i-0) (JM.2 (by omega));have e:i-0+0=i:=by omega
  simp only[e]at this;exact this
 by_cases h1:i<100
 ·have:=G8.1 (B4S L n) (i-50) (JM.2 (by omega));have e:i-50+50=i:=by omega
  simp only[e]at this;exact this
 by_cases h2:i<150
 ·have:=G8.1 (B4R L n) (i-100) (JM.2 (by omega));have e:i-100+100=i:=by omega
  simp only[e]at this;exact this
 by_cases r:i<200
 ·have:=G8.1 (B4Q L n) (i-150) (JM.2 (by omega));have e:i-150+150=i:=by omega
  simp only[e]at this;exact this
 by_cases s:i<250
 ·have:=G8.1 (B4P L n) (i-200) (JM.2 (by omega));have e:i-200+200=i:=by omega
  simp only[e]at this;exact this
 by_cases t:i<300
 ·have:=G8.1 (B4O L n) (i-250) (JM.2 (by omega));have e:i-250+250=i:=by omega
  simp only[e]at this;exact this
 by_cases u:i<350
 ·have:=G8.1 (B4N L n) (i-300) (JM.2 (by omega));have e:i-300+300=i:=by omega
  simp only[e]at this;exact this
 by_cases v:i<400
 ·have:=G8.1 (B4M L n) (i-350) (JM.2 (by omega));have e:i-350+350=i:=by omega
  simp only[e]at this;exact this
 by_cases w:i<450
 ·have:=G8.1 (B4L L n) (i-400) (JM.2 (by omega));have e:i-400+400=i:=by omega
  simp only[e]at this;exact this
 by_cases x:i<500
 ·have:=G8.1 (B4K L n) (i-450) (JM.2 (by omega));have e:i-450+450=i:=by omega
  simp only[e]at this;exact this
 by_cases a:i<550
 ·have:=G8.1 (B0V L n) (i-500) (JM.2 (by omega));have e:i-500+500=i:=by omega
  simp only[e]at this;exact this
 by_cases c:i<600
 ·have:=G8.1 (B0U L n) (i-550) (JM.2 (by omega));have e:i-550+550=i:=by omega
  simp only[e]at this;exact this
 by_cases d:i<650
 ·have:=G8.1 (B0T L n) (i-600) (JM.2 (by omega));have e:i-600+600=i:=by omega
  simp only[e]at this;exact this
 by_cases f:i<700
 ·have:=G8.1 (B0S L n) (i-650) (JM.2 (by omega));have e:i-650+650=i:=by omega
  simp only[e]at this;exact this
 by_cases g:i<750
 ·have:=G8.1 (B0R L n) (i-700) (JM.2 (by omega));have e:i-700+700=i:=by omega
  simp only[e]at this;exact this
 by_cases j:i<800
 ·have:=G8.1 (B0Q L n) (i-750) (JM.2 (by omega));have e:i-750+750=i:=by omega
  simp only[e]at this;exact this
 by_cases k:i<850
 ·have:=G8.1 (B0P L n) (i-800) (JM.2 (by omega));have e:i-800+800=i:=by omega
  simp only[e]at this;exact this
 by_cases m:i<900
 ·have:=G8.1 (B0O L n) (i-850) (JM.2 (by omega));have e:i-850+850=i:=by omega
  simp only[e]at this;exact this
 by_cases p:i<950
 ·have:=G8.1 (B0N L n) (i-900) (JM.2 (by omega));have e:i-900+900=i:=by omega
  simp only[e]at this;exact this
 omega
end
section
def exN(j:Nat):Nd:=
 if j<3 then Yh j
 else if j<39 then⟨(3+(j-3)/9:Nat),[],[],u0,0,((j-3)/3%3:Nat),((j-3)%3:Nat)⟩
 else⟨7,[],[],u0,iI ((j-39)%5),((j-39)/5:Nat),0⟩
def FZ:List Ha:=[[],[99,111,110,115,116],[105,110,112,117,116],[97,100,100],[115,117,98],[109,117,108],[100,105,118],[112,111,119],[115,113,114,116]]
def exT(j:Nat):Ha:=
 if j<3 then FZ.getD 2 []++[32]++dec j
 else if j<39 then FZ.getD (3+(j-3)/9) []++[32]++dec ((j-3)/3%3:Nat)++[32]++dec ((j-3)%3:Nat)
 else FZ.getD 7 []++[32]++dec ((j-39)/5:Nat)++[32]++dec (iI ((j-39)%5))
variable(L n:Nat)
def A7F:((List.range 54).all λi=>Jc (AS (CU (r! L (n+41)) I9 [.agg (exN i).cs]) (S (exT i))))=true:=by kernel_rfl
end
section
def frL:List (Ha×Ha):=[([45,54],[49]),
 ([45,51],[49]),
 ([45,50],[49]),
 ([45,51],[50]),
 ([45,53],[49]),
 ([45,53],[50]),
 ([45,53],[51]),
 ([45,53],[52]),
 ([45,52],[49]),
 ([45,52],[51]),
 ([45,49],[49]),
 ([45,51],[52]),
 ([45,50],[51]),
 ([45,49],[50]),
 ([45,49],[51]),
 ([45,49],[52]),
 ([48],[49]),
 ([49],[49]),
 ([49],[50]),
 ([49],[51]),
 ([49],[52]),
 ([50],[49]),
 ([50],[51]),
 ([51],[49]),
 ([51],[50]),
 ([51],[52]),
 ([52],[49]),
 ([52],[51]),
 ([53],[49]),
 ([53],[50]),
 ([53],[51]),
 ([53],[52]),
 ([54],[49])]
def frn(i:Nat):Ha:=(frL.getD i ([],[])).1
def frd(i:Nat):Ha:=(frL.getD i ([],[])).2
abbrev Zl(i:Nat):Is:=[S (frn i),S (frd i)]
def frt(i:Nat):Ha:=if frd i=[49] then frn i else frn i++[47]++frd i
def C1a:List Hb:=[[0,1,2,3],[4,5,6,7],[8,2,9,10],[1,3,10,11],[2,10,12,13],[10,13,14,15],[16,16,16,16],[17,18,19,20],[21,17,22,18],[23,24,17,25],[26,21,27,17],[28,29,30,31],[32,23,21,24]]
def iB(a b:Nat):Nat:=(C1a.getD a []).getD b 0
variable(L n:Nat)
def A7J:((List.range 13).all λk=>(λi=>Jc (AS (CU (r! L (n+40)) FL [I (((i/4:Nat):Int)-6),I (1+((i%4:Nat):Int))]) (.tup [.agg (Zl (iB (i/4) (i%4))),I 0]))) (k+0))=true:=by kernel_rfl
def A7I:((List.range 13).all λk=>(λi=>Jc (AS (CU (r! L (n+40)) FL [I (((i/4:Nat):Int)-6),I (1+((i%4:Nat):Int))]) (.tup [.agg (Zl (iB (i/4) (i%4))),I 0]))) (k+13))=true:=by kernel_rfl
def A7H:((List.range 13).all λk=>(λi=>Jc (AS (CU (r! L (n+40)) FL [I (((i/4:Nat):Int)-6),I (1+((i%4:Nat):Int))]) (.tup [.agg (Zl (iB (i/4) (i%4))),I 0]))) (k+26))=true:=by kernel_rfl
def A7G:((List.range 13).all λk=>(λi=>Jc (AS (CU (r! L (n+40)) FL [I (((i/4:Nat):Int)-6),I (1+((i%4:Nat):Int))]) (.tup [.agg (Zl (iB (i/4) (i%4))),I 0]))) (k+39))=true:=by kernel_rfl
def B6U(i:Nat)(h:i<52):PS (r! L (n+40)) FL [I (((i/4:Nat):Int)-6),I (1+((i%4:Nat):Int))] (.tup [.agg (Zl (iB (i/4) (i%4))),I 0]):=by
 refine B3 (λH=>by first|exact λK=>by kernel_rfl) ?_;by_cases a:i<13
 ·have:=G8.1 (A7J L n) (i-0) (JM.2 (by omega));have e:i-0+0=i:=by omega
  simp only[e]at this;exact this
 by_cases h1:i<26
 ·have:=G8.1 (A7I L n) (i-13) (JM.2 (by omega));have e:i-13+13=i:=by omega
  simp only[e]at this;exact this
 by_cases h2:i<39
 ·have:=G8.1 (A7H L n) (i-26) (JM.2 (by omega));have e:i-26+26=i:=by omega
  simp only[e]at this;exact this
 by_cases c:i<52
 ·have:=G8.1 (A7G L n) (i-39) (JM.2 (by omega));have e:i-39+39=i:=by omega
  simp only[e]at this;exact this
 ·omega
def R! :((List.range 11).all λk=>(λi=>Jc (AS (CU (r! L (n+40)) EY [.agg (Zl i)]) (Bo true))) (k+0))=true:=by kernel_rfl
def R':((List.range 11).all λk=>(λi=>Jc (AS (CU (r! L (n+40)) EY [.agg (Zl i)]) (Bo true))) (k+11))=true:=by kernel_rfl
def Q_:((List.range 11).all λk=>(λi=>Jc (AS (CU (r! L (n+40)) EY [.agg (Zl i)]) (Bo true))) (k+22))=true:=by kernel_rfl
def A51(i:Nat)(h:i<33):PS (r! L (n+40)) EY [.agg (Zl i)] (Bo true):=by
 refine B3 (λH=>by first|exact λK=>by kernel_rfl) ?_;by_cases a:i<11
 ·have:=G8.1 (R! L n) (i-0) (JM.2 (by omega));have e:i-0+0=i:=by omega
  simp only[e]at this;exact this
 by_cases h1:i<22
 ·have:=G8.1 (R' L n) (i-11) (JM.2 (by omega));have e:i-11+11=i:=by omega
  simp only[e]at this;exact this
 by_cases h2:i<33
 ·have:=G8.1 (Q_ L n) (i-22) (JM.2 (by omega));have e:i-22+22=i:=by omega
  simp only[e]at this;exact this
 ·omega
def S':((List.range 11).all λk=>(λi=>Jc (AS (CU (r! L (n+40)) LL [.agg (Zl i)]) (S (frt i)))) (k+0))=true:=by kernel_rfl
def R_:((List.range 11).all λk=>(λi=>Jc (AS (CU (r! L (n+40)) LL [.agg (Zl i)]) (S (frt i)))) (k+11))=true:=by kernel_rfl
def R?:((List.range 11).all λk=>(λi=>Jc (AS (CU (r! L (n+40)) LL [.agg (Zl i)]) (S (frt i)))) (k+22))=true:=by kernel_rfl
def A52(i:Nat)(h:i<33):PS (r! L (n+40)) LL [.agg (Zl i)] (S (frt i)):=by
 refine B3 (λH=>by first|exact λK=>by kernel_rfl) ?_;by_cases a:i<11
 ·have:=G8.1 (S' L n) (i-0) (JM.2 (by omega));have e:i-0+0=i:=by omega
  simp only[e]at this;exact this
 by_cases h1:i<22
 ·have:=G8.1 (R_ L n) (i-11) (JM.2 (by omega));have e:i-11+11=i:=by omega
  simp only[e]at this;exact this
 by_cases h2:i<33
 ·have:=G8.1 (R? L n) (i-22) (JM.2 (by omega));have e:i-22+22=i:=by omega
  simp only[e]at this;exact this
 ·omega
end
section
variable(L n:Nat)
def A6I:((List.range 54).all λi=>Jc (AS (CU (r! L (n+41)) Ft [.agg (exN i).cs]) (S (exT i))))=true:=by kernel_rfl
def cnN(i k:Nat):Nd:=⟨1,frn i,frd i,uu k,0,0,0⟩
def cnT(i k:Nat):Ha:=FZ.getD 1 []++[32]++frt i++[32]++Kx k
end
end Go.Abs
end
noncomputable section
end
noncomputable section
namespace Go.Abs
open Go.RowKit Go.Proofs
set_option maxRecDepth 100000
section
variable{v:AV}{args:Is}{f:Nat}{R:Rt}
variable{L n:Nat}
def RV(R:Rt)(f:Nat)(args:Is)(v:AV):Prop:=∀b,(R.call f args [] λv d=>I5 b d depth v λ_ e=>some (e,[]))=some (v,[])
def mM{args args':Is}{H:Hp}{q:Bool}{K:K2}(hc:RV R f args' v)(d:Py true depth args args' H q):Aj R f args H K=K v:=by
 unfold Aj;rw[d];show Am (R.call f args' [] _) K=K v;rw[hc (!q)];rfl
def CS.rv(h:CS R f args v):RV R f args v:=λb=>h _ λe d hv=>by
 obtain⟨q,hq⟩:=hv b;exact hq _
abbrev fnA(f:Nat):AV:=.fn (.func f) [] []
abbrev Zj(w:Ha)(F:AV)(g:Nat):AV:=.agg [S w,F,fnA g]
abbrev jS:AV:=.list 2 [fnA OO,fnA dM]
abbrev B79:AV:=.list 2 [fnA OO,fnA RP]
abbrev B7o:AV:=.list 1 [fnA RP]
abbrev WB:AV:=.imap [(.int .i64 1,Zj (FZ.getD 1 []) A1 D3),(.int .i64 2,Zj (FZ.getD 2 []) B7o Fw),
 (.int .i64 3,Zj (FZ.getD 3 []) jS EC),(.int .i64 4,Zj (FZ.getD 4 []) jS De),
 (.int .i64 5,Zj (FZ.getD 5 []) jS DA),(.int .i64 6,Zj (FZ.getD 6 []) jS D2),
 (.int .i64 7,Zj (FZ.getD 7 []) B79 Eg),(.int .i64 8,Zj (FZ.getD 8 []) (.list 1 [fnA OO]) RQ)]
def B3F:PS (r! L (n+1)) HJ [] WB:=B3 (λH K=>by kernel_rfl) (by kernel_rfl)
abbrev VU(I U:AV):AV:=.iptr [WB,I,U]
variable{I1:AV}{a b c i k:Nat}
end
section
variable{L n:Nat}
section
variable{H:Hp}{c:Nat}{v I1 F:AV}{l:Hb}{y:Nd}{w:Ha}{g k:Nat}
abbrev VG(I1 v:AV):Row:=.cells true XO [WB,I1,v]
def B7T(hc:Al H c=some (VG I1 v))(h:AZ H A4 20 v l.length (l.flatMap GP))(e:l=[]->v=A1)(f:Sl I1):Fx true depth (.ptr c 0 0) (VU I1 (QD l)) H true:=by
 obtain⟨q,hq⟩:=iA (D:=depth-2) (b:=true) h e;have a1:Fx true (depth-1) WB WB H false:=λK=>r_ rfl;have a2:Fx true (depth-1) I1 I1 H false:=by rcases f with rfl|⟨_,_,rfl⟩<;>exact λK=>r_ rfl
 have d:Py true (depth-1) [WB,I1,v] [WB,I1,QD l] H (false||(false||(q||false))):=Aq a1 (Aq a2 (Aq hq AG));intro K;show IN H c (λx=>Ku x λ_ cs=>Il (I5 true H (depth-1)) (D0 (Nat.add 0 0) cs) λ_ a=>K true (.iptr a))=_;rw[Bq hc];show Il (I5 true H (depth-1)) (D0 0 [WB,I1,v]) (λ_ a=>K true (.iptr a))=_;rw[C9,tJ,d]
def A37{f m:Nat}{args:Is}{K:KV}(hn:(E (L+20)).ne f=false)(d:(E (L+20)).imp f=false)(hz:∀s,args≠[.ptr s 0 0]):C7 (E (L+20)) (rt (L+20) m) (fnA f) args H K=Aj (rt (L+20) m) f args H λv=>K v H:=by
 show RM args [] (λa=>RM [] a λall=>A0f ((E (L+20)).ne f) all H K (@Bool.rec (λ_=>Af) (zpm (E (L+20)) f (rt (L+20) m) all H λv=>K v H) ((rt (L+20) m).call f all H K) ((E (L+20)).imp f)))=_;rw[I6,I6,hn,d,YV,l35];show zpm (E (L+20)) f (rt (L+20) m) args H (λv=>K v H)=_;rw[A6p hz]
def A8c{K:Af}(h:Zd v v=true):Qb (AS (some (v,H)) v) K=K:=by
 show Qb (some (.v (.bool (Zd v v)),[])) K=K;rw[h];rfl
def M_{e z n:Nat}{cs:Is}(h:AZ H e z v n cs):Zd v v=true:=by
 rcases h with⟨rfl,_⟩|⟨r,q,rfl,_⟩
 ·rfl
 ·show(Nat.beq z z&&(Nat.beq r r&&(Nat.beq 0 0&&Nat.beq n n)))=true;simp
def A9x{K:K2}{t:TI}:Ap t .eql (I 0) (.v (.int .i64 0)) K=K (Bo true):=by rw[Dn,Ki rfl]
def B9n(hc:Al H c=some (VG I1 v))(hs:AZ H A4 20 v l.length (l.flatMap GP))(h0:l=[]->v=A1)(hr:¬A6 v c)(wf:Wf H)(hb:l.length<100)(hI:Sl I1)(hF:Sl F)(hk:∀H K,(tQ .i64 (I y.op) λq=>Tt Bj true WB q H K)=K (.tup [Zj w F g,Bo true]))(ha:Zd (.tup [Zj w F g,Bo true]) (.tup [Zj w F g,Bo true])=true)(hn:(E (L+20)).ne g=false)(hi:(E (L+20)).imp g=false)(hh:RV (r! L (n+41)) BE [VU I1 (QD l),Zj w F g,.agg y.cs] (Bo true))(B:RV (r! L (n+41)) g [VU I1 (QD l),.agg y.cs] (.tup [.agg (BX (uu k)),I 0])):
 ∃f J,(∀K,(r! L (n+42)).call Iu [.ptr c 0 0,.agg y.cs] H K=K (Bo true) J)/\Al J c=some (VG I1 f)/\AZ J A4 20 f (l++[k]).length ((l++[k]).flatMap GP)/\¬A6 f c/\Wf J/\Ax H<=Ax J/\(∀s x,Al H s=some x->s≠c->¬A6 v s->Al J s=some x)/\(∀s,A6 f s->Ax H<=s):=by
 have i:=Av (H:=H) (x:=VK y) (by simp);have t:=AK (x:=VK y) (wf.lt hc) hc;have w1:=AM (x:=VK y) wf;have Y:AZ ((Ax H,VK y)::H) A4 20 v l.length (l.flatMap GP):=hs.lat wf (Lat.cons H _ (λ_=>False)) (λ_ _ h=>h);have ad:∀s x,Al H s=some x->Al ((Ax H,VK y)::H) s=some x:=λs x h=>AK (wf.lt h) h;have n1:Ax H<=Ax ((Ax H,VK y)::H):=l1p _;have aj:∀s,A6 v s->s<Ax H:=λs B=>by
  rcases hs with⟨rfl,_⟩|⟨r,q,rfl,h2,_⟩
  ·obtain⟨_,_,_,h⟩:=B;cases h
  ·obtain⟨_,_,_,h⟩:=B;cases h;exact wf.lt h2
 have ey:∀K:KV,Hd AL (.agg y.cs) H K=K (.ptr (Ax H) 0 0) ((Ax H,VK y)::H):=λK=>Fb A1S;have yl:=wf.lt hc;generalize a4:((Ax H,VK y)::H)=d at i t w1 Y ad n1 ey;generalize a5:Ax H=r at i ey yl n1 aj;obtain⟨m,e2,X,w2,k2⟩:=DY (e:=Cj) (zs:=[zS,zL,.v .nilFunc]) (vs:=[S w,F,fnA g]) w1 rfl;have ai:=Av (H:=d) (x:=.cells true Cj [zS,zL,.v .nilFunc]) (by simp);have N:=AK (x:=.cells true Cj [zS,zL,.v .nilFunc]) (w1.lt t) t;have ac:=AK (x:=.cells true Cj [zS,zL,.v .nilFunc]) (w1.lt i) i;obtain⟨O,a6⟩:=k2 _ _ t;obtain⟨ao,a8⟩:=k2 _ _ i;have Z:AZ m A4 20 v l.length (l.flatMap GP):=by
  rcases Y with h|⟨r,q,h1,h2,h3⟩
  ·exact .inl h
  ·exact .inr ⟨r,q,h1,(k2 _ _ h2).1,h3⟩
 have n2:Ax d<=Ax m:=by rw[e2,BV];exact l1p _
 obtain⟨C,e3,ak,w3,k3⟩:=DY (e:=A4) (zs:=F5) (vs:=BX (uu k)) w2 rfl;obtain⟨A,a7⟩:=k3 _ _ O;have aa:AZ C A4 20 v l.length (l.flatMap GP):=by
  rcases Z with h|⟨r,q,h1,h2,h3⟩
  ·exact .inl h
  ·exact .inr ⟨r,q,h1,(k3 _ _ h2).1,h3⟩
 have n3:Ax m<=Ax C:=by rw[e3,BV];exact l1p _
 obtain⟨f,M,e4,ab,w4,n4,k4,ah⟩:=C1R k aa w3 hb;have Q:=k4 _ _ A hr;have R:¬A6 f c:=λB=>by have:=ah c B;have:=w3.lt A;omega
 have D:B2 f=[f]/\AV.one f=true:=by
  rcases ab with⟨rfl,_⟩|⟨a,b,rfl,_⟩<;>exact⟨rfl,rfl⟩
 refine⟨f,upd M c (VG I1 f),λK=>?_,A5 Q,ab.lat w4 (Lat.upd M c _ (P:=λu=>u=c) rfl) (λu B e=>R (e▸B)),R,Bs w4,by rw[BV];omega,λs x h h1 h2=>?_,λs B=>by have:=ah s B;omega⟩
 ·rw[Qo];unfold Iq E0 JD Az MS Fk;rw[ey];have f0:∀{s j:Nat}{K:K2},Cl j (.ptr s 0 0) K=K (.ptr s j 0):=λ{s j K}=>by rw[fA,Kk]
  have lk1:∀{K},A7 Dy (.ptr c 0 0) d K=K WB:=λ{K}=>AH (p:=0) rfl t (show 0<3 by decide);have ay:∀{K},A7 Ac (.ptr r 0 0) d K=K (I y.op):=λ{K}=>AH (p:=0) rfl i (show 0<26 by decide);have af:∀{K},A7 Dy (.ptr c 0 0) ((Ax d,c_ Cj [zS,zL,.v .nilFunc])::d) K=K WB:=λ{K}=>AH (p:=0) rfl N (show 0<3 by decide);have ag:∀{K},A7 Ac (.ptr r 0 0) ((Ax d,c_ Cj [zS,zL,.v .nilFunc])::d) K=K (I y.op):=λ{K}=>AH (p:=0) rfl ac (show 0<26 by decide);have al:∀{K:KV},Ba Cj Bj d K=K (.ptr (Ax d) 0 0) ((Ax d,c_ Cj [zS,zL,.v .nilFunc])::d):=λ{K}=>AP rfl;have st:∀{K:Ru},Dr Bj (.ptr (Ax d) 0 0) (Zj w F g) ((Ax d,c_ Cj [zS,zL,.v .nilFunc])::d) K=K m:=λ{K}=>by
   rw[e2];exact Bv (vs:=[S w,F,fnA g]) ai rfl rfl (by rcases hF with rfl|⟨_,_,rfl⟩<;>rfl)
  have o1:∀{K:Af}{H:Hp},Qb (AS (some (WB,H)) WB) K=K:=λ{K H}=>by kernel_rfl
  have o2:∀{K:Af}{H:Hp}{z:Int},Qb (AS (some (I z,H)) (I z)) K=K:=λ{K H z}=>Rk (by rfl);have o3:∀{K:Af}{H:Hp},Qb (AS (some (.tup [Zj w F g,Bo true],H)) (.tup [Zj w F g,Bo true])) K=K:=λ{K H}=>by
   show Qb (some (.v (.bool (Zd _ _)),[])) K=K;rw[ha];rfl
  simp only[I2,BN,f0,lk1,ay,hk,CI,CH,al,Ck,st,af,ag,o1,o2,o3,xR];have ar:∀{K},A7 Bj (.ptr (Ax d) 0 0) m K=K (Zj w F g):=λ{K}=>AX rfl rfl X;have az:∀{K},A7 AD (.ptr r 0 0) m K=K (.agg y.cs):=λ{K}=>AX rfl rfl ao;have aq:∀{K},A7 Aa (.ptr (Ax d) 2 0) m K=K (fnA g):=λ{K}=>AH (p:=2) rfl X (show 2<3 by decide);have a1:=B7T O Z h0 hI;have a2:Fx true depth (Zj w F g) (Zj w F g) m false:=by rcases hF with rfl|⟨_,_,rfl⟩<;>exact λK=>by kernel_rfl
  have a3:Fx true depth (.agg y.cs) (.agg y.cs) m false:=λK=>by kernel_rfl
  have V:∀{K:K2},Aj (r! L (n+41)) BE [.ptr c 0 0,Zj w F g,.agg y.cs] m K=K (Bo true):=λ{K}=>mM hh (Aq a1 (Aq a2 (Aq a3 AG)));have am:∀{K:K2},Aj (r! L (n+41)) g [.ptr c 0 0,.agg y.cs] m K=K (.tup [.agg (BX (uu k)),I 0]):=λ{K}=>mM B (Aq a1 (Aq a3 AG));simp only[gT,Ck,ar,az,V,xR,ZG];rw[Bm,aq,A37 hn hi (by simp),am,CI,CH,AP (cs:=F5) rfl,Bv (cs:=F5) (vs:=BX (uu k)) (Av (by simp)) rfl rfl rfl,<-e3];have ap:∀{K},A7 Ai (.ptr c 2 0) C K=K v:=λ{K}=>AH (p:=2) rfl A (show 2<3 by decide);have ax:∀{K},A7 Au (.ptr (Ax m) 0 0) C K=K (.agg (BX (uu k))):=λ{K}=>AX rfl rfl ak;simp only[I2,BN,f0,ap,ax];have e5:∀K:KV,Ed A4 20 Au Ai v (.sl 20 (Ax C) 0 1) ((Ax C,.cells false A4 (GP k))::C) K=K f M:=λK=>by have:=e4 K;rw[A5Q]at this;exact this
  have ae:∀{K},A7 Ai (.ptr c 2 0) ((Ax C,.cells false A4 (GP k))::C) K=K v:=λ{K}=>AH (p:=2) rfl (AK (w3.lt A) A) (show 2<3 by decide);have s5:∀{K:Ru},Dr Ai (.ptr c 2 0) f M K=K (upd M c (VG I1 f)):=λ{K}=>Em Q (show 2<3 by decide) rfl D.1 D.2;have o4:∀{K:Af}{H:Hp},Qb (AS (some (v,H)) v) K=K:=λ{K H}=>A8c (M_ aa);simp only[A5Q,Ck,e5,s5,ae,o4,A9x]
 ·have a1:=ad s x h;have a2:=(k2 s x a1).1;have a3:=(k3 s x a2).1;rw[Ah h1];exact k4 s x a3 h2
end
end
section
variable{L n:Nat}
abbrev M':AV:=fnA Ga
def B4F{k:Nat}(hk:k<52):PS (r! L (n+41)) Ga [.agg (BX (uu k))] (Bo false):=by
 refine CS.ps (λK a=>?_) (λH=>λK=>by kernel_rfl);rw[TV];unfold Ka XA3;rw[Fb rfl,AX (cs:=BX (uu k)) rfl rfl (Av (by simp)),Wg _ _ _ hk,xR];exact a _ _ (λb=>⟨false,λK=>by kernel_rfl⟩)
def B0Z{a:Ru}{K:KV}{ks:Hb}{H:Hp}(hb:ks.length<1000000000)(hk:∀k∈ks,k<52):∀(f i:Nat),i<=ks.length->ks.length-i<f->
 DU (L+20) (r! L (n+41)) K a f (B0 ks) M' (I ks.length) (I i) H=a H:=by
 intro f
 induction f with
 |zero=>intro i _ h;omega
 |succ f ih=>
  intro i e d;rw[Jv];unfold DV HN Az;by_cases h:i<ks.length
  ·rw[Fo (by omega),CA,XH h,XF];have c:∀K,C7 (E (L+20)) (r! L (n+41)) M' [.agg (BX (uu ks[i]))] H K=Aj (r! L (n+41)) Ga [.agg (BX (uu ks[i]))] H λv=>K v H:=λK=>A37 rfl rfl (by simp);rw[c,B4F (hk _ (Of h)),Bm,Dg (by omega)];exact ih (i+1) (by omega) (by omega)
  ·rw[XA2 (by omega),Bm]
def A4M{ks:Hb}(hb:ks.length<1000000000)(e:ks.length<L)(hk:∀k∈ks,k<52):CS (r! L (n+43)) CD [B0 ks,M'] (Bo false):=by
 intro K a;rw[Ji];unfold DH NW;have d:CS (r! L (n+42)) Gr [B0 ks,M'] (I (-1)):=by
  intro K a;rw[JE];unfold Ei Az;simp only[BJ];have c:(AV.v (.int .i64 0))=I ((0:Nat):Int):=rfl;rw[NS,c,B0Z hb hk _ 0 (by omega) (by omega)];exact a _ _ (λb=>⟨false,λK=>by kernel_rfl⟩)
 rw[AE (q:=false) d (λK=>by kernel_rfl),NT];exact a _ _ (λb=>⟨false,λK=>by kernel_rfl⟩)
def WNd(L n:Nat)(a:AV)(l:Hb)(y:Nd)(k:Nat):Prop:=∃w F g,Sl F/\
 (∀H K,(tQ .i64 (I y.op) λq=>Tt Bj true WB q H K)=K (.tup [Zj w F g,Bo true]))/\
 Zd (.tup [Zj w F g,Bo true]) (.tup [Zj w F g,Bo true])=true/\(E (L+20)).ne g=false/\(E (L+20)).imp g=false/\
 RV (r! L (n+41)) BE [VU a (QD l),Zj w F g,.agg y.cs] (Bo true)/\
 RV (r! L (n+41)) g [VU a (QD l),.agg y.cs] (.tup [.agg (BX (uu k)),I 0])
def WTy(L n:Nat)(ks:Hb)(xs:List Nd)(ty:Hb):Prop:=∀i(h:i<xs.length),WNd L n (B0 ks) (ty.take i) xs[i] (ty.getD i 0)
section
variable{K:KV}{x:Af}{ks ty:Hb}{xs:List Nd}{id:Int}{o:UD}
def B4y{m:AV->KV}{p c:Nat}(hT:WTy L n ks xs ty)(a:ty.length=xs.length)(hb:xs.length<100)(B:p≠c)(hx:∀v H,AZ H A4 20 v ty.length (ty.flatMap GP)->(ty=[]->v=A1)->Al H p=some (Ih id (B0 ks) (BL xs) o)->Al H c=some (VG (B0 ks) v)->m (.ptr p 0 0) (.ptr c 0 0) H=x):
 ∀(f i:Nat)(v:AV)(H:Hp),i<=xs.length->xs.length-i<f->AZ H A4 20 v (ty.take i).length ((ty.take i).flatMap GP)->(ty.take i=[]->v=A1)->¬A6 v p->¬A6 v c->Al H p=some (Ih id (B0 ks) (BL xs) o)->Al H c=some (VG (B0 ks) v)->Wf H->
 Mj (L+20) (r! L (n+42)) K m f (.ptr p 0 0) (.ptr c 0 0) (BL xs) (I xs.length) (I i) H=x:=by
 intro f
 induction f with
 |zero=>intro i v H _ h;omega
 |succ f ih=>
  intro i v H hi hf j s hr J Q hc w;rw[Wy];unfold Mk HN Az;by_cases h:i<xs.length
  ·rw[Fo (by omega),CA,dW h,dU,AP (cs:=Kw) rfl,Bv (cs:=Kw) (vs:=xs[i].cs) (Av (by simp)) rfl rfl rfl];obtain⟨X,Z,N,V,t⟩:=DY (e:=AL) (zs:=Kw) (vs:=xs[i].cs) w rfl;rw[<-Z,AX rfl rfl N];have d:=(t _ _ Q).1;have u:=(t _ _ hc).1;have M:AZ X A4 20 v (ty.take i).length ((ty.take i).flatMap GP):=by
    rcases j with j|⟨r,q,h1,h2,h3⟩
    ·exact .inl j
    ·exact .inr ⟨r,q,h1,(t _ _ h2).1,h3⟩
   obtain⟨wd,F,g,hF,hk,ha,hn,A,hh,hu⟩:=hT i h;obtain⟨v',Y,e5,y,k,D,w5,n5,k5,O⟩:=B9n (n:=n) u M s J V (by rw[E'];omega) (.inr ⟨_,_,rfl⟩) hF hk ha hn A hh hu;have R:ty.take i++[ty.getD i 0]=ty.take (i+1):=by
    have P:i<ty.length:=by omega
    rw[tO P];simp[List.getD,JC P]
   rw[e5,xR,Bm,Dg (by omega)];rw[R]at k;exact ih (i+1) v' Y (by omega) (by omega) k (λe=>by rw[<-R]at e;simp at e) (λC=>by have:=O _ C;have:=V.lt d;omega) D (k5 _ _ d B hr) y w5
  ·rw[XA2 (by omega),Bm];have:i=xs.length:=by omega
   subst this;rw[<-a,tN]at j s;exact hx v H j s Q hc
set_option maxHeartbeats 1000000 in
def B0W(hL:100<L)(Q:WTy L (n+2) ks xs ty)(V:o=uu (ty.getD (xs.length-1) 0))(f:ty.length=xs.length)(hk:∀k∈ks,k<52)(hb:ks.length<=6)(hn:1<=xs.length)(R:xs.length<=40)(h1:1<=id)(h2:id<=1000000):
 CS (r! L (n+45)) NM [.agg (Bp id (B0 ks) (BL xs) o)] (.tup [QD ty,I 0,I 0]):=by
 intro K P;rw[Yb];unfold Ns E0 VH Vo Lo JD Az MS;rw[Fb (Nh (.inr ⟨_,_,rfl⟩) (.inr ⟨_,_,rfl⟩))];have d:=Av (H:=[]) (x:=Ih id (B0 ks) (BL xs) o) (by simp);have w0:=AM (x:=Ih id (B0 ks) (BL xs) o) E1;generalize ((Ax [],Ih id (B0 ks) (BL xs) o)::([]:Hp))=e at d w0;generalize Ax []=p at d;have u:∀{s j:Nat}{K:K2},Cl j (.ptr s 0 0) K=K (.ptr s j 0):=λ{s j K}=>by rw[fA,Kk]
 have J:∀{K},A7 Ac (.ptr p 0 0) e K=K (I id):=λ{K}=>AH (p:=0) rfl d (show 0<23 by decide);have Y:∀{K},A7 Ai (.ptr p 1 0) e K=K (B0 ks):=λ{K}=>AH (p:=1) rfl d (show 1<23 by decide);have Z:∀{K},A7 Ar (.ptr p 2 0) e K=K (BL xs):=λ{K}=>AH (p:=2) rfl d (show 2<23 by decide);have t1:∀{K},Ap Ac .lss (I id) (.v (.int .i64 1)) K=K (Bo false):=λ{K}=>by rw[Eh,KD (by omega)]
 have t2:∀{K},Ap Ac .gtr (I id) (.v (.int .i64 1000000)) K=K (Bo false):=λ{K}=>by rw[DB,KD (by omega)]
 have t3:∀{K},Ap Ac .gtr (I (ks.length:Int)) (.v (.int .i64 6)) K=K (Bo false):=λ{K}=>by rw[DB,KD (by omega)]
 have t4:∀{K},Ap Ac .lss (I (xs.length:Int)) (.v (.int .i64 1)) K=K (Bo false):=λ{K}=>by rw[Eh,KD (by omega)]
 have t5:∀{K},Ap Ac .gtr (I (xs.length:Int)) (.v (.int .i64 40)) K=K (Bo false):=λ{K}=>by rw[DB,KD (by omega)]
 have an:∀{K:K2},Aj (r! L (n+44)) CD [B0 ks,M'] e K=K (Bo false):=λ{K}=>AE (q:=false) (A4M (n:=n+1) (by omega) (by omega) hk) (λK=>by kernel_rfl);rw[u,J,t1];simp only[gT,u,J,Ck,t2,ZG,Y,NS,t3,an,Z,RW,t4,t5];rw[Bm];have M:∀{K:KV},(r! L (n+44)).call NL [B0 ks] e K=K (.ptr (Ax e) 0 0) ((Ax e,VG (B0 ks) A1)::e):=λ{K}=>by
  rw[XX];unfold Np XA3;have b2:∀{K:K2},BZ Ky [(0,1,WB),(1,1,B0 ks)] K=K (.agg [WB,B0 ks,A1]):=λ{K}=>r_ rfl;rw[B3F (n:=n+42),b2,Fb rfl]
 rw[M];have g:=Av (H:=e) (x:=VG (B0 ks) A1) (by simp);have m:=AK (x:=VG (B0 ks) A1) (w0.lt d) d;have w1:=AM (x:=VG (B0 ks) A1) w0;have A:=w0.lt d;generalize ((Ax e,VG (B0 ks) A1)::e)=F at g m w1;generalize Ax e=c at g A;have C:∀{K},A7 Ar (.ptr p 2 0) F K=K (BL xs):=λ{K}=>AH (p:=2) rfl m (show 2<23 by decide);simp only[BJ];rw[C,RW];refine B4y (n:=n+2) Q f (by omega) (by omega) ?_ (L+20) 0 _ F (by omega) (by omega) (.inl ⟨rfl,rfl,rfl⟩) (λ_=>rfl) (λ⟨_,_,_,h⟩=>by cases h) (λ⟨_,_,_,h⟩=>by cases h) m g w1;intro v H B O X hc;have t:ty.length-1<ty.length:=by omega
 obtain⟨a,w,r⟩:=A3l B t;have y:∀{K},A7 Au (.ptr p 3 0) H K=K (.agg (BX o)):=λ{K}=>Dl (p:=3) rfl X (show 23<=23 by decide);have N:uu ty[ty.length-1]=o:=by rw[V,<-f];simp[List.getD,JC t]
 rw[N]at r;have lc:∀{K},A7 Ai (.ptr c 2 0) H K=K v:=λ{K}=>AH (p:=2) rfl hc (show 2<3 by decide);have ln:∀{K:K2},Bh Ai v K=K (I ty.length):=λ{K}=>Kr rfl B;simp only[I2,BN,u,lc,ln,nY (ty:=Ac) (i:=ty.length) (by omega) (by omega),w,r,y,B8k];rw[Bm];exact P _ _ (λb=>by
  obtain⟨q,hq⟩:=iA (D:=depth-2) (b:=b) B O;exact⟨_,Vq (D:=depth-1) (Aq hq (Aq (q:=false) CG (Aq (q:=false) CG AG)))⟩)
def A6F(j:100<L)(m:WTy L (n+2) ks xs ty)(p:o=uu (ty.getD (xs.length-1) 0))(a:ty.length=xs.length)(hk:∀k∈ks,k<52)(hb:ks.length<=6)(hn:1<=xs.length)(d:xs.length<=40)(h1:1<=id)(h2:id<=1000000):
 CS (r! L (n+46)) FM [.agg (Bp id (B0 ks) (BL xs) o)] (Bo true):=by
 intro K i;rw[XY];unfold Nq XA3;rw[Fb (Nh (.inr ⟨_,_,rfl⟩) (.inr ⟨_,_,rfl⟩))];have c:=Av (H:=[]) (x:=Ih id (B0 ks) (BL xs) o) (by simp);generalize ((Ax [],Ih id (B0 ks) (BL xs) o)::([]:Hp))=e at c;have ck:∀{K:K2},Aj (r! L (n+45)) NM [.agg (Bp id (B0 ks) (BL xs) o)] e K=K (.tup [QD ty,I 0,I 0]):=λ{K}=>AE (B0W j m p a hk hb hn d h1 h2) (UN (.inr ⟨_,_,rfl⟩) (.inr ⟨_,_,rfl⟩));have h:∀{K:K2},Ci (.tup [QD ty,I 0,I 0]) 2 K=K (I 0):=λ{K}=>r_ rfl;have f:∀{K:K2},Ci (.tup [QD ty,I 0,I 0]) 0 K=K (QD ty):=λ{K}=>r_ rfl;have g:∀{K:K2},Ci (.tup [QD ty,I 0,I 0]) 1 K=K (I 0):=λ{K}=>r_ rfl;rw[AX rfl rfl c,ck,f,g,h,vL];exact i _ _ (λb=>⟨false,λK=>by kernel_rfl⟩)
end
end
section
variable{H:Hp}{i p:Nat}
variable{L n:Nat}
def Rh:Ha:=[112,114,111,99,101,100,117,114,101,32]
def pA:Ha:=[103,105,118,101,110,32]
def B7f:Ha:=[111,117,116,112,117,116,32]
def mB(k:Nat):Ha:=pA++Kx k++[10]
def rS(t:Ha):Ha:=t++[10]
def oV(id:Nat)(ks:Hb)(ts:List Ha)(o:Nat):Ha:=Rh++dg id++[10]++ks.flatMap mB++ts.flatMap rS++B7f++Kx o++[10]
def FP(k:Nat):(Kx k).length<60:=by
 by_cases h:k<52
 ·have:=G8.1 (show((List.range 52).all λk=>decide ((Kx k).length<60))=true by kernel_rfl) k (JM.2 h);simpa using this
 ·have:Kx k=[]:=by
   unfold Kx;rw[T9,l1e (Nat.le_of_not_lt h)];rfl
  rw[this];decide
def A2K(k:Nat):(dg k).length<=3:=by
 unfold dg;split
 ·simp
 ·split<;>simp
def A8E(ks:Hb):(ks.flatMap mB).length<=67*ks.length:=by
 induction ks with
 |nil=>simp
 |cons k ks ih=>
  have:=FP k;simp only[jH,EJ,Kj,mB,pA,PQ]at ih⊢;omega
def A8n{ts:List Ha}(h:∀t∈ts,t.length<100):(ts.flatMap rS).length<=100*ts.length:=by
 induction ts with
 |nil=>simp
 |cons t ts ih=>
  have h1:=h t (by simp);have h2:=ih λu a=>h u (by simp[a]);simp only[jH,EJ,Kj,rS,PQ]at h2⊢;omega
def mE{α:Type}{f:α->Ha}(l:List α)(h:i<l.length):(l.take (i+1)).flatMap f=(l.take i).flatMap f++f l[i]:=by
 rw[tO h,l2g];simp
section
variable{K:KV}{x:Af}{ks:Hb}{ts:List Ha}{xs:List Nd}{id:Int}{o:UD}{s0:Ha}
def B6H{a:AV->AV->KV}(hk:∀k∈ks,k<52)(hb:ks.length<100)(u:s0.length<1000)(g:Al H p=some (Ih id (B0 ks) (BL xs) o))(m:a (.ptr p 0 0) (S (s0++ks.flatMap mB)) (I ks.length) H=x):
 ∀(f i:Nat)(w:AV),i<=ks.length->ks.length-i<f->QO (L+20) (r! L (n+40)) K a f (.ptr p 0 0) (S (s0++(ks.take i).flatMap mB)) (I i) w H=x:=by
 intro f
 induction f with
 |zero=>intro i w _ h;omega
 |succ f ih=>
  intro i w y v;rw[fK];unfold QQ E0 HN Az;have c:∀{s j:Nat}{K:K2},Cl j (.ptr s 0 0) K=K (.ptr s j 0):=λ{s j K}=>by rw[fA,Kk]
  have d:∀{K},A7 Ai (.ptr p 1 0) H K=K (B0 ks):=λ{K}=>AH (p:=1) rfl g (show 1<23 by decide);rw[c,d,NS];by_cases h:i<ks.length
  ·have q:=A8E (ks.take i);have r:(ks.take i).length<=ks.length:=by simp;omega
   have t:=FP ks[i];rw[Fo (by omega),CA,c,d,XH h,XF,TQ _ _ _ (hk _ (Of h)),CI,CH,Bw (by simp only[EJ,Kj,PQ];omega),Bw (by simp only[EJ,Kj,PQ];omega),Bw (by simp only[EJ,Kj,PQ];omega),Dg (by omega)];have e:s0++(ks.take i).flatMap mB++[103,105,118,101,110,32]++Kx ks[i]++[10]=s0++(ks.take (i+1)).flatMap mB:=by
    rw[mE ks h];simp[mB,pA]
   rw[e];exact ih (i+1) _ (by omega) (by omega)
  ·rw[XA2 (by omega),Bm];have:i=ks.length:=by omega
   subst this;rw[tN];exact m
def B6I{d:AV->KV}{u:AV}(v:∀i(h:i<xs.length),PS (r! L (n+41)) I9 [.agg xs[i].cs] (S (ts.getD i [])))(k:∀t∈ts,t.length<100)(g:ts.length=xs.length)(hb:xs.length<100)(D:s0.length<10000)(w:Al H p=some (Ih id (B0 ks) (BL xs) o))(y:d (.ptr p 0 0) (S (s0++ts.flatMap rS)) H=x):
 ∀(f i:Nat),i<=xs.length->xs.length-i<f->QP (L+20) (r! L (n+41)) K d f (.ptr p 0 0) (S (s0++(ts.take i).flatMap rS)) u (I i) H=x:=by
 intro f
 induction f with
 |zero=>intro i _ h;omega
 |succ f ih=>
  intro i J F;rw[fL];unfold QR E0 HN Az;have e:∀{s j:Nat}{K:K2},Cl j (.ptr s 0 0) K=K (.ptr s j 0):=λ{s j K}=>by rw[fA,Kk]
  have m:∀{K},A7 Ar (.ptr p 2 0) H K=K (BL xs):=λ{K}=>AH (p:=2) rfl w (show 2<23 by decide);rw[e,m,RW];by_cases h:i<xs.length
  ·have a:i<ts.length:=by omega
   have q:ts.getD i []=ts[i]:=by simp[List.getD,JC a]
   have A:=A8n (ts:=ts.take i) λt hm=>k t (l24 hm);have B:(ts.take i).length<=ts.length:=by simp;omega
   have C:=k ts[i] (Of a);have c:=v i h;rw[q]at c;rw[Fo (by omega),CA,e,m,dW h,dU,c,Bw (by simp only[EJ,Kj,PQ];omega),Bw (by simp only[EJ,Kj,PQ];omega),Dg (by omega)];have r:s0++(ts.take i).flatMap rS++ts[i]++[10]=s0++(ts.take (i+1)).flatMap rS:=by
    rw[mE ts a];simp[rS]
   rw[r];exact ih (i+1) (by omega) (by omega)
  ·rw[XA2 (by omega),Bm];have:i=ts.length:=by omega
   subst this;rw[tN];exact y
def A7y{i c:Nat}(M:100<L)(f:i<950)(v:CS (r! L (n+44)) F4 [.agg (Bp i (B0 ks) (BL xs) (uu c))] (Bo true))(w:∀i(h:i<xs.length),PS (r! L (n+44)) I9 [.agg xs[i].cs] (S (ts.getD i [])))(m:∀t∈ts,t.length<100)(d:ts.length=xs.length)(hk:∀k∈ks,k<52)(hb:ks.length<=6)(y:xs.length<=40)(A:c<52):
 CS (r! L (n+45)) IS [.agg (Bp i (B0 ks) (BL xs) (uu c))] (.tup [S (oV i ks ts c),I 0]):=by
 intro K u;rw[kJ];unfold Te E0 Az;rw[Fb (Nh (.inr ⟨_,_,rfl⟩) (.inr ⟨_,_,rfl⟩))];have a:=Av (H:=[]) (x:=Ih i (B0 ks) (BL xs) (uu c)) (by simp);generalize ((Ax [],Ih i (B0 ks) (BL xs) (uu c))::([]:Hp))=e at a;generalize Ax []=p at a;have g:∀{s j:Nat}{K:K2},Cl j (.ptr s 0 0) K=K (.ptr s j 0):=λ{s j K}=>by rw[fA,Kk]
 have B:∀{K},A7 Ac (.ptr p 0 0) e K=K (I i):=λ{K}=>AH (p:=0) rfl a (show 0<23 by decide);have hv:∀{K:K2},Aj (r! L (n+44)) F4 [.agg (Bp i (B0 ks) (BL xs) (uu c))] e K=K (Bo true):=λ{K}=>AE v (UN (.inr ⟨_,_,rfl⟩) (.inr ⟨_,_,rfl⟩));have d1:=A2K i;rw[AX rfl rfl a,hv,xR,Bm,g,B,C2y L (n+34) i f,Bw (by simp only[EJ,Kj,PQ];omega),Bw (by simp only[EJ,Kj,PQ];omega)];simp only[BJ];have q:([112,114,111,99,101,100,117,114,101,32]++dg i++[10]:Ha)=(Rh++dg i++[10])++(ks.take 0).flatMap mB:=by simp[Rh]
 rw[q];have b0:(Rh++dg i++[10]).length<=14:=by simp only[EJ,Kj,PQ,Rh];omega
 refine B6H (n:=n+4) hk (by omega) (by omega) a ?_ (L+20) 0 _ (by omega) (by omega);have r:(Rh++dg i++[10])++ks.flatMap mB=((Rh++dg i++[10])++ks.flatMap mB)++(ts.take 0).flatMap rS:=by simp
 rw[r];have D:=A8E ks;have b1:((Rh++dg i++[10])++ks.flatMap mB).length<=500:=by rw[EJ];omega
 refine B6I (n:=n+3) w m d (by omega) (by omega) a ?_ (L+20) 0 (by omega) (by omega);have C:∀{K},A7 Au (.ptr p 3 0) e K=K (.agg (BX (uu c))):=λ{K}=>Dl (p:=3) rfl a (show 23<=23 by decide);have F:=A8n m;have J:=FP c;have b2:(((Rh++dg i++[10])++ks.flatMap mB)++ts.flatMap rS).length<=5000:=by rw[EJ];omega
 rw[g,C,TQ _ _ _ A,CI,CH,Bw (by rw[EJ];simp only[Kj,PQ] at*;omega),Bw (by rw[EJ];simp only[Kj,PQ] at*;omega),Bw (by rw[EJ,EJ];simp only[Kj,PQ] at*;omega)];exact u _ _ (λb=>⟨false,λK=>by kernel_rfl⟩)
end
end
section
variable{v:AV}{H:Hp}{p r:Nat}
variable{L n:Nat}
section
variable{K:KV}{x:Af}{ks:Hb}{ts:List Ha}{xs:List Nd}{id:Int}{o:UD}{s0:Ha}
abbrev pks(p:Nat)(id:Int)(ks:Hb)(xs:List Nd)(o:UD):List (Nat×Row):=[(p,Ih id (B0 ks) (BL xs) o)]
def A4e{r b:Nat}{kp:List (Nat×Row)}{l s:Ha}(h:Bd r kp b l v H)(hb:b<100000000)(f:s.length<1000)(e:∀c a,Bd r kp (b+1000) (l++s) c a->K (.tup [I s.length,.v .nilIface]) a=x):
 (r! L (n+2)).call B5 [.ptr r 0 0,S s] H K=x:=by
 have:=h.sz;exact wV h.bld (by omega) λc a d hk=>e c a (h.step d hk (by rw[EJ];omega))
def Bd.al{r b e:Nat}{kp:List (Nat×Row)}{l:Ha}{zs vs:Is}(h:Bd r kp b l v H)(hz:vs.length=zs.length):∃a,a=upd ((Ax H,c_ e zs)::H) (Ax H) (c_ e vs)/\Al a (Ax H)=some (c_ e vs)/\Bd r kp b l v a:=by
 refine⟨_,rfl,A5 (Av (H:=H) (x:=.cells true e zs) (by simp)),⟨(h.bld.cons (y:=.cells true e zs)).upd (by have:=h.bld.lt;omega) (λd=>by have:=h.bld.vlt d;omega),λp c=>?_,h.sz⟩⟩;obtain⟨p1,p2,p3⟩:=h.ks p c;have:=h.bld.wf.lt p1;exact⟨by rw[Ah (by omega)];exact AK this p1,p2,p3⟩
def B4w{c:AV->AV->AV->AV->KV}{kp:List (Nat×Row)}(hk:∀k∈ks,k<52)(hb:ks.length<100){b:Nat}(s:b<1000000)(u:∀v H,Bd r kp (b+1000*ks.length) (s0++ks.flatMap mB) v H->c (.ptr p 0 0) (.ptr r 0 0) (B0 ks) (I ks.length) (I ks.length) H=x):
 ∀(f i:Nat)(v:AV)(H:Hp),i<=ks.length->ks.length-i<f->Bd r kp (b+1000*i) (s0++(ks.take i).flatMap mB) v H->Mf (L+20) (r! L (n+40)) K c f (.ptr p 0 0) (.ptr r 0 0) (B0 ks) (I ks.length) (I i) AV.dk AV.dk AV.dk H=x:=by
 intro f
 induction f with
 |zero=>intro i v H _ h;omega
 |succ f ih=>
  intro i v H C B d;rw[Ww];unfold Mh HN Az;by_cases h:i<ks.length
  ·have A:=FP ks[i];rw[Fo (by omega),CA,XH h,XF,AP (cs:=F5) rfl,Bv (cs:=F5) (vs:=BX (uu ks[i])) (Av (by simp)) rfl rfl rfl];obtain⟨y,m,t,g⟩:=d.al (e:=A4) (zs:=F5) (vs:=BX (uu ks[i])) rfl;rw[<-m,AX rfl rfl t,TA _ _ _ (hk _ (Of h)),CI,CH,Bw (by simp only[Kj,PQ];omega),Bw (by simp only[EJ,Kj,PQ];omega)];refine A4e (n:=n+38) g (by omega) (by simp only[EJ,Kj,PQ];omega) λw j a=>?_;rw[Dg (by omega)];have q:s0++(ks.take i).flatMap mB++([103,105,118,101,110,32]++Kx ks[i]++[10])=s0++(ks.take (i+1)).flatMap mB:=by
    rw[mE ks h];simp[mB,pA]
   rw[q,Yq,<-Nat.mul_succ]at a;exact ih (i+1) w j (by omega) (by omega) a
  ·rw[XA2 (by omega),Bm];have:i=ks.length:=by omega
   subst this;rw[tN]at d;exact u v H d
def B4x{m:AV->KV}{kp:List (Nat×Row)}{a w c:AV}(D:∀i(h:i<xs.length),PS (r! L (n+41)) Ft [.agg xs[i].cs] (S (ts.getD i [])))(F:∀t∈ts,t.length<100)(k:ts.length=xs.length)(hb:xs.length<100){b:Nat}(C:b<10000000)(M:∀v H,Bd r kp (b+1000*xs.length) (s0++ts.flatMap rS) v H->m (.ptr p 0 0) (.ptr r 0 0) H=x):
 ∀(f i:Nat)(v:AV)(H:Hp),i<=xs.length->xs.length-i<f->Bd r kp (b+1000*i) (s0++(ts.take i).flatMap rS) v H->Mg (L+20) (r! L (n+41)) K m f (.ptr p 0 0) (.ptr r 0 0) a w c (BL xs) (I xs.length) (I i) H=x:=by
 intro f
 induction f with
 |zero=>intro i v H _ h;omega
 |succ f ih=>
  intro i v H R Q q;rw[Wx];unfold Mi HN Az;by_cases h:i<xs.length
  ·have d:i<ts.length:=by omega
   have y:ts.getD i []=ts[i]:=by simp[List.getD,JC d]
   have P:=F ts[i] (Of d);have j:=D i h;rw[y]at j;rw[Fo (by omega),CA,dW h,dU,AP (cs:=Kw) rfl,Bv (cs:=Kw) (vs:=xs[i].cs) (Av (by simp)) rfl rfl rfl];obtain⟨O,A,J,s⟩:=q.al (e:=AL) (zs:=Kw) (vs:=xs[i].cs) rfl;rw[<-A,AX rfl rfl J,j,Bw (by simp only[Kj,PQ];omega)];refine A4e (n:=n+39) s (by omega) (by simp only[EJ,Kj,PQ];omega) λN u g=>?_;rw[Dg (by omega)];have B:s0++(ts.take i).flatMap rS++(ts[i]++[10])=s0++(ts.take (i+1)).flatMap rS:=by
    rw[mE ts d];simp[rS]
   rw[B,Yq,<-Nat.mul_succ]at g;exact ih (i+1) N u (by omega) (by omega) g
  ·rw[XA2 (by omega),Bm];have:i=ts.length:=by omega
   subst this;rw[tN]at q;exact M v H (k▸q)
def A6G{i a:Nat}(hL:100<L)(C:i<950)(V:CS (r! L (n+46)) FM [.agg (Bp i (B0 ks) (BL xs) (uu a))] (Bo true))(X:∀i(h:i<xs.length),PS (r! L (n+46)) Ft [.agg xs[i].cs] (S (ts.getD i [])))(ht:∀t∈ts,t.length<100)(A:ts.length=xs.length)(hk:∀k∈ks,k<52)(hb:ks.length<=6)(Y:xs.length<=40)(Z:a<52):
 CS (r! L (n+47)) FN [.agg (Bp i (B0 ks) (BL xs) (uu a))] (.tup [S (oV i ks ts a),I 0]):=by
 intro K R;rw[XZ];unfold Nr E0 Az;rw[Fb (Nh (.inr ⟨_,_,rfl⟩) (.inr ⟨_,_,rfl⟩))];have c:=Av (H:=[]) (x:=Ih i (B0 ks) (BL xs) (uu a)) (by simp);have w0:=AM (x:=Ih i (B0 ks) (BL xs) (uu a)) E1;generalize ((Ax [],Ih i (B0 ks) (BL xs) (uu a))::([]:Hp))=f at c w0;generalize Ax []=p at c;have B:∀{s j:Nat}{K:K2},Cl j (.ptr s 0 0) K=K (.ptr s j 0):=λ{s j K}=>by rw[fA,Kk]
 have hv:∀{K:K2},Aj (r! L (n+46)) FM [.agg (Bp i (B0 ks) (BL xs) (uu a))] f K=K (Bo true):=λ{K}=>AE V (UN (.inr ⟨_,_,rfl⟩) (.inr ⟨_,_,rfl⟩));have d1:=A2K i;rw[AX rfl rfl c,hv,xR,Bm,AP (cs:=[.v (.pointer none),zL]) rfl];have D:=Av (H:=f) (x:=.cells true Ee [.v (.pointer none),zL]) (by simp);have y:=w0.lt c;have e:Bd (Ax f) (pks p i ks xs (uu a)) 0 [] A1 ((Ax f,c_ Ee [.v (.pointer none),zL])::f):=
  ⟨⟨⟨_,.inr rfl,.inl D⟩,.inl ⟨rfl,rfl,rfl⟩,λ⟨_,_,_,h⟩=>(by cases h),AM w0⟩,λq hq=>by
   simp only[ZW]at hq;subst hq;exact⟨AK y c,by simp only;omega,λ⟨_,_,_,h⟩=>(by cases h)⟩,Oj _⟩
 generalize ((Ax f,c_ Ee [.v (.pointer none),zL])::f)=M at e;generalize Ax f=r at e;have d:∀{b l v H},Bd r (pks p i ks xs (uu a)) b l v H->Al H p=some (Ih i (B0 ks) (BL xs) (uu a)):=λh=>(h.ks (p,_) (ZW.2 rfl)).1;have l0:∀{K},A7 Ac (.ptr p 0 0) M K=K (I i):=λ{K}=>AH (p:=0) rfl (d e) (show 0<23 by decide);rw[B,l0,C2r L (n+36) i C,Bw (by simp only[Kj,PQ];omega),Bw (by simp only[EJ,Kj,PQ];omega)];refine A4e (n:=n+44) e (by omega) (by simp only[EJ,Kj,PQ];omega) λv2 F g=>?_;simp only[BJ];have l1:∀{K},A7 Ai (.ptr p 1 0) F K=K (B0 ks):=λ{K}=>AH (p:=1) rfl (d g) (show 1<23 by decide);rw[B,l1,NS];have O:([]++([112,114,111,99,101,100,117,114,101,32]++dg i++[10]):Ha)=(Rh++dg i++[10])++(ks.take 0).flatMap mB:=by simp[Rh]
 rw[O]at g;refine B4w (n:=n+6) hk (by omega) (b:=0+1000) (by omega) (λv3 J m=>?_) (L+20) 0 v2 F (by omega) (by omega) g;have l2:∀{K},A7 Ar (.ptr p 2 0) J K=K (BL xs):=λ{K}=>AH (p:=2) rfl (d m) (show 2<23 by decide);rw[B,l2,RW];have P:(Rh++dg i++[10])++ks.flatMap mB=((Rh++dg i++[10])++ks.flatMap mB)++(ts.take 0).flatMap rS:=by simp
 rw[P]at m;refine B4x (n:=n+5) X ht A (by omega) (b:=0+1000+1000*ks.length) (by omega) (λv4 N w=>?_) (L+20) 0 v3 J (by omega) (by omega) m;have lo:∀{K},A7 Au (.ptr p 3 0) N K=K (.agg (BX (uu a))):=λ{K}=>Dl (p:=3) rfl (d w) (show 23<=23 by decide);have g3:=FP a;rw[B,lo,TA _ _ _ Z,CI,CH,Bw (by simp only[Kj,PQ];omega),Bw (by simp only[EJ,Kj,PQ];omega)];refine A4e (n:=n+44) w (by omega) (by simp only[EJ,Kj,PQ];omega) λv5 H5 u=>?_;have Q:((Rh++dg i++[10])++ks.flatMap mB)++ts.flatMap rS++([111,117,116,112,117,116,32]++Kx a++[10])=oV i ks ts a:=by simp[oV,B7f]
 rw[Q]at u;have z1:=u.sz;obtain⟨H6,hs⟩:=I_ (n:=n+45) u.bld (by unfold oV;rw[EJ];simp only[Kj,PQ];omega) (by omega);rw[hs];exact R _ _ (λb=>⟨false,λK=>by kernel_rfl⟩)
end
end
end Go.Abs
end
