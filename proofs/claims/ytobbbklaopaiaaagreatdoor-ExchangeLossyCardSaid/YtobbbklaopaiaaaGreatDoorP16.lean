import Derived.Test.YtobbbklaopaiaaaGreatDoorP12
import Derived.Test.YtobbbklaopaiaaaGreatDoorP13
import Derived.Test.YtobbbklaopaiaaaGreatDoorP14
import Derived.Test.YtobbbklaopaiaaaGreatDoorP15
set_option linter.all false
set_option maxHeartbeats 100000000
noncomputable section
namespace Go.Abs
open Go.RowKit Go.Proofs
set_option maxRecDepth 100000
section
variable{H:Hp}{k4:Ru}{t:Int×Int}
variable{L n:Nat}
attribute [local irreducible] Ao rt nM eBi eEq cnd Ap Xp A2
def B6u(h: -8<=t.2/\t.2<=8/\t.2≠0):PS (rt (L+20) (n+41)) Kt [.agg (OI t)] (Bo false):=by
 refine CS.ps (λK a=>?_) (λH=>λK=>by kernel_rfl);have h1:PO (rt (L+20) (n+40)) Es [.agg (qa t.2)] (Bo true):=(rG (by omega) (by omega)).o;have h2:PO (rt (L+20) (n+40)) OA [.agg (qa t.2)] (Bo false):=by
  have:=(B2I (L:=L) (n:=n) (z:=t.2) (by omega) (by omega)).o;rw[HX h.2.2]at this;exact this
 rewrite[Yj];unfold Ng Iu
 try rewrite[zO]
 try rewrite[bO]
 try rewrite[qO]
 try rewrite[cO]
 generalize rt (L+20) (n+40)=R at*
 conv=>lhs;whnf
 rewrite[h1]
 conv=>lhs;whnf
 rewrite[h2]
 conv=>lhs;whnf
 exact a _ _ (λb=>⟨false,λK=>by kernel_rfl⟩)
abbrev rE:AV:=.fn (.func Kt) [] []
abbrev A94:AV:=.fn (.func MM) [] []
section
variable{ts:jL}{K:KV}{x:Af}
def lTm{K:K2}:AD BU (.iptr (OI t)) H K=K (.agg (OI t)):=id rfl
def B4u(a:TmsOk ts):∀(f i:Nat),i<=ts.length->ts.length-i<f->
 E1 (L+20) (rt (L+20) (n+41)) K k4 f (FF ts) rE (I ts.length) (I i) H=k4 H:=by
 have hb:=a.len;intro f
 induction f with
 |zero=>intro i _ h;omega
 |succ f ih=>
  intro i d c;rw[Kg];unfold E2 HR A3;by_cases h:i<ts.length
  ·have hr:=a.rng _ (PD h);rw[FV (by omega),Cr,WO h,lTm];have b:∀K,Ct (E (L+20)) (rt (L+20) (n+41)) rE [.agg (OI ts[i])] H K=Ao (rt (L+20) (n+41)) Kt [.agg (OI ts[i])] H λv=>K v H:=λK=>by kernel_rfl
   rw[b,B6u hr.2.2,Bh,Dd (by omega)];exact ih (i+1) (by omega) (by omega)
  ·rw[FT (by omega),Bh]
def A2U(c:TmsOk ts):CS (rt (L+20) (n+43)) Eg [FF ts,rE] (Bo false):=by
 have hb:=c.len;intro K a;rw[JP];unfold Ee Lr;have e:CS (rt (L+20) (n+42)) Hf [FF ts,rE] (I (-1)):=by
  intro K a;rw[K5];unfold EB A3;simp only[BJ];have d:(AV.v (.int .i64 0))=I ((0:Nat):Int):=rfl;rw[Qs,d,B4u c _ 0 (by omega) (by omega)];exact a _ _ (λb=>⟨false,λK=>by kernel_rfl⟩)
 rw[AR (q:=false) e (λK=>by cases ts<;>kernel_rfl),KC];exact a _ _ (λb=>⟨false,λK=>by kernel_rfl⟩)
def A8r:PS (rt (L+20) (n+1)) MM [.agg (OI t)] (I t.1):=by
 refine CS.ps (λK a=>?_) (λH=>λK=>by kernel_rfl);rewrite[gG];unfold QD Iu
 try rewrite[zO]
 try rewrite[bO]
 try rewrite[qO]
 try rewrite[cO]
 generalize rt (L+20) (n+0)=R at*
 conv=>lhs;whnf
 exact a _ _ (λb=>⟨false,λK=>by kernel_rfl⟩)
def B8n(j:TmsOk ts)(u:∀H,k4 H=x):∀(f i:Nat)(H:Hp),i<=ts.length->ts.length-i<f->Wf H->
 HM (L+20) (rt (L+20) (n+1)) K k4 f (FF ts) A94 (FF ts) (I ts.length) (I i) H=x:=by
 have hb:=j.len;intro f
 induction f with
 |zero=>intro i H _ h;omega
 |succ f ih=>
  intro i H C B w;rw[OV];unfold HN HR Dk Hl A3 Mf HS;by_cases h:i<ts.length
  ·have hr:=j.rng _ (PD h);rw[FV (by omega),Cr,WO h,lTm,B3 (cs:=[zI,zS,zS]) rfl];have d:=Az (H:=H) (x:=.cells true Ba [zI,zS,zS]) (by simp);rw[Ch (vs:=OI ts[i]) d rfl rfl rfl];have b:=AC (q:=true) (e:=Ba) (cs:=OI ts[i]) d;have w1:=Bq (r:=As H) (y:=.cells true Ba (OI ts[i])) (AJ (x:=.cells true Ba [zI,zS,zS]) w);generalize upd ((As H,c_ Ba [zI,zS,zS])::H) (As H) (c_ Ba (OI ts[i]))=a at b w1;generalize As H=r at b;have m1:∀K,AD BU (.ptr r 0 0) a K=K (.agg (OI ts[i])):=λK=>GB (p:=0) rfl b (show 3<=3 from Me _);have m:∀(t:Int×Int)(K:KV),Ct (E (L+20)) (rt (L+20) (n+1)) A94 [.agg (OI t)] a K=K (I t.1) a:=λt K=>by
    have:Ct (E (L+20)) (rt (L+20) (n+1)) A94 [.agg (OI t)] a K=Ao (rt (L+20) (n+1)) MM [.agg (OI t)] a λv=>K v a:=by kernel_rfl
    rw[this,A8r]
   have i1:∀K,Ap Ab .lss (I ts[i].1) (.v (.int .i64 1)) K=K (Bo false):=λK=>FT (by omega);have i2:∀K,Ap Ab .gtr (I ts[i].1) (.v (.int .i64 1000000)) K=K (Bo false):=λK=>by rw[Eo,HX (by omega)]
   rw[m1,m];simp only[i1,i2,gT,Cb,Sf];by_cases g:0<i
   ·have k:∀K,Ap Ab .gtr (I (i:Int)) (.v (.int .i64 0)) K=K (Bo true):=λK=>by rw[Eo,Hj (by omega)]
    have c:i-1<ts.length:=by omega
    have mm:∀K,eMM false (I ((i-1:Nat):Int)) (.v (.int .i64 0)) K=K (I ((i-1:Nat):Int)):=λK=>by
     have e:eMM false (I ((i-1:Nat):Int)) (.v (.int .i64 0)) K=ck (decide (IntKind.i64=IntKind.i64)) (@Bool.rec (λ_=>Af) (K (.v (.int .i64 0))) (K (I ((i-1:Nat):Int))) (pG 0 ((i-1:Nat):Int))):=rfl;rw[e,L1,Hj (Int.natCast_nonneg _)];rfl
    have s:ts[i-1].1<ts[i].1:=(l26.1 j.asc) (i-1) i c h (by omega);have A:∀K,Ap Ab .geq (I ts[i-1].1) (I ts[i].1) K=K (Bo false):=λK=>by rw[KC,HX (by omega)]
    simp only[k,Cb,gT,fB g (by omega:i<1000000000),mm,WO c,lTm,m,A,Tt,Sf];rw[Bh,Dd (by omega)];exact ih (i+1) a (by omega) (by omega) w1
   ·have k:∀K,Ap Ab .gtr (I (i:Int)) (.v (.int .i64 0)) K=K (Bo false):=λK=>by rw[Eo,HX (by omega)]
    simp only[k,Cb,gT,ZC,Tt,Sf];rw[Bh,Dd (by omega)];exact ih (i+1) a (by omega) (by omega) w1
  ·rw[FT (by omega),Bh];exact u H
def A6k(a:TmsOk ts):CS (rt (L+20) (n+2)) It [FF ts,A94] (Bo true):=by
 have hb:=a.len;intro K d;rw[Pz];unfold Ip A3 Mf;simp only[BJ];have c:(AV.v (.int .i64 0))=I ((0:Nat):Int):=rfl;rw[Qs,c];exact B8n a (λH=>d _ _ (λb=>⟨false,λK=>by kernel_rfl⟩)) (L+20) 0 [] (by omega) (by omega) Fl
def A2P{c r:Int}(i: -80<=c)(j:c<=80)(k:0<=r)(m:r<=8)(a:TmsOk ts):CS (rt (L+20) (n+44)) L8 [.agg (ZM (qn c) (qd c) (FF ts) (qn r) (qd r))] (Bo true):=by
 intro K g;have hb:=a.len;have h1:PO (rt (L+20) (n+43)) Es [.agg (qa c)] (Bo true):=(rG (n:=n+3) (by omega) (by omega)).o;have h2:PO (rt (L+20) (n+43)) Es [.agg (qa r)] (Bo true):=(rG (n:=n+3) (by omega) (by omega)).o;have d:PO (rt (L+20) (n+43)) Qq [.agg (qa r)] (I (if r=0 then 0 else 1)):=(B2J (n:=n+3) (by omega) (by omega)).o;have e:LS (rt (L+20) (n+43)) It [FF ts,A94] (Bo true):=(A6k (n:=n+41) a).ls;have f:LS (rt (L+20) (n+43)) Eg [FF ts,rE] (Bo false):=(A2U (n:=n) a).ls;have hz:ts=[]\/∃t l,ts=t::l:=by cases ts with|nil=>exact .inl rfl|cons t l=>exact .inr ⟨t,l,rfl⟩
 rcases hz with rfl|⟨t,l,rfl⟩
 all_goals
  rewrite[lI];unfold SD Iu
  try rewrite[zO]
  try rewrite[bO]
  try rewrite[qO]
  try rewrite[cO]
  generalize rt (L+20) (n+43)=R at*
  conv=>lhs;whnf
  rewrite[h1]
  conv=>lhs;whnf
  rewrite[h2]
  conv=>lhs;whnf
  rewrite[d]
  conv=>lhs;whnf
  rewrite[A5z ?hc]
  case hc=>(split<;>omega)
  conv=>lhs;whnf
  rewrite[A5p ?hc]
  case hc=>(first|decide|(have h:l.length+1<=6:=hb;show((l.length+1:Nat):Int)<=64;omega))
  conv=>lhs;whnf
  rewrite[(e) false _ _ ?hq]
  case hq=>exact λK=>by kernel_rfl
  conv=>lhs;whnf
  rewrite[(f) false _ _ ?hq]
  case hq=>exact λK=>by kernel_rfl
  conv=>lhs;whnf
  exact g _ _ (λb=>⟨false,λK=>by kernel_rfl⟩)
end
end
section
variable{v:AV}{H:Hp}{r:Nat}{y:Row}
variable{L n:Nat}{K:KV}{x:Af}
structure Bld(r:Nat)(l:Ha)(v:AV)(H:Hp):Prop where
 at_:∃tw:Nat,(tw=Hu\/tw=E6)/\(Aj H r=some (c_ tw [.v (.pointer none),v])\/Aj H r=some (c_ tw [.ptr r 0 0,v]))
 sl:B0 H Bu 1 v l.length (Mr l)
 ne:¬A8 v r
 wf:Wf H
structure Kp(r:Nat)(v:AV)(H:Hp)(v':AV)(H':Hp):Prop where
 keep:∀u y,Aj H u=some y->u≠r->¬A8 v u->Aj H' u=some y
 new:∀u,A8 v' u->A8 v u\/As H<=u
 nx:As H<=As H'
def Kp.refl(r:Nat)(v:AV)(H:Hp):Kp r v H v H:=⟨λ_ _ h _ _=>h,λ_ h=>.inl h,Me _⟩
def Kp.trans{v e b:AV}{H H' a:Hp}(w:Wf H)(h:Kp r v H e H')(k:Kp r e H' b a):Kp r v H b a:=
 ⟨λu y c h1 h2=>k.keep u y (h.keep u y c h1 h2) h1 (λf=>by
  rcases h.new u f with d|d
  ·exact h2 d
  ·have:=w.lt c;omega),
  λu c=>by
   rcases k.new u c with h1|h1
   ·exact h.new u h1
   ·exact .inr (by have:=h.nx;omega),ZK h.nx k.nx⟩
theorem Bld.upd{r s:Nat}{l:Ha}(h:Bld r l v H)(h1:s≠r)(h2:¬A8 v s):Bld r l v (upd H s y):=
 ⟨by rw[Ag h1.symm];exact h.at_,h.sl.lat h.wf (Lat.upd H s y (P:=λu=>u=s) rfl) (λu a e=>h2 (e▸a)),h.ne,Bq h.wf⟩
theorem Bld.cons{l:Ha}(h:Bld r l v H):Bld r l v ((As H,y)::H):=by
 refine⟨?_,h.sl.lat h.wf (Lat.cons H y (λ_=>False)) (λ_ _ h=>h),h.ne,AJ h.wf⟩;obtain⟨b,a,h1|h1⟩:=h.at_
 ·exact⟨b,a,.inl (A7 (h.wf.lt h1) h1)⟩
 ·exact⟨b,a,.inr (A7 (h.wf.lt h1) h1)⟩
def E_{l s:Ha}(h:Bld r l v H)(hb:l.length+s.length<1000000000)(hx:∀i t,Bld r (l++s) i t->Kp r v H i t->K (.tup [I s.length,.v .nilIface]) t=x):(r! L (n+2)).call BE [.ptr r 0 0,S s] H K=x:=by
 rw[N8];unfold G9 Em;rw[OP];unfold HE Em;have J:∀K:K2,CY 0 (.ptr r 0 0) K=K (.ptr r 0 0):=λK=>id rfl;have a1:∀K:K2,CY 1 (.ptr r 0 0) K=K (.ptr r 1 0):=λK=>id rfl;obtain⟨w,m,Q⟩:=h.at_;have main:∀j,Aj j r=some (c_ w [.ptr r 0 0,v])->Bld r l v j->Kp r v H v j->(Lh (.ptr r 0 0) λv3=>CY 1 v3 λv4=>AD AW v4 j λv5=>E5 Bu 1 Bl Ak v5 (S s) j λv6 X=>
  Lh (.ptr r 0 0) λv8=>CY 1 v8 λv9=>E4 AW v9 v6 X λF=>Bm Ak (S s) λR=>K (.tup [R,.v .nilIface]) F)=x:=λj k c O=>by
  rw[Ix,a1,AQ (p:=1) rfl k (by simp)];show E5 Bu 1 Bl Ak v (S s) j _=x;obtain⟨i,t,h1,h2,V,D⟩:=apt (ie:=Bl) (i2:=Ak) c.sl (λK=>B9U (K:=K)) (by rw[Qf];omega) (A5U s) (by decide) rfl rfl (by show(l.length+s.length)*1<=_;omega) (by omega);rw[h1,Ix,a1];have A:Aj t r=some (c_ w [.ptr r 0 0,v]):=D.keep c.wf r _ k c.ne;have C:=D.wf c.wf;rw[U_]at h2;have g:Bw i=[i]/\AV.one i=true:=by
   rcases h2 with⟨rfl,_⟩|⟨a,b,rfl,_⟩<;>exact⟨rfl,rfl⟩
  rw[Ei (q:=true) (e:=w) (cs:=[.ptr r 0 0,v]) A (by simp) rfl g.1 g.2,PQ rfl];have Z:=c.wf.lt k;have B:¬A8 i r:=λd=>by have:=V r d;omega
  refine hx i _ ⟨⟨w,m,.inr (AC A)⟩,?_,B,Bq C⟩ ?_
  ·rw[EC];exact h2.lat C (Lat.upd t r _ (P:=λu=>u=r) rfl) (λu d e=>B (e▸d))
  ·refine O.trans h.wf ⟨λu y d hn hv=>?_,λu d=>.inr (by rw[V u d];exact Me _),by rw[BB];exact D.nx⟩;rw[Ag hn];exact D.keep c.wf u y d hv
 rw[Ix,J];rcases Q with f|f
 ·rw[AQ (p:=0) rfl f (by simp)];show Rs Cm BG .eql (.v (.pointer none)) (.v (.pointer none)) _=x;have M:∀K:K2,Rs Cm BG .eql (.v (.pointer none)) (.v (.pointer none)) K=K (Bo true):=λK=>id rfl;rw[M,Cr];have N:∀K:K2,A1J BG (.ptr r 0 0) H K=K (.ptr r 0 0):=λK=>by
   have:A1J BG (.ptr r 0 0) H K=I6 H r λx=>J6 x λ_ cs=>G6 cs 0 λcl=>ck (Nat.blt (Nat.add 0 0) cl&& !Nat.beq BG.size 0) (K (.ptr r 0 0)):=rfl;rw[this,AX f];rfl
  have Y:∀K:K2,A1E A3E E6 (.ptr r 0 0) H K=K (.ptr r 0 0):=λK=>by
   have:A1E A3E E6 (.ptr r 0 0) H K=I6 H r λx=>fD x λq E cs=>G6 cs 0 λcl=>ck (q&&B4j A3E E cl (Nat.add 0 0) E6) (K (.ptr r 0 0)):=rfl;rw[this,AX f];rcases m with rfl|rfl<;>rfl
  rw[N,Y,Ix,J,Ei (q:=true) (e:=w) (cs:=[.v (.pointer none),v]) f (by simp) rfl rfl rfl];refine main _ (AC f) ⟨⟨w,m,.inr (AC f)⟩,h.sl.lat h.wf (Lat.upd H r _ (P:=λu=>u=r) rfl) (λu d e=>h.ne (e▸d)),h.ne,Bq h.wf⟩ ⟨λu y d hn _=>by rw[Ag hn];exact d,λu d=>.inl d,by rw[BB];exact Me _⟩
 ·rw[AQ (p:=0) rfl f (by simp)];show Rs Cm BG .eql (.ptr r 0 0) (.v (.pointer none)) _=x;have M:∀K:K2,Rs Cm BG .eql (.ptr r 0 0) (.v (.pointer none)) K=K (Bo false):=λK=>id rfl;rw[M,Bh,Ix,J,AQ (p:=0) rfl f (by simp)];show Rs Cm BG .neq (.ptr r 0 0) (.ptr r 0 0) _=x;have N:∀K:K2,Rs Cm BG .neq (.ptr r 0 0) (.ptr r 0 0) K=K (Bo false):=λK=>by
   have:Rs Cm BG .neq (.ptr r 0 0) (.ptr r 0 0) K=ck (Nat.beq r r&&(Nat.beq (Nat.add 0 0) (Nat.add 0 0)&& !Nat.beq BG.size 0)) (K (Bo false)):=rfl;rw[this,jH];rfl
  rw[N,Bh];exact main H f h (Kp.refl r v H)
end
section
variable{a v v0:AV}{H H0:Hp}{k2:Ru}{zs:List Ha}{e r:Nat}{t:TI}
variable{L n:Nat}{K:KV}{x:Af}
def Sr(H:Hp)(r:Nat)(v a:AV)(cs:Is):Prop:=a=.list cs.length cs\/(a=Aw/\cs=[])\/∃k q e,a=.sl 1 k 0 cs.length/\Aj H k=some (.cells q e cs)/\k≠r/\¬A8 v k
def Sr.kp{H H':Hp}{v f a:AV}{cs:Is}(h:Sr H r v a cs)(w:Wf H)(k:Kp r v H f H'):Sr H' r f a cs:=by
 rcases h with h|h|⟨i,q,e,h1,h2,b,c⟩
 ·exact .inl h
 ·exact .inr (.inl h)
 ·refine .inr (.inr ⟨i,q,e,h1,k.keep i _ h2 b c,b,λg=>?_⟩);rcases k.new i g with d|d
  ·exact c d
  ·have:=w.lt h2;omega
def Sr.len{cs:Is}{e z:Nat}{K:K2}(h:Sr H r v a cs)(c:t.d=.slice e z):Bm t a K=K (I cs.length):=by
 obtain⟨s,b,d,zr⟩:=t;simp only at c;subst c;rcases h with rfl|⟨rfl,rfl⟩|⟨i,q,e,rfl,_⟩<;>exact id rfl
def Sr.get{r i:Nat}{cs:Is}{t g:TI}{K:K2}(h:Sr H r v a cs)(b:t.d=.slice e 1)(f:g.d.isAgg=false)(c:i<cs.length):(Ds t a (I i) λp=>AD g p H K)=K (cs.getD i .dk):=by
 rcases h with rfl|⟨_,rfl⟩|⟨k,q,m,rfl,j,_⟩
 ·rw[YD b rfl (by omega) (by omega),jI,Ni f]
 ·simp at c
 ·rw[S_ b (by omega) (by omega),jI,AQ (p:=i) f j c]
def C11{zs:List Int}(C:zs.length<100)(hz:∀z∈zs, -10<=z/\z<390){l:Ha}(hb:l.length<900000000)(w0:Wf H0)(u:∀k b,Bld r (l++Jk zs) k b->Kp r v0 H0 k b->k2 b=x):∀(f i:Nat)(v:AV)(H:Hp),i<=zs.length->zs.length-i<f->Bld r (l++Jk (zs.take i)) v H->Kp r v0 H0 v H->Sr H r v a (Fa zs)->
 G7 (L+20) (r! L (n+9)) K k2 f (.ptr r 0 0) a (I zs.length) (I i) H=x:=by
 intro f
 induction f with
 |zero=>intro i v H _ h;omega
 |succ f ih=>
  intro i v H B A j m q;rw[Nz];unfold G8 HR A3;by_cases h:i<zs.length
  ·have g:=hz zs[i] (PD h);have p:=F2 (zs.take i);have w:(zs.take i).length<=zs.length:=by simp;omega
   have y:=T9 zs[i];rw[FV (by omega),Cr,q.get rfl rfl (by simp[Fa];omega),SG h,A0m (L:=L) (n:=n+1) g.1 g.2,F5,F4,Ix];have s:∀K:K2,CY 0 (.ptr r 0 0) K=K (.ptr r 0 0):=λK=>id rfl;rw[s];refine E_ (n:=n+7) j (by rw[EC];omega) λk b c d=>?_;rw[Dd (by omega)];rw[ZL,<-zF zs h]at c;exact ih (i+1) k b (by omega) (by omega) c (m.trans w0 d) (q.kp j.wf d)
  ·rw[FT (by omega),Bh];have:i=zs.length:=by omega
   subst this;rw[vO]at j;exact u v H j m
def A6l{zs:List Int}{l:Ha}(k:100<L)(i:zs.length<100)(hz:∀z∈zs, -10<=z/\z<390)(hb:l.length<900000000)(c:Bld r l v H)(d:Sr H r v a (Fa zs))(j:∀f b,Bld r (l++Jk zs) f b->Kp r v H f b->K (.tup []) b=x):(r! L (n+10)).call BO [.ptr r 0 0,a] H K=x:=by
 rw[Of];unfold GU A3;rw[d.len rfl];simp only[BJ];have g:(AV.v (.int .i64 0))=I ((0:Nat):Int):=rfl;have h:(Fa zs).length=zs.length:=by simp[Fa]
 rw[g,h];exact C11 (n:=n) i hz hb c.wf j (L+20) 0 v H (by omega) (by omega) (by simpa [Jk] using c) (Kp.refl r v H) d
def C0X(D:zs.length<100)(hz:∀z∈zs,z.length<390){l:Ha}(hb:l.length<900000000)(w0:Wf H0)(w:∀k b,Bld r (l++Iz zs) k b->Kp r v0 H0 k b->k2 b=x):∀(f i:Nat)(v:AV)(H:Hp),i<=zs.length->zs.length-i<f->Bld r (l++Iz (zs.take i)) v H->Kp r v0 H0 v H->Sr H r v a (AG zs)->
 Hz (L+20) (r! L (n+9)) K k2 f (.ptr r 0 0) a (I zs.length) (I i) H=x:=by
 intro f
 induction f with
 |zero=>intro i v H _ h;omega
 |succ f ih=>
  intro i v H C B g p j;rw[OM];unfold HB HR A3;by_cases h:i<zs.length
  ·have m:=hz zs[i] (PD h);have q:=F1 (zs.take i) (λs j=>hz s (l2a j));have y:(zs.take i).length<=zs.length:=by simp;omega
   have A:(R? zs[i]).length<=400:=by unfold R?;rw[EC];have:=T9 (zs[i].length:Int);omega
   rw[FV (by omega),Cr,j.get rfl rfl (by simp[AG];omega),Pe h,A0l L n m,F5,F4,Ix];have u:∀K:K2,CY 0 (.ptr r 0 0) K=K (.ptr r 0 0):=λK=>id rfl;rw[u];refine E_ (n:=n+7) g (by rw[EC];omega) λk b c d=>?_;rw[Dd (by omega)];rw[ZL,<-zE zs h]at c;exact ih (i+1) k b (by omega) (by omega) c (p.trans w0 d) (j.kp g.wf d)
  ·rw[FT (by omega),Bh];have:i=zs.length:=by omega
   subst this;rw[vO]at g;exact w v H g p
def F'{l:Ha}(k:100<L)(i:zs.length<100)(hz:∀z∈zs,z.length<390)(hb:l.length<900000000)(c:Bld r l v H)(d:Sr H r v a (AG zs))(j:∀f b,Bld r (l++Iz zs) f b->Kp r v H f b->K (.tup []) b=x):(r! L (n+10)).call Cz [.ptr r 0 0,a] H K=x:=by
 rw[Pv];unfold Im A3;rw[d.len rfl];simp only[BJ];have g:(AV.v (.int .i64 0))=I ((0:Nat):Int):=rfl;have h:(AG zs).length=zs.length:=by simp[AG]
 rw[g,h];exact C0X (n:=n) i hz hb c.wf j (L+20) 0 v H (by omega) (by omega) (by simpa [Iz] using c) (Kp.refl r v H) d
end
section
variable{v:AV}{q:Bool}{H:Hp}{e i k r:Nat}
variable{L n:Nat}{K:KV}{x:Af}
abbrev Rts:=List (Ha×Ha)
def rtC(q:Ha×Ha):Is:=[S q.1,S q.2]
def Rp(l:Rts):Ha:=(l.map λq=>Iz [q.1,q.2]).flatten
def A7f(l:Rts)(h:i<l.length):Rp (l.take (i+1))=Rp (l.take i)++Iz [l[i].1,l[i].2]:=by
 unfold Rp;rw[lO h,Za,List.flatten_append];simp only[Xa,List.map_nil,l1d,List.flatten_nil,UC]
def OB(l:Rts)(h:∀q∈l,q.1.length<390/\q.2.length<390):(Rp l).length<=800*l.length:=by
 induction l with
 |nil=>simp[Rp]
 |cons s l ih=>
  have a:=ih (λs c=>h s (by simp[c]));have b:=F1 [s.1,s.2] (by simp;exact h s (by simp));simp only[Rp,Xa,l1d,EC,LV,QT]at a b⊢;omega
def Kp.cons{y:Row}(w:Wf H):Kp r v H v ((As H,y)::H):=⟨λu z a _ _=>A7 (w.lt a) a,λu a=>.inl a,l1u _⟩
theorem Bld.lt{l:Ha}(h:Bld r l v H):r<As H:=by obtain⟨_,_,h1|h1⟩:=h.at_<;>exact h.wf.lt h1
def Bld.vlt{r u:Nat}{l:Ha}(h:Bld r l v H)(a:A8 v u):u<As H:=h.sl.lt h.wf a
def B9Z{r m i:Nat}{K:K2}(h:i<m):Ds Jl (.sl 2 r 0 m) (I i) K=K (.ptr r (2*i) 0):=by
 have a:Ds Jl (.sl 2 r 0 m) (I (i:Int)) K=iN (i:Int) λk=>ck (Nat.blt k m) (fN (Nat.add 0 (Nat.mul k 2)) λq=>K (.ptr r q 0)):=rfl;rw[a,Ju,Dy];have h2:Nat.blt i m=true:=by rw[Wr];exact h
 have b:Nat.add 0 (Nat.mul i 2)=2*i:=by show 0+i*2=_;omega
 rw[h2,b];rfl
def C0Y{rs:Rts}{k2:Ru}(hl:rs.length<100)(hz:∀z∈rs,z.1.length<390/\z.2.length<390){l:Ha}(hL:100<L)(hb:l.length<800000000){v0:AV}{H0:Hp}(w0:Wf H0)(Q:k≠r)(hx:∀F m,Bld r (l++Rp rs) F m->Kp r v0 H0 F m->k2 m=x):∀(f i:Nat)(v:AV)(H:Hp),i<=rs.length->rs.length-i<f->Bld r (l++Rp (rs.take i)) v H->Kp r v0 H0 v H->Aj H k=some (.cells q e (rs.flatMap rtC))->¬A8 v k->
 GP (L+20) (r! L (n+10)) K k2 f (.ptr r 0 0) (.sl 2 k 0 rs.length) (I rs.length) (I i) H=x:=by
 intro f
 induction f with
 |zero=>intro i v H _ h;omega
 |succ f ih=>
  intro i v H hi hf d Y C D;rw[NT];unfold GQ Em HR A3;by_cases h:i<rs.length
  ·have V:=hz rs[i] (PD h);have Z:=OB (rs.take i) (λs C=>hz s (l2a C));have h5:(rs.take i).length<=rs.length:=by simp;omega
   rw[FV (by omega),Cr,B9Z h];have N:=iE rtC 2 (λ_=>rfl) rs;have M:=uB rtC 2 (λ_=>rfl) rs i h;have R:∀K,AD A6 (.ptr k (2*i) 0) H K=K (.agg (rtC rs[i])):=λK=>by
    rw[GB (p:=2*i) rfl C (by rw[N];show 2*i+2<=_;omega),Nat.mul_comm 2 i];show K (.agg (((rs.flatMap rtC).drop (i*2)).take 2))=_;rw[M]
   rw[R,B3 (cs:=[zS,zS]) rfl];have B:=Az (H:=H) (x:=.cells true Br [zS,zS]) (by simp);rw[Ch (vs:=rtC rs[i]) B rfl rfl rfl];have g:=AC (q:=true) (e:=Br) (cs:=rtC rs[i]) B;have aa:=d.lt;have b:=(d.cons (y:=.cells true Br [zS,zS])).upd (s:=As H) (y:=.cells true Br (rtC rs[i])) (by omega) (λc=>by have:=d.vlt c;omega);have A:Kp r v H v (upd ((As H,c_ Br [zS,zS])::H) (As H) (c_ Br (rtC rs[i]))):=⟨λu y c h1 h2=>by
    have:=d.wf.lt c;rw[Ag (by omega)];exact A7 this c,λu c=>.inl c,by rw[BB];exact l1u _⟩
   generalize upd ((As H,c_ Br [zS,zS])::H) (As H) (c_ Br (rtC rs[i]))=a at g b A;generalize As H=t at g;have g0:∀K:K2,CY 0 (.ptr t 0 0) K=K (.ptr t 0 0):=λK=>id rfl;have g1:∀K:K2,CY 1 (.ptr t 0 0) K=K (.ptr t 1 0):=λK=>id rfl;have m0:∀K,AD Ak (.ptr t 0 0) a K=K (S rs[i].1):=λK=>AQ (p:=0) rfl g (show 0<2 by decide);have m1:∀K,AD Ak (.ptr t 1 0) a K=K (S rs[i].2):=λK=>AQ (p:=1) rfl g (show 1<2 by decide);rw[g0,m0,g1,m1];have bs:∀K:KV,GM Av 1 Ak 2 [(0,1,S rs[i].1),(1,1,S rs[i].2)] a K=K (.sl 1 (As a) 0 2) ((As a,.cells false Av (AG [rs[i].1,rs[i].2]))::a):=λK=>by
    have e:GM Av 1 Ak 2 [(0,1,S rs[i].1),(1,1,S rs[i].2)] a K=Ik a λs=>K (.sl 1 s 0 2) ((s,.cells false Av (AG [rs[i].1,rs[i].2]))::a):=rfl;rw[e,BW]
   rw[bs];have J:=b.cons (y:=.cells false Av (AG [rs[i].1,rs[i].2]));have P:Kp r v H v ((As a,.cells false Av (AG [rs[i].1,rs[i].2]))::a):=A.trans d.wf (Kp.cons b.wf);refine F' (n:=n) hL (zs:=[rs[i].1,rs[i].2]) (by simp) (by simp;exact V) (by rw[EC];omega) J (.inr (.inr ⟨As a,false,Av,rfl,Az (by simp),by have:=b.lt;omega,λc=>by have:=b.vlt c;omega⟩)) λF m w O=>?_;rw[Dd (by omega)];rw[ZL,<-A7f rs h]at w;have j:=P.trans d.wf O;refine ih (i+1) F m (by omega) (by omega) w (Y.trans w0 j) (j.keep k _ C Q D) (λc=>?_);rcases j.new k c with X|X
   ·exact D X
   ·have:=d.wf.lt C;omega
  ·rw[FT (by omega),Bh];have:i=rs.length:=by omega
   subst this;rw[vO]at d;exact hx v H d Y
def A8v{rs:Rts}{l:Ha}(j:100<L)(m:rs.length<100)(hz:∀z∈rs,z.1.length<390/\z.2.length<390)(hb:l.length<800000000)(d:Bld r l v H)(b:k≠r)(p:Aj H k=some (.cells q e (rs.flatMap rtC)))(c:¬A8 v k)(s:∀f a,Bld r (l++Rp rs) f a->Kp r v H f a->K (.tup []) a=x):(r! L (n+11)).call CP [.ptr r 0 0,.sl 2 k 0 rs.length] H K=x:=by
 rw[OS];unfold HH A3;have h:∀K,Bm Jl (.sl 2 k 0 rs.length) K=K (I rs.length):=λK=>id rfl;rw[h];simp only[BJ];have g:(AV.v (.int .i64 0))=I ((0:Nat):Int):=rfl;rw[g];exact C0Y (n:=n) m hz j hb d.wf b s (L+20) 0 v H (by omega) (by omega) (by simpa [Rp] using d) (Kp.refl r v H) p c
end
section
variable{L n:Nat}{K:KV}{x:Af}
structure Bd(r:Nat)(ks:List (Nat×Row))(b:Nat)(l:Ha)(v:AV)(H:Hp):Prop where
 bld:Bld r l v H
 ks:∀p∈ks,Aj H p.1=some p.2/\p.1≠r/\¬A8 v p.1
 sz:l.length<=b
def Bd.step{r b d:Nat}{ks:List (Nat×Row)}{l a:Ha}{v c:AV}{H H':Hp}(h:Bd r ks b l v H)(g:Bld r a c H')(k:Kp r v H c H')(j:a.length<=d):Bd r ks d a c H':=
 ⟨g,λp i=>by
  obtain⟨h1,h2,e⟩:=h.ks p i;refine⟨k.keep p.1 _ h1 h2 e,h2,λm=>?_⟩;rcases k.new p.1 m with f|f
  ·exact e f
  ·have:=h.bld.wf.lt h1;omega,j⟩
def Bd.less{r b:Nat}{ks:List (Nat×Row)}{p:Nat×Row}{l:Ha}{v:AV}{H:Hp}(h:Bd r (p::ks) b l v H):Bd r ks b l v H:=⟨h.bld,λq hq=>h.ks q (List.mem_cons_of_mem _ hq),h.sz⟩
section
variable{r b:Nat}{ks:List (Nat×Row)}{l:Ha}{v:AV}{H:Hp}
def mN(h:Bd r ks b l v H)(f:100<L)(hb:b<500000000)(zs:List Int)(i:zs.length<100)(hz:∀z∈zs, -10<=z/\z<390)(k:∀c a,Bd r ks (b+50000) (l++Jk zs) c a->K (.tup []) a=x):
 (r! L (n+10)).call BO [.ptr r 0 0,.sl 1 (As H) 0 zs.length] ((As H,.cells false Hd (Fa zs))::H) K=x:=by
 have h1:=h.sz;have h2:=F2 zs;have d:(Fa zs).length=zs.length:=by simp[Fa]
 refine A6l (n:=n) f i hz (by omega) h.bld.cons (.inr (.inr ⟨As H,false,Hd,by rw[d],Az (by simp),by have:=h.bld.lt;omega,λj=>by have:=h.bld.vlt j;omega⟩)) λc a e g=>?_;exact k c a (h.step e ((Kp.cons h.bld.wf).trans h.bld.wf g) (by rw[EC];omega))
def B1Q(h:Bd r ks b l v H)(e:100<L)(hb:b<500000000)(zs:List Ha)(g:zs.length<100)(hz:∀z∈zs,z.length<390)(j:∀c a,Bd r ks (b+50000) (l++Iz zs) c a->K (.tup []) a=x):
 (r! L (n+10)).call Cz [.ptr r 0 0,.sl 1 (As H) 0 zs.length] ((As H,.cells false Av (AG zs))::H) K=x:=by
 have h1:=h.sz;have h2:=F1 zs hz;refine F' (n:=n) e g hz (by omega) h.bld.cons (.inr (.inr ⟨As H,false,Av,by rw[AZ],Az (by simp),by have:=h.bld.lt;omega,λi=>by have:=h.bld.vlt i;omega⟩)) λc a d f=>?_;exact j c a (h.step d ((Kp.cons h.bld.wf).trans h.bld.wf f) (by rw[EC];omega))
def C0t(h:Bd r ks b l v H)(f:100<L)(hb:b<500000000)(zs:List Ha)(a:AV)(g:a=.list zs.length (AG zs)\/(a=Aw/\zs=[]))(j:zs.length<100)(hz:∀z∈zs,z.length<390)(k:∀d c,Bd r ks (b+50000) (l++Iz zs) d c->K (.tup []) c=x):
 (r! L (n+10)).call Cz [.ptr r 0 0,a] H K=x:=by
 have h1:=h.sz;have h2:=F1 zs hz;refine F' (n:=n) f j hz (by omega) h.bld ?_ λd c e i=>k d c (h.step e i (by rw[EC];omega));rcases g with rfl|⟨rfl,rfl⟩
 ·exact .inl (by rw[AZ])
 ·exact .inr (.inl ⟨rfl,rfl⟩)
def V?(h:Bd r ks b l v H)(e:100<L)(hb:b<500000000)(rs:Rts)(j:rs.length<50)(hz:∀z∈rs,z.1.length<390/\z.2.length<390)(i:∀c a,Bd r ks (b+50000) (l++Rp rs) c a->K (.tup []) a=x):
 (r! L (n+11)).call CP [.ptr r 0 0,.sl 2 (As H) 0 rs.length] ((As H,.cells false Br (rs.flatMap rtC))::H) K=x:=by
 have h1:=h.sz;have h2:=OB rs hz;refine A8v (n:=n) e (by omega) hz (by omega) h.bld.cons (by have:=h.bld.lt;omega) (Az (by simp)) (λg=>by have:=h.bld.vlt g;omega) λc a d f=>?_;exact i c a (h.step d ((Kp.cons h.bld.wf).trans h.bld.wf f) (by rw[EC];omega))
def C15(h:Bld r l v H):(r! L (n+1)).call HZ [.ptr r 0 0] H K=K (I l.length) H:=by
 rw[Tg];unfold JR Iu;have a1:∀K:K2,CY 1 (.ptr r 0 0) K=K (.ptr r 1 0):=λK=>id rfl;rw[Ix,a1];have c:∀K,AD AW (.ptr r 1 0) H K=K v:=λK=>by
  obtain⟨_,_,a|a⟩:=h.at_<;>exact AQ (p:=1) rfl a (by simp)
 rw[c,Le rfl h.sl]
def A0k(h:Bld r l v H)(u:0<l.length)(hb:l.length<1000000000):∃a,∀K,(r! L (n+1)).call EJ [.ptr r 0 0] H K=K (S l) a:=by
 rcases h.sl with⟨_,h1,_⟩|⟨s,q,rfl,t,hc⟩
 ·omega
 ·refine⟨upd H s .gone,λK=>?_⟩;rw[QA];unfold IM Iu;have a1:∀K:K2,CY 1 (.ptr r 0 0) K=K (.ptr r 1 0):=λK=>id rfl;have i:∀K,AD AW (.ptr r 1 0) H K=K (.sl 1 s 0 l.length):=λK=>by
   obtain⟨_,_,c|c⟩:=h.at_<;>exact AQ (p:=1) rfl c (by simp)
  have j:∀K,A7i (.sl 1 s 0 l.length) K=K (.ptr s 0 0):=λK=>by
   have:A7i (.sl 1 s 0 l.length) K=ck (Nat.beq 1 1&&Nat.blt 0 l.length) (K (.ptr s 0 0)):=rfl;rw[this];have:(Nat.beq 1 1&&Nat.blt 0 l.length)=true:=by simp;omega
   rw[this];rfl
  have k:∀K,Bm AW (.sl 1 s 0 l.length) K=K (I l.length):=λK=>id rfl;have m:∀K:KV,A3X Bu (.ptr s 0 0) (I l.length) H K=K (S l) (upd H s .gone):=λK=>by
   have:A3X Bu (.ptr s 0 0) (I l.length) H K=iN (l.length:Int) λn=>I6 H s λx=>J6 x λE cs=>ck (Nat.beq E Bu&&(Nat.blt 0 n&&Nat.blt n 9223372036854775807)) (Ek n (Dg (Nat.add 0 0) cs) λd=>fu8 d λl=>Ll H s .gone λa=>K (.v (.string ⟨⟨l⟩⟩)) a):=rfl;rw[this,Ju,AX t];show ck (Nat.beq Bu Bu&&(Nat.blt 0 l.length&&Nat.blt l.length 9223372036854775807)) _=_;have g:(Nat.beq Bu Bu&&(Nat.blt 0 l.length&&Nat.blt l.length 9223372036854775807))=true:=by simp;omega
   rw[g];show Ek l.length (Dg 0 (Mr l)) _=_;have f:∀(l:Ha)(K:Ha->Af),fu8 (Mr l) K=K l:=λl=>by
    induction l with
    |nil=>intro K;rfl
    |cons b l ih=>
     intro K;have e:fu8 (Mr (b::l)) K=iN (b.toNat:Int) λn=>fu8 (Mr l) λl=>K (UInt8.ofNat n::l):=rfl;rw[e,Ju,ih];simp
   rw[Cy,JU _ _ _ (by rw[pE,Qf];exact Me _),pE,Y? (by rw[Qf];exact Me _),f,Dh]
  simp only[Ix,B4,a1,i,j,k,m,Cb]
end
end
section
variable{H:Hp}
variable{L n:Nat}{K:KV}{x:Af}
def tmB(t:Int×Int):Ha:=Jk [t.1]++Rp [(qn t.2,qd t.2)]
def QX(ts:jL):Ha:=(ts.map tmB).flatten
def xV(l:jL){i:Nat}(h:i<l.length):QX (l.take (i+1))=QX (l.take i)++tmB l[i]:=by
 unfold QX;rw[lO h,Za,List.flatten_append];simp only[Xa,List.map_nil,l1d,List.flatten_nil,UC]
def Zm{z:Int}:GM Hd 1 Ab 1 [(0,1,I z)] H K=K (.sl 1 (As H) 0 1) ((As H,.cells false Hd (Fa [z]))::H):=by
 have e:GM Hd 1 Ab 1 [(0,1,I z)] H K=Ik H λs=>K (.sl 1 s 0 1) ((s,.cells false Hd (Fa [z]))::H):=rfl;rw[e,BW]
def iX{z:Ha}:GM Av 1 Ak 1 [(0,1,S z)] H K=K (.sl 1 (As H) 0 1) ((As H,.cells false Av (AG [z]))::H):=by
 have e:GM Av 1 Ak 1 [(0,1,S z)] H K=Ik H λs=>K (.sl 1 s 0 1) ((s,.cells false Av (AG [z]))::H):=rfl;rw[e,BW]
def V!{a b:Ha}:GM Br 2 A6 1 [(0,2,.agg [S a,S b])] H K=K (.sl 2 (As H) 0 1) ((As H,.cells false Br (([(a,b)]:Rts).flatMap rtC))::H):=by
 have e:GM Br 2 A6 1 [(0,2,.agg [S a,S b])] H K=Ik H λs=>K (.sl 2 s 0 1) ((s,.cells false Br (([(a,b)]:Rts).flatMap rtC))::H):=rfl;rw[e,BW]
def C3v{r c:Nat}{ks:List (Nat×Row)}{ts:jL}{g:AV->KV}(P:TmsOk ts)(M:100<L){b:Nat}(hb:b<100000000){l:Ha}(hx:∀v' F,Bd r ks (b+100000*ts.length) (l++QX ts) v' F->g (.ptr c 0 0) (.ptr r 0 0) F=x):∀(f i:Nat)(v:AV)(H:Hp),i<=ts.length->ts.length-i<f->Bd r ks (b+100000*i) (l++QX (ts.take i)) v H->
 Mn (L+20) (r! L (n+11)) K g f (.ptr c 0 0) (.ptr r 0 0) (FF ts) (I ts.length) (I i) H=x:=by
 have N:=P.len;intro f
 induction f with
 |zero=>intro i v H _ h;omega
 |succ f ih=>
  intro i v H hi hf a;rw[Xs];unfold Mp Em HR A3;by_cases h:i<ts.length
  ·have hr:=P.rng _ (PD h);rw[FV (by omega),Cr,WO h,lTm,B3 (cs:=[zI,zS,zS]) rfl];have u:=Az (H:=H) (x:=.cells true Ba [zI,zS,zS]) (by simp);rw[Ch (vs:=OI ts[i]) u rfl rfl rfl];have d:=AC (q:=true) (e:=Ba) (cs:=OI ts[i]) u;have O:=a.bld.lt;have w:=(a.bld.cons (y:=.cells true Ba [zI,zS,zS])).upd (s:=As H) (y:=.cells true Ba (OI ts[i])) (by omega) (λD=>by have:=a.bld.vlt D;omega);have j:Bd r ((As H,c_ Ba (OI ts[i]))::ks) (b+100000*i) (l++QX (ts.take i)) v (upd ((As H,c_ Ba [zI,zS,zS])::H) (As H) (c_ Ba (OI ts[i]))):=⟨w,λp B=>by
    rcases Tz.1 B with rfl|B
    ·exact⟨d,by simp only;omega,λD=>by have:=a.bld.vlt D;omega⟩
    ·obtain⟨p1,p2,p3⟩:=a.ks p B;have:=a.bld.wf.lt p1;exact⟨by rw[Ag (by omega)];exact A7 this p1,p2,p3⟩,a.sz⟩
   generalize upd ((As H,c_ Ba [zI,zS,zS])::H) (As H) (c_ Ba (OI ts[i]))=Q at d j;generalize As H=t at d j;have Y:∀K:K2,CY 0 (.ptr t 0 0) K=K (.ptr t 0 0):=λK=>id rfl;have Z:∀K:K2,CY 1 (.ptr t 0 0) K=K (.ptr t 1 0):=λK=>id rfl;have m0:∀K,AD Ab (.ptr t 0 0) Q K=K (I ts[i].1):=λK=>AQ (p:=0) rfl d (show 0<3 by decide);rw[Y,m0,Zm];refine mN (n:=n+1) j M (by omega) [ts[i].1] (by simp) (by simp;omega) λv2 J k=>?_;have C:Aj J t=some (c_ Ba (OI ts[i])):=(k.ks (t,c_ Ba (OI ts[i])) (by simp)).1;have m1:∀K,AD A6 (.ptr t 1 0) J K=K (.agg (qa ts[i].2)):=λK=>GB (p:=1) rfl C (show 3<=3 from Me _);rw[Z,m1,V!];have aa:=XL (z:=ts[i].2) (by omega) (by omega);have ab:=XM ts[i].2;refine V? (n:=n) k M (by omega) [(qn ts[i].2,qd ts[i].2)] (by simp) (by simp;omega) λv3 R A=>?_;rw[Dd (by omega)];have V:l++QX (ts.take i)++Jk [ts[i].1]++Rp [(qn ts[i].2,qd ts[i].2)]=l++QX (ts.take (i+1)):=by
    rw[xV ts h];simp[tmB]
   have X:b+100000*i+50000+50000=b+100000*(i+1):=by omega
   have m:=A.less;rw[V,X]at m;exact ih (i+1) v3 R (by omega) (by omega) m
  ·rw[FT (by omega),Bh];have:i=ts.length:=by omega
   subst this;rw[vO]at a;exact hx v H a
end
section
variable{L n:Nat}
def UP(r:RD)(vd:Int):Ha:=Jk [r.k]++Rp [(r.a1,r.a2),(r.b1,r.b2),(r.c1,r.c2),(r.d1,r.d2)]++Jk [vd]
def Nv(kd:Int)(m:ND)(un ca cb:Ha)(ts:jL)(ra rb:Ha)(ps:List Ha)(pt:Ha)(tail:Ha):Ha:=
 []++Jk [kd,m.lab,m.num,m.itm,m.tim,m.day]++Iz [un]++Rp [(ca,cb)]++Jk [(ts.length:Int)]++QX ts++Rp [(ra,rb)]++Jk [(ps.length:Int)]++Iz ps++Iz [pt]++tail
def B2H:PS (r! L (n+40)) ZO [.agg [I 0,Aw,Aw]] (.tup [S [],I 200]):=BK (λH K=>by kernel_rfl) (by kernel_rfl)
def B2L:PS (r! L (n+40)) Qp [.agg [I 0,Aw,Aw]] (Bo true):=BK (λH K=>by kernel_rfl) (by kernel_rfl)
def DJ(ps:List Ha):AV:=match ps with
 |[]=>Aw
 |p::ps=>.list (p::ps).length (AG (p::ps))
section
variable{m:ND}{u o:UD}{ca cb ra rb:Ha}{T P ins nds:AV}{kd id vd:Int}{r:RD}{c:Nat}{H:Hp}{K:K2}
abbrev KT(kd:Int)(m:ND)(u:UD)(ca cb:Ha)(T:AV)(ra rb:Ha)(P:AV)(id:Int)(ins nds:AV)(o:UD)(r:RD)(vd:Int):Row:=.cells true Ad (Ey kd m u ca cb T ra rb P id ins nds o r vd)
def SX(e:Sl T)(d:Sl P)(a:Sl ins)(b:Sl nds):(Ey kd m u ca cb T ra rb P id ins nds o r vd).all AV.one=true:=by
 rcases e with rfl|⟨_,_,rfl⟩<;>rcases d with rfl|⟨_,_,rfl⟩<;>rcases a with rfl|⟨_,_,rfl⟩<;>rcases b with rfl|⟨_,_,rfl⟩<;>rfl
def WQ(e:Sl T)(d:Sl P)(a:Sl ins)(b:Sl nds):R5 true depth [.agg (Ey kd m u ca cb T ra rb P id ins nds o r vd)] [.agg (Ey kd m u ca cb T ra rb P id ins nds o r vd)] H false:=by
 rcases e with rfl|⟨_,_,rfl⟩<;>rcases d with rfl|⟨_,_,rfl⟩<;>rcases a with rfl|⟨_,_,rfl⟩<;>rcases b with rfl|⟨_,_,rfl⟩<;>exact λK=>by kernel_rfl
def VO(a:Sl ins)(b:Sl nds):R5 true depth [.agg (BI id ins nds o)] [.agg (BI id ins nds o)] H false:=by
 rcases a with rfl|⟨_,_,rfl⟩<;>rcases b with rfl|⟨_,_,rfl⟩<;>exact λK=>by kernel_rfl
def cA(a:Aj H c=some (KT kd m u ca cb T ra rb P id ins nds o r vd)):AD Ae (.ptr c 0 0) H K=K (.agg (Ey kd m u ca cb T ra rb P id ins nds o r vd)):=Bv rfl rfl a
def cI0(a:Aj H c=some (KT kd m u ca cb T ra rb P id ins nds o r vd)):AD Ab (.ptr c 0 0) H K=K (I kd):=AQ (p:=0) rfl a (show 0<68 by decide)
def cI1(a:Aj H c=some (KT kd m u ca cb T ra rb P id ins nds o r vd)):AD Ab (.ptr c 1 0) H K=K (I m.lab):=AQ (p:=1) rfl a (show 1<68 by decide)
def cI2(a:Aj H c=some (KT kd m u ca cb T ra rb P id ins nds o r vd)):AD Ab (.ptr c 2 0) H K=K (I m.num):=AQ (p:=2) rfl a (show 2<68 by decide)
def cI3(a:Aj H c=some (KT kd m u ca cb T ra rb P id ins nds o r vd)):AD Ab (.ptr c 3 0) H K=K (I m.itm):=AQ (p:=3) rfl a (show 3<68 by decide)
def cI4(a:Aj H c=some (KT kd m u ca cb T ra rb P id ins nds o r vd)):AD Ab (.ptr c 4 0) H K=K (I m.tim):=AQ (p:=4) rfl a (show 4<68 by decide)
def cI5(a:Aj H c=some (KT kd m u ca cb T ra rb P id ins nds o r vd)):AD Ab (.ptr c 5 0) H K=K (I m.day):=AQ (p:=5) rfl a (show 5<68 by decide)
def cU(a:Aj H c=some (KT kd m u ca cb T ra rb P id ins nds o r vd)):AD A1 (.ptr c 6 0) H K=K (.agg (CL u)):=GB (p:=6) rfl a (show 26<=68 by decide)
def cC(a:Aj H c=some (KT kd m u ca cb T ra rb P id ins nds o r vd)):AD A6 (.ptr c 26 0) H K=K (.agg ([S ca,S cb])):=GB (p:=26) rfl a (show 28<=68 by decide)
def cT(a:Aj H c=some (KT kd m u ca cb T ra rb P id ins nds o r vd)):AD AB (.ptr c 28 0) H K=K (T):=AQ (p:=28) rfl a (show 28<68 by decide)
def cR(a:Aj H c=some (KT kd m u ca cb T ra rb P id ins nds o r vd)):AD A6 (.ptr c 29 0) H K=K (.agg ([S ra,S rb])):=GB (p:=29) rfl a (show 31<=68 by decide)
def cP(a:Aj H c=some (KT kd m u ca cb T ra rb P id ins nds o r vd)):AD Ac (.ptr c 31 0) H K=K (P):=AQ (p:=31) rfl a (show 31<68 by decide)
def cPr(a:Aj H c=some (KT kd m u ca cb T ra rb P id ins nds o r vd)):AD AS (.ptr c 32 0) H K=K (.agg (BI id ins nds o)):=GB (p:=32) rfl a (show 55<=68 by decide)
def cRk(a:Aj H c=some (KT kd m u ca cb T ra rb P id ins nds o r vd)):AD Ab (.ptr c 55 0) H K=K (I r.k):=AQ (p:=55) rfl a (show 55<68 by decide)
def cR1(a:Aj H c=some (KT kd m u ca cb T ra rb P id ins nds o r vd)):AD A6 (.ptr c 56 0) H K=K (.agg ([S r.a1,S r.a2])):=GB (p:=56) rfl a (show 58<=68 by decide)
def cR2(a:Aj H c=some (KT kd m u ca cb T ra rb P id ins nds o r vd)):AD A6 (.ptr c 58 0) H K=K (.agg ([S r.b1,S r.b2])):=GB (p:=58) rfl a (show 60<=68 by decide)
def cR3(a:Aj H c=some (KT kd m u ca cb T ra rb P id ins nds o r vd)):AD A6 (.ptr c 60 0) H K=K (.agg ([S r.c1,S r.c2])):=GB (p:=60) rfl a (show 62<=68 by decide)
def cR4(a:Aj H c=some (KT kd m u ca cb T ra rb P id ins nds o r vd)):AD A6 (.ptr c 62 0) H K=K (.agg ([S r.d1,S r.d2])):=GB (p:=62) rfl a (show 64<=68 by decide)
def cV(a:Aj H c=some (KT kd m u ca cb T ra rb P id ins nds o r vd)):AD Ab (.ptr c 64 0) H K=K (I vd):=AQ (p:=64) rfl a (show 64<68 by decide)
def cS(a:Aj H c=some (KT kd m u ca cb T ra rb P id ins nds o r vd)):AD Qg (.ptr c 65 0) H K=K (.agg ([I 0,Aw,Aw])):=GB (p:=65) rfl a (show 68<=68 by decide)
def fA{c j k:Nat}:CY j (.ptr c k 0) K=K (.ptr c (k+j) 0):=by
 have e:CY j (.ptr c k 0) K=fN (Nat.add k j) λq=>K (.ptr c q 0):=rfl;rw[e,Dy];rfl
end
def eY(ts:jL)(h:∀t∈ts,(qn t.2).length<390/\(qd t.2).length<390):(QX ts).length<=900*ts.length:=by
 induction ts with
 |nil=>simp[QX]
 |cons t l ih=>
  have h1:=ih (λt b=>h t (by simp[b]));have h2:=F2 [t.1];have a:=OB [(qn t.2,qd t.2)] (by simp;exact h t (by simp));simp only[QX,Xa,l1d,EC,LV,QT,tmB]at h1 h2 a⊢;omega
def Bd.tms0{r b:Nat}{ks:List (Nat×Row)}{l:Ha}{v:AV}{H:Hp}(ts:jL)(h:Bd r ks b l v H):Bd r ks (b+100000*0) (l++QX (ts.take 0)) v H:=by
 rw[show QX (ts.take 0)=[] from rfl,UC];exact h
def B4W(z:Int):0<(enc z).length:=by
 unfold enc B16;split<;>simp
def B5a{a b c d e f:Int}{H:Hp}{K:KV}:GM Hd 1 Ab 6 [(0,1,I a),(1,1,I b),(2,1,I c),(3,1,I d),(4,1,I e),(5,1,I f)] H K=K (.sl 1 (As H) 0 6) ((As H,.cells false Hd (Fa [a,b,c,d,e,f]))::H):=by
 have g:GM Hd 1 Ab 6 [(0,1,I a),(1,1,I b),(2,1,I c),(3,1,I d),(4,1,I e),(5,1,I f)] H K=Ik H λs=>K (.sl 1 s 0 6) ((s,.cells false Hd (Fa [a,b,c,d,e,f]))::H):=rfl;rw[g,BW]
def B59{a1 a2 b1 b2 c1 c2 d1 d2:Ha}{H:Hp}{K:KV}:GM Br 2 A6 4 [(0,2,.agg [S a1,S a2]),(2,2,.agg [S b1,S b2]),(4,2,.agg [S c1,S c2]),(6,2,.agg [S d1,S d2])] H K=K (.sl 2 (As H) 0 4) ((As H,.cells false Br (([(a1,a2),(b1,b2),(c1,c2),(d1,d2)]:Rts).flatMap rtC))::H):=by
 have g:GM Br 2 A6 4 [(0,2,.agg [S a1,S a2]),(2,2,.agg [S b1,S b2]),(4,2,.agg [S c1,S c2]),(6,2,.agg [S d1,S d2])] H K=Ik H λs=>K (.sl 2 s 0 4) ((s,.cells false Br (([(a1,a2),(b1,b2),(c1,c2),(d1,d2)]:Rts).flatMap rtC))::H):=rfl;rw[g,BW]
def iL{ps:List Ha}{K:K2}:Bm Ac (DJ ps) K=K (I ps.length):=by cases ps<;>exact id rfl
section
variable{m:ND}{u o:UD}{ca cb ra rb un pt:Ha}{ts:jL}{ps:List Ha}{ins nds:AV}{kd id vd pe:Int}{r:RD}
set_option maxHeartbeats 2000000 in
def A2T(w:100<L)(hm:m.ok)(bh:kd=1\/kd=2\/kd=3)(ht:TmsOk ts)(hI:Sl ins)(hN:Sl nds)(hp:ps.length<=6)(ab:∀s∈ps,s.length<390)(ah:un.length<390)(ad:pt.length<390)(hr:r.k=0\/r.k=1\/r.k=2\/r.k=3)(ae:∀q∈[(r.a1,r.a2),(r.b1,r.b2),(r.c1,r.c2),(r.d1,r.d2)],q.1.length<390/\q.2.length<390)(hv:0<=vd/\vd<=3)(bg:ca.length<10/\cb.length<10/\ra.length<10/\rb.length<10)(aq:LS (r! L (n+61)) Eh [.agg (Ey kd m u ca cb (FF ts) ra rb (DJ ps) id ins nds o r vd)] (Bo true))(ar:PS (r! L (n+61)) Jw [.agg (CL u)] (.tup [S un,I 0]))(ao:LS (r! L (n+61)) Gv [.agg (BI id ins nds o)] (.tup [S pt,I pe])):
 CS (r! L (n+62)) Nh [.agg (Ey kd m u ca cb (FF ts) ra rb (DJ ps) id ins nds o r vd)] (.tup [S (Nv kd m un ca cb ts ra rb ps pt (if kd=3 then UP r vd else[])),I 0]):=by
 intro K hK;obtain⟨q1,q2,q3,q4,q5,q6,q7,q8,q9,bk⟩:=hm;have hT:=Ht ts;have hP:Sl (DJ ps):=by cases ps with|nil=>exact .inl rfl|cons p l=>exact .inr ⟨_,_,rfl⟩
 have bj:=ht.len;rw[Yi];unfold Nf Em Xo Dk A3 HS;rw[En (SX hT hP hI hN)];have f:=Az (H:=[]) (x:=KT kd m u ca cb (FF ts) ra rb (DJ ps) id ins nds o r vd) (by simp);have w0:=AJ (x:=KT kd m u ca cb (FF ts) ra rb (DJ ps) id ins nds o r vd) Fl;generalize ((As [],KT kd m u ca cb (FF ts) ra rb (DJ ps) id ins nds o r vd)::([]:Hp))=A at f w0;generalize As []=c at f;have af:∀K,Ao (r! L (n+61)) Eh [.agg (Ey kd m u ca cb (FF ts) ra rb (DJ ps) id ins nds o r vd)] A K=K (Bo true):=λK=>by rw[zO];exact aq false _ _ (WQ hT hP hI hN) K
 rw[cA f,af,ntT,Bh];have f0:∀{j:Nat}{K:K2},CY j (.ptr c 0 0) K=K (.ptr c j 0):=λ{j K}=>by rw[fA,Jt]
 rw[f0,cS f,B2H (n:=n+21),F5,F4,IS];simp only[show(!decide ((200:Int)=0))=true from rfl,gT,Cb,f0,cS f];simp only[B2L (L:=L) (n:=n+21) A,ntT,Cb,Tt];rw[Bh,B3 (cs:=[.v (.pointer none),zL]) rfl];have ap:=Az (H:=A) (x:=.cells true Hu [.v (.pointer none),zL]) (by simp);have Z:=w0.lt f;have B:Bd (As A) [(c,KT kd m u ca cb (FF ts) ra rb (DJ ps) id ins nds o r vd)] 0 [] Aw ((As A,c_ Hu [.v (.pointer none),zL])::A):=
  ⟨⟨⟨_,.inl rfl,.inl ap⟩,.inl ⟨rfl,rfl,rfl⟩,λ⟨_,_,_,h⟩=>(by cases h),AJ w0⟩,λp hp=>by
   simp only[Tx]at hp;subst hp;exact⟨A7 Z f,by simp only;omega,λ⟨_,_,_,h⟩=>(by cases h)⟩,Me _⟩
 generalize ((As A,c_ Hu [.v (.pointer none),zL])::A)=H1 at B;generalize As A=g at B;have d:∀{b l v H},Bd g [(c,KT kd m u ca cb (FF ts) ra rb (DJ ps) id ins nds o r vd)] b l v H->Aj H c=some (KT kd m u ca cb (FF ts) ra rb (DJ ps) id ins nds o r vd):=λh=>(h.ks (c,_) (Tx.2 rfl)).1;have a:=d B;simp only[BJ];rw[cI0 a,cI1 a,cI2 a,cI3 a,cI4 a,cI5 a,B5a];refine mN (n:=n+51) B w (by decide) [kd,m.lab,m.num,m.itm,m.tim,m.day] (by simp) (by simp only[Tz,List.mem_nil_iff,or_false];rintro z (rfl|rfl|rfl|rfl|rfl|rfl)<;>omega) λv2 H2 N=>?_;have a:=d N;rw[cU a,ar,F5,F4,iX];refine B1Q (n:=n+51) N w (by decide) [un] (by simp) (by simpa using ah) λv3 H3 O=>?_;have a:=d O;have g0:∀{K:K2},CY 0 (.ptr c 26 0) K=K (.ptr c 26 0):=r_ rfl;have g2:∀{K:K2},CY 2 (.ptr c 26 0) K=K (.ptr c 28 0):=r_ rfl;have g3:∀{K:K2},CY 3 (.ptr c 26 0) K=K (.ptr c 29 0):=r_ rfl;rw[g0,cC a,V!];refine V? (n:=n+50) O w (by decide) [(ca,cb)] (by simp) (by simp;omega) λv4 H4 Q=>?_;have a:=d Q;rw[g2,cT a,Qs,Zm];refine mN (n:=n+51) Q w (by decide) [(ts.length:Int)] (by simp) (by simp;omega) λv5 H5 R=>?_;have a:=d R;rw[g2,cT a,Qs];have e0:(AV.v (.int .i64 0))=I ((0:Nat):Int):=rfl;rw[e0];refine C3v (n:=n+50) (c:=c) ht w (b:=200000) (by decide) ?_ (L+20) 0 v5 H5 (by omega) (by omega) (R.tms0 ts);intro v6 H6 i;simp only[f0];have a:=d i;have an:200000+100000*ts.length<=800000:=by omega
 have i:Bd g [(c,KT kd m u ca cb (FF ts) ra rb (DJ ps) id ins nds o r vd)] 800000 _ v6 H6:=⟨i.bld,i.ks,ZK i.sz an⟩
 rw[g3,cR a,V!];refine V? (n:=n+50) i w (by decide) [(ra,rb)] (by simp) (by simp;omega) λv7 H7 V=>?_;have a:=d V;rw[cP a,iL,Zm];refine mN (n:=n+51) V w (by decide) [(ps.length:Int)] (by simp) (by simp;omega) λv8 H8 X=>?_;have a:=d X;rw[cP a];refine C0t (n:=n+51) X w (by decide) ps (DJ ps) (by cases ps with|nil=>exact .inr ⟨rfl,rfl⟩|cons p l=>exact .inl rfl) (by omega) ab λv9 H9 Y=>?_;have a:=d Y;have ac:∀K,Ao (r! L (n+61)) Gv [.agg (BI id ins nds o)] H9 K=K (.tup [S pt,I pe]):=λK=>by rw[zO];exact ao false _ _ (VO hI hN) K
 rw[cPr a,ac,F5,F4,iX];refine B1Q (n:=n+51) Y w (by decide) [pt] (by simp) (by simpa using ad) λax ak y=>?_;have a:=d y;have aa:∀tail:Ha,tail.length<=5000->(Nv kd m un ca cb ts ra rb ps pt tail).length<=32768/\0<(Nv kd m un ca cb ts ra rb ps pt tail).length:=λtail ag=>by
  have a1:=F2 [kd,m.lab,m.num,m.itm,m.tim,m.day];have a2:=F1 [un] (by simpa using ah);have a3:=OB [(ca,cb)] (by simp;omega);have a4:=F2 [(ts.length:Int)];have a5:=eY ts (λt h=>by have:=ht.rng t h;have:=XL (z:=t.2) (by omega) (by omega);have:=XM t.2;omega);have a6:=OB [(ra,rb)] (by simp;omega);have a7:=F2 [(ps.length:Int)];have a8:=F1 ps ab;have a9:=F1 [pt] (by simpa using ad);have bf:0<(Jk [kd,m.lab,m.num,m.itm,m.tim,m.day]).length:=by
   have:=B4W kd;simp only[Jk,Xa,l1d,EC];omega
  simp only[LV,QT]at a1 a2 a3 a4 a6 a7 a9;simp only[Nv,EC,QT];omega
 have fin:∀(tail:Ha)(b:Nat)(v:AV)(H:Hp),tail.length<=5000->(if kd=3 then UP r vd else[])=tail->Bd g [(c,KT kd m u ca cb (FF ts) ra rb (DJ ps) id ins nds o r vd)] b (Nv kd m un ca cb ts ra rb ps pt tail) v H->
  (CY 0 (.ptr g 0 0) λaz=>(r! L (n+61)).call HZ [az] H λba J=>Ap Ab .gtr ba (.v (.int .i64 32768)) λbc=>
   A2 bc (K (.tup [.v (.string ⟨⟨[]⟩⟩),.v (.int .i64 210)]) J) (CY 0 (.ptr g 0 0) λai=>(r! L (n+61)).call EJ [ai] J λaj F=>K (.tup [aj,.v (.int .i64 0)]) F))=some (.tup [S (Nv kd m un ca cb ts ra rb ps pt (if kd=3 then UP r vd else[])),I 0],[]):=λtail b v H ag he hB=>by
  obtain⟨k1,k2⟩:=aa tail ag;have r0:∀{K:K2},CY 0 (.ptr g 0 0) K=K (.ptr g 0 0):=r_ rfl;rw[r0,C15 (n:=n+60) hB.bld,Eo,HX (by omega),Bh,r0];obtain⟨H',e⟩:=A0k (L:=L) (n:=n+60) hB.bld k2 (by omega);rw[e,he];rw[he]at hK;exact hK _ _ (λb=>⟨false,λK=>by kernel_rfl⟩)
 rw[cI0 a,CQ];by_cases h3:kd=3
 ·rw[Hj h3,Cr];have j0:∀{K:K2},CY 0 (.ptr c 55 0) K=K (.ptr c 55 0):=r_ rfl;have j1:∀{K:K2},CY 1 (.ptr c 55 0) K=K (.ptr c 56 0):=r_ rfl;have j3:∀{K:K2},CY 3 (.ptr c 55 0) K=K (.ptr c 58 0):=r_ rfl;have j5:∀{K:K2},CY 5 (.ptr c 55 0) K=K (.ptr c 60 0):=r_ rfl;have j7:∀{K:K2},CY 7 (.ptr c 55 0) K=K (.ptr c 62 0):=r_ rfl;rw[j0,cRk a,Zm];refine mN (n:=n+51) y w (by decide) [r.k] (by simp) (by simp;omega) λbm bd C=>?_;have a:=d C;rw[j1,cR1 a,j3,cR2 a,j5,cR3 a,j7,cR4 a,B59];refine V? (n:=n+50) C w (by decide) [(r.a1,r.a2),(r.b1,r.b2),(r.c1,r.c2),(r.d1,r.d2)] (by simp) ae λbn be D=>?_;have a:=d D;rw[cV a,Zm];refine mN (n:=n+51) D w (by decide) [vd] (by simp) (by simp;omega) λay am M=>?_;refine fin (UP r vd) (800000+50000+50000+50000+50000+50000+50000+50000) ay am ?_ (by rw[Dl h3]) ?_
  ·have a1:=F2 [r.k];have a2:=OB [(r.a1,r.a2),(r.b1,r.b2),(r.c1,r.c2),(r.d1,r.d2)] ae;have a3:=F2 [vd];simp only[LV,QT]at a1 a2 a3;simp only[UP,EC];omega
  ·have:Nv kd m un ca cb ts ra rb ps pt (UP r vd)=[]++Jk [kd,m.lab,m.num,m.itm,m.tim,m.day]++Iz [un]++Rp [(ca,cb)]++Jk [(ts.length:Int)]++QX ts++Rp [(ra,rb)]++Jk [(ps.length:Int)]++Iz ps++Iz [pt]++Jk [r.k]++Rp [(r.a1,r.a2),(r.b1,r.b2),(r.c1,r.c2),(r.d1,r.d2)]++Jk [vd]:=by
    unfold Nv UP;simp only[ZL]
   rw[this];exact M
 ·rw[HX h3,Bh];refine fin [] (800000+50000+50000+50000+50000) ax ak (by simp) (by rw[C5 h3]) ?_;have:Nv kd m un ca cb ts ra rb ps pt []=[]++Jk [kd,m.lab,m.num,m.itm,m.tim,m.day]++Iz [un]++Rp [(ca,cb)]++Jk [(ts.length:Int)]++QX ts++Rp [(ra,rb)]++Jk [(ps.length:Int)]++Iz ps++Iz [pt]:=by
   unfold Nv;rw[UC]
  rw[this];exact y
end
end
section
variable{L n:Nat}
def C44{cs:Is}{b:Ha}(h:40000<L)(h1:cs.all AV.one=true)(hz:cs.length=68)(c:∀H,R5 true depth [.agg cs] [.agg cs] H false)(hb:b.length<=32768)(e:CS (r! L (n+62)) Nh [.agg cs] (.tup [S b,I 0])):CS (r! L (n+63)) FI [.agg cs] (S (sha b)):=by
 intro K f;rw[dK];unfold Py Iu;rw[En h1];have a:=Az (H:=[]) (x:=.cells true Ad cs) (by simp);generalize ((As [],c_ Ad cs)::([]:Hp))=d at a;rw[Bv rfl hz.symm a,AR e (c d),F5,F4,IS];show A2 (.v (.bool false)) _ _=_;rw[Bh];have g:∀K,Ao (r! L (n+62)) WK [S b] d K=K (S (sha b)):=λK=>AR (C1A (L:=L+20) (n:=n+54) (by omega) (by omega)) (An (q:=false) (q':=false) C7 AK);rw[g];exact f _ _ (λb=>⟨false,λK=>by kernel_rfl⟩)
end
section
variable{nds:AV}{H:Hp}{i:Nat}
variable{L n:Nat}
structure Nd where
 op:Int
 (vn vd:Ha)
 u:UD
 (n l r:Int)
abbrev Nd.cs(x:Nd):Is:=[I x.op,S x.vn,S x.vd,I x.u.p0,I x.u.q0,I x.u.p1,I x.u.q1,I x.u.p2,I x.u.q2,I x.u.p3,I x.u.q3,I x.u.p4,I x.u.q4,I x.u.p5,I x.u.q5,I x.u.p6,I x.u.q6,S x.u.fn,S x.u.fd,S x.u.on,S x.u.od,I x.u.kd,I x.u.sc,I x.n,I x.l,I x.r]
def HJ(k:Nat):Is:=CL (uu k)
abbrev BP(ks:Hb):AV:=.list ks.length (ks.flatMap HJ)
def K!(x:Nd):Is:=x.cs
abbrev Cu(xs:List Nd):AV:=.list xs.length (xs.flatMap K!)
def Qt{ks:Hb}{K:K2}:Bm Am (BP ks) K=K (I ks.length):=id rfl
def Vn{xs:List Nd}{K:K2}:Bm A0 (Cu xs) K=K (I xs.length):=id rfl
def iP{ks:Hb}{K:K2}(h:i<ks.length):Ds Am (BP ks) (I i) K=K (.iptr (HJ ks[i])):=XA8 (f:=HJ) rfl (λ_=>rfl) h
def qH{xs:List Nd}{K:K2}(h:i<xs.length):Ds A0 (Cu xs) (I i) K=K (.iptr (K! xs[i])):=XA8 (f:=K!) rfl (λ_=>rfl) h
def iM{k:Nat}{K:K2}:AD A1 (.iptr (HJ k)) H K=K (.agg (CL (uu k))):=id rfl
def qG{x:Nd}{K:K2}:AD AO (.iptr (K! x)) H K=K (.agg x.cs):=id rfl
abbrev IY(id:Int)(ins nds:AV)(o:UD):Row:=.cells true Cx (BI id ins nds o)
section
attribute [local irreducible] Ao rt nM eBi eEq cnd Ap Xp A2
def YT{z c a:Int}(h1:c<=z)(h2:z<=a):PS (r! L (n+1)) D3 [I z,I c,I a] (Bo true):=by
 refine CS.ps (λK d=>?_) (λH=>λK=>by kernel_rfl);rewrite[kY];unfold Sm q3N
 try rewrite[zO]
 try rewrite[bO]
 try rewrite[qO]
 try rewrite[cO]
 conv=>lhs;whnf
 rewrite[A5z h1]
 conv=>lhs;whnf
 rewrite[A5p h2]
 conv=>lhs;whnf
 exact d _ _ (λb=>⟨false,λK=>by kernel_rfl⟩)
end
section
variable{K:KV}{x:Af}{ks:Hb}{xs:List Nd}{id:Int}{o:UD}
def B8z{k31:KV}{c:Nat}(a:∀k∈ks,k<52)(hb:ks.length<100)(d:k31 (.ptr c 0 0) H=x)(b:Aj H c=some (IY id (BP ks) nds o)):∀(f i:Nat),i<=ks.length->ks.length-i<f->
 Qy (L+20) (r! L (n+40)) K k31 f (.ptr c 0 0) (I i) H=x:=by
 intro f
 induction f with
 |zero=>intro i _ h;omega
 |succ f ih=>
  intro i g e;rw[fF];unfold Qz Em Xh HR A3 HS;have f1:∀K:K2,CY 1 (.ptr c 0 0) K=K (.ptr c 1 0):=λK=>r_ rfl;have l1:∀K,AD Am (.ptr c 1 0) H K=K (BP ks):=λK=>AQ (p:=1) rfl b (show 1<23 by decide);rw[f1,l1,Qt];by_cases h:i<ks.length
  ·rw[FV (by omega),Cr,f1,l1,iP h,iM,Se _ _ _ (a _ (PD h)),ntT,Bh,Dd (by omega)];exact ih (i+1) (by omega) (by omega)
  ·rw[FT (by omega),Bh];exact d
def NR{ins nds:AV}(a:Sl ins)(b:Sl nds):(BI id ins nds o).all AV.one=true:=by
 rcases a with rfl|⟨_,_,rfl⟩<;>rcases b with rfl|⟨_,_,rfl⟩<;>rfl
def A9Q(r:100<L)(g:∀k∈ks,k<52)(hb:ks.length<=6)(hn:1<=xs.length)(h:xs.length<=40)(h1:1<=id)(h2:id<=1000000):CS (r! L (n+41)) Ov [.agg (BI id (BP ks) (Cu xs) o)] (.tup [Bo true,Bo true]):=by
 intro K f;rw[kZ];unfold So Xh Dk A3 HS;rw[En (NR (.inr ⟨_,_,rfl⟩) (.inr ⟨_,_,rfl⟩))];have a:=Az (H:=[]) (x:=IY id (BP ks) (Cu xs) o) (by simp);generalize ((As [],IY id (BP ks) (Cu xs) o)::([]:Hp))=d at a;generalize As []=c at a;simp only[BJ];refine B8z g (by omega) ?_ a (L+20) 0 (by omega) (by omega);have e:∀{j:Nat}{K:K2},CY j (.ptr c 0 0) K=K (.ptr c j 0):=λ{j K}=>by rw[fA,Jt]
 have m:∀{K},AD Ab (.ptr c 0 0) d K=K (I id):=λ{K}=>AQ (p:=0) rfl a (show 0<23 by decide);have l1:∀{K},AD Am (.ptr c 1 0) d K=K (BP ks):=λ{K}=>AQ (p:=1) rfl a (show 1<23 by decide);have l2:∀{K},AD A0 (.ptr c 2 0) d K=K (Cu xs):=λ{K}=>AQ (p:=2) rfl a (show 2<23 by decide);have w1:∀{K:K2},Ao (r! L (n+40)) D3 [I id,.v (.int .i64 1),.v (.int .i64 1000000)] d K=K (Bo true):=λ{K}=>YT (n:=n+39) h1 h2 d K;have q:∀{K:K2},Ao (r! L (n+40)) D3 [I (xs.length:Int),.v (.int .i64 1),.v (.int .i64 40)] d K=K (Bo true):=λ{K}=>YT (n:=n+39) (by omega) (by omega) d K;have q1:∀{K},Ap Ab .leq (I (ks.length:Int)) (.v (.int .i64 6)) K=K (Bo true):=λ{K}=>by rw[iR,Hj (by omega)]
 have q2:∀{K},Ap Ab .gtr (I (xs.length:Int)) (.v (.int .i64 0)) K=K (Bo true):=λ{K}=>by rw[Eo,Hj (by omega)]
 simp only[e,m,l1,l2,B4,Cb,gT,w1,q,Qt,Vn,q1,q2,Tt];exact f _ _ (λb=>⟨false,λK=>by kernel_rfl⟩)
end
end
section
variable{x:Value}
variable{L n:Nat}
def XR:Value->Bool
 |.int _ _=>true
 |.string _=>true
 |.bool _=>true
 |.slice none 0 0=>true
 |_=>false
def pl:Nat->AV->Bool
 |_,.v x=>XR x
 |d+1,.list _ cs=>cs.all (pl d)
 |d+1,.agg cs=>cs.all (pl d)
 |d+1,.tup cs=>cs.all (pl d)
 |_,_=>false
def B14:∀l:Ha,eU.eqbL l l=true:=by
 intro l
 induction l with
 |nil=>rfl
 |cons a l ih=>simp only[eU.eqbL,ih,l1g];exact jH _
def jT(h:XR x=true):eU x x=true:=by
 unfold XR at h;split at h
 ·simp[eU]
 ·exact B14 _
 ·simp[eU]
 ·rfl
 ·cases h
def A7J{f:AV->AV->Bool}:∀l:Is,(∀a∈l,f a a=true)->vF f l l=true:=by
 intro l
 induction l with
 |nil=>intro _;rfl
 |cons a l ih=>intro h;simp only[vF,h a (by simp),ih λb hb=>h b (by simp[hb]),l1g]
def Tb:∀(d:Nat)(a:AV),pl d a=true->Vw d a a=true:=by
 intro d
 induction d with
 |zero=>intro a h;cases a<;>first|exact jT h|cases h
 |succ d ih=>
  intro a h;cases a<;>first
   |exact jT h
   |(simp only[pl,GE]at h;simp only[Vw,jH,Z!];exact A7J _ λb hb=>ih b (h b hb))
   |cases h
def A7K{a:AV}(h:pl 6 a=true):dZ a a=true:=by
 cases a<;>first|exact jT h|exact Tb 6 _ h|cases h
def UX{v:AV}{H:Hp}{K:Af}(h:pl 6 v=true):Ra (Bc (some (v,H)) v) K=K:=by
 show Ra (some (.v (.bool (dZ v v)),[])) K=K;rw[A7K h];rfl
def A76(h:XR x=true)(a:x≠.slice none 0 0):gQ x x=some true:=by
 unfold XR at h;split at h
 ·show(match decide (_=_) with|true=>some (ieq _ _)|false=>none)=_;rw[Hj rfl,QI,Hj rfl]
 ·show some (eqB _ _)=_;rw[QK];simp
 ·show some (_==_)=_;simp
 ·exact absurd rfl a
 ·cases h
def A29:∀xs:Hx,(∀x∈xs,XR x=true/\x≠.slice none 0 0)->YK xs xs=some true:=by
 intro xs
 induction xs with
 |nil=>intro _;rfl
 |cons x xs ih=>
  intro h;have e:YK (x::xs) (x::xs)=(match gQ x x with
   |some b=>(match YK xs xs with|some c=>some (b&&c)|none=>none)
   |none=>none):=rfl
  rw[e,A76 (h x (by simp)).1 (h x (by simp)).2,ih λy a=>h y (by simp[a])];rfl
def C3c{x:Nd}{K:K2}:Xp LB .eql (.agg x.cs) (.agg x.cs) K=K (Bo true):=by
 have e:∀(xs:Hx),YK xs xs=some true->∀K:K2,(match(generalizing:=false) YK xs xs,BinOp.eql with
  |some q,.eql=>bB q K
  |some q,.neq=>bB (!q) K
  |_,_=>(none:Af))=K (Bo true):=λxs h K=>by rw[h];rfl
 exact e [.int .i64 x.op,.string ⟨⟨x.vn⟩⟩,.string ⟨⟨x.vd⟩⟩,.int .i64 x.u.p0,.int .i64 x.u.q0,.int .i64 x.u.p1,.int .i64 x.u.q1,.int .i64 x.u.p2,.int .i64 x.u.q2,.int .i64 x.u.p3,.int .i64 x.u.q3,.int .i64 x.u.p4,.int .i64 x.u.q4,.int .i64 x.u.p5,.int .i64 x.u.q5,.int .i64 x.u.p6,.int .i64 x.u.q6,
  .string ⟨⟨x.u.fn⟩⟩,.string ⟨⟨x.u.fd⟩⟩,.string ⟨⟨x.u.on⟩⟩,.string ⟨⟨x.u.od⟩⟩,.int .i64 x.u.kd,.int .i64 x.u.sc,.int .i64 x.n,.int .i64 x.l,.int .i64 x.r]
  (A29 _ (by simp[XR])) K
end
section
variable{at_:Int}
variable{L n:Nat}
def ZA(i:Nat):Nd:=⟨2,[],[],u0,i,0,0⟩
abbrev Ln:Is:=[zI,zS,zS,zI,zI,zI,zI,zI,zI,zI,zI,zI,zI,zI,zI,zI,zI,zS,zS,zS,zS,zI,zI,zI,zI,zI]
abbrev FZ:Is:=[zI,zI,zI,zI,zI,zI,zI,zI,zI,zI,zI,zI,zI,zI,zS,zS,zS,zS,zI,zI]
abbrev Xk(x:Nd):Row:=.cells true AU x.cs
section
variable{K:KV}{x:Af}{ks:Hb}{xs:List Nd}{id:Int}{o:UD}{i:Nat}
def A3t{x:Nd}:x.cs.all AV.one=true:=rfl
def zC{t:TI}{a:Int}{K:K2}:Ap t .eql (I a) (.v (.int .i64 a)) K=K (Bo true):=by rw[CQ,Hj rfl]
def A0O(hb:ks.length<=6)(hi:i<ks.length):CS (r! L (n+2)) Fw [.agg (BI id (BP ks) (Cu xs) o),.agg (ZA i).cs,I at_] (.tup [Bo true,Bo false]):=by
 intro K P;rw[UY];unfold NV Em Xo Dk A3 Mf HS;rw[En (NR (.inr ⟨_,_,rfl⟩) (.inr ⟨_,_,rfl⟩))];have g:=Az (H:=[]) (x:=IY id (BP ks) (Cu xs) o) (by simp);have w0:=AJ (x:=IY id (BP ks) (Cu xs) o) Fl;generalize ((As [],IY id (BP ks) (Cu xs) o)::([]:Hp))=t at g w0;generalize As []=p at g;rw[En A3t];have c:=Az (H:=t) (x:=Xk (ZA i)) (by simp);have k:Aj ((As t,Xk (ZA i))::t) p=some (IY id (BP ks) (Cu xs) o):=A7 (w0.lt g) g;have w1:=AJ (x:=Xk (ZA i)) w0;generalize ((As t,Xk (ZA i))::t)=a at c k w1;generalize As t=r at c;have A:∀{s j:Nat}{K:K2},CY j (.ptr s 0 0) K=K (.ptr s j 0):=λ{s j K}=>by rw[fA,Jt]
 have Q:∀{K},AD Ab (.ptr r 0 0) a K=K (I 2):=λ{K}=>AQ (p:=0) rfl c (show 0<26 by decide);have b0:∀{K:K2},Ca AO [(0,1,I 2)] K=K (.agg (I 2::Ln.tail)):=λ{K}=>r_ rfl;rw[A,Q,b0,B3 (cs:=Ln) rfl];have hm:=Az (H:=a) (x:=.cells true AU Ln) (by simp);rw[Ch (vs:=I 2::Ln.tail) hm rfl rfl rfl];have d:=AC (q:=true) (e:=AU) (cs:=I 2::Ln.tail) hm;have Y:=Bq (r:=As a) (y:=.cells true AU (I 2::Ln.tail)) (AJ (x:=.cells true AU Ln) w1);have X:=w1.lt c;have O:=w1.lt k;have f:Aj (upd ((As a,c_ AU Ln)::a) (As a) (c_ AU (I 2::Ln.tail))) r=some (Xk (ZA i)):=by
  rw[Ag (by omega)];exact A7 X c
 have F:Aj (upd ((As a,c_ AU Ln)::a) (As a) (c_ AU (I 2::Ln.tail))) p=some (IY id (BP ks) (Cu xs) o):=by
  rw[Ag (by omega)];exact A7 O k
 generalize upd ((As a,c_ AU Ln)::a) (As a) (c_ AU (I 2::Ln.tail))=w at d Y f F;have D:As a≠r:=by omega
 have C:As a≠p:=by omega
 generalize As a=m at d D C
 try simp only[BJ]
 have l2:∀{K},AD Ab (.ptr r 0 0) w K=K (I 2):=λ{K}=>AQ (p:=0) rfl f (show 0<26 by decide);have N:∀{K},AD Ab (.ptr r 23 0) w K=K (I i):=λ{K}=>AQ (p:=23) rfl f (show 23<26 by decide);rw[A,l2,CQ,HX (by decide),Bh,zC,Cr,A,N,A];rw[Ei (v:=I i) d (show 23<26 by decide) rfl rfl rfl];have B:=AC (q:=true) (e:=AU) (cs:=(I 2::Ln.tail).set 23 (I i)) d;have h:Aj (upd w m (c_ AU ((I 2::Ln.tail).set 23 (I i)))) r=some (Xk (ZA i)):=by
  rw[Ag (Ne.symm D)];exact f
 have J:Aj (upd w m (c_ AU ((I 2::Ln.tail).set 23 (I i)))) p=some (IY id (BP ks) (Cu xs) o):=by
  rw[Ag (Ne.symm C)];exact F
 generalize upd w m (c_ AU ((I 2::Ln.tail).set 23 (I i)))=u at B h J;have V:∀{K},AD AO (.ptr m 0 0) u K=K (.agg (ZA i).cs):=λ{K}=>Bv rfl rfl B;have R:∀{K},AD AO (.ptr r 0 0) u K=K (.agg (ZA i).cs):=λ{K}=>Bv rfl rfl h;have M:∀{K},AD Ab (.ptr r 23 0) u K=K (I i):=λ{K}=>AQ (p:=23) rfl h (show 23<26 by decide);have l1:∀{K},AD Am (.ptr p 1 0) u K=K (BP ks):=λ{K}=>AQ (p:=1) rfl J (show 1<23 by decide);have sb:∀{K},Ap Ab .sub (I (ks.length:Int)) (.v (.int .i64 1)) K=K (I ((ks.length:Int)-1)):=λ{K}=>by rw[KB,CV (by omega) (by omega)]
 have Z:∀{K:K2},Ao (r! L (n+1)) D3 [I (i:Int),.v (.int .i64 0),I ((ks.length:Int)-1)] u K=K (Bo true):=λ{K}=>YT (n:=n) (by omega) (by omega) u K;simp only[R,V,C3c,gT,A,Cb,M,l1,Qt,sb,Z,Tt];exact P _ _ (λb=>⟨false,λK=>by kernel_rfl⟩)
def Il{H:Hp}{e:Nat}{zs vs:Is}(w:Wf H)(hz:vs.length=zs.length):∃a,a=upd ((As H,c_ e zs)::H) (As H) (c_ e vs)/\Aj a (As H)=some (c_ e vs)/\Wf a/\(∀s x,Aj H s=some x->Aj a s=some x/\s≠As H):=by
 have hm:=Az (H:=H) (x:=.cells true e zs) (by simp);refine⟨_,rfl,AC hm,Bq (AJ w),λs x h=>?_⟩;have:=w.lt h;exact⟨by rw[Ag (by omega)];exact A7 this h,by omega⟩
def YS(hb:ks.length<=6)(Z:i<ks.length){w:AV}:CS (r! L (n+3)) CF [.agg (BI id (BP ks) (Cu xs) o),.agg (ZA i).cs,I at_,w] (.tup [.agg (CL (uu ks[i])),I 0]):=by
 intro K hK;rw[HD];unfold Hi q4N;rw[En (NR (.inr ⟨_,_,rfl⟩) (.inr ⟨_,_,rfl⟩))];have c:=Az (H:=[]) (x:=IY id (BP ks) (Cu xs) o) (by simp);have w0:=AJ (x:=IY id (BP ks) (Cu xs) o) Fl;generalize ((As [],IY id (BP ks) (Cu xs) o)::([]:Hp))=t at c w0;generalize As []=p at c;rw[En A3t];have a:=Az (H:=t) (x:=Xk (ZA i)) (by simp);have f:Aj ((As t,Xk (ZA i))::t) p=some (IY id (BP ks) (Cu xs) o):=A7 (w0.lt c) c;have w1:=AJ (x:=Xk (ZA i)) w0;generalize ((As t,Xk (ZA i))::t)=C at a f w1;generalize As t=r at a;rw[B3 (cs:=FZ) rfl];have h:=Az (H:=C) (x:=.cells true AA FZ) (by simp);have d:=A7 (x:=.cells true AA FZ) (w1.lt a) a;have g:=A7 (x:=.cells true AA FZ) (w1.lt f) f;have w2:=AJ (x:=.cells true AA FZ) w1;generalize ((As C,c_ AA FZ)::C)=D at h d g w2;generalize As C=q at h;have lp:∀{K},AD AS (.ptr p 0 0) D K=K (.agg (BI id (BP ks) (Cu xs) o)):=λ{K}=>Bv rfl rfl g;have ln:∀{K},AD AO (.ptr r 0 0) D K=K (.agg (ZA i).cs):=λ{K}=>Bv rfl rfl d;have fx:R5 true depth [.agg (BI id (BP ks) (Cu xs) o),.agg (ZA i).cs,I at_] [.agg (BI id (BP ks) (Cu xs) o),.agg (ZA i).cs,I at_] D false:=λK=>by kernel_rfl
 have sh:∀{K:K2},Ao (r! L (n+2)) Fw [.agg (BI id (BP ks) (Cu xs) o),.agg (ZA i).cs,I at_] D K=K (.tup [Bo true,Bo false]):=λ{K}=>AR (A0O hb Z) fx;have Y:∀{K:K2},Ca A1 [] K=K (.agg FZ):=λ{K}=>r_ rfl;rw[lp,ln,sh,F5,F4,ntT,Bh,Y,B3 (cs:=FZ) rfl];rw[Ch (vs:=FZ) (Az (by simp)) rfl rfl rfl];obtain⟨H3,e3, -,w3,J⟩:=Il (e:=AA) (zs:=FZ) (vs:=FZ) w2 rfl;rw[<-e3,Y,B3 (cs:=FZ) rfl,Ch (vs:=FZ) (Az (by simp)) rfl rfl rfl];obtain⟨X,e4, -,w4,M⟩:=Il (e:=AA) (zs:=FZ) (vs:=FZ) w3 rfl;rw[<-e4]
 try simp only[BJ]
 have F:∀{s j:Nat}{K:K2},CY j (.ptr s 0 0) K=K (.ptr s j 0):=λ{s j K}=>by rw[fA,Jt]
 have y:=(M _ _ (J _ _ d).1).1;have O:=(M _ _ (J _ _ g).1).1;have Q:=(M _ _ (J _ _ h).1).1;have lu:∀{K},AD A1 (.ptr r 3 0) X K=K (.agg FZ):=λ{K}=>GB (p:=3) rfl y (show 23<=26 by decide);rw[Bh,F,lu,B3 (cs:=FZ) rfl,Ch (vs:=FZ) (Az (by simp)) rfl rfl rfl];obtain⟨u,e5,m,w5,N⟩:=Il (e:=AA) (zs:=FZ) (vs:=FZ) w4 rfl;rw[<-e5];obtain⟨A,nr⟩:=N _ _ y;obtain⟨P,np⟩:=N _ _ O;obtain⟨R,nq⟩:=N _ _ Q;generalize As X=v at m nr np nq;have l0:∀{K},AD Ab (.ptr r 0 0) u K=K (I 2):=λ{K}=>AQ (p:=0) rfl A (show 0<26 by decide);have V:∀{K},AD Ab (.ptr r 23 0) u K=K (I i):=λ{K}=>AQ (p:=23) rfl A (show 23<26 by decide);have l1:∀{K},AD Am (.ptr p 1 0) u K=K (BP ks):=λ{K}=>AQ (p:=1) rfl P (show 1<23 by decide);rw[F,l0,zC,Cr,F,l1,F,V,iP Z,iM,Ch (vs:=CL (uu ks[i])) m rfl rfl rfl];have B:=AC (q:=true) (e:=AA) (cs:=CL (uu ks[i])) m;have k:Aj (upd u v (c_ AA (CL (uu ks[i])))) q=some (c_ AA FZ):=by rw[Ag nq];exact R
 generalize upd u v (c_ AA (CL (uu ks[i])))=H6 at B k;rw[IS];show A2 (.v (.bool false)) _ _=_;rw[Bh,Bv rfl rfl B,Ch (vs:=CL (uu ks[i])) k rfl rfl rfl,Bv rfl rfl (AC k)];exact hK _ _ (λb=>⟨false,λK=>by kernel_rfl⟩)
end
end
section
variable{v:AV}{b:Bool}{H:Hp}
variable{L n:Nat}
def A7y{k:Nat}{K:KV}:GM AA 20 A1 1 [(0,20,.agg (CL (uu k)))] H K=K (.sl 20 (As H) 0 1) ((As H,.cells false AA (HJ k))::H):=by
 have e:GM AA 20 A1 1 [(0,20,.agg (CL (uu k)))] H K=Ik H (λs=>K (.sl 20 s 0 1) ((s,.cells false AA (HJ k))::H)):=r_ rfl;rw[e,BW]
def C3w{l:Hb}(k:Nat)(h:B0 H AA 20 v l.length (l.flatMap HJ))(w:Wf H)(hn:l.length<100):
 ∃d a,(∀K:KV,(GM AA 20 A1 1 [(0,20,.agg (CL (uu k)))] H λv1 i=>E5 AA 20 A1 Am v v1 i K)=K d a)/\B0 a AA 20 d (l++[k]).length ((l++[k]).flatMap HJ)/\Wf a/\As H<=As a/\(∀s x,Aj H s=some x->¬A8 v s->Aj a s=some x)/\(∀s,A8 d s->As H<=s):=by
 have g:B0 ((As H,.cells false AA (HJ k))::H) AA 20 v l.length (l.flatMap HJ):=h.lat w (Lat.cons H _ (λ_=>False)) (λ_ _ h=>h);have c:B0 ((As H,.cells false AA (HJ k))::H) AA 20 (.sl 20 (As H) 0 1) 1 (HJ k):=.inr ⟨As H,false,rfl,Az (by simp),by show 20=_;rfl⟩;obtain⟨d,a,h1,h2,j,m⟩:=apt (ie:=A1) (i2:=Am) g (λK=>Rq (K:=K) c) rfl rfl (by decide) rfl rfl (by show(l.length+1)*192<=_;omega) (by omega);have e:=(Lat.cons H (.cells false AA (HJ k)) (A8 v)).trans m (R:=A8 v) (λ_ _ h=>h) (λ_ _ h=>h);refine⟨d,a,λK=>?_,by rw[EC,l2m];simpa using h2,e.wf w,e.nx,λs x f hn=>e.keep w s x f hn,λs f=>?_⟩
 ·rw[A7y];exact h1 K
 ·rw[j s f];exact l1u _
def C2t(k:Nat):Hx:=[.int .i64 (uu k).p0,.int .i64 (uu k).q0,.int .i64 (uu k).p1,.int .i64 (uu k).q1,.int .i64 (uu k).p2,.int .i64 (uu k).q2,.int .i64 (uu k).p3,.int .i64 (uu k).q3,.int .i64 (uu k).p4,.int .i64 (uu k).q4,.int .i64 (uu k).p5,.int .i64 (uu k).q5,.int .i64 (uu k).p6,.int .i64 (uu k).q6,
 .string ⟨⟨(uu k).fn⟩⟩,.string ⟨⟨(uu k).fd⟩⟩,.string ⟨⟨(uu k).on⟩⟩,.string ⟨⟨(uu k).od⟩⟩,.int .i64 (uu k).kd,.int .i64 (uu k).sc]
def B9p(k:Nat):HJ k=(C2t k).map λx=>.v x:=rfl
def C2s(l:Hb):l.flatMap HJ=(l.flatMap C2t).map λx=>.v x:=by
 induction l with
 |nil=>rfl
 |cons k l ih=>rw[qB,qB,Za,ih,B9p]
def R9(l:Hb):AV:=match l with
 |[]=>Aw
 |k::l=>.list (k::l).length ((k::l).flatMap HJ)
def lV{D:Nat}{l:Hb}(h:B0 H AA 20 v l.length (l.flatMap HJ))(d:l=[]->v=Aw):∃q,Fx b (D+1) v (R9 l) H q:=by
 rcases h with⟨rfl,h2,_⟩|⟨r,q,rfl,h2,c⟩
 ·cases l with
  |nil=>exact⟨false,C7⟩
  |cons a l=>simp at h2
 ·cases l with
  |nil=>have:=d rfl;cases this
  |cons a l=>
   refine⟨true,?_⟩;show Fx b (D+1) _ (.list (a::l).length ((a::l).flatMap HJ)) H true;rw[C2s]at h2 c⊢;exact Xd (q':=false) h2 c (KS _root_.id _)
def B5Y{l:Hb}(h:B0 H AA 20 v l.length (l.flatMap HJ))(a:l=[]->v=Aw):∃q,Fx b depth v (R9 l) H q:=lV (D:=depth-1) h a
end
section
variable{d:Nat}
variable{L n:Nat}
section
variable{K:KV}{x:Af}{ks ty:Hb}{xs:List Nd}{id:Int}{o:UD}
def RTy(L n:Nat)(id:Int)(ks:Hb)(xs:List Nd)(o:UD)(ty:Hb):Prop:=
 ∀i(h:i<xs.length),CS (r! L (n+42)) CF [.agg (BI id (BP ks) (Cu xs) o),.agg xs[i].cs,I i,R9 (ty.take i)] (.tup [.agg (CL (uu (ty.getD i 0))),I 0])
def B8Z:∀l:Hb,(l.flatMap HJ).all (pl d)=true:=by
 intro l
 induction l with
 |nil=>rfl
 |cons a l ih=>rw[qB,List.all_append,ih];cases d<;>rfl
def B8Y:∀l:List Nd,(l.flatMap K!).all (pl d)=true:=by
 intro l
 induction l with
 |nil=>rfl
 |cons a l ih=>rw[qB,List.all_append,ih];cases d<;>rfl
def B46(l:Hb):pl (d+1) (BP l)=true:=B8Z l
def A5c(l:List Nd):pl (d+1) (Cu l)=true:=B8Y l
def B45:pl 6 (.agg (BI id (BP ks) (Cu xs) o))=true:=by
 show(pl 5 (I id)&&(pl 5 (BP ks)&&(pl 5 (Cu xs)&&true)))=true;rw[B46,A5c];rfl
def B8y{u:AV->KV}{p:Nat}(hT:RTy L n id ks xs o ty)(g:ty.length=xs.length)(hb:xs.length<100)(hx:∀v H,B0 H AA 20 v ty.length (ty.flatMap HJ)->(ty=[]->v=Aw)->Aj H p=some (IY id (BP ks) (Cu xs) o)->u (.ptr p 0 0) v H=x):
 ∀(f i:Nat)(v:AV)(H:Hp),i<=xs.length->xs.length-i<f->B0 H AA 20 v (ty.take i).length ((ty.take i).flatMap HJ)->(ty.take i=[]->v=Aw)->¬A8 v p->Aj H p=some (IY id (BP ks) (Cu xs) o)->Wf H->
 RQ (L+20) (r! L (n+42)) K u f (.ptr p 0 0) v (I i) H=x:=by
 intro f
 induction f with
 |zero=>intro i v H _ h;omega
 |succ f ih=>
  intro i v H hi hf a A hr c w;rw[kH];unfold RR Em A3;have N:∀{s j:Nat}{K:K2},CY j (.ptr s 0 0) K=K (.ptr s j 0):=λ{s j K}=>by rw[fA,Jt]
  have l2:∀{K},AD A0 (.ptr p 2 0) H K=K (Cu xs):=λ{K}=>AQ (p:=2) rfl c (show 2<23 by decide);have lp:∀{K},AD AS (.ptr p 0 0) H K=K (.agg (BI id (BP ks) (Cu xs) o)):=λ{K}=>Bv rfl rfl c;rw[N,l2,Vn];by_cases h:i<xs.length
  ·have y:∀{H:Hp}(_:B0 H AA 20 v (ty.take i).length ((ty.take i).flatMap HJ)){K:K2},Ao (r! L (n+42)) CF [.agg (BI id (BP ks) (Cu xs) o),.agg xs[i].cs,I i,v] H K=K (.tup [.agg (CL (uu (ty.getD i 0))),I 0]):=λ{H}a{K}=>by
    obtain⟨q,hq⟩:=B5Y (b:=true) a A;have a1:Fx true depth (.agg (BI id (BP ks) (Cu xs) o)) (.agg (BI id (BP ks) (Cu xs) o)) H false:=λK=>by kernel_rfl
    have a2:Fx true depth (.agg xs[i].cs) (.agg xs[i].cs) H false:=λK=>by kernel_rfl
    exact AR (hT i h) (An a1 (An a2 (An (q:=false) C7 (An hq AK))))
   rw[FV (by omega),Cr];simp only[lp,B4,N,l2,qH h,qG,y a,F5,F4];rw[B3 (cs:=FZ) rfl,Cb];have hz:=Az (H:=H) (x:=.cells true AA FZ) (by simp);rw[Ch (vs:=CL (uu (ty.getD i 0))) hz rfl rfl rfl,Cb];have k:=A7 (x:=.cells true AA FZ) (w.lt c) c;have C:B0 ((As H,c_ AA FZ)::H) AA 20 v (ty.take i).length ((ty.take i).flatMap HJ):=a.lat w (Lat.cons H _ (λ_=>False)) (λ_ _ h=>h);obtain⟨V,Y,F,R,O⟩:=Il (e:=AA) (zs:=FZ) (vs:=CL (uu (ty.getD i 0))) w rfl;rw[<-Y];have m:=(O _ _ c).1;have D:B0 V AA 20 v (ty.take i).length ((ty.take i).flatMap HJ):=by
    rcases a with a|⟨r,q,h1,h2,h3⟩
    ·exact .inl a
    ·exact .inr ⟨r,q,h1,(O _ _ h2).1,h3⟩
   have M:∀{K},AD AS (.ptr p 0 0) ((As H,c_ AA FZ)::H) K=K (.agg (BI id (BP ks) (Cu xs) o)):=λ{K}=>Bv rfl rfl k;have J:∀{K},AD A0 (.ptr p 2 0) ((As H,c_ AA FZ)::H) K=K (Cu xs):=λ{K}=>AQ (p:=2) rfl k (show 2<23 by decide);rw[M,UX B45,J,UX (A5c xs),UX (by rfl),y C,UX (by rfl),IS];show A2 (.v (.bool false)) _ _=_;rw[Bh,Bv rfl rfl F];have Q:ty.take i++[ty.getD i 0]=ty.take (i+1):=by
    have P:i<ty.length:=by omega
    rw[lO P];simp[List.getD,K8 P]
   obtain⟨v',X,Z,t,w5, -,keep,new⟩:=C3w (ty.getD i 0) D R (by rw[vN];omega);rw[Z,Dd (by omega)];rw[Q]at t;exact ih (i+1) v' X (by omega) (by omega) t (λe=>by rw[<-Q]at e;simp at e) (λB=>by have:=new _ B;have:=R.lt m;omega) (keep _ _ m hr) w5
  ·rw[FT (by omega),Bh];have:i=xs.length:=by omega
   subst this;rw[<-g,vO]at a A;exact hx v H a A c
end
end
section
variable{L n:Nat}
def A4Z{H:Hp}{v:AV}{l:Hb}{i:Nat}(h:B0 H AA 20 v l.length (l.flatMap HJ))(c:i<l.length):∃a,(∀K:K2,Ds Am v (I i) K=K a)/\(∀K:K2,AD A1 a H K=K (.agg (CL (uu l[i])))):=by
 rcases h with⟨_,h2,_⟩|⟨r,q,rfl,h2,b⟩
 ·omega
 ·refine⟨.ptr r (i*20) 0,λK=>?_,λK=>?_⟩
  ·have d:Ds Am (.sl 20 r 0 l.length) (I (i:Int)) K=iN (i:Int) λm=>ck (Nat.blt m l.length) (fN (Nat.add 0 (Nat.mul m 20)) λp=>K (.ptr r p 0)):=r_ rfl;rw[d,Ju,Dy];have b:Nat.blt i l.length=true:=by rw[Wr];exact c
   rw[b];show K (.ptr r (0+i*20) 0)=_;rw[Jt]
  ·rw[GB rfl h2 (by rw[b];show i*20+20<=_;omega)];have:((l.flatMap HJ).drop (i*20)).take 20=HJ l[i]:=uB HJ 20 (λ_=>rfl) l i c;show K (.agg (((l.flatMap HJ).drop (i*20)).take 20))=_;rw[this];rfl
def C3b{u:UD}{K:K2}:Xp L9 .neq (.agg (CL u)) (.agg (CL u)) K=K (Bo false):=by
 have e:∀(xs:Hx),YK xs xs=some true->∀K:K2,(match(generalizing:=false) YK xs xs,BinOp.neq with
  |some q,.eql=>bB q K
  |some q,.neq=>bB (!q) K
  |_,_=>(none:Af))=K (Bo false):=λxs h K=>by rw[h];rfl
 exact e [.int .i64 u.p0,.int .i64 u.q0,.int .i64 u.p1,.int .i64 u.q1,.int .i64 u.p2,.int .i64 u.q2,.int .i64 u.p3,.int .i64 u.q3,.int .i64 u.p4,.int .i64 u.q4,.int .i64 u.p5,.int .i64 u.q5,.int .i64 u.p6,.int .i64 u.q6,
  .string ⟨⟨u.fn⟩⟩,.string ⟨⟨u.fd⟩⟩,.string ⟨⟨u.on⟩⟩,.string ⟨⟨u.od⟩⟩,.int .i64 u.kd,.int .i64 u.sc]
  (A29 _ (by simp[XR])) K
section
variable{ks ty:Hb}{xs:List Nd}{id:Int}
def B40(B:100<L)(C:RTy L n id ks xs (uu (ty.getD (xs.length-1) 0)) ty)(d:ty.length=xs.length)(F:∀k∈ks,k<52)(hb:ks.length<=6)(hn:1<=xs.length)(i:xs.length<=40)(h1:1<=id)(h2:id<=1000000):
 CS (r! L (n+43)) Ur [.agg (BI id (BP ks) (Cu xs) (uu (ty.getD (xs.length-1) 0)))] (.tup [R9 ty,I 0,I 0]):=by
 intro K A;rw[oK];unfold Ub Xh OG A3;rw[En (NR (.inr ⟨_,_,rfl⟩) (.inr ⟨_,_,rfl⟩))];have c:=Az (H:=[]) (x:=IY id (BP ks) (Cu xs) (uu (ty.getD (xs.length-1) 0))) (by simp);have w0:=AJ (x:=IY id (BP ks) (Cu xs) (uu (ty.getD (xs.length-1) 0))) Fl;generalize ((As [],IY id (BP ks) (Cu xs) (uu (ty.getD (xs.length-1) 0)))::([]:Hp))=r at c w0;generalize As []=p at c;have t:∀{K:K2},Ao (r! L (n+42)) Ov [.agg (BI id (BP ks) (Cu xs) (uu (ty.getD (xs.length-1) 0)))] r K=K (.tup [Bo true,Bo true]):=λ{K}=>AR (A9Q (n:=n+1) B F hb hn i h1 h2) (VO (.inr ⟨_,_,rfl⟩) (.inr ⟨_,_,rfl⟩));rw[Bv rfl rfl c,t,F5,F4,ntT,Bh];simp only[BJ];refine B8y C d (by omega) ?_ (L+20) 0 _ r (by omega) (by omega) (.inl ⟨rfl,rfl,rfl⟩) (λ_=>rfl) (λ⟨_,_,_,h⟩=>by cases h) c w0;intro v H m y M;have w:∀{s j:Nat}{K:K2},CY j (.ptr s 0 0) K=K (.ptr s j 0):=λ{s j K}=>by rw[fA,Jt]
 have f:ty.length-1<ty.length:=by omega
 obtain⟨a,g,e⟩:=A4Z m f;have J:∀{K},AD A1 (.ptr p 3 0) H K=K (.agg (CL (uu (ty.getD (xs.length-1) 0)))):=λ{K}=>GB (p:=3) rfl M (show 23<=23 by decide);have u:ty[ty.length-1]=ty.getD (xs.length-1) 0:=by rw[<-d];simp[List.getD,K8 f]
 rw[u]at e;rw[Le rfl m,B4,fB (by omega) (by omega),B4,g,B4,e,B4,w,B4,J,B4,C3b,B4,Bh];exact A _ _ (λb=>by
  obtain⟨q,hq⟩:=lV (D:=depth-2) (b:=b) m y;exact⟨_,dR (D:=depth-1) (An hq (An (q:=false) C7 (An (q:=false) C7 AK)))⟩)
def A9D(j:100<L)(m:RTy L n id ks xs (uu (ty.getD (xs.length-1) 0)) ty)(a:ty.length=xs.length)(p:∀k∈ks,k<52)(hb:ks.length<=6)(hn:1<=xs.length)(d:xs.length<=40)(h1:1<=id)(h2:id<=1000000):
 CS (r! L (n+44)) FY [.agg (BI id (BP ks) (Cu xs) (uu (ty.getD (xs.length-1) 0)))] (Bo true):=by
 intro K i;rw[oI];unfold TZ Iu;rw[En (NR (.inr ⟨_,_,rfl⟩) (.inr ⟨_,_,rfl⟩))];have c:=Az (H:=[]) (x:=IY id (BP ks) (Cu xs) (uu (ty.getD (xs.length-1) 0))) (by simp);generalize ((As [],IY id (BP ks) (Cu xs) (uu (ty.getD (xs.length-1) 0)))::([]:Hp))=e at c;have ck:∀{K:K2},Ao (r! L (n+43)) Ur [.agg (BI id (BP ks) (Cu xs) (uu (ty.getD (xs.length-1) 0)))] e K=K (.tup [R9 ty,I 0,I 0]):=λ{K}=>AR (B40 j m a p hb hn d h1 h2) (VO (.inr ⟨_,_,rfl⟩) (.inr ⟨_,_,rfl⟩));have h:∀{K:K2},C9 (.tup [R9 ty,I 0,I 0]) 2 K=K (I 0):=λ{K}=>r_ rfl;have f:∀{K:K2},C9 (.tup [R9 ty,I 0,I 0]) 0 K=K (R9 ty):=λ{K}=>r_ rfl;have g:∀{K:K2},C9 (.tup [R9 ty,I 0,I 0]) 1 K=K (I 0):=λ{K}=>r_ rfl;rw[Bv rfl rfl c,ck,f,g,h,zC];exact i _ _ (λb=>⟨false,λK=>by kernel_rfl⟩)
end
end
section
variable{L n:Nat}
section
variable{ks:Hb}{xs:List Nd}{id:Int}{o:UD}
def Lj(ks:Hb):List Nd:=(List.range ks.length).map ZA
def DX:(Lj ks).length=ks.length:=by simp[Lj]
def gW{i:Nat}(h:i<(Lj ks).length):(Lj ks)[i]=ZA i:=by simp[Lj]
def B8u(hb:ks.length<=6):RTy L n id ks (Lj ks) o ks:=by
 intro i h;rw[gW h];have a:i<ks.length:=by rw[DX]at h;exact h
 have e:ks.getD i 0=ks[i]:=by simp[List.getD,K8 a]
 rw[e];exact YS (n:=n+39) hb a
def pS{y:Nd}{k:Nat}(hb:ks.length<=6)(d:CS (r! L (n+42)) CF [.agg (BI id (BP ks) (Cu (Lj ks++[y])) o),.agg y.cs,I ks.length,R9 ks] (.tup [.agg (CL (uu k)),I 0])):
 RTy L n id ks (Lj ks++[y]) o (ks++[k]):=by
 intro i h;rw[EC,DX]at h;by_cases a:i<ks.length
 ·have e:(Lj ks++[y])[i]'(by rw[EC,DX];exact h)=ZA i:=by
   rw[List.getElem_append_left (by rw[DX];exact a)];exact gW _
  rw[e];have b:(ks++[k]).getD i 0=ks[i]:=by simp[List.getD,l0m a,K8 a]
  rw[b];exact YS (n:=n+39) hb a
 ·have c:i=ks.length:=by simp at h;omega
  subst c;have e:(Lj ks++[y])[ks.length]'(by rw[EC,DX];exact h)=y:=by
   rw[List.getElem_append_right (by rw[DX];omega)];simp
  rw[e];have b:(ks++[k]).getD ks.length 0=k:=by simp[List.getD]
  rw[b,List.take_left']
  ·exact d
  ·rfl
end
end
section
def dg(k:Nat):Ha:=if k<10 then[UInt8.ofNat (48+k)] else if k<100 then[UInt8.ofNat (48+k/10),UInt8.ofNat (48+k%10)] else[UInt8.ofNat (48+k/100),UInt8.ofNat (48+k/10%10),UInt8.ofNat (48+k%10)]
variable(L n:Nat)
def B8S:((List.range 50).all λk=>(λi=>JM (Bc (Dt (r! L (n+10)) BZ [I (i:Nat)]) (S (dg i)))) (k+0))=true:=by kernel_rfl
def B8R:((List.range 50).all λk=>(λi=>JM (Bc (Dt (r! L (n+10)) BZ [I (i:Nat)]) (S (dg i)))) (k+50))=true:=by kernel_rfl
def B8Q:((List.range 50).all λk=>(λi=>JM (Bc (Dt (r! L (n+10)) BZ [I (i:Nat)]) (S (dg i)))) (k+100))=true:=by kernel_rfl
def B8P:((List.range 50).all λk=>(λi=>JM (Bc (Dt (r! L (n+10)) BZ [I (i:Nat)]) (S (dg i)))) (k+150))=true:=by kernel_rfl
def B8O:((List.range 50).all λk=>(λi=>JM (Bc (Dt (r! L (n+10)) BZ [I (i:Nat)]) (S (dg i)))) (k+200))=true:=by kernel_rfl
def B8N:((List.range 50).all λk=>(λi=>JM (Bc (Dt (r! L (n+10)) BZ [I (i:Nat)]) (S (dg i)))) (k+250))=true:=by kernel_rfl
def B8M:((List.range 50).all λk=>(λi=>JM (Bc (Dt (r! L (n+10)) BZ [I (i:Nat)]) (S (dg i)))) (k+300))=true:=by kernel_rfl
def B8L:((List.range 50).all λk=>(λi=>JM (Bc (Dt (r! L (n+10)) BZ [I (i:Nat)]) (S (dg i)))) (k+350))=true:=by kernel_rfl
def B8K:((List.range 50).all λk=>(λi=>JM (Bc (Dt (r! L (n+10)) BZ [I (i:Nat)]) (S (dg i)))) (k+400))=true:=by kernel_rfl
def B8J:((List.range 50).all λk=>(λi=>JM (Bc (Dt (r! L (n+10)) BZ [I (i:Nat)]) (S (dg i)))) (k+450))=true:=by kernel_rfl
def B3Z:((List.range 50).all λk=>(λi=>JM (Bc (Dt (r! L (n+10)) BZ [I (i:Nat)]) (S (dg i)))) (k+500))=true:=by kernel_rfl
def B3Y:((List.range 50).all λk=>(λi=>JM (Bc (Dt (r! L (n+10)) BZ [I (i:Nat)]) (S (dg i)))) (k+550))=true:=by kernel_rfl
def B3X:((List.range 50).all λk=>(λi=>JM (Bc (Dt (r! L (n+10)) BZ [I (i:Nat)]) (S (dg i)))) (k+600))=true:=by kernel_rfl
def B3W:((List.range 50).all λk=>(λi=>JM (Bc (Dt (r! L (n+10)) BZ [I (i:Nat)]) (S (dg i)))) (k+650))=true:=by kernel_rfl
def B3V:((List.range 50).all λk=>(λi=>JM (Bc (Dt (r! L (n+10)) BZ [I (i:Nat)]) (S (dg i)))) (k+700))=true:=by kernel_rfl
def B3U:((List.range 50).all λk=>(λi=>JM (Bc (Dt (r! L (n+10)) BZ [I (i:Nat)]) (S (dg i)))) (k+750))=true:=by kernel_rfl
def B3T:((List.range 50).all λk=>(λi=>JM (Bc (Dt (r! L (n+10)) BZ [I (i:Nat)]) (S (dg i)))) (k+800))=true:=by kernel_rfl
def B3S:((List.range 50).all λk=>(λi=>JM (Bc (Dt (r! L (n+10)) BZ [I (i:Nat)]) (S (dg i)))) (k+850))=true:=by kernel_rfl
def B3R:((List.range 50).all λk=>(λi=>JM (Bc (Dt (r! L (n+10)) BZ [I (i:Nat)]) (S (dg i)))) (k+900))=true:=by kernel_rfl
def C4d(i:Nat)(h:i<950):PS (r! L (n+10)) BZ [I (i:Nat)] (S (dg i)):=by
 refine BK (λH=>by first|exact λK=>by kernel_rfl) ?_;by_cases p:i<50
 ·have:=GE.1 (B8S L n) (i-0) (KE.2 (by omega));have e:i-0+0=i:=by omega
  simp only[e]at this;exact this
 by_cases h1:i<100
 ·have:=GE.1 (B8R L n) (i-50) (KE.2 (by omega));have e:i-50+50=i:=by omega
  simp only[e]at this;exact this
 by_cases h2:i<150
 ·have:=GE.1 (B8Q L n) (i-100) (KE.2 (by omega));have e:i-100+100=i:=by omega
  simp only[e]at this;exact this
 by_cases q:i<200
 ·have:=GE.1 (B8P L n) (i-150) (KE.2 (by omega));have e:i-150+150=i:=by omega
  simp only[e]at this;exact this
 by_cases r:i<250
 ·have:=GE.1 (B8O L n) (i-200) (KE.2 (by omega));have e:i-200+200=i:=by omega
  simp only[e]at this;exact this
 by_cases s:i<300
 ·have:=GE.1 (B8N L n) (i-250) (KE.2 (by omega));have e:i-250+250=i:=by omega
  simp only[e]at this;exact this
 by_cases t:i<350
 ·have:=GE.1 (B8M L n) (i-300) (KE.2 (by omega));have e:i-300+300=i:=by omega
  simp only[e]at this;exact this
 by_cases u:i<400
 ·have:=GE.1 (B8L L n) (i-350) (KE.2 (by omega));have e:i-350+350=i:=by omega
  simp only[e]at this;exact this
 by_cases v:i<450
 ·have:=GE.1 (B8K L n) (i-400) (KE.2 (by omega));have e:i-400+400=i:=by omega
  simp only[e]at this;exact this
 by_cases w:i<500
 ·have:=GE.1 (B8J L n) (i-450) (KE.2 (by omega));have e:i-450+450=i:=by omega
  simp only[e]at this;exact this
 by_cases a:i<550
 ·have:=GE.1 (B3Z L n) (i-500) (KE.2 (by omega));have e:i-500+500=i:=by omega
  simp only[e]at this;exact this
 by_cases b:i<600
 ·have:=GE.1 (B3Y L n) (i-550) (KE.2 (by omega));have e:i-550+550=i:=by omega
  simp only[e]at this;exact this
 by_cases c:i<650
 ·have:=GE.1 (B3X L n) (i-600) (KE.2 (by omega));have e:i-600+600=i:=by omega
  simp only[e]at this;exact this
 by_cases d:i<700
 ·have:=GE.1 (B3W L n) (i-650) (KE.2 (by omega));have e:i-650+650=i:=by omega
  simp only[e]at this;exact this
 by_cases f:i<750
 ·have:=GE.1 (B3V L n) (i-700) (KE.2 (by omega));have e:i-700+700=i:=by omega
  simp only[e]at this;exact this
 by_cases g:i<800
 ·have:=GE.1 (B3U L n) (i-750) (KE.2 (by omega));have e:i-750+750=i:=by omega
  simp only[e]at this;exact this
 by_cases j:i<850
 ·have:=GE.1 (B3T L n) (i-800) (KE.2 (by omega));have e:i-800+800=i:=by omega
  simp only[e]at this;exact this
 by_cases k:i<900
 ·have:=GE.1 (B3S L n) (i-850) (KE.2 (by omega));have e:i-850+850=i:=by omega
  simp only[e]at this;exact this
 by_cases m:i<950
 ·have:=GE.1 (B3R L n) (i-900) (KE.2 (by omega));have e:i-900+900=i:=by omega
  simp only[e]at this;exact this
 omega
end
section
variable(L n:Nat)
def B6J:((List.range 50).all λk=>(λi=>JM (Bc (Dt (r! L (n+10)) BQ [I (i:Nat)]) (S (dg i)))) (k+0))=true:=by kernel_rfl
def B6I:((List.range 50).all λk=>(λi=>JM (Bc (Dt (r! L (n+10)) BQ [I (i:Nat)]) (S (dg i)))) (k+50))=true:=by kernel_rfl
def B6H:((List.range 50).all λk=>(λi=>JM (Bc (Dt (r! L (n+10)) BQ [I (i:Nat)]) (S (dg i)))) (k+100))=true:=by kernel_rfl
def B6G:((List.range 50).all λk=>(λi=>JM (Bc (Dt (r! L (n+10)) BQ [I (i:Nat)]) (S (dg i)))) (k+150))=true:=by kernel_rfl
def B6F:((List.range 50).all λk=>(λi=>JM (Bc (Dt (r! L (n+10)) BQ [I (i:Nat)]) (S (dg i)))) (k+200))=true:=by kernel_rfl
def B6E:((List.range 50).all λk=>(λi=>JM (Bc (Dt (r! L (n+10)) BQ [I (i:Nat)]) (S (dg i)))) (k+250))=true:=by kernel_rfl
def B6D:((List.range 50).all λk=>(λi=>JM (Bc (Dt (r! L (n+10)) BQ [I (i:Nat)]) (S (dg i)))) (k+300))=true:=by kernel_rfl
def B6C:((List.range 50).all λk=>(λi=>JM (Bc (Dt (r! L (n+10)) BQ [I (i:Nat)]) (S (dg i)))) (k+350))=true:=by kernel_rfl
def B6B:((List.range 50).all λk=>(λi=>JM (Bc (Dt (r! L (n+10)) BQ [I (i:Nat)]) (S (dg i)))) (k+400))=true:=by kernel_rfl
def B6A:((List.range 50).all λk=>(λi=>JM (Bc (Dt (r! L (n+10)) BQ [I (i:Nat)]) (S (dg i)))) (k+450))=true:=by kernel_rfl
def B2W:((List.range 50).all λk=>(λi=>JM (Bc (Dt (r! L (n+10)) BQ [I (i:Nat)]) (S (dg i)))) (k+500))=true:=by kernel_rfl
def B2V:((List.range 50).all λk=>(λi=>JM (Bc (Dt (r! L (n+10)) BQ [I (i:Nat)]) (S (dg i)))) (k+550))=true:=by kernel_rfl
def B2U:((List.range 50).all λk=>(λi=>JM (Bc (Dt (r! L (n+10)) BQ [I (i:Nat)]) (S (dg i)))) (k+600))=true:=by kernel_rfl
def B2T:((List.range 50).all λk=>(λi=>JM (Bc (Dt (r! L (n+10)) BQ [I (i:Nat)]) (S (dg i)))) (k+650))=true:=by kernel_rfl
def B2S:((List.range 50).all λk=>(λi=>JM (Bc (Dt (r! L (n+10)) BQ [I (i:Nat)]) (S (dg i)))) (k+700))=true:=by kernel_rfl
def B2R:((List.range 50).all λk=>(λi=>JM (Bc (Dt (r! L (n+10)) BQ [I (i:Nat)]) (S (dg i)))) (k+750))=true:=by kernel_rfl
def B2Q:((List.range 50).all λk=>(λi=>JM (Bc (Dt (r! L (n+10)) BQ [I (i:Nat)]) (S (dg i)))) (k+800))=true:=by kernel_rfl
def B2P:((List.range 50).all λk=>(λi=>JM (Bc (Dt (r! L (n+10)) BQ [I (i:Nat)]) (S (dg i)))) (k+850))=true:=by kernel_rfl
def B2O:((List.range 50).all λk=>(λi=>JM (Bc (Dt (r! L (n+10)) BQ [I (i:Nat)]) (S (dg i)))) (k+900))=true:=by kernel_rfl
def C45(i:Nat)(h:i<950):PS (r! L (n+10)) BQ [I (i:Nat)] (S (dg i)):=by
 refine BK (λH=>by first|exact λK=>by kernel_rfl) ?_;by_cases p:i<50
 ·have:=GE.1 (B6J L n) (i-0) (KE.2 (by omega));have e:i-0+0=i:=by omega
  simp only[e]at this;exact this
 by_cases h1:i<100
 ·have:=GE.1 (B6I L n) (i-50) (KE.2 (by omega));have e:i-50+50=i:=by omega
  simp only[e]at this;exact this
 by_cases h2:i<150
 ·have:=GE.1 (B6H L n) (i-100) (KE.2 (by omega));have e:i-100+100=i:=by omega
  simp only[e]at this;exact this
 by_cases q:i<200
 ·have:=GE.1 (B6G L n) (i-150) (KE.2 (by omega));have e:i-150+150=i:=by omega
  simp only[e]at this;exact this
 by_cases r:i<250
 ·have:=GE.1 (B6F L n) (i-200) (KE.2 (by omega));have e:i-200+200=i:=by omega
  simp only[e]at this;exact this
 by_cases s:i<300
 ·have:=GE.1 (B6E L n) (i-250) (KE.2 (by omega));have e:i-250+250=i:=by omega
  simp only[e]at this;exact this
 by_cases t:i<350
 ·have:=GE.1 (B6D L n) (i-300) (KE.2 (by omega));have e:i-300+300=i:=by omega
  simp only[e]at this;exact this
 by_cases u:i<400
 ·have:=GE.1 (B6C L n) (i-350) (KE.2 (by omega));have e:i-350+350=i:=by omega
  simp only[e]at this;exact this
 by_cases v:i<450
 ·have:=GE.1 (B6B L n) (i-400) (KE.2 (by omega));have e:i-400+400=i:=by omega
  simp only[e]at this;exact this
 by_cases w:i<500
 ·have:=GE.1 (B6A L n) (i-450) (KE.2 (by omega));have e:i-450+450=i:=by omega
  simp only[e]at this;exact this
 by_cases a:i<550
 ·have:=GE.1 (B2W L n) (i-500) (KE.2 (by omega));have e:i-500+500=i:=by omega
  simp only[e]at this;exact this
 by_cases b:i<600
 ·have:=GE.1 (B2V L n) (i-550) (KE.2 (by omega));have e:i-550+550=i:=by omega
  simp only[e]at this;exact this
 by_cases c:i<650
 ·have:=GE.1 (B2U L n) (i-600) (KE.2 (by omega));have e:i-600+600=i:=by omega
  simp only[e]at this;exact this
 by_cases d:i<700
 ·have:=GE.1 (B2T L n) (i-650) (KE.2 (by omega));have e:i-650+650=i:=by omega
  simp only[e]at this;exact this
 by_cases f:i<750
 ·have:=GE.1 (B2S L n) (i-700) (KE.2 (by omega));have e:i-700+700=i:=by omega
  simp only[e]at this;exact this
 by_cases g:i<800
 ·have:=GE.1 (B2R L n) (i-750) (KE.2 (by omega));have e:i-750+750=i:=by omega
  simp only[e]at this;exact this
 by_cases j:i<850
 ·have:=GE.1 (B2Q L n) (i-800) (KE.2 (by omega));have e:i-800+800=i:=by omega
  simp only[e]at this;exact this
 by_cases k:i<900
 ·have:=GE.1 (B2P L n) (i-850) (KE.2 (by omega));have e:i-850+850=i:=by omega
  simp only[e]at this;exact this
 by_cases m:i<950
 ·have:=GE.1 (B2O L n) (i-900) (KE.2 (by omega));have e:i-900+900=i:=by omega
  simp only[e]at this;exact this
 omega
end
section
def exN(j:Nat):Nd:=
 if j<3 then ZA j
 else if j<39 then⟨(3+(j-3)/9:Nat),[],[],u0,0,((j-3)/3%3:Nat),((j-3)%3:Nat)⟩
 else⟨7,[],[],u0,mC ((j-39)%5),((j-39)/5:Nat),0⟩
def GH:List Ha:=[[],[99,111,110,115,116],[105,110,112,117,116],[97,100,100],[115,117,98],[109,117,108],[100,105,118],[112,111,119],[115,113,114,116]]
def exT(j:Nat):Ha:=
 if j<3 then GH.getD 2 []++[32]++dec j
 else if j<39 then GH.getD (3+(j-3)/9) []++[32]++dec ((j-3)/3%3:Nat)++[32]++dec ((j-3)%3:Nat)
 else GH.getD 7 []++[32]++dec ((j-39)/5:Nat)++[32]++dec (mC ((j-39)%5))
variable(L n:Nat)
def A9L:((List.range 54).all λi=>JM (Bc (Dt (r! L (n+41)) Jy [.agg (exN i).cs]) (S (exT i))))=true:=by kernel_rfl
end
section
def frL:List (Ha×Ha):=[([45,54],[49]),
 ([45,51],[49]),
 ([45,50],[49]),
 ([45,51],[50]),
 ([45,53],[49]),
 ([45,53],[50]),
 ([45,53],[51]),
 ([45,53],[52]),
 ([45,52],[49]),
 ([45,52],[51]),
 ([45,49],[49]),
 ([45,51],[52]),
 ([45,50],[51]),
 ([45,49],[50]),
 ([45,49],[51]),
 ([45,49],[52]),
 ([48],[49]),
 ([49],[49]),
 ([49],[50]),
 ([49],[51]),
 ([49],[52]),
 ([50],[49]),
 ([50],[51]),
 ([51],[49]),
 ([51],[50]),
 ([51],[52]),
 ([52],[49]),
 ([52],[51]),
 ([53],[49]),
 ([53],[50]),
 ([53],[51]),
 ([53],[52]),
 ([54],[49])]
def frn(i:Nat):Ha:=(frL.getD i ([],[])).1
def frd(i:Nat):Ha:=(frL.getD i ([],[])).2
abbrev eI(i:Nat):Is:=[S (frn i),S (frd i)]
def frt(i:Nat):Ha:=if frd i=[49] then frn i else frn i++[47]++frd i
def C2X:List Hb:=[[0,1,2,3],[4,5,6,7],[8,2,9,10],[1,3,10,11],[2,10,12,13],[10,13,14,15],[16,16,16,16],[17,18,19,20],[21,17,22,18],[23,24,17,25],[26,21,27,17],[28,29,30,31],[32,23,21,24]]
def lW(a b:Nat):Nat:=(C2X.getD a []).getD b 0
variable(L n:Nat)
def A9P:((List.range 13).all λk=>(λi=>JM (Bc (Dt (r! L (n+40)) Gt [I (((i/4:Nat):Int)-6),I (1+((i%4:Nat):Int))]) (.tup [.agg (eI (lW (i/4) (i%4))),I 0]))) (k+0))=true:=by kernel_rfl
def A9O:((List.range 13).all λk=>(λi=>JM (Bc (Dt (r! L (n+40)) Gt [I (((i/4:Nat):Int)-6),I (1+((i%4:Nat):Int))]) (.tup [.agg (eI (lW (i/4) (i%4))),I 0]))) (k+13))=true:=by kernel_rfl
def A9N:((List.range 13).all λk=>(λi=>JM (Bc (Dt (r! L (n+40)) Gt [I (((i/4:Nat):Int)-6),I (1+((i%4:Nat):Int))]) (.tup [.agg (eI (lW (i/4) (i%4))),I 0]))) (k+26))=true:=by kernel_rfl
def A9M:((List.range 13).all λk=>(λi=>JM (Bc (Dt (r! L (n+40)) Gt [I (((i/4:Nat):Int)-6),I (1+((i%4:Nat):Int))]) (.tup [.agg (eI (lW (i/4) (i%4))),I 0]))) (k+39))=true:=by kernel_rfl
def B8I(i:Nat)(h:i<52):PS (r! L (n+40)) Gt [I (((i/4:Nat):Int)-6),I (1+((i%4:Nat):Int))] (.tup [.agg (eI (lW (i/4) (i%4))),I 0]):=by
 refine BK (λH=>by first|exact λK=>by kernel_rfl) ?_;by_cases a:i<13
 ·have:=GE.1 (A9P L n) (i-0) (KE.2 (by omega));have e:i-0+0=i:=by omega
  simp only[e]at this;exact this
 by_cases h1:i<26
 ·have:=GE.1 (A9O L n) (i-13) (KE.2 (by omega));have e:i-13+13=i:=by omega
  simp only[e]at this;exact this
 by_cases h2:i<39
 ·have:=GE.1 (A9N L n) (i-26) (KE.2 (by omega));have e:i-26+26=i:=by omega
  simp only[e]at this;exact this
 by_cases b:i<52
 ·have:=GE.1 (A9M L n) (i-39) (KE.2 (by omega));have e:i-39+39=i:=by omega
  simp only[e]at this;exact this
 ·omega
def A0U:((List.range 11).all λk=>(λi=>JM (Bc (Dt (r! L (n+40)) Fz [.agg (eI i)]) (Bo true))) (k+0))=true:=by kernel_rfl
def A0T:((List.range 11).all λk=>(λi=>JM (Bc (Dt (r! L (n+40)) Fz [.agg (eI i)]) (Bo true))) (k+11))=true:=by kernel_rfl
def A0S:((List.range 11).all λk=>(λi=>JM (Bc (Dt (r! L (n+40)) Fz [.agg (eI i)]) (Bo true))) (k+22))=true:=by kernel_rfl
def A6I(i:Nat)(h:i<33):PS (r! L (n+40)) Fz [.agg (eI i)] (Bo true):=by
 refine BK (λH=>by first|exact λK=>by kernel_rfl) ?_;by_cases a:i<11
 ·have:=GE.1 (A0U L n) (i-0) (KE.2 (by omega));have e:i-0+0=i:=by omega
  simp only[e]at this;exact this
 by_cases h1:i<22
 ·have:=GE.1 (A0T L n) (i-11) (KE.2 (by omega));have e:i-11+11=i:=by omega
  simp only[e]at this;exact this
 by_cases h2:i<33
 ·have:=GE.1 (A0S L n) (i-22) (KE.2 (by omega));have e:i-22+22=i:=by omega
  simp only[e]at this;exact this
 ·omega
def A0X:((List.range 11).all λk=>(λi=>JM (Bc (Dt (r! L (n+40)) MF [.agg (eI i)]) (S (frt i)))) (k+0))=true:=by kernel_rfl
def A0W:((List.range 11).all λk=>(λi=>JM (Bc (Dt (r! L (n+40)) MF [.agg (eI i)]) (S (frt i)))) (k+11))=true:=by kernel_rfl
def A0V:((List.range 11).all λk=>(λi=>JM (Bc (Dt (r! L (n+40)) MF [.agg (eI i)]) (S (frt i)))) (k+22))=true:=by kernel_rfl
def A6J(i:Nat)(h:i<33):PS (r! L (n+40)) MF [.agg (eI i)] (S (frt i)):=by
 refine BK (λH=>by first|exact λK=>by kernel_rfl) ?_;by_cases a:i<11
 ·have:=GE.1 (A0X L n) (i-0) (KE.2 (by omega));have e:i-0+0=i:=by omega
  simp only[e]at this;exact this
 by_cases h1:i<22
 ·have:=GE.1 (A0W L n) (i-11) (KE.2 (by omega));have e:i-11+11=i:=by omega
  simp only[e]at this;exact this
 by_cases h2:i<33
 ·have:=GE.1 (A0V L n) (i-22) (KE.2 (by omega));have e:i-22+22=i:=by omega
  simp only[e]at this;exact this
 ·omega
end
section
variable(L n:Nat)
def A8B:((List.range 54).all λi=>JM (Bc (Dt (r! L (n+41)) FG [.agg (exN i).cs]) (S (exT i))))=true:=by kernel_rfl
def cnN(i k:Nat):Nd:=⟨1,frn i,frd i,uu k,0,0,0⟩
def cnT(i k:Nat):Ha:=GH.getD 1 []++[32]++frt i++[32]++Lo k
end
end Go.Abs
end
noncomputable section
end
noncomputable section
namespace Go.Abs
open Go.RowKit Go.Proofs
set_option maxRecDepth 100000
section
variable{v:AV}{args:Is}{f:Nat}{R:Rt}
variable{L n:Nat}
def RV(R:Rt)(f:Nat)(args:Is)(v:AV):Prop:=∀b,(R.call f args [] λv d=>HQ b d depth v λ_ e=>some (e,[]))=some (v,[])
def qM{args args':Is}{H:Hp}{q:Bool}{K:K2}(hc:RV R f args' v)(d:R5 true depth args args' H q):Ao R f args H K=K v:=by
 unfold Ao;rw[d];show Ar (R.call f args' [] _) K=K v;rw[hc (!q)];rfl
def CS.rv(h:CS R f args v):RV R f args v:=λb=>h _ λe d hv=>by
 obtain⟨q,hq⟩:=hv b;exact hq _
abbrev fnA(f:Nat):AV:=.fn (.func f) [] []
abbrev eG(w:Ha)(F:AV)(g:Nat):AV:=.agg [S w,F,fnA g]
abbrev nN:AV:=.list 2 [fnA PM,fnA iH]
abbrev B8X:AV:=.list 2 [fnA PM,fnA SQ]
abbrev B98:AV:=.list 1 [fnA SQ]
abbrev XV:AV:=.imap [(.int .i64 1,eG (GH.getD 1 []) Aw DN),(.int .i64 2,eG (GH.getD 2 []) B98 FL),
 (.int .i64 3,eG (GH.getD 3 []) nN Fb),(.int .i64 4,eG (GH.getD 4 []) nN D4),
 (.int .i64 5,eG (GH.getD 5 []) nN DY),(.int .i64 6,eG (GH.getD 6 []) nN DM),
 (.int .i64 7,eG (GH.getD 7 []) B8X E9),(.int .i64 8,eG (GH.getD 8 []) (.list 1 [fnA PM]) SR)]
def B5r:PS (r! L (n+1)) I8 [] XV:=BK (λH K=>by kernel_rfl) (by kernel_rfl)
abbrev Xr(I U:AV):AV:=.iptr [XV,I,U]
variable{I1:AV}{a b c i k:Nat}
end
section
variable{L n:Nat}
section
variable{H:Hp}{c:Nat}{v I1 F:AV}{l:Hb}{y:Nd}{w:Ha}{g k:Nat}
abbrev Xg(I1 v:AV):Row:=.cells true Zo [XV,I1,v]
def B9G(hc:Aj H c=some (Xg I1 v))(h:B0 H AA 20 v l.length (l.flatMap HJ))(e:l=[]->v=Aw)(f:Sl I1):Fx true depth (.ptr c 0 0) (Xr I1 (R9 l)) H true:=by
 obtain⟨q,hq⟩:=lV (D:=depth-2) (b:=true) h e;have a1:Fx true (depth-1) XV XV H false:=λK=>r_ rfl;have a2:Fx true (depth-1) I1 I1 H false:=by rcases f with rfl|⟨_,_,rfl⟩<;>exact λK=>r_ rfl
 have d:R5 true (depth-1) [XV,I1,v] [XV,I1,R9 l] H (false||(false||(q||false))):=An a1 (An a2 (An hq AK));intro K;show I6 H c (λx=>J6 x λ_ cs=>IE (HQ true H (depth-1)) (Dg (Nat.add 0 0) cs) λ_ a=>K true (.iptr a))=_;rw[AX hc];show IE (HQ true H (depth-1)) (Dg 0 [XV,I1,v]) (λ_ a=>K true (.iptr a))=_;rw[Cy,pE,d]
def A4K{f m:Nat}{args:Is}{K:KV}(hn:(E (L+20)).ne f=false)(b:(E (L+20)).imp f=false)(hz:∀s,args≠[.ptr s 0 0]):Ct (E (L+20)) (rt (L+20) m) (fnA f) args H K=Ao (rt (L+20) m) f args H λv=>K v H:=by
 show SN args [] (λa=>SN [] a λall=>A1B ((E (L+20)).ne f) all H K (@Bool.rec (λ_=>Af) (zpm (E (L+20)) f (rt (L+20) m) all H λv=>K v H) ((rt (L+20) m).call f all H K) ((E (L+20)).imp f)))=_;rw[Jv,Jv,hn,b,UC,l3d];show zpm (E (L+20)) f (rt (L+20) m) args H (λv=>K v H)=_;rw[A2t hz]
def B0b{K:Af}(h:dZ v v=true):Ra (Bc (some (v,H)) v) K=K:=by
 show Ra (some (.v (.bool (dZ v v)),[])) K=K;rw[h];rfl
def A0D{e z n:Nat}{cs:Is}(h:B0 H e z v n cs):dZ v v=true:=by
 rcases h with⟨rfl,_⟩|⟨r,q,rfl,_⟩
 ·rfl
 ·show(Nat.beq z z&&(Nat.beq r r&&(Nat.beq 0 0&&Nat.beq n n)))=true;simp
def B1x{K:K2}{t:TI}:Ap t .eql (I 0) (.v (.int .i64 0)) K=K (Bo true):=by rw[CQ,Hj rfl]
def C19(hc:Aj H c=some (Xg I1 v))(hs:B0 H AA 20 v l.length (l.flatMap HJ))(h0:l=[]->v=Aw)(hr:¬A8 v c)(wf:Wf H)(hb:l.length<100)(hI:Sl I1)(hF:Sl F)(hk:∀H K,(Ws .i64 (I y.op) λq=>Zi Bt true XV q H K)=K (.tup [eG w F g,Bo true]))(ha:dZ (.tup [eG w F g,Bo true]) (.tup [eG w F g,Bo true])=true)(hn:(E (L+20)).ne g=false)(hi:(E (L+20)).imp g=false)(hh:RV (r! L (n+41)) BR [Xr I1 (R9 l),eG w F g,.agg y.cs] (Bo true))(B:RV (r! L (n+41)) g [Xr I1 (R9 l),.agg y.cs] (.tup [.agg (CL (uu k)),I 0])):
 ∃f J,(∀K,(r! L (n+42)).call Jj [.ptr c 0 0,.agg y.cs] H K=K (Bo true) J)/\Aj J c=some (Xg I1 f)/\B0 J AA 20 f (l++[k]).length ((l++[k]).flatMap HJ)/\¬A8 f c/\Wf J/\As H<=As J/\(∀s x,Aj H s=some x->s≠c->¬A8 v s->Aj J s=some x)/\(∀s,A8 f s->As H<=s):=by
 have i:=Az (H:=H) (x:=Xk y) (by simp);have t:=A7 (x:=Xk y) (wf.lt hc) hc;have w1:=AJ (x:=Xk y) wf;have Y:B0 ((As H,Xk y)::H) AA 20 v l.length (l.flatMap HJ):=hs.lat wf (Lat.cons H _ (λ_=>False)) (λ_ _ h=>h);have ad:∀s x,Aj H s=some x->Aj ((As H,Xk y)::H) s=some x:=λs x h=>A7 (wf.lt h) h;have n1:As H<=As ((As H,Xk y)::H):=l1u _;have aj:∀s,A8 v s->s<As H:=λs B=>by
  rcases hs with⟨rfl,_⟩|⟨r,q,rfl,h2,_⟩
  ·obtain⟨_,_,_,h⟩:=B;cases h
  ·obtain⟨_,_,_,h⟩:=B;cases h;exact wf.lt h2
 have ey:∀K:KV,Hr AU (.agg y.cs) H K=K (.ptr (As H) 0 0) ((As H,Xk y)::H):=λK=>En A3t;have yl:=wf.lt hc;generalize az:((As H,Xk y)::H)=d at i t w1 Y ad n1 ey;generalize a4:As H=r at i ey yl n1 aj;obtain⟨m,e2,X,w2,k2⟩:=Il (e:=C6) (zs:=[zS,zL,.v .nilFunc]) (vs:=[S w,F,fnA g]) w1 rfl;have ai:=Az (H:=d) (x:=.cells true C6 [zS,zL,.v .nilFunc]) (by simp);have N:=A7 (x:=.cells true C6 [zS,zL,.v .nilFunc]) (w1.lt t) t;have ac:=A7 (x:=.cells true C6 [zS,zL,.v .nilFunc]) (w1.lt i) i;obtain⟨O,a5⟩:=k2 _ _ t;obtain⟨an,a7⟩:=k2 _ _ i;have Z:B0 m AA 20 v l.length (l.flatMap HJ):=by
  rcases Y with h|⟨r,q,h1,h2,h3⟩
  ·exact .inl h
  ·exact .inr ⟨r,q,h1,(k2 _ _ h2).1,h3⟩
 have n2:As d<=As m:=by rw[e2,BB];exact l1u _
 obtain⟨C,e3,ak,w3,k3⟩:=Il (e:=AA) (zs:=FZ) (vs:=CL (uu k)) w2 rfl;obtain⟨A,a6⟩:=k3 _ _ O;have aa:B0 C AA 20 v l.length (l.flatMap HJ):=by
  rcases Z with h|⟨r,q,h1,h2,h3⟩
  ·exact .inl h
  ·exact .inr ⟨r,q,h1,(k3 _ _ h2).1,h3⟩
 have n3:As m<=As C:=by rw[e3,BB];exact l1u _
 obtain⟨f,M,e4,ab,w4,n4,k4,ah⟩:=C3w k aa w3 hb;have Q:=k4 _ _ A hr;have R:¬A8 f c:=λB=>by have:=ah c B;have:=w3.lt A;omega
 have D:Bw f=[f]/\AV.one f=true:=by
  rcases ab with⟨rfl,_⟩|⟨a,b,rfl,_⟩<;>exact⟨rfl,rfl⟩
 refine⟨f,upd M c (Xg I1 f),λK=>?_,AC Q,ab.lat w4 (Lat.upd M c _ (P:=λu=>u=c) rfl) (λu B e=>R (e▸B)),R,Bq w4,by rw[BB];omega,λs x h h1 h2=>?_,λs B=>by have:=ah s B;omega⟩
 ·rw[Re];unfold Jg Em Hl A3 Mf HS;rw[ey];have f0:∀{s j:Nat}{K:K2},CY j (.ptr s 0 0) K=K (.ptr s j 0):=λ{s j K}=>by rw[fA,Jt]
  have lk1:∀{K},AD DL (.ptr c 0 0) d K=K XV:=λ{K}=>AQ (p:=0) rfl t (show 0<3 by decide);have ax:∀{K},AD Ab (.ptr r 0 0) d K=K (I y.op):=λ{K}=>AQ (p:=0) rfl i (show 0<26 by decide);have af:∀{K},AD DL (.ptr c 0 0) ((As d,c_ C6 [zS,zL,.v .nilFunc])::d) K=K XV:=λ{K}=>AQ (p:=0) rfl N (show 0<3 by decide);have ag:∀{K},AD Ab (.ptr r 0 0) ((As d,c_ C6 [zS,zL,.v .nilFunc])::d) K=K (I y.op):=λ{K}=>AQ (p:=0) rfl ac (show 0<26 by decide);have al:∀{K:KV},Bz C6 Bt d K=K (.ptr (As d) 0 0) ((As d,c_ C6 [zS,zL,.v .nilFunc])::d):=λ{K}=>B3 rfl;have st:∀{K:Ru},E4 Bt (.ptr (As d) 0 0) (eG w F g) ((As d,c_ C6 [zS,zL,.v .nilFunc])::d) K=K m:=λ{K}=>by
   rw[e2];exact Ch (vs:=[S w,F,fnA g]) ai rfl rfl (by rcases hF with rfl|⟨_,_,rfl⟩<;>rfl)
  have o1:∀{K:Af}{H:Hp},Ra (Bc (some (XV,H)) XV) K=K:=λ{K H}=>by kernel_rfl
  have o2:∀{K:Af}{H:Hp}{z:Int},Ra (Bc (some (I z,H)) (I z)) K=K:=λ{K H z}=>UX (by rfl);have o3:∀{K:Af}{H:Hp},Ra (Bc (some (.tup [eG w F g,Bo true],H)) (.tup [eG w F g,Bo true])) K=K:=λ{K H}=>by
   show Ra (some (.v (.bool (dZ _ _)),[])) K=K;rw[ha];rfl
  simp only[Ix,B4,f0,lk1,ax,hk,F5,F4,al,Cb,st,af,ag,o1,o2,o3,ntT];have aq:∀{K},AD Bt (.ptr (As d) 0 0) m K=K (eG w F g):=λ{K}=>Bv rfl rfl X;have ay:∀{K},AD AO (.ptr r 0 0) m K=K (.agg y.cs):=λ{K}=>Bv rfl rfl an;have ap:∀{K},AD Aa (.ptr (As d) 2 0) m K=K (fnA g):=λ{K}=>AQ (p:=2) rfl X (show 2<3 by decide);have a1:=B9G O Z h0 hI;have a2:Fx true depth (eG w F g) (eG w F g) m false:=by rcases hF with rfl|⟨_,_,rfl⟩<;>exact λK=>by kernel_rfl
  have a3:Fx true depth (.agg y.cs) (.agg y.cs) m false:=λK=>by kernel_rfl
  have V:∀{K:K2},Ao (r! L (n+41)) BR [.ptr c 0 0,eG w F g,.agg y.cs] m K=K (Bo true):=λ{K}=>qM hh (An a1 (An a2 (An a3 AK)));have am:∀{K:K2},Ao (r! L (n+41)) g [.ptr c 0 0,.agg y.cs] m K=K (.tup [.agg (CL (uu k)),I 0]):=λ{K}=>qM B (An a1 (An a3 AK));simp only[gT,Cb,aq,ay,V,ntT,Sf];rw[Bh,ap,A4K hn hi (by simp),am,F5,F4,B3 (cs:=FZ) rfl,Ch (cs:=FZ) (vs:=CL (uu k)) (Az (by simp)) rfl rfl rfl,<-e3];have ao:∀{K},AD Am (.ptr c 2 0) C K=K v:=λ{K}=>AQ (p:=2) rfl A (show 2<3 by decide);have ar:∀{K},AD A1 (.ptr (As m) 0 0) C K=K (.agg (CL (uu k))):=λ{K}=>Bv rfl rfl ak;simp only[Ix,B4,f0,ao,ar];have e5:∀K:KV,E5 AA 20 A1 Am v (.sl 20 (As C) 0 1) ((As C,.cells false AA (HJ k))::C) K=K f M:=λK=>by have:=e4 K;rw[A7y]at this;exact this
  have ae:∀{K},AD Am (.ptr c 2 0) ((As C,.cells false AA (HJ k))::C) K=K v:=λ{K}=>AQ (p:=2) rfl (A7 (w3.lt A) A) (show 2<3 by decide);have s5:∀{K:Ru},E4 Am (.ptr c 2 0) f M K=K (upd M c (Xg I1 f)):=λ{K}=>Ei Q (show 2<3 by decide) rfl D.1 D.2;have o4:∀{K:Af}{H:Hp},Ra (Bc (some (v,H)) v) K=K:=λ{K H}=>B0b (A0D aa);simp only[A7y,Cb,e5,s5,ae,o4,B1x]
 ·have a1:=ad s x h;have a2:=(k2 s x a1).1;have a3:=(k3 s x a2).1;rw[Ag h1];exact k4 s x a3 h2
end
end
section
variable{L n:Nat}
abbrev A0A:AV:=fnA GJ
def B6t{k:Nat}(c:k<52):PS (r! L (n+41)) GJ [.agg (CL (uu k))] (Bo false):=by
 refine CS.ps (λK a=>?_) (λH=>λK=>by kernel_rfl);rw[UZ];unfold KN Iu;rw[En rfl,Bv (cs:=CL (uu k)) rfl rfl (Az (by simp)),X0 _ _ _ c,ntT];exact a _ _ (λb=>⟨false,λK=>by kernel_rfl⟩)
def B31{a:Ru}{K:KV}{ks:Hb}{H:Hp}(hb:ks.length<1000000000)(c:∀k∈ks,k<52):∀(f i:Nat),i<=ks.length->ks.length-i<f->
 Ez (L+20) (r! L (n+41)) K a f (BP ks) A0A (I ks.length) (I i) H=a H:=by
 intro f
 induction f with
 |zero=>intro i _ h;omega
 |succ f ih=>
  intro i e d;rw[Kf];unfold E0 HR A3;by_cases h:i<ks.length
  ·rw[FV (by omega),Cr,iP h,iM];have b:∀K,Ct (E (L+20)) (r! L (n+41)) A0A [.agg (CL (uu ks[i]))] H K=Ao (r! L (n+41)) GJ [.agg (CL (uu ks[i]))] H λv=>K v H:=λK=>A4K rfl rfl (by simp);rw[b,B6t (c _ (PD h)),Bh,Dd (by omega)];exact ih (i+1) (by omega) (by omega)
  ·rw[FT (by omega),Bh]
def A6w{ks:Hb}(hb:ks.length<1000000000)(f:ks.length<L)(e:∀k∈ks,k<52):CS (r! L (n+43)) Di [BP ks,A0A] (Bo false):=by
 intro K a;rw[JO];unfold Ed Lr;have d:CS (r! L (n+42)) He [BP ks,A0A] (I (-1)):=by
  intro K a;rw[K4];unfold EA A3;simp only[BJ];have c:(AV.v (.int .i64 0))=I ((0:Nat):Int):=rfl;rw[Qt,c,B31 hb e _ 0 (by omega) (by omega)];exact a _ _ (λb=>⟨false,λK=>by kernel_rfl⟩)
 rw[AR (q:=false) d (λK=>by kernel_rfl),KC];exact a _ _ (λb=>⟨false,λK=>by kernel_rfl⟩)
def WNd(L n:Nat)(a:AV)(l:Hb)(y:Nd)(k:Nat):Prop:=∃w F g,Sl F/\
 (∀H K,(Ws .i64 (I y.op) λq=>Zi Bt true XV q H K)=K (.tup [eG w F g,Bo true]))/\
 dZ (.tup [eG w F g,Bo true]) (.tup [eG w F g,Bo true])=true/\(E (L+20)).ne g=false/\(E (L+20)).imp g=false/\
 RV (r! L (n+41)) BR [Xr a (R9 l),eG w F g,.agg y.cs] (Bo true)/\
 RV (r! L (n+41)) g [Xr a (R9 l),.agg y.cs] (.tup [.agg (CL (uu k)),I 0])
def WTy(L n:Nat)(ks:Hb)(xs:List Nd)(ty:Hb):Prop:=∀i(h:i<xs.length),WNd L n (BP ks) (ty.take i) xs[i] (ty.getD i 0)
section
variable{K:KV}{x:Af}{ks ty:Hb}{xs:List Nd}{id:Int}{o:UD}
def B6m{k:AV->KV}{p c:Nat}(hT:WTy L n ks xs ty)(a:ty.length=xs.length)(hb:xs.length<100)(A:p≠c)(hx:∀v H,B0 H AA 20 v ty.length (ty.flatMap HJ)->(ty=[]->v=Aw)->Aj H p=some (IY id (BP ks) (Cu xs) o)->Aj H c=some (Xg (BP ks) v)->k (.ptr p 0 0) (.ptr c 0 0) H=x):
 ∀(f i:Nat)(v:AV)(H:Hp),i<=xs.length->xs.length-i<f->B0 H AA 20 v (ty.take i).length ((ty.take i).flatMap HJ)->(ty.take i=[]->v=Aw)->¬A8 v p->¬A8 v c->Aj H p=some (IY id (BP ks) (Cu xs) o)->Aj H c=some (Xg (BP ks) v)->Wf H->
 MV (L+20) (r! L (n+42)) K k f (.ptr p 0 0) (.ptr c 0 0) (Cu xs) (I xs.length) (I i) H=x:=by
 intro f
 induction f with
 |zero=>intro i v H _ h;omega
 |succ f ih=>
  intro i v H hi hf d m hr D P hc w;rw[XQ];unfold MW HR A3;by_cases h:i<xs.length
  ·rw[FV (by omega),Cr,qH h,qG,B3 (cs:=Ln) rfl,Ch (cs:=Ln) (vs:=xs[i].cs) (Az (by simp)) rfl rfl rfl];obtain⟨V,Y,M,R,s⟩:=Il (e:=AU) (zs:=Ln) (vs:=xs[i].cs) w rfl;rw[<-Y,Bv rfl rfl M];have b:=(s _ _ P).1;have t:=(s _ _ hc).1;have J:B0 V AA 20 v (ty.take i).length ((ty.take i).flatMap HJ):=by
    rcases d with d|⟨r,q,h1,h2,h3⟩
    ·exact .inl d
    ·exact .inr ⟨r,q,h1,(s _ _ h2).1,h3⟩
   obtain⟨wd,F,g,hF,hk,ha,hn,y,hh,hu⟩:=hT i h;obtain⟨v',X,Z,u,j,C,w5,n5,k5,N⟩:=C19 (n:=n) t J m D R (by rw[vN];omega) (.inr ⟨_,_,rfl⟩) hF hk ha hn y hh hu;have Q:ty.take i++[ty.getD i 0]=ty.take (i+1):=by
    have O:i<ty.length:=by omega
    rw[lO O];simp[List.getD,K8 O]
   rw[Z,ntT,Bh,Dd (by omega)];rw[Q]at j;exact ih (i+1) v' X (by omega) (by omega) j (λe=>by rw[<-Q]at e;simp at e) (λB=>by have:=N _ B;have:=R.lt b;omega) C (k5 _ _ b A hr) u w5
  ·rw[FT (by omega),Bh];have:i=xs.length:=by omega
   subst this;rw[<-a,vO]at d m;exact hx v H d m P hc
set_option maxHeartbeats 1000000 in
def B2Y(hL:100<L)(R:WTy L (n+2) ks xs ty)(Y:o=uu (ty.getD (xs.length-1) 0))(f:ty.length=xs.length)(V:∀k∈ks,k<52)(hb:ks.length<=6)(hn:1<=xs.length)(X:xs.length<=40)(h1:1<=id)(h2:id<=1000000):
 CS (r! L (n+45)) Oz [.agg (BI id (BP ks) (Cu xs) o)] (.tup [R9 ty,I 0,I 0]):=by
 intro K Q;rw[Zy];unfold Ob Em Xh dP OG Hl A3 Mf;rw[En (NR (.inr ⟨_,_,rfl⟩) (.inr ⟨_,_,rfl⟩))];have d:=Az (H:=[]) (x:=IY id (BP ks) (Cu xs) o) (by simp);have w0:=AJ (x:=IY id (BP ks) (Cu xs) o) Fl;generalize ((As [],IY id (BP ks) (Cu xs) o)::([]:Hp))=e at d w0;generalize As []=p at d;have u:∀{s j:Nat}{K:K2},CY j (.ptr s 0 0) K=K (.ptr s j 0):=λ{s j K}=>by rw[fA,Jt]
 have J:∀{K},AD Ab (.ptr p 0 0) e K=K (I id):=λ{K}=>AQ (p:=0) rfl d (show 0<23 by decide);have l1:∀{K},AD Am (.ptr p 1 0) e K=K (BP ks):=λ{K}=>AQ (p:=1) rfl d (show 1<23 by decide);have l2:∀{K},AD A0 (.ptr p 2 0) e K=K (Cu xs):=λ{K}=>AQ (p:=2) rfl d (show 2<23 by decide);have t1:∀{K},Ap Ab .lss (I id) (.v (.int .i64 1)) K=K (Bo false):=λ{K}=>by rw[DO,HX (by omega)]
 have t2:∀{K},Ap Ab .gtr (I id) (.v (.int .i64 1000000)) K=K (Bo false):=λ{K}=>by rw[Eo,HX (by omega)]
 have t3:∀{K},Ap Ab .gtr (I (ks.length:Int)) (.v (.int .i64 6)) K=K (Bo false):=λ{K}=>by rw[Eo,HX (by omega)]
 have t4:∀{K},Ap Ab .lss (I (xs.length:Int)) (.v (.int .i64 1)) K=K (Bo false):=λ{K}=>by rw[DO,HX (by omega)]
 have t5:∀{K},Ap Ab .gtr (I (xs.length:Int)) (.v (.int .i64 40)) K=K (Bo false):=λ{K}=>by rw[Eo,HX (by omega)]
 have M:∀{K:K2},Ao (r! L (n+44)) Di [BP ks,A0A] e K=K (Bo false):=λ{K}=>AR (q:=false) (A6w (n:=n+1) (by omega) (by omega) V) (λK=>by kernel_rfl);rw[u,J,t1];simp only[gT,u,J,Cb,t2,Sf,l1,Qt,t3,M,l2,Vn,t4,t5];rw[Bh];have N:∀{K:KV},(r! L (n+44)).call Oy [BP ks] e K=K (.ptr (As e) 0 0) ((As e,Xg (BP ks) Aw)::e):=λ{K}=>by
  rw[Zv];unfold NY Iu;have b2:∀{K:K2},Ca Lp [(0,1,XV),(1,1,BP ks)] K=K (.agg [XV,BP ks,Aw]):=λ{K}=>r_ rfl;rw[B5r (n:=n+42),b2,En rfl]
 rw[N];have g:=Az (H:=e) (x:=Xg (BP ks) Aw) (by simp);have m:=A7 (x:=Xg (BP ks) Aw) (w0.lt d) d;have w1:=AJ (x:=Xg (BP ks) Aw) w0;have A:=w0.lt d;generalize ((As e,Xg (BP ks) Aw)::e)=F at g m w1;generalize As e=c at g A;have C:∀{K},AD A0 (.ptr p 2 0) F K=K (Cu xs):=λ{K}=>AQ (p:=2) rfl m (show 2<23 by decide);simp only[BJ];rw[C,Vn];refine B6m (n:=n+2) R f (by omega) (by omega) ?_ (L+20) 0 _ F (by omega) (by omega) (.inl ⟨rfl,rfl,rfl⟩) (λ_=>rfl) (λ⟨_,_,_,h⟩=>by cases h) (λ⟨_,_,_,h⟩=>by cases h) m g w1;intro v H B P Z hc;have t:ty.length-1<ty.length:=by omega
 obtain⟨a,w,r⟩:=A4Z B t;have y:∀{K},AD A1 (.ptr p 3 0) H K=K (.agg (CL o)):=λ{K}=>GB (p:=3) rfl Z (show 23<=23 by decide);have O:uu ty[ty.length-1]=o:=by rw[Y,<-f];simp[List.getD,K8 t]
 rw[O]at r;have lc:∀{K},AD Am (.ptr c 2 0) H K=K v:=λ{K}=>AQ (p:=2) rfl hc (show 2<3 by decide);have ln:∀{K:K2},Bm Am v K=K (I ty.length):=λ{K}=>Le rfl B;simp only[Ix,B4,u,lc,ln,fB (ty:=Ab) (i:=ty.length) (by omega) (by omega),w,r,y,C3b];rw[Bh];exact Q _ _ (λb=>by
  obtain⟨q,hq⟩:=lV (D:=depth-2) (b:=b) B P;exact⟨_,dR (D:=depth-1) (An hq (An (q:=false) C7 (An (q:=false) C7 AK)))⟩)
def A8w(j:100<L)(m:WTy L (n+2) ks xs ty)(q:o=uu (ty.getD (xs.length-1) 0))(a:ty.length=xs.length)(p:∀k∈ks,k<52)(hb:ks.length<=6)(hn:1<=xs.length)(d:xs.length<=40)(h1:1<=id)(h2:id<=1000000):
 CS (r! L (n+46)) Gu [.agg (BI id (BP ks) (Cu xs) o)] (Bo true):=by
 intro K i;rw[Zw];unfold NZ Iu;rw[En (NR (.inr ⟨_,_,rfl⟩) (.inr ⟨_,_,rfl⟩))];have c:=Az (H:=[]) (x:=IY id (BP ks) (Cu xs) o) (by simp);generalize ((As [],IY id (BP ks) (Cu xs) o)::([]:Hp))=e at c;have ck:∀{K:K2},Ao (r! L (n+45)) Oz [.agg (BI id (BP ks) (Cu xs) o)] e K=K (.tup [R9 ty,I 0,I 0]):=λ{K}=>AR (B2Y j m q a p hb hn d h1 h2) (VO (.inr ⟨_,_,rfl⟩) (.inr ⟨_,_,rfl⟩));have h:∀{K:K2},C9 (.tup [R9 ty,I 0,I 0]) 2 K=K (I 0):=λ{K}=>r_ rfl;have f:∀{K:K2},C9 (.tup [R9 ty,I 0,I 0]) 0 K=K (R9 ty):=λ{K}=>r_ rfl;have g:∀{K:K2},C9 (.tup [R9 ty,I 0,I 0]) 1 K=K (I 0):=λ{K}=>r_ rfl;rw[Bv rfl rfl c,ck,f,g,h,zC];exact i _ _ (λb=>⟨false,λK=>by kernel_rfl⟩)
end
end
section
variable{H:Hp}{i p:Nat}
variable{L n:Nat}
def Sh:Ha:=[112,114,111,99,101,100,117,114,101,32]
def sP:Ha:=[103,105,118,101,110,32]
def B94:Ha:=[111,117,116,112,117,116,32]
def qC(k:Nat):Ha:=sP++Lo k++[10]
def vL(t:Ha):Ha:=t++[10]
def sK(id:Nat)(ks:Hb)(ts:List Ha)(o:Nat):Ha:=Sh++dg id++[10]++ks.flatMap qC++ts.flatMap vL++B94++Lo o++[10]
def Gx(k:Nat):(Lo k).length<60:=by
 by_cases h:k<52
 ·have:=GE.1 (show((List.range 52).all λk=>decide ((Lo k).length<60))=true by kernel_rfl) k (KE.2 h);simpa using this
 ·have:Lo k=[]:=by
   unfold Lo;rw[Vf,l1j (Nat.le_of_not_lt h)];rfl
  rw[this];decide
def A4i(k:Nat):(dg k).length<=3:=by
 unfold dg;split
 ·simp
 ·split<;>simp
def B0G(ks:Hb):(ks.flatMap qC).length<=67*ks.length:=by
 induction ks with
 |nil=>simp
 |cons k ks ih=>
  have:=Gx k;simp only[qB,EC,LV,qC,sP,QT]at ih⊢;omega
def B0j{ts:List Ha}(h:∀t∈ts,t.length<100):(ts.flatMap vL).length<=100*ts.length:=by
 induction ts with
 |nil=>simp
 |cons t ts ih=>
  have h1:=h t (by simp);have h2:=ih λu a=>h u (by simp[a]);simp only[qB,EC,LV,vL,QT]at h2⊢;omega
def qD{α:Type}{f:α->Ha}(l:List α)(h:i<l.length):(l.take (i+1)).flatMap f=(l.take i).flatMap f++f l[i]:=by
 rw[lO h,l2m];simp
section
variable{K:KV}{x:Af}{ks:Hb}{ts:List Ha}{xs:List Nd}{id:Int}{o:UD}{s0:Ha}
def B8v{a:AV->AV->KV}(d:∀k∈ks,k<52)(hb:ks.length<100)(t:s0.length<1000)(e:Aj H p=some (IY id (BP ks) (Cu xs) o))(g:a (.ptr p 0 0) (S (s0++ks.flatMap qC)) (I ks.length) H=x):
 ∀(f i:Nat)(w:AV),i<=ks.length->ks.length-i<f->RM (L+20) (r! L (n+40)) K a f (.ptr p 0 0) (S (s0++(ks.take i).flatMap qC)) (I i) w H=x:=by
 intro f
 induction f with
 |zero=>intro i w _ h;omega
 |succ f ih=>
  intro i w v u;rw[kF];unfold RO Em HR A3;have b:∀{s j:Nat}{K:K2},CY j (.ptr s 0 0) K=K (.ptr s j 0):=λ{s j K}=>by rw[fA,Jt]
  have l1:∀{K},AD Am (.ptr p 1 0) H K=K (BP ks):=λ{K}=>AQ (p:=1) rfl e (show 1<23 by decide);rw[b,l1,Qt];by_cases h:i<ks.length
  ·have m:=B0G (ks.take i);have q:(ks.take i).length<=ks.length:=by simp;omega
   have r:=Gx ks[i];rw[FV (by omega),Cr,b,l1,iP h,iM,US _ _ _ (d _ (PD h)),F5,F4,B6 (by simp only[EC,LV,QT];omega),B6 (by simp only[EC,LV,QT];omega),B6 (by simp only[EC,LV,QT];omega),Dd (by omega)];have c:s0++(ks.take i).flatMap qC++[103,105,118,101,110,32]++Lo ks[i]++[10]=s0++(ks.take (i+1)).flatMap qC:=by
    rw[qD ks h];simp[qC,sP]
   rw[c];exact ih (i+1) _ (by omega) (by omega)
  ·rw[FT (by omega),Bh];have:i=ks.length:=by omega
   subst this;rw[vO];exact g
def B8w{c:AV->KV}{u:AV}(q:∀i(h:i<xs.length),PS (r! L (n+41)) Jy [.agg xs[i].cs] (S (ts.getD i [])))(g:∀t∈ts,t.length<100)(e:ts.length=xs.length)(hb:xs.length<100)(B:s0.length<10000)(r:Aj H p=some (IY id (BP ks) (Cu xs) o))(v:c (.ptr p 0 0) (S (s0++ts.flatMap vL)) H=x):
 ∀(f i:Nat),i<=xs.length->xs.length-i<f->RN (L+20) (r! L (n+41)) K c f (.ptr p 0 0) (S (s0++(ts.take i).flatMap vL)) u (I i) H=x:=by
 intro f
 induction f with
 |zero=>intro i _ h;omega
 |succ f ih=>
  intro i D C;rw[kG];unfold RP Em HR A3;have d:∀{s j:Nat}{K:K2},CY j (.ptr s 0 0) K=K (.ptr s j 0):=λ{s j K}=>by rw[fA,Jt]
  have l2:∀{K},AD A0 (.ptr p 2 0) H K=K (Cu xs):=λ{K}=>AQ (p:=2) rfl r (show 2<23 by decide);rw[d,l2,Vn];by_cases h:i<xs.length
  ·have a:i<ts.length:=by omega
   have k:ts.getD i []=ts[i]:=by simp[List.getD,K8 a]
   have w:=B0j (ts:=ts.take i) λt hm=>g t (l2a hm);have y:(ts.take i).length<=ts.length:=by simp;omega
   have A:=g ts[i] (PD a);have b:=q i h;rw[k]at b;rw[FV (by omega),Cr,d,l2,qH h,qG,b,B6 (by simp only[EC,LV,QT];omega),B6 (by simp only[EC,LV,QT];omega),Dd (by omega)];have m:s0++(ts.take i).flatMap vL++ts[i]++[10]=s0++(ts.take (i+1)).flatMap vL:=by
    rw[qD ts a];simp[vL]
   rw[m];exact ih (i+1) (by omega) (by omega)
  ·rw[FT (by omega),Bh];have:i=ts.length:=by omega
   subst this;rw[vO];exact v
def A9E{i c:Nat}(N:100<L)(f:i<950)(v:CS (r! L (n+44)) FY [.agg (BI i (BP ks) (Cu xs) (uu c))] (Bo true))(y:∀i(h:i<xs.length),PS (r! L (n+44)) Jy [.agg xs[i].cs] (S (ts.getD i [])))(m:∀t∈ts,t.length<100)(d:ts.length=xs.length)(w:∀k∈ks,k<52)(hb:ks.length<=6)(A:xs.length<=40)(B:c<52):
 CS (r! L (n+45)) JF [.agg (BI i (BP ks) (Cu xs) (uu c))] (.tup [S (sK i ks ts c),I 0]):=by
 intro K u;rw[oJ];unfold Ua Em A3;rw[En (NR (.inr ⟨_,_,rfl⟩) (.inr ⟨_,_,rfl⟩))];have a:=Az (H:=[]) (x:=IY i (BP ks) (Cu xs) (uu c)) (by simp);generalize ((As [],IY i (BP ks) (Cu xs) (uu c))::([]:Hp))=e at a;generalize As []=p at a;have g:∀{s j:Nat}{K:K2},CY j (.ptr s 0 0) K=K (.ptr s j 0):=λ{s j K}=>by rw[fA,Jt]
 have C:∀{K},AD Ab (.ptr p 0 0) e K=K (I i):=λ{K}=>AQ (p:=0) rfl a (show 0<23 by decide);have hv:∀{K:K2},Ao (r! L (n+44)) FY [.agg (BI i (BP ks) (Cu xs) (uu c))] e K=K (Bo true):=λ{K}=>AR v (VO (.inr ⟨_,_,rfl⟩) (.inr ⟨_,_,rfl⟩));have d1:=A4i i;rw[Bv rfl rfl a,hv,ntT,Bh,g,C,C4d L (n+34) i f,B6 (by simp only[EC,LV,QT];omega),B6 (by simp only[EC,LV,QT];omega)];simp only[BJ];have q:([112,114,111,99,101,100,117,114,101,32]++dg i++[10]:Ha)=(Sh++dg i++[10])++(ks.take 0).flatMap qC:=by simp[Sh]
 rw[q];have b0:(Sh++dg i++[10]).length<=14:=by simp only[EC,LV,QT,Sh];omega
 refine B8v (n:=n+4) w (by omega) (by omega) a ?_ (L+20) 0 _ (by omega) (by omega);have r:(Sh++dg i++[10])++ks.flatMap qC=((Sh++dg i++[10])++ks.flatMap qC)++(ts.take 0).flatMap vL:=by simp
 rw[r];have F:=B0G ks;have b1:((Sh++dg i++[10])++ks.flatMap qC).length<=500:=by rw[EC];omega
 refine B8w (n:=n+3) y m d (by omega) (by omega) a ?_ (L+20) 0 (by omega) (by omega);have D:∀{K},AD A1 (.ptr p 3 0) e K=K (.agg (CL (uu c))):=λ{K}=>GB (p:=3) rfl a (show 23<=23 by decide);have J:=B0j m;have M:=Gx c;have b2:(((Sh++dg i++[10])++ks.flatMap qC)++ts.flatMap vL).length<=5000:=by rw[EC];omega
 rw[g,D,US _ _ _ B,F5,F4,B6 (by rw[EC];simp only[LV,QT] at*;omega),B6 (by rw[EC];simp only[LV,QT] at*;omega),B6 (by rw[EC,EC];simp only[LV,QT] at*;omega)];exact u _ _ (λb=>⟨false,λK=>by kernel_rfl⟩)
end
end
section
variable{v:AV}{H:Hp}{b p r:Nat}
variable{L n:Nat}
section
variable{K:KV}{x:Af}{ks:Hb}{ts:List Ha}{xs:List Nd}{id:Int}{o:UD}{s0:Ha}
abbrev pks(p:Nat)(id:Int)(ks:Hb)(xs:List Nd)(o:UD):List (Nat×Row):=[(p,IY id (BP ks) (Cu xs) o)]
def A5W{kp:List (Nat×Row)}{l s:Ha}(h:Bd r kp b l v H)(hb:b<100000000)(g:s.length<1000)(f:∀c a,Bd r kp (b+1000) (l++s) c a->K (.tup [I s.length,.v .nilIface]) a=x):
 (r! L (n+2)).call BE [.ptr r 0 0,S s] H K=x:=by
 have:=h.sz;exact E_ h.bld (by omega) λc a d e=>f c a (h.step d e (by rw[EC];omega))
def Bd.al{r b e:Nat}{kp:List (Nat×Row)}{l:Ha}{zs vs:Is}(h:Bd r kp b l v H)(hz:vs.length=zs.length):∃a,a=upd ((As H,c_ e zs)::H) (As H) (c_ e vs)/\Aj a (As H)=some (c_ e vs)/\Bd r kp b l v a:=by
 refine⟨_,rfl,AC (Az (H:=H) (x:=.cells true e zs) (by simp)),⟨(h.bld.cons (y:=.cells true e zs)).upd (by have:=h.bld.lt;omega) (λd=>by have:=h.bld.vlt d;omega),λp c=>?_,h.sz⟩⟩;obtain⟨p1,p2,p3⟩:=h.ks p c;have:=h.bld.wf.lt p1;exact⟨by rw[Ag (by omega)];exact A7 this p1,p2,p3⟩
def B6k{c:AV->AV->AV->AV->KV}{kp:List (Nat×Row)}(t:∀k∈ks,k<52)(hb:ks.length<100)(s:b<1000000)(w:∀v H,Bd r kp (b+1000*ks.length) (s0++ks.flatMap qC) v H->c (.ptr p 0 0) (.ptr r 0 0) (BP ks) (I ks.length) (I ks.length) H=x):
 ∀(f i:Nat)(v:AV)(H:Hp),i<=ks.length->ks.length-i<f->Bd r kp (b+1000*i) (s0++(ks.take i).flatMap qC) v H->MR (L+20) (r! L (n+40)) K c f (.ptr p 0 0) (.ptr r 0 0) (BP ks) (I ks.length) (I i) AV.dk AV.dk AV.dk H=x:=by
 intro f
 induction f with
 |zero=>intro i v H _ h;omega
 |succ f ih=>
  intro i v H D C d;rw[XO];unfold MT HR A3;by_cases h:i<ks.length
  ·have B:=Gx ks[i];rw[FV (by omega),Cr,iP h,iM,B3 (cs:=FZ) rfl,Ch (cs:=FZ) (vs:=CL (uu ks[i])) (Az (by simp)) rfl rfl rfl];obtain⟨A,m,u,g⟩:=d.al (e:=AA) (zs:=FZ) (vs:=CL (uu ks[i])) rfl;rw[<-m,Bv rfl rfl u,UF _ _ _ (t _ (PD h)),F5,F4,B6 (by simp only[LV,QT];omega),B6 (by simp only[EC,LV,QT];omega)];refine A5W (n:=n+38) g (by omega) (by simp only[EC,LV,QT];omega) λy j a=>?_;rw[Dd (by omega)];have q:s0++(ks.take i).flatMap qC++([103,105,118,101,110,32]++Lo ks[i]++[10])=s0++(ks.take (i+1)).flatMap qC:=by
    rw[qD ks h];simp[qC,sP]
   rw[q,lN,<-Nat.mul_succ]at a;exact ih (i+1) y j (by omega) (by omega) a
  ·rw[FT (by omega),Bh];have:i=ks.length:=by omega
   subst this;rw[vO]at d;exact w v H d
def B6l{m:AV->KV}{kp:List (Nat×Row)}{a w c:AV}(D:∀i(h:i<xs.length),PS (r! L (n+41)) FG [.agg xs[i].cs] (S (ts.getD i [])))(F:∀t∈ts,t.length<100)(k:ts.length=xs.length)(hb:xs.length<100)(C:b<10000000)(M:∀v H,Bd r kp (b+1000*xs.length) (s0++ts.flatMap vL) v H->m (.ptr p 0 0) (.ptr r 0 0) H=x):
 ∀(f i:Nat)(v:AV)(H:Hp),i<=xs.length->xs.length-i<f->Bd r kp (b+1000*i) (s0++(ts.take i).flatMap vL) v H->MS (L+20) (r! L (n+41)) K m f (.ptr p 0 0) (.ptr r 0 0) a w c (Cu xs) (I xs.length) (I i) H=x:=by
 intro f
 induction f with
 |zero=>intro i v H _ h;omega
 |succ f ih=>
  intro i v H R Q q;rw[XP];unfold MU HR A3;by_cases h:i<xs.length
  ·have d:i<ts.length:=by omega
   have y:ts.getD i []=ts[i]:=by simp[List.getD,K8 d]
   have P:=F ts[i] (PD d);have j:=D i h;rw[y]at j;rw[FV (by omega),Cr,qH h,qG,B3 (cs:=Ln) rfl,Ch (cs:=Ln) (vs:=xs[i].cs) (Az (by simp)) rfl rfl rfl];obtain⟨O,A,J,s⟩:=q.al (e:=AU) (zs:=Ln) (vs:=xs[i].cs) rfl;rw[<-A,Bv rfl rfl J,j,B6 (by simp only[LV,QT];omega)];refine A5W (n:=n+39) s (by omega) (by simp only[EC,LV,QT];omega) λN u g=>?_;rw[Dd (by omega)];have B:s0++(ts.take i).flatMap vL++(ts[i]++[10])=s0++(ts.take (i+1)).flatMap vL:=by
    rw[qD ts d];simp[vL]
   rw[B,lN,<-Nat.mul_succ]at g;exact ih (i+1) N u (by omega) (by omega) g
  ·rw[FT (by omega),Bh];have:i=ts.length:=by omega
   subst this;rw[vO]at q;exact M v H (k▸q)
def A8y{i a:Nat}(hL:100<L)(C:i<950)(V:CS (r! L (n+46)) Gu [.agg (BI i (BP ks) (Cu xs) (uu a))] (Bo true))(Y:∀i(h:i<xs.length),PS (r! L (n+46)) FG [.agg xs[i].cs] (S (ts.getD i [])))(ht:∀t∈ts,t.length<100)(A:ts.length=xs.length)(X:∀k∈ks,k<52)(hb:ks.length<=6)(Z:xs.length<=40)(ho:a<52):
 CS (r! L (n+47)) Gv [.agg (BI i (BP ks) (Cu xs) (uu a))] (.tup [S (sK i ks ts a),I 0]):=by
 intro K R;rw[Zx];unfold Oa Em A3;rw[En (NR (.inr ⟨_,_,rfl⟩) (.inr ⟨_,_,rfl⟩))];have c:=Az (H:=[]) (x:=IY i (BP ks) (Cu xs) (uu a)) (by simp);have w0:=AJ (x:=IY i (BP ks) (Cu xs) (uu a)) Fl;generalize ((As [],IY i (BP ks) (Cu xs) (uu a))::([]:Hp))=f at c w0;generalize As []=p at c;have B:∀{s j:Nat}{K:K2},CY j (.ptr s 0 0) K=K (.ptr s j 0):=λ{s j K}=>by rw[fA,Jt]
 have hv:∀{K:K2},Ao (r! L (n+46)) Gu [.agg (BI i (BP ks) (Cu xs) (uu a))] f K=K (Bo true):=λ{K}=>AR V (VO (.inr ⟨_,_,rfl⟩) (.inr ⟨_,_,rfl⟩));have d1:=A4i i;rw[Bv rfl rfl c,hv,ntT,Bh,B3 (cs:=[.v (.pointer none),zL]) rfl];have D:=Az (H:=f) (x:=.cells true E6 [.v (.pointer none),zL]) (by simp);have y:=w0.lt c;have e:Bd (As f) (pks p i ks xs (uu a)) 0 [] Aw ((As f,c_ E6 [.v (.pointer none),zL])::f):=
  ⟨⟨⟨_,.inr rfl,.inl D⟩,.inl ⟨rfl,rfl,rfl⟩,λ⟨_,_,_,h⟩=>(by cases h),AJ w0⟩,λq hq=>by
   simp only[Tx]at hq;subst hq;exact⟨A7 y c,by simp only;omega,λ⟨_,_,_,h⟩=>(by cases h)⟩,Me _⟩
 generalize ((As f,c_ E6 [.v (.pointer none),zL])::f)=M at e;generalize As f=r at e;have d:∀{b l v H},Bd r (pks p i ks xs (uu a)) b l v H->Aj H p=some (IY i (BP ks) (Cu xs) (uu a)):=λh=>(h.ks (p,_) (Tx.2 rfl)).1;have l0:∀{K},AD Ab (.ptr p 0 0) M K=K (I i):=λ{K}=>AQ (p:=0) rfl (d e) (show 0<23 by decide);rw[B,l0,C45 L (n+36) i C,B6 (by simp only[LV,QT];omega),B6 (by simp only[EC,LV,QT];omega)];refine A5W (n:=n+44) e (by omega) (by simp only[EC,LV,QT];omega) λv2 F g=>?_;simp only[BJ];have l1:∀{K},AD Am (.ptr p 1 0) F K=K (BP ks):=λ{K}=>AQ (p:=1) rfl (d g) (show 1<23 by decide);rw[B,l1,Qt];have O:([]++([112,114,111,99,101,100,117,114,101,32]++dg i++[10]):Ha)=(Sh++dg i++[10])++(ks.take 0).flatMap qC:=by simp[Sh]
 rw[O]at g;refine B6k (n:=n+6) X (by omega) (b:=0+1000) (by omega) (λv3 J m=>?_) (L+20) 0 v2 F (by omega) (by omega) g;have l2:∀{K},AD A0 (.ptr p 2 0) J K=K (Cu xs):=λ{K}=>AQ (p:=2) rfl (d m) (show 2<23 by decide);rw[B,l2,Vn];have P:(Sh++dg i++[10])++ks.flatMap qC=((Sh++dg i++[10])++ks.flatMap qC)++(ts.take 0).flatMap vL:=by simp
 rw[P]at m;refine B6l (n:=n+5) Y ht A (by omega) (b:=0+1000+1000*ks.length) (by omega) (λv4 N w=>?_) (L+20) 0 v3 J (by omega) (by omega) m;have lo:∀{K},AD A1 (.ptr p 3 0) N K=K (.agg (CL (uu a))):=λ{K}=>GB (p:=3) rfl (d w) (show 23<=23 by decide);have g3:=Gx a;rw[B,lo,UF _ _ _ ho,F5,F4,B6 (by simp only[LV,QT];omega),B6 (by simp only[EC,LV,QT];omega)];refine A5W (n:=n+44) w (by omega) (by simp only[EC,LV,QT];omega) λv5 H5 u=>?_;have Q:((Sh++dg i++[10])++ks.flatMap qC)++ts.flatMap vL++([111,117,116,112,117,116,32]++Lo a++[10])=sK i ks ts a:=by simp[sK,B94]
 rw[Q]at u;have z1:=u.sz;obtain⟨H6,hs⟩:=A0k (n:=n+45) u.bld (by unfold sK;rw[EC];simp only[LV,QT];omega) (by omega);rw[hs];exact R _ _ (λb=>⟨false,λK=>by kernel_rfl⟩)
end
end
end Go.Abs
end
