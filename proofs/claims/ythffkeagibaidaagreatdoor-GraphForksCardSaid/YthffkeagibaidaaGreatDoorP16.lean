import Derived.Test.YthffkeagibaidaaGreatDoorP12
import Derived.Test.YthffkeagibaidaaGreatDoorP13
import Derived.Test.YthffkeagibaidaaGreatDoorP14
import Derived.Test.YthffkeagibaidaaGreatDoorP15
set_option linter.all false
set_option maxHeartbeats 0
noncomputable section
namespace Go.Abs
open Go.RowKit Go.Proofs
set_option maxRecDepth 100000
section
variable{H:Hp}{k4:Ru}{t:Int×Int}
variable{L n:Nat}
attribute [local irreducible] Ak rt dK eBi C? cnd Al Ts A1
def B1s(h: -8<=t.2/\t.2<=8/\t.2≠0):PS (rt (L+20) (n+41)) Im [.agg (Mh t)] (Bo false):=by
 refine CS.ps (λK a=>?_) (λH=>λK=>by kernel_rfl);have h1:PO (rt (L+20) (n+40)) Df [.agg (qa t.2)] (Bo true):=(iC (by omega) (by omega)).o;have h2:PO (rt (L+20) (n+40)) LN [.agg (qa t.2)] (Bo false):=by
  have:=(A7N (L:=L) (n:=n) (z:=t.2) (by omega) (by omega)).o;rw[Iy h.2.2]at this;exact this
 rewrite[UQ];unfold KE GO
 try rewrite[zO]
 try rewrite[bO]
 try rewrite[qO]
 try rewrite[cO]
 generalize rt (L+20) (n+40)=R at*
 conv=>lhs;whnf
 rewrite[h1]
 conv=>lhs;whnf
 rewrite[h2]
 conv=>lhs;whnf
 exact a _ _ (λb=>⟨false,λK=>by kernel_rfl⟩)
abbrev iB:AV:=.fn (.func Im) [] []
abbrev A4i:AV:=.fn (.func Ku) [] []
section
variable{ts:ZM}{K:KV}{x:Af}
def lTm{K:K2}:A9 BC (.iptr (Mh t)) H K=K (.agg (Mh t)):=id rfl
def A9w(a:TmsOk ts):∀(f i:Nat),i<=ts.length->ts.length-i<f->
 Dn (L+20) (rt (L+20) (n+41)) K k4 f (Ek ts) iB (I ts.length) (I i) H=k4 H:=by
 have hb:=a.len;intro f
 induction f with
 |zero=>intro i _ h;omega
 |succ f ih=>
  intro i e d;rw[XA3];unfold Do GI Aq;by_cases h:i<ts.length
  ·have hr:=a.rng _ (Na h);rw[FZ (by omega),Dg,Tr h,lTm];have c:∀K,Dk (E (L+20)) (rt (L+20) (n+41)) iB [.agg (Mh ts[i])] H K=Ak (rt (L+20) (n+41)) Im [.agg (Mh ts[i])] H λv=>K v H:=λK=>by kernel_rfl
   rw[c,B1s hr.2.2,B6,Dc (by omega)];exact ih (i+1) (by omega) (by omega)
  ·rw[Ga (by omega),B6]
def J?(c:TmsOk ts):CS (rt (L+20) (n+43)) CY [Ek ts,iB] (Bo false):=by
 have hb:=c.len;intro K a;rw[HK];unfold CW Mt;have e:CS (rt (L+20) (n+42)) Fj [Ek ts,iB] (I (-1)):=by
  intro K a;rw[Iv];unfold Du Aq;simp only[Ca];have d:(AV.v (.int .i64 0))=I ((0:Nat):Int):=rfl;rw[N9,d,A9w c _ 0 (by omega) (by omega)];exact a _ _ (λb=>⟨false,λK=>by kernel_rfl⟩)
 rw[AX (q:=false) e (λK=>by cases ts<;>kernel_rfl),Kn];exact a _ _ (λb=>⟨false,λK=>by kernel_rfl⟩)
def A3X:PS (rt (L+20) (n+1)) Ku [.agg (Mh t)] (I t.1):=by
 refine CS.ps (λK a=>?_) (λH=>λK=>by kernel_rfl);rewrite[XO];unfold NT GO
 try rewrite[zO]
 try rewrite[bO]
 try rewrite[qO]
 try rewrite[cO]
 generalize rt (L+20) (n+0)=R at*
 conv=>lhs;whnf
 exact a _ _ (λb=>⟨false,λK=>by kernel_rfl⟩)
def B3i(k:TmsOk ts)(A:∀H,k4 H=x):∀(f i:Nat)(H:Hp),i<=ts.length->ts.length-i<f->Wf H->
 F5 (L+20) (rt (L+20) (n+1)) K k4 f (Ek ts) A4i (Ek ts) (I ts.length) (I i) H=x:=by
 have hb:=k.len;intro f
 induction f with
 |zero=>intro i H _ h;omega
 |succ f ih=>
  intro i H F D w;rw[Mg];unfold F6 GI B3 EU Aq JR EV;by_cases h:i<ts.length
  ·have hr:=k.rng _ (Na h);rw[FZ (by omega),Dg,Tr h,lTm,AW (cs:=[zI,zS,zS]) rfl];have g:=Av (H:=H) (x:=.cells true AM [zI,zS,zS]) (by simp);rw[Bx (vs:=Mh ts[i]) g rfl rfl rfl];have c:=A4 (q:=true) (e:=AM) (cs:=Mh ts[i]) g;have w1:=BF (r:=Ay H) (y:=.cells true AM (Mh ts[i])) (Bw (x:=.cells true AM [zI,zS,zS]) w);generalize upd ((Ay H,c_ AM [zI,zS,zS])::H) (Ay H) (c_ AM (Mh ts[i]))=a at c w1;generalize Ay H=r at c;have C:∀K,A9 BC (.ptr r 0 0) a K=K (.agg (Mh ts[i])):=λK=>EL (p:=0) rfl c (show 3<=3 from MZ _);have s:∀(t:Int×Int)(K:KV),Dk (E (L+20)) (rt (L+20) (n+1)) A4i [.agg (Mh t)] a K=K (I t.1) a:=λt K=>by
    have:Dk (E (L+20)) (rt (L+20) (n+1)) A4i [.agg (Mh t)] a K=Ak (rt (L+20) (n+1)) Ku [.agg (Mh t)] a λv=>K v a:=by kernel_rfl
    rw[this,A3X]
   have i1:∀K,Al Ab .lss (I ts[i].1) (.v (.int .i64 1)) K=K (Bo false):=λK=>Ga (by omega);have i2:∀K,Al Ab .gtr (I ts[i].1) (.v (.int .i64 1000000)) K=K (Bo false):=λK=>by rw[DE,Iy (by omega)]
   rw[C,s];simp only[i1,i2,gT,BJ,T2];by_cases j:0<i
   ·have m:∀K,Al Ab .gtr (I (i:Int)) (.v (.int .i64 0)) K=K (Bo true):=λK=>by rw[DE,Iz (by omega)]
    have d:i-1<ts.length:=by omega
    have mm:∀K,C! false (I ((i-1:Nat):Int)) (.v (.int .i64 0)) K=K (I ((i-1:Nat):Int)):=λK=>by
     have e:C! false (I ((i-1:Nat):Int)) (.v (.int .i64 0)) K=ck (decide (IntKind.i64=IntKind.i64)) (@Bool.rec (λ_=>Af) (K (.v (.int .i64 0))) (K (I ((i-1:Nat):Int))) (Zq 0 ((i-1:Nat):Int))):=rfl;rw[e,IJ,Iz (Int.natCast_nonneg _)];rfl
    have u:ts[i-1].1<ts[i].1:=(l20.1 k.asc) (i-1) i d h (by omega);have B:∀K,Al Ab .geq (I ts[i-1].1) (I ts[i].1) K=K (Bo false):=λK=>by rw[Kn,Iy (by omega)]
    simp only[m,BJ,gT,ZQ j (by omega:i<1000000000),mm,Tr d,lTm,s,B,WT,T2];rw[B6,Dc (by omega)];exact ih (i+1) a (by omega) (by omega) w1
   ·have m:∀K,Al Ab .gtr (I (i:Int)) (.v (.int .i64 0)) K=K (Bo false):=λK=>by rw[DE,Iy (by omega)]
    simp only[m,BJ,gT,uU,WT,T2];rw[B6,Dc (by omega)];exact ih (i+1) a (by omega) (by omega) w1
  ·rw[Ga (by omega),B6];exact A H
def A1Y(a:TmsOk ts):CS (rt (L+20) (n+2)) FP [Ek ts,A4i] (Bo true):=by
 have hb:=a.len;intro K d;rw[MD];unfold FM Aq JR;simp only[Ca];have c:(AV.v (.int .i64 0))=I ((0:Nat):Int):=rfl;rw[N9,c];exact B3i a (λH=>d _ _ (λb=>⟨false,λK=>by kernel_rfl⟩)) (L+20) 0 [] (by omega) (by omega) EH
def I_{c r:Int}(i: -80<=c)(j:c<=80)(k:0<=r)(m:r<=8)(a:TmsOk ts):CS (rt (L+20) (n+44)) Jp [.agg (Wb (qn c) (qd c) (Ek ts) (qn r) (qd r))] (Bo true):=by
 intro K g;have hb:=a.len;have h1:PO (rt (L+20) (n+43)) Df [.agg (qa c)] (Bo true):=(iC (n:=n+3) (by omega) (by omega)).o;have h2:PO (rt (L+20) (n+43)) Df [.agg (qa r)] (Bo true):=(iC (n:=n+3) (by omega) (by omega)).o;have d:PO (rt (L+20) (n+43)) N0 [.agg (qa r)] (I (if r=0 then 0 else 1)):=(A7O (n:=n+3) (by omega) (by omega)).o;have e:LS (rt (L+20) (n+43)) FP [Ek ts,A4i] (Bo true):=(A1Y (n:=n+41) a).ls;have f:LS (rt (L+20) (n+43)) CY [Ek ts,iB] (Bo false):=(J? (n:=n) a).ls;have hz:ts=[]\/∃t l,ts=t::l:=by cases ts with|nil=>exact .inl rfl|cons t l=>exact .inr ⟨t,l,rfl⟩
 rcases hz with rfl|⟨t,l,rfl⟩
 all_goals
  rewrite[Zi];unfold PA GO
  try rewrite[zO]
  try rewrite[bO]
  try rewrite[qO]
  try rewrite[cO]
  generalize rt (L+20) (n+43)=R at*
  conv=>lhs;whnf
  rewrite[h1]
  conv=>lhs;whnf
  rewrite[h2]
  conv=>lhs;whnf
  rewrite[d]
  conv=>lhs;whnf
  rewrite[A1i ?hc]
  case hc=>(split<;>omega)
  conv=>lhs;whnf
  rewrite[A1b ?hc]
  case hc=>(first|decide|(have h:l.length+1<=6:=hb;show((l.length+1:Nat):Int)<=64;omega))
  conv=>lhs;whnf
  rewrite[(e) false _ _ ?hq]
  case hq=>exact λK=>by kernel_rfl
  conv=>lhs;whnf
  rewrite[(f) false _ _ ?hq]
  case hq=>exact λK=>by kernel_rfl
  conv=>lhs;whnf
  exact g _ _ (λb=>⟨false,λK=>by kernel_rfl⟩)
end
end
section
variable{v:AV}{H:Hp}{r:Nat}{y:Row}
variable{L n:Nat}{K:KV}{x:Af}
structure Bld(r:Nat)(l:Ha)(v:AV)(H:Hp):Prop where
 at_:∃tw:Nat,(tw=XA2\/tw=Dq)/\(Ao H r=some (c_ tw [.v (.pointer none),v])\/Ao H r=some (c_ tw [.ptr r 0 0,v]))
 sl:AT H AI 1 v l.length (Ix l)
 ne:¬AD v r
 wf:Wf H
structure Kp(r:Nat)(v:AV)(H:Hp)(v':AV)(H':Hp):Prop where
 keep:∀u y,Ao H u=some y->u≠r->¬AD v u->Ao H' u=some y
 new:∀u,AD v' u->AD v u\/Ay H<=u
 nx:Ay H<=Ay H'
def Kp.refl(r:Nat)(v:AV)(H:Hp):Kp r v H v H:=⟨λ_ _ h _ _=>h,λ_ h=>.inl h,MZ _⟩
def Kp.trans{v g c:AV}{H e a:Hp}(w:Wf H)(h:Kp r v H g e)(k:Kp r g e c a):Kp r v H c a:=
 ⟨λu y d h1 h2=>k.keep u y (h.keep u y d h1 h2) h1 (λi=>by
  rcases h.new u i with f|f
  ·exact h2 f
  ·have:=w.lt d;omega),
  λu d=>by
   rcases k.new u d with h1|h1
   ·exact h.new u h1
   ·exact .inr (by have:=h.nx;omega),WW h.nx k.nx⟩
theorem Bld.upd{r s:Nat}{l:Ha}(h:Bld r l v H)(h1:s≠r)(h2:¬AD v s):Bld r l v (upd H s y):=
 ⟨by rw[Aj h1.symm];exact h.at_,h.sl.lat h.wf (Lat.upd H s y (P:=λu=>u=s) rfl) (λu a e=>h2 (e▸a)),h.ne,BF h.wf⟩
theorem Bld.cons{l:Ha}(h:Bld r l v H):Bld r l v ((Ay H,y)::H):=by
 refine⟨?_,h.sl.lat h.wf (Lat.cons H y (λ_=>False)) (λ_ _ h=>h),h.ne,Bw h.wf⟩;obtain⟨c,a,h1|h1⟩:=h.at_
 ·exact⟨c,a,.inl (AQ (h.wf.lt h1) h1)⟩
 ·exact⟨c,a,.inr (AQ (h.wf.lt h1) h1)⟩
def rR{l s:Ha}(h:Bld r l v H)(hb:l.length+s.length<1000000000)(hx:∀i t,Bld r (l++s) i t->Kp r v H i t->K (.tup [I s.length,.v .nilIface]) t=x):(r! L (n+2)).call Bk [.ptr r 0 0,S s] H K=x:=by
 rw[Lb];unfold EK DV;rw[LY];unfold Fw DV;have J:∀K:K2,CC 0 (.ptr r 0 0) K=K (.ptr r 0 0):=λK=>id rfl;have a1:∀K:K2,CC 1 (.ptr r 0 0) K=K (.ptr r 1 0):=λK=>id rfl;obtain⟨w,m,Q⟩:=h.at_;have main:∀j,Ao j r=some (c_ w [.ptr r 0 0,v])->Bld r l v j->Kp r v H v j->(Mv (.ptr r 0 0) λv3=>CC 1 v3 λv4=>A9 A5 v4 j λv5=>DJ AI 1 AB Ag v5 (S s) j λv6 X=>
  Mv (.ptr r 0 0) λv8=>CC 1 v8 λv9=>DD A5 v9 v6 X λF=>Bi Ag (S s) λR=>K (.tup [R,.v .nilIface]) F)=x:=λj k c O=>by
  rw[GQ,a1,AH (p:=1) rfl k (by simp)];show DJ AI 1 AB Ag v (S s) j _=x;obtain⟨i,t,h1,h2,V,D⟩:=apt (ie:=AB) (i2:=Ag) c.sl (λK=>B4S (K:=K)) (by rw[Nl];omega) (A1D s) (by decide) rfl rfl (by show(l.length+s.length)*1<=_;omega) (by omega);rw[h1,GQ,a1];have A:Ao t r=some (c_ w [.ptr r 0 0,v]):=D.keep c.wf r _ k c.ne;have C:=D.wf c.wf;rw[V5]at h2;have g:Br i=[i]/\AV.one i=true:=by
   rcases h2 with⟨rfl,_⟩|⟨a,b,rfl,_⟩<;>exact⟨rfl,rfl⟩
  rw[D9 (q:=true) (e:=w) (cs:=[.ptr r 0 0,v]) A (by simp) rfl g.1 g.2,MR rfl];have Z:=c.wf.lt k;have B:¬AD i r:=λd=>by have:=V r d;omega
  refine hx i _ ⟨⟨w,m,.inr (A4 A)⟩,?_,B,BF C⟩ ?_
  ·rw[E6];exact h2.lat C (Lat.upd t r _ (P:=λu=>u=r) rfl) (λu d e=>B (e▸d))
  ·refine O.trans h.wf ⟨λu y d hn hv=>?_,λu d=>.inr (by rw[V u d];exact MZ _),by rw[CU];exact D.nx⟩;rw[Aj hn];exact D.keep c.wf u y d hv
 rw[GQ,J];rcases Q with f|f
 ·rw[AH (p:=0) rfl f (by simp)];show Yr BA Bl .eql (.v (.pointer none)) (.v (.pointer none)) _=x;have M:∀K:K2,Yr BA Bl .eql (.v (.pointer none)) (.v (.pointer none)) K=K (Bo true):=λK=>id rfl;rw[M,Dg];have N:∀K:K2,yT Bl (.ptr r 0 0) H K=K (.ptr r 0 0):=λK=>by
   have:yT Bl (.ptr r 0 0) H K=IZ H r λx=>KY x λ_ cs=>HB cs 0 λcl=>ck (Nat.blt (Nat.add 0 0) cl&& !Nat.beq Bl.size 0) (K (.ptr r 0 0)):=rfl;rw[this,BO f];rfl
  have Y:∀K:K2,yP V' Dq (.ptr r 0 0) H K=K (.ptr r 0 0):=λK=>by
   have:yP V' Dq (.ptr r 0 0) H K=IZ H r λx=>iV x λq E cs=>HB cs 0 λcl=>ck (q&&A9m V' E cl (Nat.add 0 0) Dq) (K (.ptr r 0 0)):=rfl;rw[this,BO f];rcases m with rfl|rfl<;>rfl
  rw[N,Y,GQ,J,D9 (q:=true) (e:=w) (cs:=[.v (.pointer none),v]) f (by simp) rfl rfl rfl];refine main _ (A4 f) ⟨⟨w,m,.inr (A4 f)⟩,h.sl.lat h.wf (Lat.upd H r _ (P:=λu=>u=r) rfl) (λu d e=>h.ne (e▸d)),h.ne,BF h.wf⟩ ⟨λu y d hn _=>by rw[Aj hn];exact d,λu d=>.inl d,by rw[CU];exact MZ _⟩
 ·rw[AH (p:=0) rfl f (by simp)];show Yr BA Bl .eql (.ptr r 0 0) (.v (.pointer none)) _=x;have M:∀K:K2,Yr BA Bl .eql (.ptr r 0 0) (.v (.pointer none)) K=K (Bo false):=λK=>id rfl;rw[M,B6,GQ,J,AH (p:=0) rfl f (by simp)];show Yr BA Bl .neq (.ptr r 0 0) (.ptr r 0 0) _=x;have N:∀K:K2,Yr BA Bl .neq (.ptr r 0 0) (.ptr r 0 0) K=K (Bo false):=λK=>by
   have:Yr BA Bl .neq (.ptr r 0 0) (.ptr r 0 0) K=ck (Nat.beq r r&&(Nat.beq (Nat.add 0 0) (Nat.add 0 0)&& !Nat.beq Bl.size 0)) (K (Bo false)):=rfl;rw[this,tB];rfl
  rw[N,B6];exact main H f h (Kp.refl r v H)
end
section
variable{a v v0:AV}{H H0:Hp}{k2:Ru}{zs:List Ha}{e r:Nat}{t:TI}
variable{L n:Nat}{K:KV}{x:Af}
def Sr(H:Hp)(r:Nat)(v a:AV)(cs:Is):Prop:=a=.list cs.length cs\/(a=A7/\cs=[])\/∃k q e,a=.sl 1 k 0 cs.length/\Ao H k=some (.cells q e cs)/\k≠r/\¬AD v k
def Sr.kp{H c:Hp}{v j a:AV}{cs:Is}(h:Sr H r v a cs)(w:Wf H)(k:Kp r v H j c):Sr c r j a cs:=by
 rcases h with h|h|⟨i,q,e,h1,h2,d,f⟩
 ·exact .inl h
 ·exact .inr (.inl h)
 ·refine .inr (.inr ⟨i,q,e,h1,k.keep i _ h2 d f,d,λm=>?_⟩);rcases k.new i m with g|g
  ·exact f g
  ·have:=w.lt h2;omega
def Sr.len{cs:Is}{e z:Nat}{K:K2}(h:Sr H r v a cs)(c:t.d=.slice e z):Bi t a K=K (I cs.length):=by
 obtain⟨s,b,d,zr⟩:=t;simp only at c;subst c;rcases h with rfl|⟨rfl,rfl⟩|⟨i,q,e,rfl,_⟩<;>exact id rfl
def Sr.get{r i:Nat}{cs:Is}{t j:TI}{K:K2}(h:Sr H r v a cs)(c:t.d=.slice e 1)(g:j.d.isAgg=false)(f:i<cs.length):(Cy t a (I i) λp=>A9 j p H K)=K (cs.getD i .dk):=by
 rcases h with rfl|⟨_,rfl⟩|⟨k,q,s,rfl,m,_⟩
 ·rw[WL c rfl (by omega) (by omega),XV,Rm g]
 ·simp at f
 ·rw[tV c (by omega) (by omega),XV,AH (p:=i) g m f]
def B5U{zs:List Int}(C:zs.length<100)(hz:∀z∈zs, -10<=z/\z<200000){l:Ha}(hb:l.length<900000000)(w0:Wf H0)(u:∀m c,Bld r (l++GE zs) m c->Kp r v0 H0 m c->k2 c=x):∀(f i:Nat)(v:AV)(H:Hp),i<=zs.length->zs.length-i<f->Bld r (l++GE (zs.take i)) v H->Kp r v0 H0 v H->Sr H r v a (E7 zs)->
 EI (L+20) (r! L (n+9)) K k2 f (.ptr r 0 0) a (I zs.length) (I i) H=x:=by
 intro f
 induction f with
 |zero=>intro i v H _ h;omega
 |succ f ih=>
  intro i v H B A k hk q;rw[La];unfold EJ GI Aq;by_cases h:i<zs.length
  ·have j:=hz zs[i] (Na h);have p:=DX (zs.take i);have w:(zs.take i).length<=zs.length:=by simp;omega
   have y:=Qw zs[i];rw[FZ (by omega),Dg,q.get rfl rfl (by simp[E7];omega),Te h,vL (L:=L) (n:=n+1) j.1 j.2,CO,CN,GQ];have s:∀K:K2,CC 0 (.ptr r 0 0) K=K (.ptr r 0 0):=λK=>id rfl;rw[s];refine rR (n:=n+7) k (by rw[E6];omega) λm c d g=>?_;rw[Dc (by omega)];rw[fW,<-qG zs h]at d;exact ih (i+1) m c (by omega) (by omega) d (hk.trans w0 g) (q.kp k.wf g)
  ·rw[Ga (by omega),B6];have:i=zs.length:=by omega
   subst this;rw[mM]at k;exact u v H k hk
def A1Z{zs:List Int}{l:Ha}(m:100<L)(j:zs.length<100)(hz:∀z∈zs, -10<=z/\z<200000)(hb:l.length<900000000)(d:Bld r l v H)(f:Sr H r v a (E7 zs))(k:∀g c,Bld r (l++GE zs) g c->Kp r v H g c->K (.tup []) c=x):(r! L (n+10)).call Bt [.ptr r 0 0,a] H K=x:=by
 rw[L5];unfold Fa Aq;rw[f.len rfl];simp only[Ca];have h:(AV.v (.int .i64 0))=I ((0:Nat):Int):=rfl;have i:(E7 zs).length=zs.length:=by simp[E7]
 rw[h,i];exact B5U (n:=n) j hz hb d.wf k (L+20) 0 v H (by omega) (by omega) (by simpa [GE] using d) (Kp.refl r v H) f
def B5S(D:zs.length<100)(hz:∀z∈zs,z.length<390){l:Ha}(hb:l.length<900000000)(w0:Wf H0)(w:∀m c,Bld r (l++FU zs) m c->Kp r v0 H0 m c->k2 c=x):∀(f i:Nat)(v:AV)(H:Hp),i<=zs.length->zs.length-i<f->Bld r (l++FU (zs.take i)) v H->Kp r v0 H0 v H->Sr H r v a (Bj zs)->
 Ft (L+20) (r! L (n+9)) K k2 f (.ptr r 0 0) a (I zs.length) (I i) H=x:=by
 intro f
 induction f with
 |zero=>intro i v H _ h;omega
 |succ f ih=>
  intro i v H C B j hk k;rw[LV];unfold Fu GI Aq;by_cases h:i<zs.length
  ·have p:=hz zs[i] (Na h);have q:=DW (zs.take i) (λs k=>hz s (l24 k));have y:(zs.take i).length<=zs.length:=by simp;omega
   have A:(tR zs[i]).length<=400:=by unfold tR;rw[E6];have:=Qw (zs[i].length:Int);omega
   rw[FZ (by omega),Dg,k.get rfl rfl (by simp[Bj];omega),Mm h,vK L n p,CO,CN,GQ];have u:∀K:K2,CC 0 (.ptr r 0 0) K=K (.ptr r 0 0):=λK=>id rfl;rw[u];refine rR (n:=n+7) j (by rw[E6];omega) λm c d g=>?_;rw[Dc (by omega)];rw[fW,<-qF zs h]at d;exact ih (i+1) m c (by omega) (by omega) d (hk.trans w0 g) (k.kp j.wf g)
  ·rw[Ga (by omega),B6];have:i=zs.length:=by omega
   subst this;rw[mM]at j;exact w v H j hk
def rS{l:Ha}(m:100<L)(j:zs.length<100)(hz:∀z∈zs,z.length<390)(hb:l.length<900000000)(d:Bld r l v H)(f:Sr H r v a (Bj zs))(k:∀g c,Bld r (l++FU zs) g c->Kp r v H g c->K (.tup []) c=x):(r! L (n+10)).call BM [.ptr r 0 0,a] H K=x:=by
 rw[M0];unfold FK Aq;rw[f.len rfl];simp only[Ca];have h:(AV.v (.int .i64 0))=I ((0:Nat):Int):=rfl;have i:(Bj zs).length=zs.length:=by simp[Bj]
 rw[h,i];exact B5S (n:=n) j hz hb d.wf k (L+20) 0 v H (by omega) (by omega) (by simpa [FU] using d) (Kp.refl r v H) f
end
section
variable{v:AV}{q:Bool}{H:Hp}{e i k r:Nat}
variable{L n:Nat}{K:KV}{x:Af}
abbrev Rts:=List (Ha×Ha)
def A_(q:Ha×Ha):Is:=[S q.1,S q.2]
def Oy(l:Rts):Ha:=(l.map λq=>FU [q.1,q.2]).flatten
def A2R(l:Rts)(h:i<l.length):Oy (l.take (i+1))=Oy (l.take i)++FU [l[i].1,l[i].2]:=by
 unfold Oy;rw[tE h,UT,List.flatten_append];simp only[Zm,List.map_nil,l18,List.flatten_nil,fV]
def LP(l:Rts)(h:∀q∈l,q.1.length<390/\q.2.length<390):(Oy l).length<=800*l.length:=by
 induction l with
 |nil=>simp[Oy]
 |cons s l ih=>
  have a:=ih (λs d=>h s (by simp[d]));have c:=DW [s.1,s.2] (by simp;exact h s (by simp));simp only[Oy,Zm,l18,E6,Kg,Oc]at a c⊢;omega
def Kp.cons{y:Row}(w:Wf H):Kp r v H v ((Ay H,y)::H):=⟨λu z a _ _=>AQ (w.lt a) a,λu a=>.inl a,l1p _⟩
theorem Bld.lt{l:Ha}(h:Bld r l v H):r<Ay H:=by obtain⟨_,_,h1|h1⟩:=h.at_<;>exact h.wf.lt h1
def Bld.vlt{r u:Nat}{l:Ha}(h:Bld r l v H)(a:AD v u):u<Ay H:=h.sl.lt h.wf a
def B4X{r m i:Nat}{K:K2}(h:i<m):Cy GG (.sl 2 r 0 m) (I i) K=K (.ptr r (2*i) 0):=by
 have a:Cy GG (.sl 2 r 0 m) (I (i:Int)) K=iN (i:Int) λk=>ck (Nat.blt k m) (fN (Nat.add 0 (Nat.mul k 2)) λq=>K (.ptr r q 0)):=rfl;rw[a,KO,Ep];have h2:Nat.blt i m=true:=by rw[Ua];exact h
 have c:Nat.add 0 (Nat.mul i 2)=2*i:=by show 0+i*2=_;omega
 rw[h2,c];rfl
def B5T{rs:Rts}{k2:Ru}(hl:rs.length<100)(hz:∀z∈rs,z.1.length<390/\z.2.length<390){l:Ha}(hL:100<L)(hb:l.length<800000000){v0:AV}{H0:Hp}(w0:Wf H0)(R:k≠r)(hx:∀J w,Bld r (l++Oy rs) J w->Kp r v0 H0 J w->k2 w=x):∀(f i:Nat)(v:AV)(H:Hp),i<=rs.length->rs.length-i<f->Bld r (l++Oy (rs.take i)) v H->Kp r v0 H0 v H->Ao H k=some (.cells q e (rs.flatMap A_))->¬AD v k->
 EW (L+20) (r! L (n+10)) K k2 f (.ptr r 0 0) (.sl 2 k 0 rs.length) (I rs.length) (I i) H=x:=by
 intro f
 induction f with
 |zero=>intro i v H _ h;omega
 |succ f ih=>
  intro i v H hi hf g hk D F;rw[Lt];unfold EX DV GI Aq;by_cases h:i<rs.length
  ·have X:=hz rs[i] (Na h);have Z:=LP (rs.take i) (λs D=>hz s (l24 D));have h5:(rs.take i).length<=rs.length:=by simp;omega
   rw[FZ (by omega),Dg,B4X h];have O:=A5Z A_ 2 (λ_=>rfl) rs;have N:=lG A_ 2 (λ_=>rfl) rs i h;have V:∀K,A9 Au (.ptr k (2*i) 0) H K=K (.agg (A_ rs[i])):=λK=>by
    rw[EL (p:=2*i) rfl D (by rw[O];show 2*i+2<=_;omega),Nat.mul_comm 2 i];show K (.agg (((rs.flatMap A_).drop (i*2)).take 2))=_;rw[N]
   rw[V,AW (cs:=[zS,zS]) rfl];have C:=Av (H:=H) (x:=.cells true AU [zS,zS]) (by simp);rw[Bx (vs:=A_ rs[i]) C rfl rfl rfl];have j:=A4 (q:=true) (e:=AU) (cs:=A_ rs[i]) C;have aa:=g.lt;have c:=(g.cons (y:=.cells true AU [zS,zS])).upd (s:=Ay H) (y:=.cells true AU (A_ rs[i])) (by omega) (λd=>by have:=g.vlt d;omega);have B:Kp r v H v (upd ((Ay H,c_ AU [zS,zS])::H) (Ay H) (c_ AU (A_ rs[i]))):=⟨λu y d h1 h2=>by
    have:=g.wf.lt d;rw[Aj (by omega)];exact AQ this d,λu d=>.inl d,by rw[CU];exact l1p _⟩
   generalize upd ((Ay H,c_ AU [zS,zS])::H) (Ay H) (c_ AU (A_ rs[i]))=a at j c B;generalize Ay H=t at j;have g0:∀K:K2,CC 0 (.ptr t 0 0) K=K (.ptr t 0 0):=λK=>id rfl;have g1:∀K:K2,CC 1 (.ptr t 0 0) K=K (.ptr t 1 0):=λK=>id rfl;have m0:∀K,A9 Ag (.ptr t 0 0) a K=K (S rs[i].1):=λK=>AH (p:=0) rfl j (show 0<2 by decide);have m1:∀K,A9 Ag (.ptr t 1 0) a K=K (S rs[i].2):=λK=>AH (p:=1) rfl j (show 1<2 by decide);rw[g0,m0,g1,m1];have bs:∀K:KV,F4 A0 1 Ag 2 [(0,1,S rs[i].1),(1,1,S rs[i].2)] a K=K (.sl 1 (Ay a) 0 2) ((Ay a,.cells false A0 (Bj [rs[i].1,rs[i].2]))::a):=λK=>by
    have e:F4 A0 1 Ag 2 [(0,1,S rs[i].1),(1,1,S rs[i].2)] a K=GP a λs=>K (.sl 1 s 0 2) ((s,.cells false A0 (Bj [rs[i].1,rs[i].2]))::a):=rfl;rw[e,BQ]
   rw[bs];have M:=c.cons (y:=.cells false A0 (Bj [rs[i].1,rs[i].2]));have Q:Kp r v H v ((Ay a,.cells false A0 (Bj [rs[i].1,rs[i].2]))::a):=B.trans g.wf (Kp.cons c.wf);refine rS (n:=n) hL (zs:=[rs[i].1,rs[i].2]) (by simp) (by simp;exact X) (by rw[E6];omega) M (.inr (.inr ⟨Ay a,false,A0,rfl,Av (by simp),by have:=c.lt;omega,λd=>by have:=c.vlt d;omega⟩)) λJ w A P=>?_;rw[Dc (by omega)];rw[fW,<-A2R rs h]at A;have m:=Q.trans g.wf P;refine ih (i+1) J w (by omega) (by omega) A (hk.trans w0 m) (m.keep k _ D R F) (λd=>?_);rcases m.new k d with Y|Y
   ·exact F Y
   ·have:=g.wf.lt D;omega
  ·rw[Ga (by omega),B6];have:i=rs.length:=by omega
   subst this;rw[mM]at g;exact hx v H g hk
def A40{rs:Rts}{l:Ha}(m:100<L)(p:rs.length<100)(hz:∀z∈rs,z.1.length<390/\z.2.length<390)(hb:l.length<800000000)(f:Bld r l v H)(c:k≠r)(s:Ao H k=some (.cells q e (rs.flatMap A_)))(d:¬AD v k)(t:∀g a,Bld r (l++Oy rs) g a->Kp r v H g a->K (.tup []) a=x):(r! L (n+11)).call Cb [.ptr r 0 0,.sl 2 k 0 rs.length] H K=x:=by
 rw[Ma];unfold Fz Aq;have j:∀K,Bi GG (.sl 2 k 0 rs.length) K=K (I rs.length):=λK=>id rfl;rw[j];simp only[Ca];have h:(AV.v (.int .i64 0))=I ((0:Nat):Int):=rfl;rw[h];exact B5T (n:=n) p hz m hb f.wf c t (L+20) 0 v H (by omega) (by omega) (by simpa [Oy] using f) (Kp.refl r v H) s d
end
section
variable{L n:Nat}{K:KV}{x:Af}
structure Bd(r:Nat)(ks:List (Nat×Row))(b:Nat)(l:Ha)(v:AV)(H:Hp):Prop where
 bld:Bld r l v H
 ks:∀p∈ks,Ao H p.1=some p.2/\p.1≠r/\¬AD v p.1
 sz:l.length<=b
def Bd.step{r b e:Nat}{ks:List (Nat×Row)}{l c:Ha}{v d:AV}{H a:Hp}(h:Bd r ks b l v H)(i:Bld r c d a)(k:Kp r v H d a)(m:c.length<=e):Bd r ks e c d a:=
 ⟨i,λp j=>by
  obtain⟨h1,h2,f⟩:=h.ks p j;refine⟨k.keep p.1 _ h1 h2 f,h2,λq=>?_⟩;rcases k.new p.1 q with g|g
  ·exact f g
  ·have:=h.bld.wf.lt h1;omega,m⟩
def Bd.less{r b:Nat}{ks:List (Nat×Row)}{p:Nat×Row}{l:Ha}{v:AV}{H:Hp}(h:Bd r (p::ks) b l v H):Bd r ks b l v H:=⟨h.bld,λq hq=>h.ks q (List.mem_cons_of_mem _ hq),h.sz⟩
section
variable{r b:Nat}{ks:List (Nat×Row)}{l:Ha}{v:AV}{H:Hp}
def ZL(h:Bd r ks b l v H)(f:100<L)(hb:b<500000000)(zs:List Int)(g:zs.length<100)(hz:∀z∈zs, -10<=z/\z<200000)(j:∀c a,Bd r ks (b+50000) (l++GE zs) c a->K (.tup []) a=x):
 (r! L (n+10)).call Bt [.ptr r 0 0,.sl 1 (Ay H) 0 zs.length] ((Ay H,.cells false Fh (E7 zs))::H) K=x:=by
 have h1:=h.sz;have h2:=DX zs;have d:(E7 zs).length=zs.length:=by simp[E7]
 refine A1Z (n:=n) f g hz (by omega) h.bld.cons (.inr (.inr ⟨Ay H,false,Fh,by rw[d],Av (by simp),by have:=h.bld.lt;omega,λi=>by have:=h.bld.vlt i;omega⟩)) λc a e hk=>?_;exact j c a (h.step e ((Kp.cons h.bld.wf).trans h.bld.wf hk) (by rw[E6];omega))
def A6P(h:Bd r ks b l v H)(e:100<L)(hb:b<500000000)(zs:List Ha)(f:zs.length<100)(hz:∀z∈zs,z.length<390)(i:∀c a,Bd r ks (b+50000) (l++FU zs) c a->K (.tup []) a=x):
 (r! L (n+10)).call BM [.ptr r 0 0,.sl 1 (Ay H) 0 zs.length] ((Ay H,.cells false A0 (Bj zs))::H) K=x:=by
 have h1:=h.sz;have h2:=DW zs hz;refine rS (n:=n) e f hz (by omega) h.bld.cons (.inr (.inr ⟨Ay H,false,A0,by rw[Ef],Av (by simp),by have:=h.bld.lt;omega,λg=>by have:=h.bld.vlt g;omega⟩)) λc a d hk=>?_;exact i c a (h.step d ((Kp.cons h.bld.wf).trans h.bld.wf hk) (by rw[E6];omega))
def B5h(h:Bd r ks b l v H)(f:100<L)(hb:b<500000000)(zs:List Ha)(a:AV)(g:a=.list zs.length (Bj zs)\/(a=A7/\zs=[]))(i:zs.length<100)(hz:∀z∈zs,z.length<390)(j:∀d c,Bd r ks (b+50000) (l++FU zs) d c->K (.tup []) c=x):
 (r! L (n+10)).call BM [.ptr r 0 0,a] H K=x:=by
 have h1:=h.sz;have h2:=DW zs hz;refine rS (n:=n) f i hz (by omega) h.bld ?_ λd c e hk=>j d c (h.step e hk (by rw[E6];omega));rcases g with rfl|⟨rfl,rfl⟩
 ·exact .inl (by rw[Ef])
 ·exact .inr (.inl ⟨rfl,rfl⟩)
def uE(h:Bd r ks b l v H)(e:100<L)(hb:b<500000000)(rs:Rts)(i:rs.length<50)(hz:∀z∈rs,z.1.length<390/\z.2.length<390)(g:∀c a,Bd r ks (b+50000) (l++Oy rs) c a->K (.tup []) a=x):
 (r! L (n+11)).call Cb [.ptr r 0 0,.sl 2 (Ay H) 0 rs.length] ((Ay H,.cells false AU (rs.flatMap A_))::H) K=x:=by
 have h1:=h.sz;have h2:=LP rs hz;refine A40 (n:=n) e (by omega) hz (by omega) h.bld.cons (by have:=h.bld.lt;omega) (Av (by simp)) (λf=>by have:=h.bld.vlt f;omega) λc a d hk=>?_;exact g c a (h.step d ((Kp.cons h.bld.wf).trans h.bld.wf hk) (by rw[E6];omega))
theorem Bd.cons{y:Row}(h:Bd r ks b l v H):Bd r ks b l v ((Ay H,y)::H):=h.step h.bld.cons (Kp.cons h.bld.wf) h.sz
def B5W(h:Bld r l v H):(r! L (n+1)).call FI [.ptr r 0 0] H K=K (I l.length) H:=by
 rw[Qc];unfold HM GO;have a1:∀K:K2,CC 1 (.ptr r 0 0) K=K (.ptr r 1 0):=λK=>id rfl;rw[GQ,a1];have c:∀K,A9 A5 (.ptr r 1 0) H K=K v:=λK=>by
  obtain⟨_,_,a|a⟩:=h.at_<;>exact AH (p:=1) rfl a (by simp)
 rw[c,IX rfl h.sl]
def vJ(h:Bld r l v H)(u:0<l.length)(hb:l.length<1000000000):∃a,∀K,(r! L (n+1)).call D1 [.ptr r 0 0] H K=K (S l) a:=by
 rcases h.sl with⟨_,h1,_⟩|⟨s,q,rfl,t,hc⟩
 ·omega
 ·refine⟨upd H s .gone,λK=>?_⟩;rw[NR];unfold Gr GO;have a1:∀K:K2,CC 1 (.ptr r 0 0) K=K (.ptr r 1 0):=λK=>id rfl;have i:∀K,A9 A5 (.ptr r 1 0) H K=K (.sl 1 s 0 l.length):=λK=>by
   obtain⟨_,_,c|c⟩:=h.at_<;>exact AH (p:=1) rfl c (by simp)
  have j:∀K,A2T (.sl 1 s 0 l.length) K=K (.ptr s 0 0):=λK=>by
   have:A2T (.sl 1 s 0 l.length) K=ck (Nat.beq 1 1&&Nat.blt 0 l.length) (K (.ptr s 0 0)):=rfl;rw[this];have:(Nat.beq 1 1&&Nat.blt 0 l.length)=true:=by simp;omega
   rw[this];rfl
  have k:∀K,Bi A5 (.sl 1 s 0 l.length) K=K (I l.length):=λK=>id rfl;have m:∀K:KV,A01 AI (.ptr s 0 0) (I l.length) H K=K (S l) (upd H s .gone):=λK=>by
   have:A01 AI (.ptr s 0 0) (I l.length) H K=iN (l.length:Int) λn=>IZ H s λx=>KY x λE cs=>ck (Nat.beq E AI&&(Nat.blt 0 n&&Nat.blt n 9223372036854775807)) (Fb n (CL (Nat.add 0 0) cs) λd=>fu8 d λl=>XA5 H s .gone λa=>K (.v (.string ⟨⟨l⟩⟩)) a):=rfl;rw[this,KO,BO t];show ck (Nat.beq AI AI&&(Nat.blt 0 l.length&&Nat.blt l.length 9223372036854775807)) _=_;have g:(Nat.beq AI AI&&(Nat.blt 0 l.length&&Nat.blt l.length 9223372036854775807))=true:=by simp;omega
   rw[g];show Fb l.length (CL 0 (Ix l)) _=_;have f:∀(l:Ha)(K:Ha->Af),fu8 (Ix l) K=K l:=λl=>by
    induction l with
    |nil=>intro K;rfl
    |cons b l ih=>
     intro K;have e:fu8 (Ix (b::l)) K=iN (b.toNat:Int) λn=>fu8 (Ix l) λl=>K (UInt8.ofNat n::l):=rfl;rw[e,KO,ih];simp
   rw[Cs,MK _ _ _ (by rw[l1n,Nl];exact MZ _),l1n,l1z (by rw[Nl];exact MZ _),f,CX]
  simp only[GQ,B4,a1,i,j,k,m,BJ]
end
end
section
variable{H:Hp}
variable{L n:Nat}{K:KV}{x:Af}
def tmB(t:Int×Int):Ha:=GE [t.1]++Oy [(qn t.2,qd t.2)]
def Oh(ts:ZM):Ha:=(ts.map tmB).flatten
def oY(l:ZM){i:Nat}(h:i<l.length):Oh (l.take (i+1))=Oh (l.take i)++tmB l[i]:=by
 unfold Oh;rw[tE h,UT,List.flatten_append];simp only[Zm,List.map_nil,l18,List.flatten_nil,fV]
def V6{z:Int}:F4 Fh 1 Ab 1 [(0,1,I z)] H K=K (.sl 1 (Ay H) 0 1) ((Ay H,.cells false Fh (E7 [z]))::H):=by
 have e:F4 Fh 1 Ab 1 [(0,1,I z)] H K=GP H λs=>K (.sl 1 s 0 1) ((s,.cells false Fh (E7 [z]))::H):=rfl;rw[e,BQ]
def Yy{z:Ha}:F4 A0 1 Ag 1 [(0,1,S z)] H K=K (.sl 1 (Ay H) 0 1) ((Ay H,.cells false A0 (Bj [z]))::H):=by
 have e:F4 A0 1 Ag 1 [(0,1,S z)] H K=GP H λs=>K (.sl 1 s 0 1) ((s,.cells false A0 (Bj [z]))::H):=rfl;rw[e,BQ]
def uC{a b:Ha}:F4 AU 2 Au 1 [(0,2,.agg [S a,S b])] H K=K (.sl 2 (Ay H) 0 1) ((Ay H,.cells false AU (([(a,b)]:Rts).flatMap A_))::H):=by
 have e:F4 AU 2 Au 1 [(0,2,.agg [S a,S b])] H K=GP H λs=>K (.sl 2 s 0 1) ((s,.cells false AU (([(a,b)]:Rts).flatMap A_))::H):=rfl;rw[e,BQ]
def B8t{r c:Nat}{ks:List (Nat×Row)}{ts:ZM}{g:AV->KV}(P:TmsOk ts)(M:100<L){b:Nat}(hb:b<100000000){l:Ha}(hx:∀v' F,Bd r ks (b+100000*ts.length) (l++Oh ts) v' F->g (.ptr c 0 0) (.ptr r 0 0) F=x):∀(f i:Nat)(v:AV)(H:Hp),i<=ts.length->ts.length-i<f->Bd r ks (b+100000*i) (l++Oh (ts.take i)) v H->
 JP (L+20) (r! L (n+11)) K g f (.ptr c 0 0) (.ptr r 0 0) (Ek ts) (I ts.length) (I i) H=x:=by
 have N:=P.len;intro f
 induction f with
 |zero=>intro i v H _ h;omega
 |succ f ih=>
  intro i v H hi hf a;rw[TX];unfold JQ DV GI Aq;by_cases h:i<ts.length
  ·have hr:=P.rng _ (Na h);rw[FZ (by omega),Dg,Tr h,lTm,AW (cs:=[zI,zS,zS]) rfl];have u:=Av (H:=H) (x:=.cells true AM [zI,zS,zS]) (by simp);rw[Bx (vs:=Mh ts[i]) u rfl rfl rfl];have d:=A4 (q:=true) (e:=AM) (cs:=Mh ts[i]) u;have O:=a.bld.lt;have w:=(a.bld.cons (y:=.cells true AM [zI,zS,zS])).upd (s:=Ay H) (y:=.cells true AM (Mh ts[i])) (by omega) (λD=>by have:=a.bld.vlt D;omega);have j:Bd r ((Ay H,c_ AM (Mh ts[i]))::ks) (b+100000*i) (l++Oh (ts.take i)) v (upd ((Ay H,c_ AM [zI,zS,zS])::H) (Ay H) (c_ AM (Mh ts[i]))):=⟨w,λp B=>by
    rcases Rx.1 B with rfl|B
    ·exact⟨d,by simp only;omega,λD=>by have:=a.bld.vlt D;omega⟩
    ·obtain⟨p1,p2,p3⟩:=a.ks p B;have:=a.bld.wf.lt p1;exact⟨by rw[Aj (by omega)];exact AQ this p1,p2,p3⟩,a.sz⟩
   generalize upd ((Ay H,c_ AM [zI,zS,zS])::H) (Ay H) (c_ AM (Mh ts[i]))=Q at d j;generalize Ay H=t at d j;have Y:∀K:K2,CC 0 (.ptr t 0 0) K=K (.ptr t 0 0):=λK=>id rfl;have Z:∀K:K2,CC 1 (.ptr t 0 0) K=K (.ptr t 1 0):=λK=>id rfl;have m0:∀K,A9 Ab (.ptr t 0 0) Q K=K (I ts[i].1):=λK=>AH (p:=0) rfl d (show 0<3 by decide);rw[Y,m0,V6];refine ZL (n:=n+1) j M (by omega) [ts[i].1] (by simp) (by simp;omega) λv2 J k=>?_;have C:Ao J t=some (c_ AM (Mh ts[i])):=(k.ks (t,c_ AM (Mh ts[i])) (by simp)).1;have m1:∀K,A9 Au (.ptr t 1 0) J K=K (.agg (qa ts[i].2)):=λK=>EL (p:=1) rfl C (show 3<=3 from MZ _);rw[Z,m1,uC];have aa:=Ut (z:=ts[i].2) (by omega) (by omega);have ab:=Uv ts[i].2;refine uE (n:=n) k M (by omega) [(qn ts[i].2,qd ts[i].2)] (by simp) (by simp;omega) λv3 R A=>?_;rw[Dc (by omega)];have V:l++Oh (ts.take i)++GE [ts[i].1]++Oy [(qn ts[i].2,qd ts[i].2)]=l++Oh (ts.take (i+1)):=by
    rw[oY ts h];simp[tmB]
   have X:b+100000*i+50000+50000=b+100000*(i+1):=by omega
   have m:=A.less;rw[V,X]at m;exact ih (i+1) v3 R (by omega) (by omega) m
  ·rw[Ga (by omega),B6];have:i=ts.length:=by omega
   subst this;rw[mM]at a;exact hx v H a
end
section
variable{L n:Nat}
def RF(r:RD)(vd:Int):Ha:=GE [r.k]++Oy [(r.a1,r.a2),(r.b1,r.b2),(r.c1,r.c2),(r.d1,r.d2)]++GE [vd]
def KS(kd:Int)(m:ND)(un ca cb:Ha)(ts:ZM)(ra rb:Ha)(ps:List Ha)(pt:Ha)(tail:Ha):Ha:=
 []++GE [kd,m.lab,m.num,m.itm,m.tim,m.day]++FU [un]++Oy [(ca,cb)]++GE [(ts.length:Int)]++Oh ts++Oy [(ra,rb)]++GE [(ps.length:Int)]++FU ps++FU [pt]++tail
def A7M:PS (r! L (n+40)) Wj [.agg [I 0,A7,A7]] (.tup [S [],I 200]):=Bp (λH K=>by kernel_rfl) (by kernel_rfl)
def A7P:PS (r! L (n+40)) Nz [.agg [I 0,A7,A7]] (Bo true):=Bp (λH K=>by kernel_rfl) (by kernel_rfl)
def Gp(ps:List Ha):AV:=match ps with
 |[]=>A7
 |p::ps=>.list (p::ps).length (Bj (p::ps))
section
variable{m:ND}{u o:UD}{ca cb ra rb:Ha}{T P ins nds:AV}{kd id vd:Int}{r:RD}{c:Nat}{H:Hp}{K:K2}
abbrev IL(kd:Int)(m:ND)(u:UD)(ca cb:Ha)(T:AV)(ra rb:Ha)(P:AV)(id:Int)(ins nds:AV)(o:UD)(r:RD)(vd:Int):Row:=.cells true Ae (Dj kd m u ca cb T ra rb P id ins nds o r vd)
def PU(f:Sl T)(e:Sl P)(a:Sl ins)(d:Sl nds):(Dj kd m u ca cb T ra rb P id ins nds o r vd).all AV.one=true:=by
 rcases f with rfl|⟨_,_,rfl⟩<;>rcases e with rfl|⟨_,_,rfl⟩<;>rcases a with rfl|⟨_,_,rfl⟩<;>rcases d with rfl|⟨_,_,rfl⟩<;>rfl
def Tu(f:Sl T)(e:Sl P)(a:Sl ins)(d:Sl nds):Qi true depth [.agg (Dj kd m u ca cb T ra rb P id ins nds o r vd)] [.agg (Dj kd m u ca cb T ra rb P id ins nds o r vd)] H false:=by
 rcases f with rfl|⟨_,_,rfl⟩<;>rcases e with rfl|⟨_,_,rfl⟩<;>rcases a with rfl|⟨_,_,rfl⟩<;>rcases d with rfl|⟨_,_,rfl⟩<;>exact λK=>by kernel_rfl
def SC(a:Sl ins)(d:Sl nds):Qi true depth [.agg (Bn id ins nds o)] [.agg (Bn id ins nds o)] H false:=by
 rcases a with rfl|⟨_,_,rfl⟩<;>rcases d with rfl|⟨_,_,rfl⟩<;>exact λK=>by kernel_rfl
def cA(a:Ao H c=some (IL kd m u ca cb T ra rb P id ins nds o r vd)):A9 Ac (.ptr c 0 0) H K=K (.agg (Dj kd m u ca cb T ra rb P id ins nds o r vd)):=AR rfl rfl a
def cI0(a:Ao H c=some (IL kd m u ca cb T ra rb P id ins nds o r vd)):A9 Ab (.ptr c 0 0) H K=K (I kd):=AH (p:=0) rfl a (show 0<68 by decide)
def cI1(a:Ao H c=some (IL kd m u ca cb T ra rb P id ins nds o r vd)):A9 Ab (.ptr c 1 0) H K=K (I m.lab):=AH (p:=1) rfl a (show 1<68 by decide)
def cI2(a:Ao H c=some (IL kd m u ca cb T ra rb P id ins nds o r vd)):A9 Ab (.ptr c 2 0) H K=K (I m.num):=AH (p:=2) rfl a (show 2<68 by decide)
def cI3(a:Ao H c=some (IL kd m u ca cb T ra rb P id ins nds o r vd)):A9 Ab (.ptr c 3 0) H K=K (I m.itm):=AH (p:=3) rfl a (show 3<68 by decide)
def cI4(a:Ao H c=some (IL kd m u ca cb T ra rb P id ins nds o r vd)):A9 Ab (.ptr c 4 0) H K=K (I m.tim):=AH (p:=4) rfl a (show 4<68 by decide)
def cI5(a:Ao H c=some (IL kd m u ca cb T ra rb P id ins nds o r vd)):A9 Ab (.ptr c 5 0) H K=K (I m.day):=AH (p:=5) rfl a (show 5<68 by decide)
def cU(a:Ao H c=some (IL kd m u ca cb T ra rb P id ins nds o r vd)):A9 Ap (.ptr c 6 0) H K=K (.agg (BY u)):=EL (p:=6) rfl a (show 26<=68 by decide)
def cC(a:Ao H c=some (IL kd m u ca cb T ra rb P id ins nds o r vd)):A9 Au (.ptr c 26 0) H K=K (.agg ([S ca,S cb])):=EL (p:=26) rfl a (show 28<=68 by decide)
def cT(a:Ao H c=some (IL kd m u ca cb T ra rb P id ins nds o r vd)):A9 A8 (.ptr c 28 0) H K=K (T):=AH (p:=28) rfl a (show 28<68 by decide)
def cR(a:Ao H c=some (IL kd m u ca cb T ra rb P id ins nds o r vd)):A9 Au (.ptr c 29 0) H K=K (.agg ([S ra,S rb])):=EL (p:=29) rfl a (show 31<=68 by decide)
def cP(a:Ao H c=some (IL kd m u ca cb T ra rb P id ins nds o r vd)):A9 Ad (.ptr c 31 0) H K=K (P):=AH (p:=31) rfl a (show 31<68 by decide)
def cPr(a:Ao H c=some (IL kd m u ca cb T ra rb P id ins nds o r vd)):A9 AE (.ptr c 32 0) H K=K (.agg (Bn id ins nds o)):=EL (p:=32) rfl a (show 55<=68 by decide)
def cRk(a:Ao H c=some (IL kd m u ca cb T ra rb P id ins nds o r vd)):A9 Ab (.ptr c 55 0) H K=K (I r.k):=AH (p:=55) rfl a (show 55<68 by decide)
def cR1(a:Ao H c=some (IL kd m u ca cb T ra rb P id ins nds o r vd)):A9 Au (.ptr c 56 0) H K=K (.agg ([S r.a1,S r.a2])):=EL (p:=56) rfl a (show 58<=68 by decide)
def cR2(a:Ao H c=some (IL kd m u ca cb T ra rb P id ins nds o r vd)):A9 Au (.ptr c 58 0) H K=K (.agg ([S r.b1,S r.b2])):=EL (p:=58) rfl a (show 60<=68 by decide)
def cR3(a:Ao H c=some (IL kd m u ca cb T ra rb P id ins nds o r vd)):A9 Au (.ptr c 60 0) H K=K (.agg ([S r.c1,S r.c2])):=EL (p:=60) rfl a (show 62<=68 by decide)
def cR4(a:Ao H c=some (IL kd m u ca cb T ra rb P id ins nds o r vd)):A9 Au (.ptr c 62 0) H K=K (.agg ([S r.d1,S r.d2])):=EL (p:=62) rfl a (show 64<=68 by decide)
def cV(a:Ao H c=some (IL kd m u ca cb T ra rb P id ins nds o r vd)):A9 Ab (.ptr c 64 0) H K=K (I vd):=AH (p:=64) rfl a (show 64<68 by decide)
def cS(a:Ao H c=some (IL kd m u ca cb T ra rb P id ins nds o r vd)):A9 Nm (.ptr c 65 0) H K=K (.agg ([I 0,A7,A7])):=EL (p:=65) rfl a (show 68<=68 by decide)
def fA{c j k:Nat}:CC j (.ptr c k 0) K=K (.ptr c (k+j) 0):=by
 have e:CC j (.ptr c k 0) K=fN (Nat.add k j) λq=>K (.ptr c q 0):=rfl;rw[e,Ep];rfl
end
def Xl(ts:ZM)(h:∀t∈ts,(qn t.2).length<390/\(qd t.2).length<390):(Oh ts).length<=900*ts.length:=by
 induction ts with
 |nil=>simp[Oh]
 |cons t l ih=>
  have h1:=ih (λt d=>h t (by simp[d]));have h2:=DX [t.1];have a:=LP [(qn t.2,qd t.2)] (by simp;exact h t (by simp));simp only[Oh,Zm,l18,E6,Kg,Oc,tmB]at h1 h2 a⊢;omega
def Bd.tms0{r b:Nat}{ks:List (Nat×Row)}{l:Ha}{v:AV}{H:Hp}(ts:ZM)(h:Bd r ks b l v H):Bd r ks (b+100000*0) (l++Oh (ts.take 0)) v H:=by
 rw[show Oh (ts.take 0)=[] from rfl,fV];exact h
def B02(z:Int):0<(enc z).length:=by
 unfold enc Yi;split<;>simp
def B0d{a b c d e f:Int}{H:Hp}{K:KV}:F4 Fh 1 Ab 6 [(0,1,I a),(1,1,I b),(2,1,I c),(3,1,I d),(4,1,I e),(5,1,I f)] H K=K (.sl 1 (Ay H) 0 6) ((Ay H,.cells false Fh (E7 [a,b,c,d,e,f]))::H):=by
 have g:F4 Fh 1 Ab 6 [(0,1,I a),(1,1,I b),(2,1,I c),(3,1,I d),(4,1,I e),(5,1,I f)] H K=GP H λs=>K (.sl 1 s 0 6) ((s,.cells false Fh (E7 [a,b,c,d,e,f]))::H):=rfl;rw[g,BQ]
def B0c{a1 a2 b1 b2 c1 c2 d1 d2:Ha}{H:Hp}{K:KV}:F4 AU 2 Au 4 [(0,2,.agg [S a1,S a2]),(2,2,.agg [S b1,S b2]),(4,2,.agg [S c1,S c2]),(6,2,.agg [S d1,S d2])] H K=K (.sl 2 (Ay H) 0 4) ((Ay H,.cells false AU (([(a1,a2),(b1,b2),(c1,c2),(d1,d2)]:Rts).flatMap A_))::H):=by
 have g:F4 AU 2 Au 4 [(0,2,.agg [S a1,S a2]),(2,2,.agg [S b1,S b2]),(4,2,.agg [S c1,S c2]),(6,2,.agg [S d1,S d2])] H K=GP H λs=>K (.sl 2 s 0 4) ((s,.cells false AU (([(a1,a2),(b1,b2),(c1,c2),(d1,d2)]:Rts).flatMap A_))::H):=rfl;rw[g,BQ]
def Yn{ps:List Ha}{K:K2}:Bi Ad (Gp ps) K=K (I ps.length):=by cases ps<;>exact id rfl
section
variable{m:ND}{u o:UD}{ca cb ra rb un pt:Ha}{ts:ZM}{ps:List Ha}{ins nds:AV}{kd id vd pe:Int}{r:RD}
set_option maxHeartbeats 2000000 in
def J!(w:100<L)(hm:m.ok)(bj:kd=1\/kd=2\/kd=3)(ht:TmsOk ts)(hI:Sl ins)(hN:Sl nds)(hp:ps.length<=6)(ab:∀s∈ps,s.length<390)(ah:un.length<390)(ad:pt.length<390)(hr:r.k=0\/r.k=1\/r.k=2\/r.k=3)(ae:∀q∈[(r.a1,r.a2),(r.b1,r.b2),(r.c1,r.c2),(r.d1,r.d2)],q.1.length<390/\q.2.length<390)(hv:0<=vd/\vd<=3)(bh:ca.length<10/\cb.length<10/\ra.length<10/\rb.length<10)(ar:LS (r! L (n+61)) CZ [.agg (Dj kd m u ca cb (Ek ts) ra rb (Gp ps) id ins nds o r vd)] (Bo true))(ax:PS (r! L (n+61)) GR [.agg (BY u)] (.tup [S un,I 0]))(ap:LS (r! L (n+61)) EC [.agg (Bn id ins nds o)] (.tup [S pt,I pe])):
 CS (r! L (n+62)) KI [.agg (Dj kd m u ca cb (Ek ts) ra rb (Gp ps) id ins nds o r vd)] (.tup [S (KS kd m un ca cb ts ra rb ps pt (if kd=3 then RF r vd else[])),I 0]):=by
 intro K hK;obtain⟨q1,q2,q3,q4,q5,q6,q7,q8,q9,bm⟩:=hm;have hT:=Fq ts;have hP:Sl (Gp ps):=by cases ps with|nil=>exact .inl rfl|cons p l=>exact .inr ⟨_,_,rfl⟩
 have bk:=ht.len;rw[UP];unfold KD DV Qg B3 Aq EV;rw[EM (PU hT hP hI hN)];have f:=Av (H:=[]) (x:=IL kd m u ca cb (Ek ts) ra rb (Gp ps) id ins nds o r vd) (by simp);have w0:=Bw (x:=IL kd m u ca cb (Ek ts) ra rb (Gp ps) id ins nds o r vd) EH;generalize ((Ay [],IL kd m u ca cb (Ek ts) ra rb (Gp ps) id ins nds o r vd)::([]:Hp))=A at f w0;generalize Ay []=c at f;have af:∀K,Ak (r! L (n+61)) CZ [.agg (Dj kd m u ca cb (Ek ts) ra rb (Gp ps) id ins nds o r vd)] A K=K (Bo true):=λK=>by rw[zO];exact ar false _ _ (Tu hT hP hI hN) K
 rw[cA f,af,sK,B6];have f0:∀{j:Nat}{K:K2},CC j (.ptr c 0 0) K=K (.ptr c j 0):=λ{j K}=>by rw[fA,Le]
 rw[f0,cS f,A7M (n:=n+21),CO,CN,GY];simp only[show(!decide ((200:Int)=0))=true from rfl,gT,BJ,f0,cS f];simp only[A7P (L:=L) (n:=n+21) A,sK,BJ,WT];rw[B6,AW (cs:=[.v (.pointer none),zL]) rfl];have aq:=Av (H:=A) (x:=.cells true XA2 [.v (.pointer none),zL]) (by simp);have Z:=w0.lt f;have B:Bd (Ay A) [(c,IL kd m u ca cb (Ek ts) ra rb (Gp ps) id ins nds o r vd)] 0 [] A7 ((Ay A,c_ XA2 [.v (.pointer none),zL])::A):=
  ⟨⟨⟨_,.inl rfl,.inl aq⟩,.inl ⟨rfl,rfl,rfl⟩,λ⟨_,_,_,h⟩=>(by cases h),Bw w0⟩,λp hp=>by
   simp only[eX]at hp;subst hp;exact⟨AQ Z f,by simp only;omega,λ⟨_,_,_,h⟩=>(by cases h)⟩,MZ _⟩
 generalize ((Ay A,c_ XA2 [.v (.pointer none),zL])::A)=H1 at B;generalize Ay A=g at B;have d:∀{b l v H},Bd g [(c,IL kd m u ca cb (Ek ts) ra rb (Gp ps) id ins nds o r vd)] b l v H->Ao H c=some (IL kd m u ca cb (Ek ts) ra rb (Gp ps) id ins nds o r vd):=λh=>(h.ks (c,_) (eX.2 rfl)).1;have a:=d B;simp only[Ca];rw[cI0 a,cI1 a,cI2 a,cI3 a,cI4 a,cI5 a,B0d];refine ZL (n:=n+51) B w (by decide) [kd,m.lab,m.num,m.itm,m.tim,m.day] (by simp) (by simp only[Rx,List.mem_nil_iff,or_false];rintro z (rfl|rfl|rfl|rfl|rfl|rfl)<;>omega) λv2 H2 N=>?_;have a:=d N;rw[cU a,ax,CO,CN,Yy];refine A6P (n:=n+51) N w (by decide) [un] (by simp) (by simpa using ah) λv3 H3 O=>?_;have a:=d O;have g0:∀{K:K2},CC 0 (.ptr c 26 0) K=K (.ptr c 26 0):=r_ rfl;have g2:∀{K:K2},CC 2 (.ptr c 26 0) K=K (.ptr c 28 0):=r_ rfl;have g3:∀{K:K2},CC 3 (.ptr c 26 0) K=K (.ptr c 29 0):=r_ rfl;rw[g0,cC a,uC];refine uE (n:=n+50) O w (by decide) [(ca,cb)] (by simp) (by simp;omega) λv4 H4 Q=>?_;have a:=d Q;rw[g2,cT a,N9,V6];refine ZL (n:=n+51) Q w (by decide) [(ts.length:Int)] (by simp) (by simp;omega) λv5 H5 R=>?_;have a:=d R;rw[g2,cT a,N9];have e0:(AV.v (.int .i64 0))=I ((0:Nat):Int):=rfl;rw[e0];refine B8t (n:=n+50) (c:=c) ht w (b:=200000) (by decide) ?_ (L+20) 0 v5 H5 (by omega) (by omega) (R.tms0 ts);intro v6 H6 i;simp only[f0];have a:=d i;have ao:200000+100000*ts.length<=800000:=by omega
 have i:Bd g [(c,IL kd m u ca cb (Ek ts) ra rb (Gp ps) id ins nds o r vd)] 800000 _ v6 H6:=⟨i.bld,i.ks,WW i.sz ao⟩
 rw[g3,cR a,uC];refine uE (n:=n+50) i w (by decide) [(ra,rb)] (by simp) (by simp;omega) λv7 H7 V=>?_;have a:=d V;rw[cP a,Yn,V6];refine ZL (n:=n+51) V w (by decide) [(ps.length:Int)] (by simp) (by simp;omega) λv8 H8 X=>?_;have a:=d X;rw[cP a];refine B5h (n:=n+51) X w (by decide) ps (Gp ps) (by cases ps with|nil=>exact .inr ⟨rfl,rfl⟩|cons p l=>exact .inl rfl) (by omega) ab λv9 H9 Y=>?_;have a:=d Y;have ac:∀K,Ak (r! L (n+61)) EC [.agg (Bn id ins nds o)] H9 K=K (.tup [S pt,I pe]):=λK=>by rw[zO];exact ap false _ _ (SC hI hN) K
 rw[cPr a,ac,CO,CN,Yy];refine A6P (n:=n+51) Y w (by decide) [pt] (by simp) (by simpa using ad) λay ak y=>?_;have a:=d y;have aa:∀tail:Ha,tail.length<=5000->(KS kd m un ca cb ts ra rb ps pt tail).length<=32768/\0<(KS kd m un ca cb ts ra rb ps pt tail).length:=λtail ag=>by
  have a1:=DX [kd,m.lab,m.num,m.itm,m.tim,m.day];have a2:=DW [un] (by simpa using ah);have a3:=LP [(ca,cb)] (by simp;omega);have a4:=DX [(ts.length:Int)];have a5:=Xl ts (λt h=>by have:=ht.rng t h;have:=Ut (z:=t.2) (by omega) (by omega);have:=Uv t.2;omega);have a6:=LP [(ra,rb)] (by simp;omega);have a7:=DX [(ps.length:Int)];have a8:=DW ps ab;have a9:=DW [pt] (by simpa using ad);have bg:0<(GE [kd,m.lab,m.num,m.itm,m.tim,m.day]).length:=by
   have:=B02 kd;simp only[GE,Zm,l18,E6];omega
  simp only[Kg,Oc]at a1 a2 a3 a4 a6 a7 a9;simp only[KS,E6,Oc];omega
 have fin:∀(tail:Ha)(b:Nat)(v:AV)(H:Hp),tail.length<=5000->(if kd=3 then RF r vd else[])=tail->Bd g [(c,IL kd m u ca cb (Ek ts) ra rb (Gp ps) id ins nds o r vd)] b (KS kd m un ca cb ts ra rb ps pt tail) v H->
  (CC 0 (.ptr g 0 0) λba=>(r! L (n+61)).call FI [ba] H λbc J=>Al Ab .gtr bc (.v (.int .i64 32768)) λbd=>
   A1 bd (K (.tup [.v (.string ⟨⟨[]⟩⟩),.v (.int .i64 210)]) J) (CC 0 (.ptr g 0 0) λai=>(r! L (n+61)).call D1 [ai] J λaj F=>K (.tup [aj,.v (.int .i64 0)]) F))=some (.tup [S (KS kd m un ca cb ts ra rb ps pt (if kd=3 then RF r vd else[])),I 0],[]):=λtail b v H ag he hB=>by
  obtain⟨k1,k2⟩:=aa tail ag;have r0:∀{K:K2},CC 0 (.ptr g 0 0) K=K (.ptr g 0 0):=r_ rfl;rw[r0,B5W (n:=n+60) hB.bld,DE,Iy (by omega),B6,r0];obtain⟨H',e⟩:=vJ (L:=L) (n:=n+60) hB.bld k2 (by omega);rw[e,he];rw[he]at hK;exact hK _ _ (λb=>⟨false,λK=>by kernel_rfl⟩)
 rw[cI0 a,CP];by_cases h3:kd=3
 ·rw[Iz h3,Dg];have j0:∀{K:K2},CC 0 (.ptr c 55 0) K=K (.ptr c 55 0):=r_ rfl;have j1:∀{K:K2},CC 1 (.ptr c 55 0) K=K (.ptr c 56 0):=r_ rfl;have j3:∀{K:K2},CC 3 (.ptr c 55 0) K=K (.ptr c 58 0):=r_ rfl;have j5:∀{K:K2},CC 5 (.ptr c 55 0) K=K (.ptr c 60 0):=r_ rfl;have j7:∀{K:K2},CC 7 (.ptr c 55 0) K=K (.ptr c 62 0):=r_ rfl;rw[j0,cRk a,V6];refine ZL (n:=n+51) y w (by decide) [r.k] (by simp) (by simp;omega) λbn be C=>?_;have a:=d C;rw[j1,cR1 a,j3,cR2 a,j5,cR3 a,j7,cR4 a,B0c];refine uE (n:=n+50) C w (by decide) [(r.a1,r.a2),(r.b1,r.b2),(r.c1,r.c2),(r.d1,r.d2)] (by simp) ae λbo bf D=>?_;have a:=d D;rw[cV a,V6];refine ZL (n:=n+51) D w (by decide) [vd] (by simp) (by simp;omega) λaz am M=>?_;refine fin (RF r vd) (800000+50000+50000+50000+50000+50000+50000+50000) az am ?_ (by rw[CJ h3]) ?_
  ·have a1:=DX [r.k];have a2:=LP [(r.a1,r.a2),(r.b1,r.b2),(r.c1,r.c2),(r.d1,r.d2)] ae;have a3:=DX [vd];simp only[Kg,Oc]at a1 a2 a3;simp only[RF,E6];omega
  ·have:KS kd m un ca cb ts ra rb ps pt (RF r vd)=[]++GE [kd,m.lab,m.num,m.itm,m.tim,m.day]++FU [un]++Oy [(ca,cb)]++GE [(ts.length:Int)]++Oh ts++Oy [(ra,rb)]++GE [(ps.length:Int)]++FU ps++FU [pt]++GE [r.k]++Oy [(r.a1,r.a2),(r.b1,r.b2),(r.c1,r.c2),(r.d1,r.d2)]++GE [vd]:=by
    unfold KS RF;simp only[fW]
   rw[this];exact M
 ·rw[Iy h3,B6];refine fin [] (800000+50000+50000+50000+50000) ay ak (by simp) (by rw[Co h3]) ?_;have:KS kd m un ca cb ts ra rb ps pt []=[]++GE [kd,m.lab,m.num,m.itm,m.tim,m.day]++FU [un]++Oy [(ca,cb)]++GE [(ts.length:Int)]++Oh ts++Oy [(ra,rb)]++GE [(ps.length:Int)]++FU ps++FU [pt]:=by
   unfold KS;rw[fV]
  rw[this];exact y
end
end
section
variable{L n:Nat}
def B95{cs:Is}{b:Ha}(h:40000<L)(h1:cs.all AV.one=true)(hz:cs.length=68)(c:∀H,Qi true depth [.agg cs] [.agg cs] H false)(hb:b.length<=32768)(e:CS (r! L (n+62)) KI [.agg cs] (.tup [S b,I 0])):CS (r! L (n+63)) HP [.agg cs] (S (sha b)):=by
 intro K f;rw[W9];unfold MC GO;rw[EM h1];have a:=Av (H:=[]) (x:=.cells true Ae cs) (by simp);generalize ((Ay [],c_ Ae cs)::([]:Hp))=d at a;rw[AR rfl hz.symm a,AX e (c d),CO,CN,GY];show A1 (.v (.bool false)) _ _=_;rw[B6];have g:∀K,Ak (r! L (n+62)) Tp [S b] d K=K (S (sha b)):=λK=>AX (B6y (L:=L+20) (n:=n+54) (by omega) (by omega)) (Az (q:=false) (q':=false) Er Bq);rw[g];exact f _ _ (λb=>⟨false,λK=>by kernel_rfl⟩)
end
section
variable{nds:AV}{H:Hp}{i:Nat}
variable{L n:Nat}
structure Nd where
 op:Int
 (vn vd:Ha)
 u:UD
 (n l r:Int)
abbrev Nd.cs(x:Nd):Is:=[I x.op,S x.vn,S x.vd,I x.u.p0,I x.u.q0,I x.u.p1,I x.u.q1,I x.u.p2,I x.u.q2,I x.u.p3,I x.u.q3,I x.u.p4,I x.u.q4,I x.u.p5,I x.u.q5,I x.u.p6,I x.u.q6,S x.u.fn,S x.u.fd,S x.u.on,S x.u.od,I x.u.kd,I x.u.sc,I x.n,I x.l,I x.r]
def FN(k:Nat):Is:=BY (uu k)
abbrev Bz(ks:Hb):AV:=.list ks.length (ks.flatMap FN)
def xB(x:Nd):Is:=x.cs
abbrev BL(xs:List Nd):AV:=.list xs.length (xs.flatMap xB)
def NB{ks:Hb}{K:K2}:Bi Am (Bz ks) K=K (I ks.length):=id rfl
def RW{xs:List Nd}{K:K2}:Bi Ar (BL xs) K=K (I xs.length):=id rfl
def Yq{ks:Hb}{K:K2}(h:i<ks.length):Cy Am (Bz ks) (I i) K=K (.iptr (FN ks[i])):=ZE (f:=FN) rfl (λ_=>rfl) h
def gI{xs:List Nd}{K:K2}(h:i<xs.length):Cy Ar (BL xs) (I i) K=K (.iptr (xB xs[i])):=ZE (f:=xB) rfl (λ_=>rfl) h
def Yo{k:Nat}{K:K2}:A9 Ap (.iptr (FN k)) H K=K (.agg (BY (uu k))):=id rfl
def gG{x:Nd}{K:K2}:A9 AC (.iptr (xB x)) H K=K (.agg x.cs):=id rfl
abbrev G6(id:Int)(ins nds:AV)(o:UD):Row:=.cells true BK (Bn id ins nds o)
section
attribute [local irreducible] Ak rt dK eBi C? cnd Al Ts A1
def Vx{z c a:Int}(h1:c<=z)(h2:z<=a):PS (r! L (n+1)) C5 [I z,I c,I a] (Bo true):=by
 refine CS.ps (λK d=>?_) (λH=>λK=>by kernel_rfl);rewrite[Zb];unfold Pp q3N
 try rewrite[zO]
 try rewrite[bO]
 try rewrite[qO]
 try rewrite[cO]
 conv=>lhs;whnf
 rewrite[A1i h1]
 conv=>lhs;whnf
 rewrite[A1b h2]
 conv=>lhs;whnf
 exact d _ _ (λb=>⟨false,λK=>by kernel_rfl⟩)
end
section
variable{K:KV}{x:Af}{ks:Hb}{xs:List Nd}{id:Int}{o:UD}
def B3x{a:KV}{c:Nat}(hk:∀k∈ks,k<52)(hb:ks.length<100)(g:a (.ptr c 0 0) H=x)(e:Ao H c=some (G6 id (Bz ks) nds o)):∀(f i:Nat),i<=ks.length->ks.length-i<f->
 NH (L+20) (r! L (n+40)) K a f (.ptr c 0 0) (I i) H=x:=by
 intro f
 induction f with
 |zero=>intro i _ h;omega
 |succ f ih=>
  intro i m j;rw[Xu];unfold NI DV Sb GI Aq EV;have f1:∀K:K2,CC 1 (.ptr c 0 0) K=K (.ptr c 1 0):=λK=>r_ rfl;have d:∀K,A9 Am (.ptr c 1 0) H K=K (Bz ks):=λK=>AH (p:=1) rfl e (show 1<23 by decide);rw[f1,d,NB];by_cases h:i<ks.length
  ·rw[FZ (by omega),Dg,f1,d,Yq h,Yo,Pg _ _ _ (hk _ (Na h)),sK,B6,Dc (by omega)];exact ih (i+1) (by omega) (by omega)
  ·rw[Ga (by omega),B6];exact g
def Lq{ins nds:AV}(a:Sl ins)(c:Sl nds):(Bn id ins nds o).all AV.one=true:=by
 rcases a with rfl|⟨_,_,rfl⟩<;>rcases c with rfl|⟨_,_,rfl⟩<;>rfl
def A54(s:100<L)(hk:∀k∈ks,k<52)(hb:ks.length<=6)(hn:1<=xs.length)(g:xs.length<=40)(h1:1<=id)(h2:id<=1000000):CS (r! L (n+41)) XA4 [.agg (Bn id (Bz ks) (BL xs) o)] (.tup [Bo true,Bo true]):=by
 intro K f;rw[Zc];unfold Pq Sb B3 Aq EV;rw[EM (Lq (.inr ⟨_,_,rfl⟩) (.inr ⟨_,_,rfl⟩))];have a:=Av (H:=[]) (x:=G6 id (Bz ks) (BL xs) o) (by simp);generalize ((Ay [],G6 id (Bz ks) (BL xs) o)::([]:Hp))=d at a;generalize Ay []=c at a;simp only[Ca];refine B3x hk (by omega) ?_ a (L+20) 0 (by omega) (by omega);have e:∀{j:Nat}{K:K2},CC j (.ptr c 0 0) K=K (.ptr c j 0):=λ{j K}=>by rw[fA,Le]
 have h:∀{K},A9 Ab (.ptr c 0 0) d K=K (I id):=λ{K}=>AH (p:=0) rfl a (show 0<23 by decide);have m:∀{K},A9 Am (.ptr c 1 0) d K=K (Bz ks):=λ{K}=>AH (p:=1) rfl a (show 1<23 by decide);have q:∀{K},A9 Ar (.ptr c 2 0) d K=K (BL xs):=λ{K}=>AH (p:=2) rfl a (show 2<23 by decide);have w1:∀{K:K2},Ak (r! L (n+40)) C5 [I id,.v (.int .i64 1),.v (.int .i64 1000000)] d K=K (Bo true):=λ{K}=>Vx (n:=n+39) h1 h2 d K;have r:∀{K:K2},Ak (r! L (n+40)) C5 [I (xs.length:Int),.v (.int .i64 1),.v (.int .i64 40)] d K=K (Bo true):=λ{K}=>Vx (n:=n+39) (by omega) (by omega) d K;have q1:∀{K},Al Ab .leq (I (ks.length:Int)) (.v (.int .i64 6)) K=K (Bo true):=λ{K}=>by rw[Yt,Iz (by omega)]
 have q2:∀{K},Al Ab .gtr (I (xs.length:Int)) (.v (.int .i64 0)) K=K (Bo true):=λ{K}=>by rw[DE,Iz (by omega)]
 simp only[e,h,m,q,B4,BJ,gT,w1,r,NB,RW,q1,q2,WT];exact f _ _ (λb=>⟨false,λK=>by kernel_rfl⟩)
end
end
section
variable{x:Value}
variable{L n:Nat}
def U9:Value->Bool
 |.int _ _=>true
 |.string _=>true
 |.bool _=>true
 |.slice none 0 0=>true
 |_=>false
def pl:Nat->AV->Bool
 |_,.v x=>U9 x
 |d+1,.list _ cs=>cs.all (pl d)
 |d+1,.agg cs=>cs.all (pl d)
 |d+1,.tup cs=>cs.all (pl d)
 |_,_=>false
def A6e:∀l:Ha,Xi.eqbL l l=true:=by
 intro l
 induction l with
 |nil=>rfl
 |cons a l ih=>simp only[Xi.eqbL,ih,uT];exact tB _
def YH(h:U9 x=true):Xi x x=true:=by
 unfold U9 at h;split at h
 ·simp[Xi]
 ·exact A6e _
 ·simp[Xi]
 ·rfl
 ·cases h
def A3l{f:AV->AV->Bool}:∀l:Is,(∀a∈l,f a a=true)->mG f l l=true:=by
 intro l
 induction l with
 |nil=>intro _;rfl
 |cons a l ih=>intro h;simp only[mG,h a (by simp),ih λb hb=>h b (by simp[hb]),uT]
def zZ:∀(d:Nat)(a:AV),pl d a=true->oN d a a=true:=by
 intro d
 induction d with
 |zero=>intro a h;cases a<;>first|exact YH h|cases h
 |succ d ih=>
  intro a h;cases a<;>first
   |exact YH h
   |(simp only[pl,Gb]at h;simp only[oN,tB,xR];exact A3l _ λb hb=>ih b (h b hb))
   |cases h
def A3m{a:AV}(h:pl 6 a=true):fJ a a=true:=by
 cases a<;>first|exact YH h|exact zZ 6 _ h|cases h
def Pj{v:AV}{H:Hp}{K:Af}(h:pl 6 v=true):Qm (AN (some (v,H)) v) K=K:=by
 show Qm (some (.v (.bool (fJ v v)),[])) K=K;rw[A3m h];rfl
def A2G(h:U9 x=true)(a:x≠.slice none 0 0):XX x x=some true:=by
 unfold U9 at h;split at h
 ·show(match decide (_=_) with|true=>some (tH _ _)|false=>none)=_;rw[Iz rfl,JN,Iz rfl]
 ·show some (yO _ _)=_;rw[LO];simp
 ·show some (_==_)=_;simp
 ·exact absurd rfl a
 ·cases h
def zY:∀xs:Hx,(∀x∈xs,U9 x=true/\x≠.slice none 0 0)->Vk xs xs=some true:=by
 intro xs
 induction xs with
 |nil=>intro _;rfl
 |cons x xs ih=>
  intro h;have e:Vk (x::xs) (x::xs)=(match XX x x with
   |some b=>(match Vk xs xs with|some c=>some (b&&c)|none=>none)
   |none=>none):=rfl
  rw[e,A2G (h x (by simp)).1 (h x (by simp)).2,ih λy a=>h y (by simp[a])];rfl
def B8a{x:Nd}{K:K2}:Ts Jr .eql (.agg x.cs) (.agg x.cs) K=K (Bo true):=by
 have e:∀(xs:Hx),Vk xs xs=some true->∀K:K2,(match(generalizing:=false) Vk xs xs,BinOp.eql with
  |some q,.eql=>bB q K
  |some q,.neq=>bB (!q) K
  |_,_=>(none:Af))=K (Bo true):=λxs h K=>by rw[h];rfl
 exact e [.int .i64 x.op,.string ⟨⟨x.vn⟩⟩,.string ⟨⟨x.vd⟩⟩,.int .i64 x.u.p0,.int .i64 x.u.q0,.int .i64 x.u.p1,.int .i64 x.u.q1,.int .i64 x.u.p2,.int .i64 x.u.q2,.int .i64 x.u.p3,.int .i64 x.u.q3,.int .i64 x.u.p4,.int .i64 x.u.q4,.int .i64 x.u.p5,.int .i64 x.u.q5,.int .i64 x.u.p6,.int .i64 x.u.q6,
  .string ⟨⟨x.u.fn⟩⟩,.string ⟨⟨x.u.fd⟩⟩,.string ⟨⟨x.u.on⟩⟩,.string ⟨⟨x.u.od⟩⟩,.int .i64 x.u.kd,.int .i64 x.u.sc,.int .i64 x.n,.int .i64 x.l,.int .i64 x.r]
  (zY _ (by simp[U9])) K
end
section
variable{at_:Int}
variable{L n:Nat}
def VR(i:Nat):Nd:=⟨2,[],[],u0,i,0,0⟩
abbrev Jb:Is:=[zI,zS,zS,zI,zI,zI,zI,zI,zI,zI,zI,zI,zI,zI,zI,zI,zI,zS,zS,zS,zS,zI,zI,zI,zI,zI]
abbrev Ey:Is:=[zI,zI,zI,zI,zI,zI,zI,zI,zI,zI,zI,zI,zI,zI,zS,zS,zS,zS,zI,zI]
abbrev TF(x:Nd):Row:=.cells true AF x.cs
section
variable{K:KV}{x:Af}{ks:Hb}{xs:List Nd}{id:Int}{o:UD}{i:Nat}
def S!{x:Nd}:x.cs.all AV.one=true:=rfl
def qD{t:TI}{a:Int}{K:K2}:Al t .eql (I a) (.v (.int .i64 a)) K=K (Bo true):=by rw[CP,Iz rfl]
def wJ(hb:ks.length<=6)(hi:i<ks.length):CS (r! L (n+2)) DS [.agg (Bn id (Bz ks) (BL xs) o),.agg (VR i).cs,I at_] (.tup [Bo true,Bo false]):=by
 intro K P;rw[RM];unfold Lw DV Qg B3 Aq JR EV;rw[EM (Lq (.inr ⟨_,_,rfl⟩) (.inr ⟨_,_,rfl⟩))];have g:=Av (H:=[]) (x:=G6 id (Bz ks) (BL xs) o) (by simp);have w0:=Bw (x:=G6 id (Bz ks) (BL xs) o) EH;generalize ((Ay [],G6 id (Bz ks) (BL xs) o)::([]:Hp))=t at g w0;generalize Ay []=p at g;rw[EM S!];have c:=Av (H:=t) (x:=TF (VR i)) (by simp);have k:Ao ((Ay t,TF (VR i))::t) p=some (G6 id (Bz ks) (BL xs) o):=AQ (w0.lt g) g;have w1:=Bw (x:=TF (VR i)) w0;generalize ((Ay t,TF (VR i))::t)=a at c k w1;generalize Ay t=r at c;have A:∀{s j:Nat}{K:K2},CC j (.ptr s 0 0) K=K (.ptr s j 0):=λ{s j K}=>by rw[fA,Le]
 have Q:∀{K},A9 Ab (.ptr r 0 0) a K=K (I 2):=λ{K}=>AH (p:=0) rfl c (show 0<26 by decide);have b0:∀{K:K2},Ch AC [(0,1,I 2)] K=K (.agg (I 2::Jb.tail)):=λ{K}=>r_ rfl;rw[A,Q,b0,AW (cs:=Jb) rfl];have hm:=Av (H:=a) (x:=.cells true AF Jb) (by simp);rw[Bx (vs:=I 2::Jb.tail) hm rfl rfl rfl];have d:=A4 (q:=true) (e:=AF) (cs:=I 2::Jb.tail) hm;have w2:=BF (r:=Ay a) (y:=.cells true AF (I 2::Jb.tail)) (Bw (x:=.cells true AF Jb) w1);have Z:=w1.lt c;have O:=w1.lt k;have f:Ao (upd ((Ay a,c_ AF Jb)::a) (Ay a) (c_ AF (I 2::Jb.tail))) r=some (TF (VR i)):=by
  rw[Aj (by omega)];exact AQ Z c
 have F:Ao (upd ((Ay a,c_ AF Jb)::a) (Ay a) (c_ AF (I 2::Jb.tail))) p=some (G6 id (Bz ks) (BL xs) o):=by
  rw[Aj (by omega)];exact AQ O k
 generalize upd ((Ay a,c_ AF Jb)::a) (Ay a) (c_ AF (I 2::Jb.tail))=w at d w2 f F;have D:Ay a≠r:=by omega
 have C:Ay a≠p:=by omega
 generalize Ay a=m at d D C
 try simp only[Ca]
 have V:∀{K},A9 Ab (.ptr r 0 0) w K=K (I 2):=λ{K}=>AH (p:=0) rfl f (show 0<26 by decide);have N:∀{K},A9 Ab (.ptr r 23 0) w K=K (I i):=λ{K}=>AH (p:=23) rfl f (show 23<26 by decide);rw[A,V,CP,Iy (by decide),B6,qD,Dg,A,N,A];rw[D9 (v:=I i) d (show 23<26 by decide) rfl rfl rfl];have B:=A4 (q:=true) (e:=AF) (cs:=(I 2::Jb.tail).set 23 (I i)) d;have h:Ao (upd w m (c_ AF ((I 2::Jb.tail).set 23 (I i)))) r=some (TF (VR i)):=by
  rw[Aj (Ne.symm D)];exact f
 have J:Ao (upd w m (c_ AF ((I 2::Jb.tail).set 23 (I i)))) p=some (G6 id (Bz ks) (BL xs) o):=by
  rw[Aj (Ne.symm C)];exact F
 generalize upd w m (c_ AF ((I 2::Jb.tail).set 23 (I i)))=u at B h J;have Y:∀{K},A9 AC (.ptr m 0 0) u K=K (.agg (VR i).cs):=λ{K}=>AR rfl rfl B;have X:∀{K},A9 AC (.ptr r 0 0) u K=K (.agg (VR i).cs):=λ{K}=>AR rfl rfl h;have M:∀{K},A9 Ab (.ptr r 23 0) u K=K (I i):=λ{K}=>AH (p:=23) rfl h (show 23<26 by decide);have R:∀{K},A9 Am (.ptr p 1 0) u K=K (Bz ks):=λ{K}=>AH (p:=1) rfl J (show 1<23 by decide);have sb:∀{K},Al Ab .sub (I (ks.length:Int)) (.v (.int .i64 1)) K=K (I ((ks.length:Int)-1)):=λ{K}=>by rw[Gx,BX (by omega) (by omega)]
 have wi:∀{K:K2},Ak (r! L (n+1)) C5 [I (i:Int),.v (.int .i64 0),I ((ks.length:Int)-1)] u K=K (Bo true):=λ{K}=>Vx (n:=n) (by omega) (by omega) u K;simp only[X,Y,B8a,gT,A,BJ,M,R,NB,sb,wi,WT];exact P _ _ (λb=>⟨false,λK=>by kernel_rfl⟩)
def DN{H:Hp}{e:Nat}{zs vs:Is}(w:Wf H)(hz:vs.length=zs.length):∃a,a=upd ((Ay H,c_ e zs)::H) (Ay H) (c_ e vs)/\Ao a (Ay H)=some (c_ e vs)/\Wf a/\(∀s x,Ao H s=some x->Ao a s=some x/\s≠Ay H):=by
 have hm:=Av (H:=H) (x:=.cells true e zs) (by simp);refine⟨_,rfl,A4 hm,BF (Bw w),λs x h=>?_⟩;have:=w.lt h;exact⟨by rw[Aj (by omega)];exact AQ this h,by omega⟩
def Vw(hb:ks.length<=6)(Z:i<ks.length){w:AV}:CS (r! L (n+3)) BW [.agg (Bn id (Bz ks) (BL xs) o),.agg (VR i).cs,I at_,w] (.tup [.agg (BY (uu ks[i])),I 0]):=by
 intro K hK;rw[Fv];unfold Fl q4N;rw[EM (Lq (.inr ⟨_,_,rfl⟩) (.inr ⟨_,_,rfl⟩))];have c:=Av (H:=[]) (x:=G6 id (Bz ks) (BL xs) o) (by simp);have w0:=Bw (x:=G6 id (Bz ks) (BL xs) o) EH;generalize ((Ay [],G6 id (Bz ks) (BL xs) o)::([]:Hp))=t at c w0;generalize Ay []=p at c;rw[EM S!];have a:=Av (H:=t) (x:=TF (VR i)) (by simp);have f:Ao ((Ay t,TF (VR i))::t) p=some (G6 id (Bz ks) (BL xs) o):=AQ (w0.lt c) c;have w1:=Bw (x:=TF (VR i)) w0;generalize ((Ay t,TF (VR i))::t)=C at a f w1;generalize Ay t=r at a;rw[AW (cs:=Ey) rfl];have h:=Av (H:=C) (x:=.cells true Ax Ey) (by simp);have d:=AQ (x:=.cells true Ax Ey) (w1.lt a) a;have g:=AQ (x:=.cells true Ax Ey) (w1.lt f) f;have w2:=Bw (x:=.cells true Ax Ey) w1;generalize ((Ay C,c_ Ax Ey)::C)=D at h d g w2;generalize Ay C=q at h;have lp:∀{K},A9 AE (.ptr p 0 0) D K=K (.agg (Bn id (Bz ks) (BL xs) o)):=λ{K}=>AR rfl rfl g;have ln:∀{K},A9 AC (.ptr r 0 0) D K=K (.agg (VR i).cs):=λ{K}=>AR rfl rfl d;have fx:Qi true depth [.agg (Bn id (Bz ks) (BL xs) o),.agg (VR i).cs,I at_] [.agg (Bn id (Bz ks) (BL xs) o),.agg (VR i).cs,I at_] D false:=λK=>by kernel_rfl
 have sh:∀{K:K2},Ak (r! L (n+2)) DS [.agg (Bn id (Bz ks) (BL xs) o),.agg (VR i).cs,I at_] D K=K (.tup [Bo true,Bo false]):=λ{K}=>AX (wJ hb Z) fx;have Y:∀{K:K2},Ch Ap [] K=K (.agg Ey):=λ{K}=>r_ rfl;rw[lp,ln,sh,CO,CN,sK,B6,Y,AW (cs:=Ey) rfl];rw[Bx (vs:=Ey) (Av (by simp)) rfl rfl rfl];obtain⟨H3,e3, -,w3,J⟩:=DN (e:=Ax) (zs:=Ey) (vs:=Ey) w2 rfl;rw[<-e3,Y,AW (cs:=Ey) rfl,Bx (vs:=Ey) (Av (by simp)) rfl rfl rfl];obtain⟨X,e4, -,w4,M⟩:=DN (e:=Ax) (zs:=Ey) (vs:=Ey) w3 rfl;rw[<-e4]
 try simp only[Ca]
 have F:∀{s j:Nat}{K:K2},CC j (.ptr s 0 0) K=K (.ptr s j 0):=λ{s j K}=>by rw[fA,Le]
 have y:=(M _ _ (J _ _ d).1).1;have O:=(M _ _ (J _ _ g).1).1;have Q:=(M _ _ (J _ _ h).1).1;have lu:∀{K},A9 Ap (.ptr r 3 0) X K=K (.agg Ey):=λ{K}=>EL (p:=3) rfl y (show 23<=26 by decide);rw[B6,F,lu,AW (cs:=Ey) rfl,Bx (vs:=Ey) (Av (by simp)) rfl rfl rfl];obtain⟨u,e5,m,w5,N⟩:=DN (e:=Ax) (zs:=Ey) (vs:=Ey) w4 rfl;rw[<-e5];obtain⟨A,nr⟩:=N _ _ y;obtain⟨P,np⟩:=N _ _ O;obtain⟨R,nq⟩:=N _ _ Q;generalize Ay X=v at m nr np nq;have l0:∀{K},A9 Ab (.ptr r 0 0) u K=K (I 2):=λ{K}=>AH (p:=0) rfl A (show 0<26 by decide);have V:∀{K},A9 Ab (.ptr r 23 0) u K=K (I i):=λ{K}=>AH (p:=23) rfl A (show 23<26 by decide);have l1:∀{K},A9 Am (.ptr p 1 0) u K=K (Bz ks):=λ{K}=>AH (p:=1) rfl P (show 1<23 by decide);rw[F,l0,qD,Dg,F,l1,F,V,Yq Z,Yo,Bx (vs:=BY (uu ks[i])) m rfl rfl rfl];have B:=A4 (q:=true) (e:=Ax) (cs:=BY (uu ks[i])) m;have k:Ao (upd u v (c_ Ax (BY (uu ks[i])))) q=some (c_ Ax Ey):=by rw[Aj nq];exact R
 generalize upd u v (c_ Ax (BY (uu ks[i])))=H6 at B k;rw[GY];show A1 (.v (.bool false)) _ _=_;rw[B6,AR rfl rfl B,Bx (vs:=BY (uu ks[i])) k rfl rfl rfl,AR rfl rfl (A4 k)];exact hK _ _ (λb=>⟨false,λK=>by kernel_rfl⟩)
end
end
section
variable{v:AV}{H:Hp}
variable{L n:Nat}
def A3d{k:Nat}{K:KV}:F4 Ax 20 Ap 1 [(0,20,.agg (BY (uu k)))] H K=K (.sl 20 (Ay H) 0 1) ((Ay H,.cells false Ax (FN k))::H):=by
 have e:F4 Ax 20 Ap 1 [(0,20,.agg (BY (uu k)))] H K=GP H (λs=>K (.sl 20 s 0 1) ((s,.cells false Ax (FN k))::H)):=r_ rfl;rw[e,BQ]
def B8w{l:Hb}(k:Nat)(h:AT H Ax 20 v l.length (l.flatMap FN))(w:Wf H)(hn:l.length<100):
 ∃d a,(∀K:KV,(F4 Ax 20 Ap 1 [(0,20,.agg (BY (uu k)))] H λv1 i=>DJ Ax 20 Ap Am v v1 i K)=K d a)/\AT a Ax 20 d (l++[k]).length ((l++[k]).flatMap FN)/\Wf a/\Ay H<=Ay a/\(∀s x,Ao H s=some x->¬AD v s->Ao a s=some x)/\(∀s,AD d s->Ay H<=s):=by
 have g:AT ((Ay H,.cells false Ax (FN k))::H) Ax 20 v l.length (l.flatMap FN):=h.lat w (Lat.cons H _ (λ_=>False)) (λ_ _ h=>h);have c:AT ((Ay H,.cells false Ax (FN k))::H) Ax 20 (.sl 20 (Ay H) 0 1) 1 (FN k):=.inr ⟨Ay H,false,rfl,Av (by simp),by show 20=_;rfl⟩;obtain⟨d,a,h1,h2,j,m⟩:=apt (ie:=Ap) (i2:=Am) g (λK=>Oz (K:=K) c) rfl rfl (by decide) rfl rfl (by show(l.length+1)*192<=_;omega) (by omega);have e:=(Lat.cons H (.cells false Ax (FN k)) (AD v)).trans m (R:=AD v) (λ_ _ h=>h) (λ_ _ h=>h);refine⟨d,a,λK=>?_,by rw[E6,l2g];simpa using h2,e.wf w,e.nx,λs x f hn=>e.keep w s x f hn,λs f=>?_⟩
 ·rw[A3d];exact h1 K
 ·rw[j s f];exact l1p _
def B7p(k:Nat):Hx:=[.int .i64 (uu k).p0,.int .i64 (uu k).q0,.int .i64 (uu k).p1,.int .i64 (uu k).q1,.int .i64 (uu k).p2,.int .i64 (uu k).q2,.int .i64 (uu k).p3,.int .i64 (uu k).q3,.int .i64 (uu k).p4,.int .i64 (uu k).q4,.int .i64 (uu k).p5,.int .i64 (uu k).q5,.int .i64 (uu k).p6,.int .i64 (uu k).q6,
 .string ⟨⟨(uu k).fn⟩⟩,.string ⟨⟨(uu k).fd⟩⟩,.string ⟨⟨(uu k).on⟩⟩,.string ⟨⟨(uu k).od⟩⟩,.int .i64 (uu k).kd,.int .i64 (uu k).sc]
def B4m(k:Nat):FN k=(B7p k).map λx=>.v x:=rfl
def B7o(l:Hb):l.flatMap FN=(l.flatMap B7p).map λx=>.v x:=by
 induction l with
 |nil=>rfl
 |cons k l ih=>rw[kL,kL,UT,ih,B4m]
def OE(l:Hb):AV:=match l with
 |[]=>A7
 |k::l=>.list (k::l).length ((k::l).flatMap FN)
def Zt{D:Nat}{b:Bool}{l:Hb}(h:AT H Ax 20 v l.length (l.flatMap FN))(d:l=[]->v=A7):∃q,Fx b (D+1) v (OE l) H q:=by
 rcases h with⟨rfl,h2,_⟩|⟨r,q,rfl,h2,c⟩
 ·cases l with
  |nil=>exact⟨false,Er⟩
  |cons a l=>simp at h2
 ·cases l with
  |nil=>have:=d rfl;cases this
  |cons a l=>
   refine⟨true,?_⟩;show Fx b (D+1) _ (.list (a::l).length ((a::l).flatMap FN)) H true;rw[B7o]at h2 c⊢;exact UW (q':=false) h2 c (JO _root_.id _)
def B0V{b:Bool}{l:Hb}(h:AT H Ax 20 v l.length (l.flatMap FN))(a:l=[]->v=A7):∃q,Fx b depth v (OE l) H q:=Zt (D:=depth-1) h a
end
section
variable{d:Nat}
variable{L n:Nat}
section
variable{K:KV}{x:Af}{ks ty:Hb}{xs:List Nd}{id:Int}{o:UD}
def RTy(L n:Nat)(id:Int)(ks:Hb)(xs:List Nd)(o:UD)(ty:Hb):Prop:=
 ∀i(h:i<xs.length),CS (r! L (n+42)) BW [.agg (Bn id (Bz ks) (BL xs) o),.agg xs[i].cs,I i,OE (ty.take i)] (.tup [.agg (BY (uu (ty.getD i 0))),I 0])
def B3Y:∀l:Hb,(l.flatMap FN).all (pl d)=true:=by
 intro l
 induction l with
 |nil=>rfl
 |cons a l ih=>rw[kL,List.all_append,ih];cases d<;>rfl
def B3X:∀l:List Nd,(l.flatMap xB).all (pl d)=true:=by
 intro l
 induction l with
 |nil=>rfl
 |cons a l ih=>rw[kL,List.all_append,ih];cases d<;>rfl
def A9e(l:Hb):pl (d+1) (Bz l)=true:=B3Y l
def A0Y(l:List Nd):pl (d+1) (BL l)=true:=B3X l
def A9d:pl 6 (.agg (Bn id (Bz ks) (BL xs) o))=true:=by
 show(pl 5 (I id)&&(pl 5 (Bz ks)&&(pl 5 (BL xs)&&true)))=true;rw[A9e,A0Y];rfl
def B3w{u:AV->KV}{p:Nat}(hT:RTy L n id ks xs o ty)(g:ty.length=xs.length)(hb:xs.length<100)(hx:∀v H,AT H Ax 20 v ty.length (ty.flatMap FN)->(ty=[]->v=A7)->Ao H p=some (G6 id (Bz ks) (BL xs) o)->u (.ptr p 0 0) v H=x):
 ∀(f i:Nat)(v:AV)(H:Hp),i<=xs.length->xs.length-i<f->AT H Ax 20 v (ty.take i).length ((ty.take i).flatMap FN)->(ty.take i=[]->v=A7)->¬AD v p->Ao H p=some (G6 id (Bz ks) (BL xs) o)->Wf H->
 OT (L+20) (r! L (n+42)) K u f (.ptr p 0 0) v (I i) H=x:=by
 intro f
 induction f with
 |zero=>intro i v H _ h;omega
 |succ f ih=>
  intro i v H hi hf a A hr c w;rw[YO];unfold OU DV Aq;have N:∀{s j:Nat}{K:K2},CC j (.ptr s 0 0) K=K (.ptr s j 0):=λ{s j K}=>by rw[fA,Le]
  have R:∀{K},A9 Ar (.ptr p 2 0) H K=K (BL xs):=λ{K}=>AH (p:=2) rfl c (show 2<23 by decide);have lp:∀{K},A9 AE (.ptr p 0 0) H K=K (.agg (Bn id (Bz ks) (BL xs) o)):=λ{K}=>AR rfl rfl c;rw[N,R,RW];by_cases h:i<xs.length
  ·have y:∀{H:Hp}(_:AT H Ax 20 v (ty.take i).length ((ty.take i).flatMap FN)){K:K2},Ak (r! L (n+42)) BW [.agg (Bn id (Bz ks) (BL xs) o),.agg xs[i].cs,I i,v] H K=K (.tup [.agg (BY (uu (ty.getD i 0))),I 0]):=λ{H}a{K}=>by
    obtain⟨q,hq⟩:=B0V (b:=true) a A;have a1:Fx true depth (.agg (Bn id (Bz ks) (BL xs) o)) (.agg (Bn id (Bz ks) (BL xs) o)) H false:=λK=>by kernel_rfl
    have a2:Fx true depth (.agg xs[i].cs) (.agg xs[i].cs) H false:=λK=>by kernel_rfl
    exact AX (hT i h) (Az a1 (Az a2 (Az (q:=false) Er (Az hq Bq))))
   rw[FZ (by omega),Dg];simp only[lp,B4,N,R,gI h,gG,y a,CO,CN];rw[AW (cs:=Ey) rfl,BJ];have hz:=Av (H:=H) (x:=.cells true Ax Ey) (by simp);rw[Bx (vs:=BY (uu (ty.getD i 0))) hz rfl rfl rfl,BJ];have k:=AQ (x:=.cells true Ax Ey) (w.lt c) c;have C:AT ((Ay H,c_ Ax Ey)::H) Ax 20 v (ty.take i).length ((ty.take i).flatMap FN):=a.lat w (Lat.cons H _ (λ_=>False)) (λ_ _ h=>h);obtain⟨X,Z,F,V,O⟩:=DN (e:=Ax) (zs:=Ey) (vs:=BY (uu (ty.getD i 0))) w rfl;rw[<-Z];have m:=(O _ _ c).1;have D:AT X Ax 20 v (ty.take i).length ((ty.take i).flatMap FN):=by
    rcases a with a|⟨r,q,h1,h2,h3⟩
    ·exact .inl a
    ·exact .inr ⟨r,q,h1,(O _ _ h2).1,h3⟩
   have M:∀{K},A9 AE (.ptr p 0 0) ((Ay H,c_ Ax Ey)::H) K=K (.agg (Bn id (Bz ks) (BL xs) o)):=λ{K}=>AR rfl rfl k;have J:∀{K},A9 Ar (.ptr p 2 0) ((Ay H,c_ Ax Ey)::H) K=K (BL xs):=λ{K}=>AH (p:=2) rfl k (show 2<23 by decide);rw[M,Pj A9d,J,Pj (A0Y xs),Pj (by rfl),y C,Pj (by rfl),GY];show A1 (.v (.bool false)) _ _=_;rw[B6,AR rfl rfl F];have Q:ty.take i++[ty.getD i 0]=ty.take (i+1):=by
    have P:i<ty.length:=by omega
    rw[tE P];simp[List.getD,II P]
   obtain⟨v',Y,e5,t,w5, -,keep,new⟩:=B8w (ty.getD i 0) D V (by rw[xS];omega);rw[e5,Dc (by omega)];rw[Q]at t;exact ih (i+1) v' Y (by omega) (by omega) t (λe=>by rw[<-Q]at e;simp at e) (λB=>by have:=new _ B;have:=V.lt m;omega) (keep _ _ m hr) w5
  ·rw[Ga (by omega),B6];have:i=xs.length:=by omega
   subst this;rw[<-g,mM]at a A;exact hx v H a A c
end
end
section
variable{L n:Nat}
def A0L{H:Hp}{v:AV}{l:Hb}{i:Nat}(h:AT H Ax 20 v l.length (l.flatMap FN))(d:i<l.length):∃a,(∀K:K2,Cy Am v (I i) K=K a)/\(∀K:K2,A9 Ap a H K=K (.agg (BY (uu l[i])))):=by
 rcases h with⟨_,h2,_⟩|⟨r,q,rfl,h2,c⟩
 ·omega
 ·refine⟨.ptr r (i*20) 0,λK=>?_,λK=>?_⟩
  ·have e:Cy Am (.sl 20 r 0 l.length) (I (i:Int)) K=iN (i:Int) λm=>ck (Nat.blt m l.length) (fN (Nat.add 0 (Nat.mul m 20)) λp=>K (.ptr r p 0)):=r_ rfl;rw[e,KO,Ep];have c:Nat.blt i l.length=true:=by rw[Ua];exact d
   rw[c];show K (.ptr r (0+i*20) 0)=_;rw[Le]
  ·rw[EL rfl h2 (by rw[c];show i*20+20<=_;omega)];have:((l.flatMap FN).drop (i*20)).take 20=FN l[i]:=lG FN 20 (λ_=>rfl) l i d;show K (.agg (((l.flatMap FN).drop (i*20)).take 20))=_;rw[this];rfl
def B89{u:UD}{K:K2}:Ts Jq .neq (.agg (BY u)) (.agg (BY u)) K=K (Bo false):=by
 have e:∀(xs:Hx),Vk xs xs=some true->∀K:K2,(match(generalizing:=false) Vk xs xs,BinOp.neq with
  |some q,.eql=>bB q K
  |some q,.neq=>bB (!q) K
  |_,_=>(none:Af))=K (Bo false):=λxs h K=>by rw[h];rfl
 exact e [.int .i64 u.p0,.int .i64 u.q0,.int .i64 u.p1,.int .i64 u.q1,.int .i64 u.p2,.int .i64 u.q2,.int .i64 u.p3,.int .i64 u.q3,.int .i64 u.p4,.int .i64 u.q4,.int .i64 u.p5,.int .i64 u.q5,.int .i64 u.p6,.int .i64 u.q6,
  .string ⟨⟨u.fn⟩⟩,.string ⟨⟨u.fd⟩⟩,.string ⟨⟨u.on⟩⟩,.string ⟨⟨u.od⟩⟩,.int .i64 u.kd,.int .i64 u.sc]
  (zY _ (by simp[U9])) K
section
variable{ks ty:Hb}{xs:List Nd}{id:Int}
def A97(B:100<L)(C:RTy L n id ks xs (uu (ty.getD (xs.length-1) 0)) ty)(d:ty.length=xs.length)(hk:∀k∈ks,k<52)(hb:ks.length<=6)(hn:1<=xs.length)(i:xs.length<=40)(h1:1<=id)(h2:id<=1000000):
 CS (r! L (n+43)) Rh [.agg (Bn id (Bz ks) (BL xs) (uu (ty.getD (xs.length-1) 0)))] (.tup [OE ty,I 0,I 0]):=by
 intro K A;rw[eI];unfold QU Sb Mf Aq;rw[EM (Lq (.inr ⟨_,_,rfl⟩) (.inr ⟨_,_,rfl⟩))];have c:=Av (H:=[]) (x:=G6 id (Bz ks) (BL xs) (uu (ty.getD (xs.length-1) 0))) (by simp);have w0:=Bw (x:=G6 id (Bz ks) (BL xs) (uu (ty.getD (xs.length-1) 0))) EH;generalize ((Ay [],G6 id (Bz ks) (BL xs) (uu (ty.getD (xs.length-1) 0)))::([]:Hp))=r at c w0;generalize Ay []=p at c;have t:∀{K:K2},Ak (r! L (n+42)) XA4 [.agg (Bn id (Bz ks) (BL xs) (uu (ty.getD (xs.length-1) 0)))] r K=K (.tup [Bo true,Bo true]):=λ{K}=>AX (A54 (n:=n+1) B hk hb hn i h1 h2) (SC (.inr ⟨_,_,rfl⟩) (.inr ⟨_,_,rfl⟩));rw[AR rfl rfl c,t,CO,CN,sK,B6];simp only[Ca];refine B3w C d (by omega) ?_ (L+20) 0 _ r (by omega) (by omega) (.inl ⟨rfl,rfl,rfl⟩) (λ_=>rfl) (λ⟨_,_,_,h⟩=>by cases h) c w0;intro v H m y J;have w:∀{s j:Nat}{K:K2},CC j (.ptr s 0 0) K=K (.ptr s j 0):=λ{s j K}=>by rw[fA,Le]
 have f:ty.length-1<ty.length:=by omega
 obtain⟨a,g,e⟩:=A0L m f;have F:∀{K},A9 Ap (.ptr p 3 0) H K=K (.agg (BY (uu (ty.getD (xs.length-1) 0)))):=λ{K}=>EL (p:=3) rfl J (show 23<=23 by decide);have u:ty[ty.length-1]=ty.getD (xs.length-1) 0:=by rw[<-d];simp[List.getD,II f]
 rw[u]at e;rw[IX rfl m,B4,ZQ (by omega) (by omega),B4,g,B4,e,B4,w,B4,F,B4,B89,B4,B6];exact A _ _ (λb=>by
  obtain⟨q,hq⟩:=Zt (D:=depth-2) (b:=b) m y;exact⟨_,Zu (D:=depth-1) (Az hq (Az (q:=false) Er (Az (q:=false) Er Bq)))⟩)
def A4Q(j:100<L)(m:RTy L n id ks xs (uu (ty.getD (xs.length-1) 0)) ty)(a:ty.length=xs.length)(hk:∀k∈ks,k<52)(hb:ks.length<=6)(hn:1<=xs.length)(d:xs.length<=40)(h1:1<=id)(h2:id<=1000000):
 CS (r! L (n+44)) Ev [.agg (Bn id (Bz ks) (BL xs) (uu (ty.getD (xs.length-1) 0)))] (Bo true):=by
 intro K i;rw[eG];unfold QS GO;rw[EM (Lq (.inr ⟨_,_,rfl⟩) (.inr ⟨_,_,rfl⟩))];have c:=Av (H:=[]) (x:=G6 id (Bz ks) (BL xs) (uu (ty.getD (xs.length-1) 0))) (by simp);generalize ((Ay [],G6 id (Bz ks) (BL xs) (uu (ty.getD (xs.length-1) 0)))::([]:Hp))=e at c;have ck:∀{K:K2},Ak (r! L (n+43)) Rh [.agg (Bn id (Bz ks) (BL xs) (uu (ty.getD (xs.length-1) 0)))] e K=K (.tup [OE ty,I 0,I 0]):=λ{K}=>AX (A97 j m a hk hb hn d h1 h2) (SC (.inr ⟨_,_,rfl⟩) (.inr ⟨_,_,rfl⟩));have h:∀{K:K2},Cg (.tup [OE ty,I 0,I 0]) 2 K=K (I 0):=λ{K}=>r_ rfl;have f:∀{K:K2},Cg (.tup [OE ty,I 0,I 0]) 0 K=K (OE ty):=λ{K}=>r_ rfl;have g:∀{K:K2},Cg (.tup [OE ty,I 0,I 0]) 1 K=K (I 0):=λ{K}=>r_ rfl;rw[AR rfl rfl c,ck,f,g,h,qD];exact i _ _ (λb=>⟨false,λK=>by kernel_rfl⟩)
end
end
section
variable{L n:Nat}
section
variable{ks:Hb}{xs:List Nd}{id:Int}{o:UD}
def Kh(ks:Hb):List Nd:=(List.range ks.length).map VR
def DB:(Kh ks).length=ks.length:=by simp[Kh]
def XZ{i:Nat}(h:i<(Kh ks).length):(Kh ks)[i]=VR i:=by simp[Kh]
def B3s(hb:ks.length<=6):RTy L n id ks (Kh ks) o ks:=by
 intro i h;rw[XZ h];have a:i<ks.length:=by rw[DB]at h;exact h
 have e:ks.getD i 0=ks[i]:=by simp[List.getD,II a]
 rw[e];exact Vw (n:=n+39) hb a
def fP{y:Nd}{k:Nat}(hb:ks.length<=6)(f:CS (r! L (n+42)) BW [.agg (Bn id (Bz ks) (BL (Kh ks++[y])) o),.agg y.cs,I ks.length,OE ks] (.tup [.agg (BY (uu k)),I 0])):
 RTy L n id ks (Kh ks++[y]) o (ks++[k]):=by
 intro i h;rw[E6,DB]at h;by_cases a:i<ks.length
 ·have e:(Kh ks++[y])[i]'(by rw[E6,DB];exact h)=VR i:=by
   rw[List.getElem_append_left (by rw[DB];exact a)];exact XZ _
  rw[e];have c:(ks++[k]).getD i 0=ks[i]:=by simp[List.getD,l0l a,II a]
  rw[c];exact Vw (n:=n+39) hb a
 ·have d:i=ks.length:=by simp at h;omega
  subst d;have e:(Kh ks++[y])[ks.length]'(by rw[E6,DB];exact h)=y:=by
   rw[List.getElem_append_right (by rw[DB];omega)];simp
  rw[e];have c:(ks++[k]).getD ks.length 0=k:=by simp[List.getD]
  rw[c,List.take_left']
  ·exact f
  ·rfl
end
end
section
def dg(k:Nat):Ha:=if k<10 then[UInt8.ofNat (48+k)] else if k<100 then[UInt8.ofNat (48+k/10),UInt8.ofNat (48+k%10)] else[UInt8.ofNat (48+k/100),UInt8.ofNat (48+k/10%10),UInt8.ofNat (48+k%10)]
variable(L n:Nat)
def B3S:((List.range 50).all λk=>(λi=>HU (AN (C8 (r! L (n+10)) B7 [I (i:Nat)]) (S (dg i)))) (k+0))=true:=by kernel_rfl
def B3R:((List.range 50).all λk=>(λi=>HU (AN (C8 (r! L (n+10)) B7 [I (i:Nat)]) (S (dg i)))) (k+50))=true:=by kernel_rfl
def B3Q:((List.range 50).all λk=>(λi=>HU (AN (C8 (r! L (n+10)) B7 [I (i:Nat)]) (S (dg i)))) (k+100))=true:=by kernel_rfl
def B3P:((List.range 50).all λk=>(λi=>HU (AN (C8 (r! L (n+10)) B7 [I (i:Nat)]) (S (dg i)))) (k+150))=true:=by kernel_rfl
def B3O:((List.range 50).all λk=>(λi=>HU (AN (C8 (r! L (n+10)) B7 [I (i:Nat)]) (S (dg i)))) (k+200))=true:=by kernel_rfl
def B3N:((List.range 50).all λk=>(λi=>HU (AN (C8 (r! L (n+10)) B7 [I (i:Nat)]) (S (dg i)))) (k+250))=true:=by kernel_rfl
def B3M:((List.range 50).all λk=>(λi=>HU (AN (C8 (r! L (n+10)) B7 [I (i:Nat)]) (S (dg i)))) (k+300))=true:=by kernel_rfl
def B3L:((List.range 50).all λk=>(λi=>HU (AN (C8 (r! L (n+10)) B7 [I (i:Nat)]) (S (dg i)))) (k+350))=true:=by kernel_rfl
def B3K:((List.range 50).all λk=>(λi=>HU (AN (C8 (r! L (n+10)) B7 [I (i:Nat)]) (S (dg i)))) (k+400))=true:=by kernel_rfl
def B3J:((List.range 50).all λk=>(λi=>HU (AN (C8 (r! L (n+10)) B7 [I (i:Nat)]) (S (dg i)))) (k+450))=true:=by kernel_rfl
def A96:((List.range 50).all λk=>(λi=>HU (AN (C8 (r! L (n+10)) B7 [I (i:Nat)]) (S (dg i)))) (k+500))=true:=by kernel_rfl
def A95:((List.range 50).all λk=>(λi=>HU (AN (C8 (r! L (n+10)) B7 [I (i:Nat)]) (S (dg i)))) (k+550))=true:=by kernel_rfl
def A94:((List.range 50).all λk=>(λi=>HU (AN (C8 (r! L (n+10)) B7 [I (i:Nat)]) (S (dg i)))) (k+600))=true:=by kernel_rfl
def A93:((List.range 50).all λk=>(λi=>HU (AN (C8 (r! L (n+10)) B7 [I (i:Nat)]) (S (dg i)))) (k+650))=true:=by kernel_rfl
def A92:((List.range 50).all λk=>(λi=>HU (AN (C8 (r! L (n+10)) B7 [I (i:Nat)]) (S (dg i)))) (k+700))=true:=by kernel_rfl
def A91:((List.range 50).all λk=>(λi=>HU (AN (C8 (r! L (n+10)) B7 [I (i:Nat)]) (S (dg i)))) (k+750))=true:=by kernel_rfl
def A90:((List.range 50).all λk=>(λi=>HU (AN (C8 (r! L (n+10)) B7 [I (i:Nat)]) (S (dg i)))) (k+800))=true:=by kernel_rfl
def A8Z:((List.range 50).all λk=>(λi=>HU (AN (C8 (r! L (n+10)) B7 [I (i:Nat)]) (S (dg i)))) (k+850))=true:=by kernel_rfl
def A8Y:((List.range 50).all λk=>(λi=>HU (AN (C8 (r! L (n+10)) B7 [I (i:Nat)]) (S (dg i)))) (k+900))=true:=by kernel_rfl
def B9d(i:Nat)(h:i<950):PS (r! L (n+10)) B7 [I (i:Nat)] (S (dg i)):=by
 refine Bp (λH=>by first|exact λK=>by kernel_rfl) ?_;by_cases q:i<50
 ·have:=Gb.1 (B3S L n) (i-0) (I2.2 (by omega));have e:i-0+0=i:=by omega
  simp only[e]at this;exact this
 by_cases h1:i<100
 ·have:=Gb.1 (B3R L n) (i-50) (I2.2 (by omega));have e:i-50+50=i:=by omega
  simp only[e]at this;exact this
 by_cases h2:i<150
 ·have:=Gb.1 (B3Q L n) (i-100) (I2.2 (by omega));have e:i-100+100=i:=by omega
  simp only[e]at this;exact this
 by_cases r:i<200
 ·have:=Gb.1 (B3P L n) (i-150) (I2.2 (by omega));have e:i-150+150=i:=by omega
  simp only[e]at this;exact this
 by_cases s:i<250
 ·have:=Gb.1 (B3O L n) (i-200) (I2.2 (by omega));have e:i-200+200=i:=by omega
  simp only[e]at this;exact this
 by_cases t:i<300
 ·have:=Gb.1 (B3N L n) (i-250) (I2.2 (by omega));have e:i-250+250=i:=by omega
  simp only[e]at this;exact this
 by_cases u:i<350
 ·have:=Gb.1 (B3M L n) (i-300) (I2.2 (by omega));have e:i-300+300=i:=by omega
  simp only[e]at this;exact this
 by_cases v:i<400
 ·have:=Gb.1 (B3L L n) (i-350) (I2.2 (by omega));have e:i-350+350=i:=by omega
  simp only[e]at this;exact this
 by_cases w:i<450
 ·have:=Gb.1 (B3K L n) (i-400) (I2.2 (by omega));have e:i-400+400=i:=by omega
  simp only[e]at this;exact this
 by_cases x:i<500
 ·have:=Gb.1 (B3J L n) (i-450) (I2.2 (by omega));have e:i-450+450=i:=by omega
  simp only[e]at this;exact this
 by_cases a:i<550
 ·have:=Gb.1 (A96 L n) (i-500) (I2.2 (by omega));have e:i-500+500=i:=by omega
  simp only[e]at this;exact this
 by_cases c:i<600
 ·have:=Gb.1 (A95 L n) (i-550) (I2.2 (by omega));have e:i-550+550=i:=by omega
  simp only[e]at this;exact this
 by_cases d:i<650
 ·have:=Gb.1 (A94 L n) (i-600) (I2.2 (by omega));have e:i-600+600=i:=by omega
  simp only[e]at this;exact this
 by_cases f:i<700
 ·have:=Gb.1 (A93 L n) (i-650) (I2.2 (by omega));have e:i-650+650=i:=by omega
  simp only[e]at this;exact this
 by_cases g:i<750
 ·have:=Gb.1 (A92 L n) (i-700) (I2.2 (by omega));have e:i-700+700=i:=by omega
  simp only[e]at this;exact this
 by_cases j:i<800
 ·have:=Gb.1 (A91 L n) (i-750) (I2.2 (by omega));have e:i-750+750=i:=by omega
  simp only[e]at this;exact this
 by_cases k:i<850
 ·have:=Gb.1 (A90 L n) (i-800) (I2.2 (by omega));have e:i-800+800=i:=by omega
  simp only[e]at this;exact this
 by_cases m:i<900
 ·have:=Gb.1 (A8Z L n) (i-850) (I2.2 (by omega));have e:i-850+850=i:=by omega
  simp only[e]at this;exact this
 by_cases p:i<950
 ·have:=Gb.1 (A8Y L n) (i-900) (I2.2 (by omega));have e:i-900+900=i:=by omega
  simp only[e]at this;exact this
 omega
end
section
variable(L n:Nat)
def B1G:((List.range 50).all λk=>(λi=>HU (AN (C8 (r! L (n+10)) Bu [I (i:Nat)]) (S (dg i)))) (k+0))=true:=by kernel_rfl
def B1F:((List.range 50).all λk=>(λi=>HU (AN (C8 (r! L (n+10)) Bu [I (i:Nat)]) (S (dg i)))) (k+50))=true:=by kernel_rfl
def B1E:((List.range 50).all λk=>(λi=>HU (AN (C8 (r! L (n+10)) Bu [I (i:Nat)]) (S (dg i)))) (k+100))=true:=by kernel_rfl
def B1D:((List.range 50).all λk=>(λi=>HU (AN (C8 (r! L (n+10)) Bu [I (i:Nat)]) (S (dg i)))) (k+150))=true:=by kernel_rfl
def B1C:((List.range 50).all λk=>(λi=>HU (AN (C8 (r! L (n+10)) Bu [I (i:Nat)]) (S (dg i)))) (k+200))=true:=by kernel_rfl
def B1B:((List.range 50).all λk=>(λi=>HU (AN (C8 (r! L (n+10)) Bu [I (i:Nat)]) (S (dg i)))) (k+250))=true:=by kernel_rfl
def B1A:((List.range 50).all λk=>(λi=>HU (AN (C8 (r! L (n+10)) Bu [I (i:Nat)]) (S (dg i)))) (k+300))=true:=by kernel_rfl
def B1z:((List.range 50).all λk=>(λi=>HU (AN (C8 (r! L (n+10)) Bu [I (i:Nat)]) (S (dg i)))) (k+350))=true:=by kernel_rfl
def B1y:((List.range 50).all λk=>(λi=>HU (AN (C8 (r! L (n+10)) Bu [I (i:Nat)]) (S (dg i)))) (k+400))=true:=by kernel_rfl
def B1x:((List.range 50).all λk=>(λi=>HU (AN (C8 (r! L (n+10)) Bu [I (i:Nat)]) (S (dg i)))) (k+450))=true:=by kernel_rfl
def A7Z:((List.range 50).all λk=>(λi=>HU (AN (C8 (r! L (n+10)) Bu [I (i:Nat)]) (S (dg i)))) (k+500))=true:=by kernel_rfl
def A7Y:((List.range 50).all λk=>(λi=>HU (AN (C8 (r! L (n+10)) Bu [I (i:Nat)]) (S (dg i)))) (k+550))=true:=by kernel_rfl
def A7X:((List.range 50).all λk=>(λi=>HU (AN (C8 (r! L (n+10)) Bu [I (i:Nat)]) (S (dg i)))) (k+600))=true:=by kernel_rfl
def A7W:((List.range 50).all λk=>(λi=>HU (AN (C8 (r! L (n+10)) Bu [I (i:Nat)]) (S (dg i)))) (k+650))=true:=by kernel_rfl
def A7V:((List.range 50).all λk=>(λi=>HU (AN (C8 (r! L (n+10)) Bu [I (i:Nat)]) (S (dg i)))) (k+700))=true:=by kernel_rfl
def A7U:((List.range 50).all λk=>(λi=>HU (AN (C8 (r! L (n+10)) Bu [I (i:Nat)]) (S (dg i)))) (k+750))=true:=by kernel_rfl
def A7T:((List.range 50).all λk=>(λi=>HU (AN (C8 (r! L (n+10)) Bu [I (i:Nat)]) (S (dg i)))) (k+800))=true:=by kernel_rfl
def A7S:((List.range 50).all λk=>(λi=>HU (AN (C8 (r! L (n+10)) Bu [I (i:Nat)]) (S (dg i)))) (k+850))=true:=by kernel_rfl
def A7R:((List.range 50).all λk=>(λi=>HU (AN (C8 (r! L (n+10)) Bu [I (i:Nat)]) (S (dg i)))) (k+900))=true:=by kernel_rfl
def B96(i:Nat)(h:i<950):PS (r! L (n+10)) Bu [I (i:Nat)] (S (dg i)):=by
 refine Bp (λH=>by first|exact λK=>by kernel_rfl) ?_;by_cases q:i<50
 ·have:=Gb.1 (B1G L n) (i-0) (I2.2 (by omega));have e:i-0+0=i:=by omega
  simp only[e]at this;exact this
 by_cases h1:i<100
 ·have:=Gb.1 (B1F L n) (i-50) (I2.2 (by omega));have e:i-50+50=i:=by omega
  simp only[e]at this;exact this
 by_cases h2:i<150
 ·have:=Gb.1 (B1E L n) (i-100) (I2.2 (by omega));have e:i-100+100=i:=by omega
  simp only[e]at this;exact this
 by_cases r:i<200
 ·have:=Gb.1 (B1D L n) (i-150) (I2.2 (by omega));have e:i-150+150=i:=by omega
  simp only[e]at this;exact this
 by_cases s:i<250
 ·have:=Gb.1 (B1C L n) (i-200) (I2.2 (by omega));have e:i-200+200=i:=by omega
  simp only[e]at this;exact this
 by_cases t:i<300
 ·have:=Gb.1 (B1B L n) (i-250) (I2.2 (by omega));have e:i-250+250=i:=by omega
  simp only[e]at this;exact this
 by_cases u:i<350
 ·have:=Gb.1 (B1A L n) (i-300) (I2.2 (by omega));have e:i-300+300=i:=by omega
  simp only[e]at this;exact this
 by_cases v:i<400
 ·have:=Gb.1 (B1z L n) (i-350) (I2.2 (by omega));have e:i-350+350=i:=by omega
  simp only[e]at this;exact this
 by_cases w:i<450
 ·have:=Gb.1 (B1y L n) (i-400) (I2.2 (by omega));have e:i-400+400=i:=by omega
  simp only[e]at this;exact this
 by_cases x:i<500
 ·have:=Gb.1 (B1x L n) (i-450) (I2.2 (by omega));have e:i-450+450=i:=by omega
  simp only[e]at this;exact this
 by_cases a:i<550
 ·have:=Gb.1 (A7Z L n) (i-500) (I2.2 (by omega));have e:i-500+500=i:=by omega
  simp only[e]at this;exact this
 by_cases c:i<600
 ·have:=Gb.1 (A7Y L n) (i-550) (I2.2 (by omega));have e:i-550+550=i:=by omega
  simp only[e]at this;exact this
 by_cases d:i<650
 ·have:=Gb.1 (A7X L n) (i-600) (I2.2 (by omega));have e:i-600+600=i:=by omega
  simp only[e]at this;exact this
 by_cases f:i<700
 ·have:=Gb.1 (A7W L n) (i-650) (I2.2 (by omega));have e:i-650+650=i:=by omega
  simp only[e]at this;exact this
 by_cases g:i<750
 ·have:=Gb.1 (A7V L n) (i-700) (I2.2 (by omega));have e:i-700+700=i:=by omega
  simp only[e]at this;exact this
 by_cases j:i<800
 ·have:=Gb.1 (A7U L n) (i-750) (I2.2 (by omega));have e:i-750+750=i:=by omega
  simp only[e]at this;exact this
 by_cases k:i<850
 ·have:=Gb.1 (A7T L n) (i-800) (I2.2 (by omega));have e:i-800+800=i:=by omega
  simp only[e]at this;exact this
 by_cases m:i<900
 ·have:=Gb.1 (A7S L n) (i-850) (I2.2 (by omega));have e:i-850+850=i:=by omega
  simp only[e]at this;exact this
 by_cases p:i<950
 ·have:=Gb.1 (A7R L n) (i-900) (I2.2 (by omega));have e:i-900+900=i:=by omega
  simp only[e]at this;exact this
 omega
end
section
def exN(j:Nat):Nd:=
 if j<3 then VR j
 else if j<39 then⟨(3+(j-3)/9:Nat),[],[],u0,0,((j-3)/3%3:Nat),((j-3)%3:Nat)⟩
 else⟨7,[],[],u0,ZA ((j-39)%5),((j-39)/5:Nat),0⟩
def EP:List Ha:=[[],[99,111,110,115,116],[105,110,112,117,116],[97,100,100],[115,117,98],[109,117,108],[100,105,118],[112,111,119],[115,113,114,116]]
def Z?(j:Nat):Ha:=
 if j<3 then EP.getD 2 []++[32]++dec j
 else if j<39 then EP.getD (3+(j-3)/9) []++[32]++dec ((j-3)/3%3:Nat)++[32]++dec ((j-3)%3:Nat)
 else EP.getD 7 []++[32]++dec ((j-39)/5:Nat)++[32]++dec (ZA ((j-39)%5))
variable(L n:Nat)
def A4Y:((List.range 54).all λi=>HU (AN (C8 (r! L (n+41)) GT [.agg (exN i).cs]) (S (Z? i))))=true:=by kernel_rfl
end
section
def frL:List (Ha×Ha):=[([45,54],[49]),
 ([45,51],[49]),
 ([45,50],[49]),
 ([45,51],[50]),
 ([45,53],[49]),
 ([45,53],[50]),
 ([45,53],[51]),
 ([45,53],[52]),
 ([45,52],[49]),
 ([45,52],[51]),
 ([45,49],[49]),
 ([45,51],[52]),
 ([45,50],[51]),
 ([45,49],[50]),
 ([45,49],[51]),
 ([45,49],[52]),
 ([48],[49]),
 ([49],[49]),
 ([49],[50]),
 ([49],[51]),
 ([49],[52]),
 ([50],[49]),
 ([50],[51]),
 ([51],[49]),
 ([51],[50]),
 ([51],[52]),
 ([52],[49]),
 ([52],[51]),
 ([53],[49]),
 ([53],[50]),
 ([53],[51]),
 ([53],[52]),
 ([54],[49])]
def frn(i:Nat):Ha:=(frL.getD i ([],[])).1
def frd(i:Nat):Ha:=(frL.getD i ([],[])).2
abbrev WY(i:Nat):Is:=[S (frn i),S (frd i)]
def frt(i:Nat):Ha:=if frd i=[49] then frn i else frn i++[47]++frd i
def B7R:List Hb:=[[0,1,2,3],[4,5,6,7],[8,2,9,10],[1,3,10,11],[2,10,12,13],[10,13,14,15],[16,16,16,16],[17,18,19,20],[21,17,22,18],[23,24,17,25],[26,21,27,17],[28,29,30,31],[32,23,21,24]]
def Zv(a b:Nat):Nat:=(B7R.getD a []).getD b 0
variable(L n:Nat)
def A53:((List.range 13).all λk=>(λi=>HU (AN (C8 (r! L (n+40)) EA [I (((i/4:Nat):Int)-6),I (1+((i%4:Nat):Int))]) (.tup [.agg (WY (Zv (i/4) (i%4))),I 0]))) (k+0))=true:=by kernel_rfl
def A52:((List.range 13).all λk=>(λi=>HU (AN (C8 (r! L (n+40)) EA [I (((i/4:Nat):Int)-6),I (1+((i%4:Nat):Int))]) (.tup [.agg (WY (Zv (i/4) (i%4))),I 0]))) (k+13))=true:=by kernel_rfl
def A51:((List.range 13).all λk=>(λi=>HU (AN (C8 (r! L (n+40)) EA [I (((i/4:Nat):Int)-6),I (1+((i%4:Nat):Int))]) (.tup [.agg (WY (Zv (i/4) (i%4))),I 0]))) (k+26))=true:=by kernel_rfl
def A50:((List.range 13).all λk=>(λi=>HU (AN (C8 (r! L (n+40)) EA [I (((i/4:Nat):Int)-6),I (1+((i%4:Nat):Int))]) (.tup [.agg (WY (Zv (i/4) (i%4))),I 0]))) (k+39))=true:=by kernel_rfl
def B3I(i:Nat)(h:i<52):PS (r! L (n+40)) EA [I (((i/4:Nat):Int)-6),I (1+((i%4:Nat):Int))] (.tup [.agg (WY (Zv (i/4) (i%4))),I 0]):=by
 refine Bp (λH=>by first|exact λK=>by kernel_rfl) ?_;by_cases a:i<13
 ·have:=Gb.1 (A53 L n) (i-0) (I2.2 (by omega));have e:i-0+0=i:=by omega
  simp only[e]at this;exact this
 by_cases h1:i<26
 ·have:=Gb.1 (A52 L n) (i-13) (I2.2 (by omega));have e:i-13+13=i:=by omega
  simp only[e]at this;exact this
 by_cases h2:i<39
 ·have:=Gb.1 (A51 L n) (i-26) (I2.2 (by omega));have e:i-26+26=i:=by omega
  simp only[e]at this;exact this
 by_cases c:i<52
 ·have:=Gb.1 (A50 L n) (i-39) (I2.2 (by omega));have e:i-39+39=i:=by omega
  simp only[e]at this;exact this
 ·omega
def wO:((List.range 11).all λk=>(λi=>HU (AN (C8 (r! L (n+40)) DU [.agg (WY i)]) (Bo true))) (k+0))=true:=by kernel_rfl
def wN:((List.range 11).all λk=>(λi=>HU (AN (C8 (r! L (n+40)) DU [.agg (WY i)]) (Bo true))) (k+11))=true:=by kernel_rfl
def wM:((List.range 11).all λk=>(λi=>HU (AN (C8 (r! L (n+40)) DU [.agg (WY i)]) (Bo true))) (k+22))=true:=by kernel_rfl
def A2m(i:Nat)(h:i<33):PS (r! L (n+40)) DU [.agg (WY i)] (Bo true):=by
 refine Bp (λH=>by first|exact λK=>by kernel_rfl) ?_;by_cases a:i<11
 ·have:=Gb.1 (wO L n) (i-0) (I2.2 (by omega));have e:i-0+0=i:=by omega
  simp only[e]at this;exact this
 by_cases h1:i<22
 ·have:=Gb.1 (wN L n) (i-11) (I2.2 (by omega));have e:i-11+11=i:=by omega
  simp only[e]at this;exact this
 by_cases h2:i<33
 ·have:=Gb.1 (wM L n) (i-22) (I2.2 (by omega));have e:i-22+22=i:=by omega
  simp only[e]at this;exact this
 ·omega
def wR:((List.range 11).all λk=>(λi=>HU (AN (C8 (r! L (n+40)) Km [.agg (WY i)]) (S (frt i)))) (k+0))=true:=by kernel_rfl
def wQ:((List.range 11).all λk=>(λi=>HU (AN (C8 (r! L (n+40)) Km [.agg (WY i)]) (S (frt i)))) (k+11))=true:=by kernel_rfl
def wP:((List.range 11).all λk=>(λi=>HU (AN (C8 (r! L (n+40)) Km [.agg (WY i)]) (S (frt i)))) (k+22))=true:=by kernel_rfl
def A2n(i:Nat)(h:i<33):PS (r! L (n+40)) Km [.agg (WY i)] (S (frt i)):=by
 refine Bp (λH=>by first|exact λK=>by kernel_rfl) ?_;by_cases a:i<11
 ·have:=Gb.1 (wR L n) (i-0) (I2.2 (by omega));have e:i-0+0=i:=by omega
  simp only[e]at this;exact this
 by_cases h1:i<22
 ·have:=Gb.1 (wQ L n) (i-11) (I2.2 (by omega));have e:i-11+11=i:=by omega
  simp only[e]at this;exact this
 by_cases h2:i<33
 ·have:=Gb.1 (wP L n) (i-22) (I2.2 (by omega));have e:i-22+22=i:=by omega
  simp only[e]at this;exact this
 ·omega
end
section
variable(L n:Nat)
def A45:((List.range 54).all λi=>HU (AN (C8 (r! L (n+41)) Eg [.agg (exN i).cs]) (S (Z? i))))=true:=by kernel_rfl
def cnN(i k:Nat):Nd:=⟨1,frn i,frd i,uu k,0,0,0⟩
def cnT(i k:Nat):Ha:=EP.getD 1 []++[32]++frt i++[32]++Jc k
end
end Go.Abs
end
noncomputable section
end
noncomputable section
namespace Go.Abs
open Go.RowKit Go.Proofs
set_option maxRecDepth 100000
section
variable{v:AV}{args:Is}{f:Nat}{R:Rt}
variable{L n:Nat}
def RV(R:Rt)(f:Nat)(args:Is)(v:AV):Prop:=∀b,(R.call f args [] λv d=>IG b d depth v λ_ e=>some (e,[]))=some (v,[])
def gN{args args':Is}{H:Hp}{q:Bool}{K:K2}(hc:RV R f args' v)(d:Qi true depth args args' H q):Ak R f args H K=K v:=by
 unfold Ak;rw[d];show Ai (R.call f args' [] _) K=K v;rw[hc (!q)];rfl
def CS.rv(h:CS R f args v):RV R f args v:=λb=>h _ λe d hv=>by
 obtain⟨q,hq⟩:=hv b;exact hq _
abbrev fnA(f:Nat):AV:=.fn (.func f) [] []
abbrev WU(w:Ha)(F:AV)(g:Nat):AV:=.agg [S w,F,fnA g]
abbrev dM:AV:=.list 2 [fnA MO,fnA Yf]
abbrev B3W:AV:=.list 2 [fnA MO,fnA PN]
abbrev B48:AV:=.list 1 [fnA PN]
abbrev UE:AV:=.imap [(.int .i64 1,WU (EP.getD 1 []) A7 CG),(.int .i64 2,WU (EP.getD 2 []) B48 Ej),
 (.int .i64 3,WU (EP.getD 3 []) dM DC),(.int .i64 4,WU (EP.getD 4 []) dM C6),
 (.int .i64 5,WU (EP.getD 5 []) dM CM),(.int .i64 6,WU (EP.getD 6 []) dM CF),
 (.int .i64 7,WU (EP.getD 7 []) B3W Ds),(.int .i64 8,WU (EP.getD 8 []) (.list 1 [fnA MO]) PP)]
def B0q:PS (r! L (n+1)) Ge [] UE:=Bp (λH K=>by kernel_rfl) (by kernel_rfl)
abbrev TW(I U:AV):AV:=.iptr [UE,I,U]
variable{I1:AV}{a b c i k:Nat}
end
section
variable{L n:Nat}
section
variable{H:Hp}{c:Nat}{v I1 F:AV}{l:Hb}{y:Nd}{w:Ha}{g k:Nat}
abbrev T9(I1 v:AV):Row:=.cells true V9 [UE,I1,v]
def B4x(hc:Ao H c=some (T9 I1 v))(h:AT H Ax 20 v l.length (l.flatMap FN))(e:l=[]->v=A7)(f:Sl I1):Fx true depth (.ptr c 0 0) (TW I1 (OE l)) H true:=by
 obtain⟨q,hq⟩:=Zt (D:=depth-2) (b:=true) h e;have a1:Fx true (depth-1) UE UE H false:=λK=>r_ rfl;have a2:Fx true (depth-1) I1 I1 H false:=by rcases f with rfl|⟨_,_,rfl⟩<;>exact λK=>r_ rfl
 have d:Qi true (depth-1) [UE,I1,v] [UE,I1,OE l] H (false||(false||(q||false))):=Az a1 (Az a2 (Az hq Bq));intro K;show IZ H c (λx=>KY x λ_ cs=>Hy (IG true H (depth-1)) (CL (Nat.add 0 0) cs) λ_ a=>K true (.iptr a))=_;rw[BO hc];show Hy (IG true H (depth-1)) (CL 0 [UE,I1,v]) (λ_ a=>K true (.iptr a))=_;rw[Cs,l1n,d]
def A0G{f m:Nat}{args:Is}{K:KV}(hn:(E (L+20)).ne f=false)(d:(E (L+20)).imp f=false)(hz:∀s,args≠[.ptr s 0 0]):Dk (E (L+20)) (rt (L+20) m) (fnA f) args H K=Ak (rt (L+20) m) f args H λv=>K v H:=by
 show Vb args [] (λa=>Vb [] a λall=>A2Q ((E (L+20)).ne f) all H K (@Bool.rec (λ_=>Af) (zpm (E (L+20)) f (rt (L+20) m) all H λv=>K v H) ((rt (L+20) m).call f all H K) ((E (L+20)).imp f)))=_;rw[Ki,Ki,hn,d,fV,l30];show zpm (E (L+20)) f (rt (L+20) m) args H (λv=>K v H)=_;rw[B1c hz]
def A5n{K:Af}(h:fJ v v=true):Qm (AN (some (v,H)) v) K=K:=by
 show Qm (some (.v (.bool (fJ v v)),[])) K=K;rw[h];rfl
def vY{e z n:Nat}{cs:Is}(h:AT H e z v n cs):fJ v v=true:=by
 rcases h with⟨rfl,_⟩|⟨r,q,rfl,_⟩
 ·rfl
 ·show(Nat.beq z z&&(Nat.beq r r&&(Nat.beq 0 0&&Nat.beq n n)))=true;simp
def A6z{K:K2}{t:TI}:Al t .eql (I 0) (.v (.int .i64 0)) K=K (Bo true):=by rw[CP,Iz rfl]
def B5Y(hc:Ao H c=some (T9 I1 v))(hs:AT H Ax 20 v l.length (l.flatMap FN))(h0:l=[]->v=A7)(hr:¬AD v c)(wf:Wf H)(hb:l.length<100)(hI:Sl I1)(hF:Sl F)(hk:∀H K,(oJ .i64 (I y.op) λq=>VU AY true UE q H K)=K (.tup [WU w F g,Bo true]))(ha:fJ (.tup [WU w F g,Bo true]) (.tup [WU w F g,Bo true])=true)(hn:(E (L+20)).ne g=false)(hi:(E (L+20)).imp g=false)(hh:RV (r! L (n+41)) Bv [TW I1 (OE l),WU w F g,.agg y.cs] (Bo true))(B:RV (r! L (n+41)) g [TW I1 (OE l),.agg y.cs] (.tup [.agg (BY (uu k)),I 0])):
 ∃f J,(∀K,(r! L (n+42)).call GD [.ptr c 0 0,.agg y.cs] H K=K (Bo true) J)/\Ao J c=some (T9 I1 f)/\AT J Ax 20 f (l++[k]).length ((l++[k]).flatMap FN)/\¬AD f c/\Wf J/\Ay H<=Ay J/\(∀s x,Ao H s=some x->s≠c->¬AD v s->Ao J s=some x)/\(∀s,AD f s->Ay H<=s):=by
 have i:=Av (H:=H) (x:=TF y) (by simp);have t:=AQ (x:=TF y) (wf.lt hc) hc;have w1:=Bw (x:=TF y) wf;have Y:AT ((Ay H,TF y)::H) Ax 20 v l.length (l.flatMap FN):=hs.lat wf (Lat.cons H _ (λ_=>False)) (λ_ _ h=>h);have ad:∀s x,Ao H s=some x->Ao ((Ay H,TF y)::H) s=some x:=λs x h=>AQ (wf.lt h) h;have n1:Ay H<=Ay ((Ay H,TF y)::H):=l1p _;have aj:∀s,AD v s->s<Ay H:=λs B=>by
  rcases hs with⟨rfl,_⟩|⟨r,q,rfl,h2,_⟩
  ·obtain⟨_,_,_,h⟩:=B;cases h
  ·obtain⟨_,_,_,h⟩:=B;cases h;exact wf.lt h2
 have ey:∀K:KV,HT AF (.agg y.cs) H K=K (.ptr (Ay H) 0 0) ((Ay H,TF y)::H):=λK=>EM S!;have yl:=wf.lt hc;generalize a4:((Ay H,TF y)::H)=d at i t w1 Y ad n1 ey;generalize a5:Ay H=r at i ey yl n1 aj;obtain⟨m,e2,X,w2,k2⟩:=DN (e:=BN) (zs:=[zS,zL,.v .nilFunc]) (vs:=[S w,F,fnA g]) w1 rfl;have ai:=Av (H:=d) (x:=.cells true BN [zS,zL,.v .nilFunc]) (by simp);have N:=AQ (x:=.cells true BN [zS,zL,.v .nilFunc]) (w1.lt t) t;have ac:=AQ (x:=.cells true BN [zS,zL,.v .nilFunc]) (w1.lt i) i;obtain⟨O,a6⟩:=k2 _ _ t;obtain⟨ao,a8⟩:=k2 _ _ i;have Z:AT m Ax 20 v l.length (l.flatMap FN):=by
  rcases Y with h|⟨r,q,h1,h2,h3⟩
  ·exact .inl h
  ·exact .inr ⟨r,q,h1,(k2 _ _ h2).1,h3⟩
 have n2:Ay d<=Ay m:=by rw[e2,CU];exact l1p _
 obtain⟨C,e3,ak,w3,k3⟩:=DN (e:=Ax) (zs:=Ey) (vs:=BY (uu k)) w2 rfl;obtain⟨A,a7⟩:=k3 _ _ O;have aa:AT C Ax 20 v l.length (l.flatMap FN):=by
  rcases Z with h|⟨r,q,h1,h2,h3⟩
  ·exact .inl h
  ·exact .inr ⟨r,q,h1,(k3 _ _ h2).1,h3⟩
 have n3:Ay m<=Ay C:=by rw[e3,CU];exact l1p _
 obtain⟨f,M,e4,ab,w4,n4,k4,ah⟩:=B8w k aa w3 hb;have Q:=k4 _ _ A hr;have R:¬AD f c:=λB=>by have:=ah c B;have:=w3.lt A;omega
 have D:Br f=[f]/\AV.one f=true:=by
  rcases ab with⟨rfl,_⟩|⟨a,b,rfl,_⟩<;>exact⟨rfl,rfl⟩
 refine⟨f,upd M c (T9 I1 f),λK=>?_,A4 Q,ab.lat w4 (Lat.upd M c _ (P:=λu=>u=c) rfl) (λu B e=>R (e▸B)),R,BF w4,by rw[CU];omega,λs x h h1 h2=>?_,λs B=>by have:=ah s B;omega⟩
 ·rw[Om];unfold GB DV EU Aq JR EV;rw[ey];have f0:∀{s j:Nat}{K:K2},CC j (.ptr s 0 0) K=K (.ptr s j 0):=λ{s j K}=>by rw[fA,Le]
  have lk1:∀{K},A9 CE (.ptr c 0 0) d K=K UE:=λ{K}=>AH (p:=0) rfl t (show 0<3 by decide);have ay:∀{K},A9 Ab (.ptr r 0 0) d K=K (I y.op):=λ{K}=>AH (p:=0) rfl i (show 0<26 by decide);have af:∀{K},A9 CE (.ptr c 0 0) ((Ay d,c_ BN [zS,zL,.v .nilFunc])::d) K=K UE:=λ{K}=>AH (p:=0) rfl N (show 0<3 by decide);have ag:∀{K},A9 Ab (.ptr r 0 0) ((Ay d,c_ BN [zS,zL,.v .nilFunc])::d) K=K (I y.op):=λ{K}=>AH (p:=0) rfl ac (show 0<26 by decide);have al:∀{K:KV},Bc BN AY d K=K (.ptr (Ay d) 0 0) ((Ay d,c_ BN [zS,zL,.v .nilFunc])::d):=λ{K}=>AW rfl;have st:∀{K:Ru},DD AY (.ptr (Ay d) 0 0) (WU w F g) ((Ay d,c_ BN [zS,zL,.v .nilFunc])::d) K=K m:=λ{K}=>by
   rw[e2];exact Bx (vs:=[S w,F,fnA g]) ai rfl rfl (by rcases hF with rfl|⟨_,_,rfl⟩<;>rfl)
  have o1:∀{K:Af}{H:Hp},Qm (AN (some (UE,H)) UE) K=K:=λ{K H}=>by kernel_rfl
  have o2:∀{K:Af}{H:Hp}{z:Int},Qm (AN (some (I z,H)) (I z)) K=K:=λ{K H z}=>Pj (by rfl);have o3:∀{K:Af}{H:Hp},Qm (AN (some (.tup [WU w F g,Bo true],H)) (.tup [WU w F g,Bo true])) K=K:=λ{K H}=>by
   show Qm (some (.v (.bool (fJ _ _)),[])) K=K;rw[ha];rfl
  simp only[GQ,B4,f0,lk1,ay,hk,CO,CN,al,BJ,st,af,ag,o1,o2,o3,sK];have ar:∀{K},A9 AY (.ptr (Ay d) 0 0) m K=K (WU w F g):=λ{K}=>AR rfl rfl X;have az:∀{K},A9 AC (.ptr r 0 0) m K=K (.agg y.cs):=λ{K}=>AR rfl rfl ao;have aq:∀{K},A9 Aa (.ptr (Ay d) 2 0) m K=K (fnA g):=λ{K}=>AH (p:=2) rfl X (show 2<3 by decide);have a1:=B4x O Z h0 hI;have a2:Fx true depth (WU w F g) (WU w F g) m false:=by rcases hF with rfl|⟨_,_,rfl⟩<;>exact λK=>by kernel_rfl
  have a3:Fx true depth (.agg y.cs) (.agg y.cs) m false:=λK=>by kernel_rfl
  have V:∀{K:K2},Ak (r! L (n+41)) Bv [.ptr c 0 0,WU w F g,.agg y.cs] m K=K (Bo true):=λ{K}=>gN hh (Az a1 (Az a2 (Az a3 Bq)));have am:∀{K:K2},Ak (r! L (n+41)) g [.ptr c 0 0,.agg y.cs] m K=K (.tup [.agg (BY (uu k)),I 0]):=λ{K}=>gN B (Az a1 (Az a3 Bq));simp only[gT,BJ,ar,az,V,sK,T2];rw[B6,aq,A0G hn hi (by simp),am,CO,CN,AW (cs:=Ey) rfl,Bx (cs:=Ey) (vs:=BY (uu k)) (Av (by simp)) rfl rfl rfl,<-e3];have ap:∀{K},A9 Am (.ptr c 2 0) C K=K v:=λ{K}=>AH (p:=2) rfl A (show 2<3 by decide);have ax:∀{K},A9 Ap (.ptr (Ay m) 0 0) C K=K (.agg (BY (uu k))):=λ{K}=>AR rfl rfl ak;simp only[GQ,B4,f0,ap,ax];have e5:∀K:KV,DJ Ax 20 Ap Am v (.sl 20 (Ay C) 0 1) ((Ay C,.cells false Ax (FN k))::C) K=K f M:=λK=>by have:=e4 K;rw[A3d]at this;exact this
  have ae:∀{K},A9 Am (.ptr c 2 0) ((Ay C,.cells false Ax (FN k))::C) K=K v:=λ{K}=>AH (p:=2) rfl (AQ (w3.lt A) A) (show 2<3 by decide);have s5:∀{K:Ru},DD Am (.ptr c 2 0) f M K=K (upd M c (T9 I1 f)):=λ{K}=>D9 Q (show 2<3 by decide) rfl D.1 D.2;have o4:∀{K:Af}{H:Hp},Qm (AN (some (v,H)) v) K=K:=λ{K H}=>A5n (vY aa);simp only[A3d,BJ,e5,s5,ae,o4,A6z]
 ·have a1:=ad s x h;have a2:=(k2 s x a1).1;have a3:=(k3 s x a2).1;rw[Aj h1];exact k4 s x a3 h2
end
end
section
variable{L n:Nat}
abbrev vV:AV:=fnA ER
def B1r{k:Nat}(hk:k<52):PS (r! L (n+41)) ER [.agg (BY (uu k))] (Bo false):=by
 refine CS.ps (λK a=>?_) (λH=>λK=>by kernel_rfl);rw[RN];unfold ID GO;rw[EM rfl,AR (cs:=BY (uu k)) rfl rfl (Av (by simp)),Uh _ _ _ hk,sK];exact a _ _ (λb=>⟨false,λK=>by kernel_rfl⟩)
def A83{a:Ru}{K:KV}{ks:Hb}{H:Hp}(hb:ks.length<1000000000)(hk:∀k∈ks,k<52):∀(f i:Nat),i<=ks.length->ks.length-i<f->
 Dl (L+20) (r! L (n+41)) K a f (Bz ks) vV (I ks.length) (I i) H=a H:=by
 intro f
 induction f with
 |zero=>intro i _ h;omega
 |succ f ih=>
  intro i e d;rw[Ic];unfold Dm GI Aq;by_cases h:i<ks.length
  ·rw[FZ (by omega),Dg,Yq h,Yo];have c:∀K,Dk (E (L+20)) (r! L (n+41)) vV [.agg (BY (uu ks[i]))] H K=Ak (r! L (n+41)) ER [.agg (BY (uu ks[i]))] H λv=>K v H:=λK=>A0G rfl rfl (by simp);rw[c,B1r (hk _ (Na h)),B6,Dc (by omega)];exact ih (i+1) (by omega) (by omega)
  ·rw[Ga (by omega),B6]
def A29{ks:Hb}(hb:ks.length<1000000000)(e:ks.length<L)(hk:∀k∈ks,k<52):CS (r! L (n+43)) Cm [Bz ks,vV] (Bo false):=by
 intro K a;rw[HJ];unfold CV Mt;have d:CS (r! L (n+42)) Fi [Bz ks,vV] (I (-1)):=by
  intro K a;rw[Iu];unfold Dt Aq;simp only[Ca];have c:(AV.v (.int .i64 0))=I ((0:Nat):Int):=rfl;rw[NB,c,A83 hb hk _ 0 (by omega) (by omega)];exact a _ _ (λb=>⟨false,λK=>by kernel_rfl⟩)
 rw[AX (q:=false) d (λK=>by kernel_rfl),Kn];exact a _ _ (λb=>⟨false,λK=>by kernel_rfl⟩)
def WNd(L n:Nat)(a:AV)(l:Hb)(y:Nd)(k:Nat):Prop:=∃w F g,Sl F/\
 (∀H K,(oJ .i64 (I y.op) λq=>VU AY true UE q H K)=K (.tup [WU w F g,Bo true]))/\
 fJ (.tup [WU w F g,Bo true]) (.tup [WU w F g,Bo true])=true/\(E (L+20)).ne g=false/\(E (L+20)).imp g=false/\
 RV (r! L (n+41)) Bv [TW a (OE l),WU w F g,.agg y.cs] (Bo true)/\
 RV (r! L (n+41)) g [TW a (OE l),.agg y.cs] (.tup [.agg (BY (uu k)),I 0])
def WTy(L n:Nat)(ks:Hb)(xs:List Nd)(ty:Hb):Prop:=∀i(h:i<xs.length),WNd L n (Bz ks) (ty.take i) xs[i] (ty.getD i 0)
section
variable{K:KV}{x:Af}{ks ty:Hb}{xs:List Nd}{id:Int}{o:UD}
def B1k{m:AV->KV}{p c:Nat}(hT:WTy L n ks xs ty)(a:ty.length=xs.length)(hb:xs.length<100)(B:p≠c)(hx:∀v H,AT H Ax 20 v ty.length (ty.flatMap FN)->(ty=[]->v=A7)->Ao H p=some (G6 id (Bz ks) (BL xs) o)->Ao H c=some (T9 (Bz ks) v)->m (.ptr p 0 0) (.ptr c 0 0) H=x):
 ∀(f i:Nat)(v:AV)(H:Hp),i<=xs.length->xs.length-i<f->AT H Ax 20 v (ty.take i).length ((ty.take i).flatMap FN)->(ty.take i=[]->v=A7)->¬AD v p->¬AD v c->Ao H p=some (G6 id (Bz ks) (BL xs) o)->Ao H c=some (T9 (Bz ks) v)->Wf H->
 K7 (L+20) (r! L (n+42)) K m f (.ptr p 0 0) (.ptr c 0 0) (BL xs) (I xs.length) (I i) H=x:=by
 intro f
 induction f with
 |zero=>intro i v H _ h;omega
 |succ f ih=>
  intro i v H hi hf j s hr J Q hc w;rw[Uz];unfold K8 GI Aq;by_cases h:i<xs.length
  ·rw[FZ (by omega),Dg,gI h,gG,AW (cs:=Jb) rfl,Bx (cs:=Jb) (vs:=xs[i].cs) (Av (by simp)) rfl rfl rfl];obtain⟨X,Z,N,V,t⟩:=DN (e:=AF) (zs:=Jb) (vs:=xs[i].cs) w rfl;rw[<-Z,AR rfl rfl N];have d:=(t _ _ Q).1;have u:=(t _ _ hc).1;have M:AT X Ax 20 v (ty.take i).length ((ty.take i).flatMap FN):=by
    rcases j with j|⟨r,q,h1,h2,h3⟩
    ·exact .inl j
    ·exact .inr ⟨r,q,h1,(t _ _ h2).1,h3⟩
   obtain⟨wd,F,g,hF,hk,ha,hn,A,hh,hu⟩:=hT i h;obtain⟨v',Y,e5,y,k,D,w5,n5,k5,O⟩:=B5Y (n:=n) u M s J V (by rw[xS];omega) (.inr ⟨_,_,rfl⟩) hF hk ha hn A hh hu;have R:ty.take i++[ty.getD i 0]=ty.take (i+1):=by
    have P:i<ty.length:=by omega
    rw[tE P];simp[List.getD,II P]
   rw[e5,sK,B6,Dc (by omega)];rw[R]at k;exact ih (i+1) v' Y (by omega) (by omega) k (λe=>by rw[<-R]at e;simp at e) (λC=>by have:=O _ C;have:=V.lt d;omega) D (k5 _ _ d B hr) y w5
  ·rw[Ga (by omega),B6];have:i=xs.length:=by omega
   subst this;rw[<-a,mM]at j s;exact hx v H j s Q hc
set_option maxHeartbeats 1000000 in
def A80(hL:100<L)(Q:WTy L (n+2) ks xs ty)(V:o=uu (ty.getD (xs.length-1) 0))(f:ty.length=xs.length)(hk:∀k∈ks,k<52)(hb:ks.length<=6)(hn:1<=xs.length)(R:xs.length<=40)(h1:1<=id)(h2:id<=1000000):
 CS (r! L (n+45)) LJ [.agg (Bn id (Bz ks) (BL xs) o)] (.tup [OE ty,I 0,I 0]):=by
 intro K P;rw[VL];unfold L2 DV Sb Tg Mf EU Aq JR;rw[EM (Lq (.inr ⟨_,_,rfl⟩) (.inr ⟨_,_,rfl⟩))];have d:=Av (H:=[]) (x:=G6 id (Bz ks) (BL xs) o) (by simp);have w0:=Bw (x:=G6 id (Bz ks) (BL xs) o) EH;generalize ((Ay [],G6 id (Bz ks) (BL xs) o)::([]:Hp))=e at d w0;generalize Ay []=p at d;have u:∀{s j:Nat}{K:K2},CC j (.ptr s 0 0) K=K (.ptr s j 0):=λ{s j K}=>by rw[fA,Le]
 have J:∀{K},A9 Ab (.ptr p 0 0) e K=K (I id):=λ{K}=>AH (p:=0) rfl d (show 0<23 by decide);have Y:∀{K},A9 Am (.ptr p 1 0) e K=K (Bz ks):=λ{K}=>AH (p:=1) rfl d (show 1<23 by decide);have Z:∀{K},A9 Ar (.ptr p 2 0) e K=K (BL xs):=λ{K}=>AH (p:=2) rfl d (show 2<23 by decide);have t1:∀{K},Al Ab .lss (I id) (.v (.int .i64 1)) K=K (Bo false):=λ{K}=>by rw[CA,Iy (by omega)]
 have t2:∀{K},Al Ab .gtr (I id) (.v (.int .i64 1000000)) K=K (Bo false):=λ{K}=>by rw[DE,Iy (by omega)]
 have t3:∀{K},Al Ab .gtr (I (ks.length:Int)) (.v (.int .i64 6)) K=K (Bo false):=λ{K}=>by rw[DE,Iy (by omega)]
 have t4:∀{K},Al Ab .lss (I (xs.length:Int)) (.v (.int .i64 1)) K=K (Bo false):=λ{K}=>by rw[CA,Iy (by omega)]
 have t5:∀{K},Al Ab .gtr (I (xs.length:Int)) (.v (.int .i64 40)) K=K (Bo false):=λ{K}=>by rw[DE,Iy (by omega)]
 have an:∀{K:K2},Ak (r! L (n+44)) Cm [Bz ks,vV] e K=K (Bo false):=λ{K}=>AX (q:=false) (A29 (n:=n+1) (by omega) (by omega) hk) (λK=>by kernel_rfl);rw[u,J,t1];simp only[gT,u,J,BJ,t2,T2,Y,NB,t3,an,Z,RW,t4,t5];rw[B6];have M:∀{K:KV},(r! L (n+44)).call LI [Bz ks] e K=K (.ptr (Ay e) 0 0) ((Ay e,T9 (Bz ks) A7)::e):=λ{K}=>by
  rw[VI];unfold Lz GO;have b2:∀{K:K2},Ch Jd [(0,1,UE),(1,1,Bz ks)] K=K (.agg [UE,Bz ks,A7]):=λ{K}=>r_ rfl;rw[B0q (n:=n+42),b2,EM rfl]
 rw[M];have g:=Av (H:=e) (x:=T9 (Bz ks) A7) (by simp);have m:=AQ (x:=T9 (Bz ks) A7) (w0.lt d) d;have w1:=Bw (x:=T9 (Bz ks) A7) w0;have A:=w0.lt d;generalize ((Ay e,T9 (Bz ks) A7)::e)=F at g m w1;generalize Ay e=c at g A;have C:∀{K},A9 Ar (.ptr p 2 0) F K=K (BL xs):=λ{K}=>AH (p:=2) rfl m (show 2<23 by decide);simp only[Ca];rw[C,RW];refine B1k (n:=n+2) Q f (by omega) (by omega) ?_ (L+20) 0 _ F (by omega) (by omega) (.inl ⟨rfl,rfl,rfl⟩) (λ_=>rfl) (λ⟨_,_,_,h⟩=>by cases h) (λ⟨_,_,_,h⟩=>by cases h) m g w1;intro v H B O X hc;have t:ty.length-1<ty.length:=by omega
 obtain⟨a,w,r⟩:=A0L B t;have y:∀{K},A9 Ap (.ptr p 3 0) H K=K (.agg (BY o)):=λ{K}=>EL (p:=3) rfl X (show 23<=23 by decide);have N:uu ty[ty.length-1]=o:=by rw[V,<-f];simp[List.getD,II t]
 rw[N]at r;have lc:∀{K},A9 Am (.ptr c 2 0) H K=K v:=λ{K}=>AH (p:=2) rfl hc (show 2<3 by decide);have ln:∀{K:K2},Bi Am v K=K (I ty.length):=λ{K}=>IX rfl B;simp only[GQ,B4,u,lc,ln,ZQ (ty:=Ab) (i:=ty.length) (by omega) (by omega),w,r,y,B89];rw[B6];exact P _ _ (λb=>by
  obtain⟨q,hq⟩:=Zt (D:=depth-2) (b:=b) B O;exact⟨_,Zu (D:=depth-1) (Az hq (Az (q:=false) Er (Az (q:=false) Er Bq)))⟩)
def A41(j:100<L)(m:WTy L (n+2) ks xs ty)(p:o=uu (ty.getD (xs.length-1) 0))(a:ty.length=xs.length)(hk:∀k∈ks,k<52)(hb:ks.length<=6)(hn:1<=xs.length)(d:xs.length<=40)(h1:1<=id)(h2:id<=1000000):
 CS (r! L (n+46)) EB [.agg (Bn id (Bz ks) (BL xs) o)] (Bo true):=by
 intro K i;rw[VJ];unfold L0 GO;rw[EM (Lq (.inr ⟨_,_,rfl⟩) (.inr ⟨_,_,rfl⟩))];have c:=Av (H:=[]) (x:=G6 id (Bz ks) (BL xs) o) (by simp);generalize ((Ay [],G6 id (Bz ks) (BL xs) o)::([]:Hp))=e at c;have ck:∀{K:K2},Ak (r! L (n+45)) LJ [.agg (Bn id (Bz ks) (BL xs) o)] e K=K (.tup [OE ty,I 0,I 0]):=λ{K}=>AX (A80 j m p a hk hb hn d h1 h2) (SC (.inr ⟨_,_,rfl⟩) (.inr ⟨_,_,rfl⟩));have h:∀{K:K2},Cg (.tup [OE ty,I 0,I 0]) 2 K=K (I 0):=λ{K}=>r_ rfl;have f:∀{K:K2},Cg (.tup [OE ty,I 0,I 0]) 0 K=K (OE ty):=λ{K}=>r_ rfl;have g:∀{K:K2},Cg (.tup [OE ty,I 0,I 0]) 1 K=K (I 0):=λ{K}=>r_ rfl;rw[AR rfl rfl c,ck,f,g,h,qD];exact i _ _ (λb=>⟨false,λK=>by kernel_rfl⟩)
end
end
section
variable{H:Hp}{i p:Nat}
variable{L n:Nat}
def Ph:Ha:=[112,114,111,99,101,100,117,114,101,32]
def jL:Ha:=[103,105,118,101,110,32]
def B42:Ha:=[111,117,116,112,117,116,32]
def gA(k:Nat):Ha:=jL++Jc k++[10]
def mK(t:Ha):Ha:=t++[10]
def jH(id:Nat)(ks:Hb)(ts:List Ha)(o:Nat):Ha:=Ph++dg id++[10]++ks.flatMap gA++ts.flatMap mK++B42++Jc o++[10]
def EF(k:Nat):(Jc k).length<60:=by
 by_cases h:k<52
 ·have:=Gb.1 (show((List.range 52).all λk=>decide ((Jc k).length<60))=true by kernel_rfl) k (I2.2 h);simpa using this
 ·have:Jc k=[]:=by
   unfold Jc;rw[Tc,l1e (Nat.le_of_not_lt h)];rfl
  rw[this];decide
def A0l(k:Nat):(dg k).length<=3:=by
 unfold dg;split
 ·simp
 ·split<;>simp
def A5N(ks:Hb):(ks.flatMap gA).length<=67*ks.length:=by
 induction ks with
 |nil=>simp
 |cons k ks ih=>
  have:=EF k;simp only[kL,E6,Kg,gA,jL,Oc]at ih⊢;omega
def A5y{ts:List Ha}(h:∀t∈ts,t.length<100):(ts.flatMap mK).length<=100*ts.length:=by
 induction ts with
 |nil=>simp
 |cons t ts ih=>
  have h1:=h t (by simp);have h2:=ih λu a=>h u (by simp[a]);simp only[kL,E6,Kg,mK,Oc]at h2⊢;omega
def gC{α:Type}{f:α->Ha}(l:List α)(h:i<l.length):(l.take (i+1)).flatMap f=(l.take i).flatMap f++f l[i]:=by
 rw[tE h,l2g];simp
section
variable{K:KV}{x:Af}{ks:Hb}{ts:List Ha}{xs:List Nd}{id:Int}{o:UD}{s0:Ha}
def B3t{a:AV->AV->KV}(hk:∀k∈ks,k<52)(hb:ks.length<100)(u:s0.length<1000)(g:Ao H p=some (G6 id (Bz ks) (BL xs) o))(m:a (.ptr p 0 0) (S (s0++ks.flatMap gA)) (I ks.length) H=x):
 ∀(f i:Nat)(w:AV),i<=ks.length->ks.length-i<f->OP (L+20) (r! L (n+40)) K a f (.ptr p 0 0) (S (s0++(ks.take i).flatMap gA)) (I i) w H=x:=by
 intro f
 induction f with
 |zero=>intro i w _ h;omega
 |succ f ih=>
  intro i w y v;rw[YM];unfold OR DV GI Aq;have c:∀{s j:Nat}{K:K2},CC j (.ptr s 0 0) K=K (.ptr s j 0):=λ{s j K}=>by rw[fA,Le]
  have d:∀{K},A9 Am (.ptr p 1 0) H K=K (Bz ks):=λ{K}=>AH (p:=1) rfl g (show 1<23 by decide);rw[c,d,NB];by_cases h:i<ks.length
  ·have q:=A5N (ks.take i);have r:(ks.take i).length<=ks.length:=by simp;omega
   have t:=EF ks[i];rw[FZ (by omega),Dg,c,d,Yq h,Yo,RI _ _ _ (hk _ (Na h)),CO,CN,Bf (by simp only[E6,Kg,Oc];omega),Bf (by simp only[E6,Kg,Oc];omega),Bf (by simp only[E6,Kg,Oc];omega),Dc (by omega)];have e:s0++(ks.take i).flatMap gA++[103,105,118,101,110,32]++Jc ks[i]++[10]=s0++(ks.take (i+1)).flatMap gA:=by
    rw[gC ks h];simp[gA,jL]
   rw[e];exact ih (i+1) _ (by omega) (by omega)
  ·rw[Ga (by omega),B6];have:i=ks.length:=by omega
   subst this;rw[mM];exact m
def B3u{d:AV->KV}{u:AV}(v:∀i(h:i<xs.length),PS (r! L (n+41)) GT [.agg xs[i].cs] (S (ts.getD i [])))(k:∀t∈ts,t.length<100)(g:ts.length=xs.length)(hb:xs.length<100)(D:s0.length<10000)(w:Ao H p=some (G6 id (Bz ks) (BL xs) o))(y:d (.ptr p 0 0) (S (s0++ts.flatMap mK)) H=x):
 ∀(f i:Nat),i<=xs.length->xs.length-i<f->OQ (L+20) (r! L (n+41)) K d f (.ptr p 0 0) (S (s0++(ts.take i).flatMap mK)) u (I i) H=x:=by
 intro f
 induction f with
 |zero=>intro i _ h;omega
 |succ f ih=>
  intro i J F;rw[YN];unfold OS DV GI Aq;have e:∀{s j:Nat}{K:K2},CC j (.ptr s 0 0) K=K (.ptr s j 0):=λ{s j K}=>by rw[fA,Le]
  have m:∀{K},A9 Ar (.ptr p 2 0) H K=K (BL xs):=λ{K}=>AH (p:=2) rfl w (show 2<23 by decide);rw[e,m,RW];by_cases h:i<xs.length
  ·have a:i<ts.length:=by omega
   have q:ts.getD i []=ts[i]:=by simp[List.getD,II a]
   have A:=A5y (ts:=ts.take i) λt hm=>k t (l24 hm);have B:(ts.take i).length<=ts.length:=by simp;omega
   have C:=k ts[i] (Na a);have c:=v i h;rw[q]at c;rw[FZ (by omega),Dg,e,m,gI h,gG,c,Bf (by simp only[E6,Kg,Oc];omega),Bf (by simp only[E6,Kg,Oc];omega),Dc (by omega)];have r:s0++(ts.take i).flatMap mK++ts[i]++[10]=s0++(ts.take (i+1)).flatMap mK:=by
    rw[gC ts a];simp[mK]
   rw[r];exact ih (i+1) (by omega) (by omega)
  ·rw[Ga (by omega),B6];have:i=ts.length:=by omega
   subst this;rw[mM];exact y
def A4R{i c:Nat}(M:100<L)(f:i<950)(v:CS (r! L (n+44)) Ev [.agg (Bn i (Bz ks) (BL xs) (uu c))] (Bo true))(w:∀i(h:i<xs.length),PS (r! L (n+44)) GT [.agg xs[i].cs] (S (ts.getD i [])))(m:∀t∈ts,t.length<100)(d:ts.length=xs.length)(hk:∀k∈ks,k<52)(hb:ks.length<=6)(y:xs.length<=40)(A:c<52):
 CS (r! L (n+45)) Hn [.agg (Bn i (Bz ks) (BL xs) (uu c))] (.tup [S (jH i ks ts c),I 0]):=by
 intro K u;rw[eH];unfold QT DV Aq;rw[EM (Lq (.inr ⟨_,_,rfl⟩) (.inr ⟨_,_,rfl⟩))];have a:=Av (H:=[]) (x:=G6 i (Bz ks) (BL xs) (uu c)) (by simp);generalize ((Ay [],G6 i (Bz ks) (BL xs) (uu c))::([]:Hp))=e at a;generalize Ay []=p at a;have g:∀{s j:Nat}{K:K2},CC j (.ptr s 0 0) K=K (.ptr s j 0):=λ{s j K}=>by rw[fA,Le]
 have B:∀{K},A9 Ab (.ptr p 0 0) e K=K (I i):=λ{K}=>AH (p:=0) rfl a (show 0<23 by decide);have hv:∀{K:K2},Ak (r! L (n+44)) Ev [.agg (Bn i (Bz ks) (BL xs) (uu c))] e K=K (Bo true):=λ{K}=>AX v (SC (.inr ⟨_,_,rfl⟩) (.inr ⟨_,_,rfl⟩));have d1:=A0l i;rw[AR rfl rfl a,hv,sK,B6,g,B,B9d L (n+34) i f,Bf (by simp only[E6,Kg,Oc];omega),Bf (by simp only[E6,Kg,Oc];omega)];simp only[Ca];have q:([112,114,111,99,101,100,117,114,101,32]++dg i++[10]:Ha)=(Ph++dg i++[10])++(ks.take 0).flatMap gA:=by simp[Ph]
 rw[q];have b0:(Ph++dg i++[10]).length<=14:=by simp only[E6,Kg,Oc,Ph];omega
 refine B3t (n:=n+4) hk (by omega) (by omega) a ?_ (L+20) 0 _ (by omega) (by omega);have r:(Ph++dg i++[10])++ks.flatMap gA=((Ph++dg i++[10])++ks.flatMap gA)++(ts.take 0).flatMap mK:=by simp
 rw[r];have D:=A5N ks;have b1:((Ph++dg i++[10])++ks.flatMap gA).length<=500:=by rw[E6];omega
 refine B3u (n:=n+3) w m d (by omega) (by omega) a ?_ (L+20) 0 (by omega) (by omega);have C:∀{K},A9 Ap (.ptr p 3 0) e K=K (.agg (BY (uu c))):=λ{K}=>EL (p:=3) rfl a (show 23<=23 by decide);have F:=A5y m;have J:=EF c;have b2:(((Ph++dg i++[10])++ks.flatMap gA)++ts.flatMap mK).length<=5000:=by rw[E6];omega
 rw[g,C,RI _ _ _ A,CO,CN,Bf (by rw[E6];simp only[Kg,Oc] at*;omega),Bf (by rw[E6];simp only[Kg,Oc] at*;omega),Bf (by rw[E6,E6];simp only[Kg,Oc] at*;omega)];exact u _ _ (λb=>⟨false,λK=>by kernel_rfl⟩)
end
end
section
variable{v:AV}{H:Hp}{p r:Nat}
variable{L n:Nat}
section
variable{K:KV}{x:Af}{ks:Hb}{ts:List Ha}{xs:List Nd}{id:Int}{o:UD}{s0:Ha}
abbrev pks(p:Nat)(id:Int)(ks:Hb)(xs:List Nd)(o:UD):List (Nat×Row):=[(p,G6 id (Bz ks) (BL xs) o)]
def A1F{r b:Nat}{kp:List (Nat×Row)}{l s:Ha}(h:Bd r kp b l v H)(hb:b<100000000)(f:s.length<1000)(e:∀c a,Bd r kp (b+1000) (l++s) c a->K (.tup [I s.length,.v .nilIface]) a=x):
 (r! L (n+2)).call Bk [.ptr r 0 0,S s] H K=x:=by
 have:=h.sz;exact rR h.bld (by omega) λc a d hk=>e c a (h.step d hk (by rw[E6];omega))
def Bd.al{r b e:Nat}{kp:List (Nat×Row)}{l:Ha}{zs vs:Is}(h:Bd r kp b l v H)(hz:vs.length=zs.length):∃a,a=upd ((Ay H,c_ e zs)::H) (Ay H) (c_ e vs)/\Ao a (Ay H)=some (c_ e vs)/\Bd r kp b l v a:=by
 refine⟨_,rfl,A4 (Av (H:=H) (x:=.cells true e zs) (by simp)),⟨(h.bld.cons (y:=.cells true e zs)).upd (by have:=h.bld.lt;omega) (λd=>by have:=h.bld.vlt d;omega),λp c=>?_,h.sz⟩⟩;obtain⟨p1,p2,p3⟩:=h.ks p c;have:=h.bld.wf.lt p1;exact⟨by rw[Aj (by omega)];exact AQ this p1,p2,p3⟩
def B1i{c:AV->AV->AV->AV->KV}{kp:List (Nat×Row)}(hk:∀k∈ks,k<52)(hb:ks.length<100){b:Nat}(s:b<1000000)(u:∀v H,Bd r kp (b+1000*ks.length) (s0++ks.flatMap gA) v H->c (.ptr p 0 0) (.ptr r 0 0) (Bz ks) (I ks.length) (I ks.length) H=x):
 ∀(f i:Nat)(v:AV)(H:Hp),i<=ks.length->ks.length-i<f->Bd r kp (b+1000*i) (s0++(ks.take i).flatMap gA) v H->K3 (L+20) (r! L (n+40)) K c f (.ptr p 0 0) (.ptr r 0 0) (Bz ks) (I ks.length) (I i) AV.dk AV.dk AV.dk H=x:=by
 intro f
 induction f with
 |zero=>intro i v H _ h;omega
 |succ f ih=>
  intro i v H C B d;rw[Ux];unfold K5 GI Aq;by_cases h:i<ks.length
  ·have A:=EF ks[i];rw[FZ (by omega),Dg,Yq h,Yo,AW (cs:=Ey) rfl,Bx (cs:=Ey) (vs:=BY (uu ks[i])) (Av (by simp)) rfl rfl rfl];obtain⟨y,m,t,g⟩:=d.al (e:=Ax) (zs:=Ey) (vs:=BY (uu ks[i])) rfl;rw[<-m,AR rfl rfl t,R4 _ _ _ (hk _ (Na h)),CO,CN,Bf (by simp only[Kg,Oc];omega),Bf (by simp only[E6,Kg,Oc];omega)];refine A1F (n:=n+38) g (by omega) (by simp only[E6,Kg,Oc];omega) λw j a=>?_;rw[Dc (by omega)];have q:s0++(ks.take i).flatMap gA++([103,105,118,101,110,32]++Jc ks[i]++[10])=s0++(ks.take (i+1)).flatMap gA:=by
    rw[gC ks h];simp[gA,jL]
   rw[q,WE,<-Nat.mul_succ]at a;exact ih (i+1) w j (by omega) (by omega) a
  ·rw[Ga (by omega),B6];have:i=ks.length:=by omega
   subst this;rw[mM]at d;exact u v H d
def B1j{m:AV->KV}{kp:List (Nat×Row)}{a w c:AV}(D:∀i(h:i<xs.length),PS (r! L (n+41)) Eg [.agg xs[i].cs] (S (ts.getD i [])))(F:∀t∈ts,t.length<100)(k:ts.length=xs.length)(hb:xs.length<100){b:Nat}(C:b<10000000)(M:∀v H,Bd r kp (b+1000*xs.length) (s0++ts.flatMap mK) v H->m (.ptr p 0 0) (.ptr r 0 0) H=x):
 ∀(f i:Nat)(v:AV)(H:Hp),i<=xs.length->xs.length-i<f->Bd r kp (b+1000*i) (s0++(ts.take i).flatMap mK) v H->K4 (L+20) (r! L (n+41)) K m f (.ptr p 0 0) (.ptr r 0 0) a w c (BL xs) (I xs.length) (I i) H=x:=by
 intro f
 induction f with
 |zero=>intro i v H _ h;omega
 |succ f ih=>
  intro i v H R Q q;rw[Uy];unfold K6 GI Aq;by_cases h:i<xs.length
  ·have d:i<ts.length:=by omega
   have y:ts.getD i []=ts[i]:=by simp[List.getD,II d]
   have P:=F ts[i] (Na d);have j:=D i h;rw[y]at j;rw[FZ (by omega),Dg,gI h,gG,AW (cs:=Jb) rfl,Bx (cs:=Jb) (vs:=xs[i].cs) (Av (by simp)) rfl rfl rfl];obtain⟨O,A,J,s⟩:=q.al (e:=AF) (zs:=Jb) (vs:=xs[i].cs) rfl;rw[<-A,AR rfl rfl J,j,Bf (by simp only[Kg,Oc];omega)];refine A1F (n:=n+39) s (by omega) (by simp only[E6,Kg,Oc];omega) λN u g=>?_;rw[Dc (by omega)];have B:s0++(ts.take i).flatMap mK++(ts[i]++[10])=s0++(ts.take (i+1)).flatMap mK:=by
    rw[gC ts d];simp[mK]
   rw[B,WE,<-Nat.mul_succ]at g;exact ih (i+1) N u (by omega) (by omega) g
  ·rw[Ga (by omega),B6];have:i=ts.length:=by omega
   subst this;rw[mM]at q;exact M v H (k▸q)
def A42{i a:Nat}(hL:100<L)(C:i<950)(V:CS (r! L (n+46)) EB [.agg (Bn i (Bz ks) (BL xs) (uu a))] (Bo true))(X:∀i(h:i<xs.length),PS (r! L (n+46)) Eg [.agg xs[i].cs] (S (ts.getD i [])))(ht:∀t∈ts,t.length<100)(A:ts.length=xs.length)(hk:∀k∈ks,k<52)(hb:ks.length<=6)(Y:xs.length<=40)(Z:a<52):
 CS (r! L (n+47)) EC [.agg (Bn i (Bz ks) (BL xs) (uu a))] (.tup [S (jH i ks ts a),I 0]):=by
 intro K R;rw[VK];unfold L1 DV Aq;rw[EM (Lq (.inr ⟨_,_,rfl⟩) (.inr ⟨_,_,rfl⟩))];have c:=Av (H:=[]) (x:=G6 i (Bz ks) (BL xs) (uu a)) (by simp);have w0:=Bw (x:=G6 i (Bz ks) (BL xs) (uu a)) EH;generalize ((Ay [],G6 i (Bz ks) (BL xs) (uu a))::([]:Hp))=f at c w0;generalize Ay []=p at c;have B:∀{s j:Nat}{K:K2},CC j (.ptr s 0 0) K=K (.ptr s j 0):=λ{s j K}=>by rw[fA,Le]
 have hv:∀{K:K2},Ak (r! L (n+46)) EB [.agg (Bn i (Bz ks) (BL xs) (uu a))] f K=K (Bo true):=λ{K}=>AX V (SC (.inr ⟨_,_,rfl⟩) (.inr ⟨_,_,rfl⟩));have d1:=A0l i;rw[AR rfl rfl c,hv,sK,B6,AW (cs:=[.v (.pointer none),zL]) rfl];have D:=Av (H:=f) (x:=.cells true Dq [.v (.pointer none),zL]) (by simp);have y:=w0.lt c;have e:Bd (Ay f) (pks p i ks xs (uu a)) 0 [] A7 ((Ay f,c_ Dq [.v (.pointer none),zL])::f):=
  ⟨⟨⟨_,.inr rfl,.inl D⟩,.inl ⟨rfl,rfl,rfl⟩,λ⟨_,_,_,h⟩=>(by cases h),Bw w0⟩,λq hq=>by
   simp only[eX]at hq;subst hq;exact⟨AQ y c,by simp only;omega,λ⟨_,_,_,h⟩=>(by cases h)⟩,MZ _⟩
 generalize ((Ay f,c_ Dq [.v (.pointer none),zL])::f)=M at e;generalize Ay f=r at e;have d:∀{b l v H},Bd r (pks p i ks xs (uu a)) b l v H->Ao H p=some (G6 i (Bz ks) (BL xs) (uu a)):=λh=>(h.ks (p,_) (eX.2 rfl)).1;have l0:∀{K},A9 Ab (.ptr p 0 0) M K=K (I i):=λ{K}=>AH (p:=0) rfl (d e) (show 0<23 by decide);rw[B,l0,B96 L (n+36) i C,Bf (by simp only[Kg,Oc];omega),Bf (by simp only[E6,Kg,Oc];omega)];refine A1F (n:=n+44) e (by omega) (by simp only[E6,Kg,Oc];omega) λv2 F g=>?_;simp only[Ca];have l1:∀{K},A9 Am (.ptr p 1 0) F K=K (Bz ks):=λ{K}=>AH (p:=1) rfl (d g) (show 1<23 by decide);rw[B,l1,NB];have O:([]++([112,114,111,99,101,100,117,114,101,32]++dg i++[10]):Ha)=(Ph++dg i++[10])++(ks.take 0).flatMap gA:=by simp[Ph]
 rw[O]at g;refine B1i (n:=n+6) hk (by omega) (b:=0+1000) (by omega) (λv3 J m=>?_) (L+20) 0 v2 F (by omega) (by omega) g;have l2:∀{K},A9 Ar (.ptr p 2 0) J K=K (BL xs):=λ{K}=>AH (p:=2) rfl (d m) (show 2<23 by decide);rw[B,l2,RW];have P:(Ph++dg i++[10])++ks.flatMap gA=((Ph++dg i++[10])++ks.flatMap gA)++(ts.take 0).flatMap mK:=by simp
 rw[P]at m;refine B1j (n:=n+5) X ht A (by omega) (b:=0+1000+1000*ks.length) (by omega) (λv4 N w=>?_) (L+20) 0 v3 J (by omega) (by omega) m;have lo:∀{K},A9 Ap (.ptr p 3 0) N K=K (.agg (BY (uu a))):=λ{K}=>EL (p:=3) rfl (d w) (show 23<=23 by decide);have g3:=EF a;rw[B,lo,R4 _ _ _ Z,CO,CN,Bf (by simp only[Kg,Oc];omega),Bf (by simp only[E6,Kg,Oc];omega)];refine A1F (n:=n+44) w (by omega) (by simp only[E6,Kg,Oc];omega) λv5 H5 u=>?_;have Q:((Ph++dg i++[10])++ks.flatMap gA)++ts.flatMap mK++([111,117,116,112,117,116,32]++Jc a++[10])=jH i ks ts a:=by simp[jH,B42]
 rw[Q]at u;have z1:=u.sz;obtain⟨H6,hs⟩:=vJ (n:=n+45) u.bld (by unfold jH;rw[E6];simp only[Kg,Oc];omega) (by omega);rw[hs];exact R _ _ (λb=>⟨false,λK=>by kernel_rfl⟩)
end
end
end Go.Abs
end
