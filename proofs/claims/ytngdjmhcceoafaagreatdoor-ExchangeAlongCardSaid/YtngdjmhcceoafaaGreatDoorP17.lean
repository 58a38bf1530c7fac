import Derived.Test.YtngdjmhcceoafaaGreatDoorP13
import Derived.Test.YtngdjmhcceoafaaGreatDoorP14
import Derived.Test.YtngdjmhcceoafaaGreatDoorP15
import Derived.Test.YtngdjmhcceoafaaGreatDoorP16
set_option linter.all false
set_option maxHeartbeats 100000000
noncomputable section
namespace Go.Abs
open Go.RowKit Go.Proofs
set_option maxRecDepth 100000
section
variable {H:Hp} {k4:Hp->Af} {t:Int×Int}
variable {L n:Nat}
attribute [local irreducible] An rt mS eBi eEq cnd Go.Abs.Ap Go.Abs.Xg Az
def B6k (h: -8<=t.2/\t.2<=8/\t.2≠0):PS (rt (L+20) (n+41)) Kq [.agg (OD t)] (Bo false):=by
 refine CS.ps (λK a=> ?_) (λH=> λK=>by kernel_rfl);have h1:PO (rt (L+20) (n+40)) Em [.agg (qa t.2)] (Bo true):=(qS (by omega) (by omega)).o;have h2:PO (rt (L+20) (n+40)) Oy [.agg (qa t.2)] (Bo false):=by
  have:=(B2w (L:=L) (n:=n) (z:=t.2) (by omega) (by omega)).o;rw[IG h.2.2] at this;exact this
 rewrite [XY];unfold MY Ip
 try rewrite [zO]
 try rewrite [bO]
 try rewrite [qO]
 try rewrite [cO]
 generalize rt (L+20) (n+40)=R at*
 conv=>lhs;whnf
 rewrite [h1]
 conv=>lhs;whnf
 rewrite [h2]
 conv=>lhs;whnf
 exact a _ _ (λb=>⟨false,λK=>by kernel_rfl⟩)
abbrev qR:AV:= .fn (.func Kq) [] []
abbrev A8O:AV:= .fn (.func MF) [] []
section
variable {ts:iU} {K:KV} {x:Af}
def lTm {K:AV->Af}:AF BS (.iptr (OD t)) H K=K (.agg (OD t)):=id rfl
def B4l (a:TmsOk ts):∀(f i:Nat),i<=ts.length->ts.length-i<f->
 Ew (L+20) (rt (L+20) (n+41)) K k4 f (FD ts) qR (I ts.length) (I i) H=k4 H:=by
 have hb:=a.len;intro f
 induction f with
 |zero=>intro i _ h;omega
 |succ f ih=>
  intro i d c;rw[Ke];unfold Ey Iv A0;by_cases h:i<ts.length
  ·have hr:=a.rng _ (Qe h);rw[FR (by omega),Cy,W0 h,lTm];have b:∀K,Cr (E (L+20)) (rt (L+20) (n+41)) qR [.agg (OD ts[i])] H K=An (rt (L+20) (n+41)) Kq [.agg (OD ts[i])] H λv=>K v H:= λK=>by kernel_rfl
   rw[b,B6k hr.2.2,Bj,Dg (by omega)];exact ih (i+1) (by omega) (by omega)
  ·rw[FP (by omega),Bj]
def A2G (c:TmsOk ts):CS (rt (L+20) (n+43)) Eb [FD ts,qR] (Bo false):=by
 have hb:=c.len;intro K a;rw[JL];unfold DZ Lo;have e:CS (rt (L+20) (n+42)) He [FD ts,qR] (I (-1)):=by
  intro K a;rw[K1];unfold E7 A0;simp only[BK];have d:(AV.v (.int .i64 0))=I ((0:Nat):Int):=rfl;rw[Qk,d,B4l c _ 0 (by omega) (by omega)];exact a _ _ (λb=>⟨false,λK=>by kernel_rfl⟩)
 rw[AQ (q:=false) e (λK=>by cases ts<;>kernel_rfl),L7];exact a _ _ (λb=>⟨false,λK=>by kernel_rfl⟩)
def A8c:PS (rt (L+20) (n+1)) MF [.agg (OD t)] (I t.1):=by
 refine CS.ps (λK a=> ?_) (λH=> λK=>by kernel_rfl);rewrite [fO];unfold Qx Ip
 try rewrite [zO]
 try rewrite [bO]
 try rewrite [qO]
 try rewrite [cO]
 generalize rt (L+20) (n+0)=R at*
 conv=>lhs;whnf
 exact a _ _ (λb=>⟨false,λK=>by kernel_rfl⟩)
def B8b (j:TmsOk ts) (u:∀H,k4 H=x):∀(f i:Nat) (H:Hp),i<=ts.length->ts.length-i<f->Wf H->
 HL (L+20) (rt (L+20) (n+1)) K k4 f (FD ts) A8O (FD ts) (I ts.length) (I i) H=x:=by
 have hb:=j.len;intro f
 induction f with
 |zero=>intro i H _ h;omega
 |succ f ih=>
  intro i H C B w;rw[OR];unfold HM Iv Df GT A0 LW HQ;by_cases h:i<ts.length
  ·have hr:=j.rng _ (Qe h);rw[FR (by omega),Cy,W0 h,lTm,B1 (cs:=[zI,zS,zS]) rfl];have d:=Aw (H:=H) (x:= .cells true AY [zI,zS,zS]) (by simp);rw[Cc (vs:=OD ts[i]) d rfl rfl rfl];have b:=AC (q:=true) (e:=AY) (cs:=OD ts[i]) d;have w1:=Bn (r:=Ao H) (y:= .cells true AY (OD ts[i])) (AI (x:= .cells true AY [zI,zS,zS]) w);generalize upd ((Ao H,c_ AY [zI,zS,zS])::H) (Ao H) (c_ AY (OD ts[i]))=a at b w1;generalize Ao H=r at b;have m1:∀K,AF BS (.ptr r 0 0) a K=K (.agg (OD ts[i])):= λK=>GA (p:=0) rfl b (show 3<=3 from Mb _);have m:∀(t:Int×Int) (K:KV),Cr (E (L+20)) (rt (L+20) (n+1)) A8O [.agg (OD t)] a K=K (I t.1) a:= λt K=>by
    have:Cr (E (L+20)) (rt (L+20) (n+1)) A8O [.agg (OD t)] a K=An (rt (L+20) (n+1)) MF [.agg (OD t)] a λv=>K v a:=by kernel_rfl
    rw[this,A8c]
   have i1:∀K,Go.Abs.Ap Ab .lss (I ts[i].1) (.v (.int .i64 1)) K=K (Bo false):= λK=>FP (by omega);have i2:∀K,Go.Abs.Ap Ab .gtr (I ts[i].1) (.v (.int .i64 1000000)) K=K (Bo false):= λK=>by rw[E5,IG (by omega)]
   rw[m1,m];simp only[i1,i2,gT,Cn,SS];by_cases g:0<i
   ·have k:∀K,Go.Abs.Ap Ab .gtr (I (i:Int)) (.v (.int .i64 0)) K=K (Bo true):= λK=>by rw[E5,Iu (by omega)]
    have c:i-1<ts.length:=by omega
    have mm:∀K,eMM false (I ((i-1:Nat):Int)) (.v (.int .i64 0)) K=K (I ((i-1:Nat):Int)):= λK=>by
     have e:eMM false (I ((i-1:Nat):Int)) (.v (.int .i64 0)) K=ck (decide (IntKind.i64=IntKind.i64)) (@Bool.rec (λ_=>Af) (K (.v (.int .i64 0))) (K (I ((i-1:Nat):Int))) (oR 0 ((i-1:Nat):Int))):=rfl;rw[e,Lw,Iu (Int.natCast_nonneg _)];rfl
    have s:ts[i-1].1<ts[i].1:=(l26.1 j.asc) (i-1) i c h (by omega);have A:∀K,Go.Abs.Ap Ab .geq (I ts[i-1].1) (I ts[i].1) K=K (Bo false):= λK=>by rw[L7,IG (by omega)]
    simp only[k,Cn,gT,eP g (by omega:i<1000000000),mm,W0 c,lTm,m,A,UH,SS];rw[Bj,Dg (by omega)];exact ih (i+1) a (by omega) (by omega) w1
   ·have k:∀K,Go.Abs.Ap Ab .gtr (I (i:Int)) (.v (.int .i64 0)) K=K (Bo false):= λK=>by rw[E5,IG (by omega)]
    simp only[k,Cn,gT,dF,UH,SS];rw[Bj,Dg (by omega)];exact ih (i+1) a (by omega) (by omega) w1
  ·rw[FP (by omega),Bj];exact u H
def A63 (a:TmsOk ts):CS (rt (L+20) (n+2)) Io [FD ts,A8O] (Bo true):=by
 have hb:=a.len;intro K d;rw[Pt];unfold Ik A0 LW;simp only[BK];have c:(AV.v (.int .i64 0))=I ((0:Nat):Int):=rfl;rw[Qk,c];exact B8b a (λH=>d _ _ (λb=>⟨false,λK=>by kernel_rfl⟩)) (L+20) 0 [] (by omega) (by omega) Fk
def A2B {c r:Int} (i: -80<=c) (j:c<=80) (k:0<=r) (m:r<=8) (a:TmsOk ts):CS (rt (L+20) (n+44)) L1 [.agg (Z8 (qn c) (qd c) (FD ts) (qn r) (qd r))] (Bo true):=by
 intro K g;have hb:=a.len;have h1:PO (rt (L+20) (n+43)) Em [.agg (qa c)] (Bo true):=(qS (n:=n+3) (by omega) (by omega)).o;have h2:PO (rt (L+20) (n+43)) Em [.agg (qa r)] (Bo true):=(qS (n:=n+3) (by omega) (by omega)).o;have d:PO (rt (L+20) (n+43)) Qi [.agg (qa r)] (I (if r=0 then 0 else 1)):=(B2x (n:=n+3) (by omega) (by omega)).o;have e:LS (rt (L+20) (n+43)) Io [FD ts,A8O] (Bo true):=(A63 (n:=n+41) a).ls;have f:LS (rt (L+20) (n+43)) Eb [FD ts,qR] (Bo false):=(A2G (n:=n) a).ls;have hz:ts=[]\/∃t l,ts=t::l:=by cases ts with|nil=>exact .inl rfl|cons t l=>exact .inr ⟨t,l,rfl⟩
 rcases hz with rfl|⟨t,l,rfl⟩
 all_goals
  rewrite [kR];unfold Ss Ip
  try rewrite [zO]
  try rewrite [bO]
  try rewrite [qO]
  try rewrite [cO]
  generalize rt (L+20) (n+43)=R at*
  conv=>lhs;whnf
  rewrite [h1]
  conv=>lhs;whnf
  rewrite [h2]
  conv=>lhs;whnf
  rewrite [d]
  conv=>lhs;whnf
  rewrite [A5h ?hc]
  case hc=>(split<;>omega)
  conv=>lhs;whnf
  rewrite [A57 ?hc]
  case hc=>(first|decide|(have h:l.length+1<=6:=hb;show((l.length+1:Nat):Int)<=64;omega))
  conv=>lhs;whnf
  rewrite [(e) false _ _ ?hq]
  case hq=>exact λK=>by kernel_rfl
  conv=>lhs;whnf
  rewrite [(f) false _ _ ?hq]
  case hq=>exact λK=>by kernel_rfl
  conv=>lhs;whnf
  exact g _ _ (λb=>⟨false,λK=>by kernel_rfl⟩)
end
end
section
variable {v:AV} {H:Hp} {r:Nat} {y:Row}
variable {L n:Nat} {K:KV} {x:Af}
structure Bld (r:Nat) (l:List UInt8) (v:AV) (H:Hp):Prop where
 at_:∃tw:Nat,(tw=Hr\/tw=E1)/\(Aj H r=some (c_ tw [.v (.pointer none),v])\/Aj H r=some (c_ tw [.ptr r 0 0,v]))
 sl:B2 H Bt 1 v l.length (Ml l)
 ne:¬A8 v r
 wf:Wf H
structure Kp (r:Nat) (v:AV) (H:Hp) (v':AV) (H':Hp):Prop where
 keep:∀u y,Aj H u=some y->u≠r->¬A8 v u->Aj H' u=some y
 new:∀u,A8 v' u->A8 v u\/Ao H<=u
 nx:Ao H<=Ao H'
def Kp.refl (r:Nat) (v:AV) (H:Hp):Kp r v H v H:=⟨λ_ _ h _ _=>h,λ_ h=> .inl h,Mb _⟩
def Kp.trans {v e b:AV} {H H' a:Hp} (w:Wf H) (h:Kp r v H e H') (k:Kp r e H' b a):Kp r v H b a:=
 ⟨λu y c h1 h2=>k.keep u y (h.keep u y c h1 h2) h1 (λf=>by
  rcases h.new u f with d|d
  ·exact h2 d
  ·have:=w.lt c;omega),
  λu c=>by
   rcases k.new u c with h1|h1
   ·exact h.new u h1
   ·exact .inr (by have:=h.nx;omega),Z7 h.nx k.nx⟩
theorem Bld.upd {r s:Nat} {l:List UInt8} (h:Bld r l v H) (h1:s≠r) (h2:¬A8 v s):Bld r l v (upd H s y):=
 ⟨by rw[Ag h1.symm];exact h.at_,h.sl.lat h.wf (Lat.upd H s y (P:= λu=>u=s) rfl) (λu a e=>h2 (e▸a)),h.ne,Bn h.wf⟩
theorem Bld.cons {l:List UInt8} (h:Bld r l v H):Bld r l v ((Ao H,y)::H):=by
 refine⟨?_,h.sl.lat h.wf (Lat.cons H y (λ_=>False)) (λ_ _ h=>h),h.ne,AI h.wf⟩;obtain⟨b,a,h1|h1⟩:=h.at_
 ·exact⟨b,a,.inl (A4 (h.wf.lt h1) h1)⟩
 ·exact⟨b,a,.inr (A4 (h.wf.lt h1) h1)⟩
def B? {l s:List UInt8} (h:Bld r l v H) (hb:l.length+s.length<1000000000)
 (hx:∀i t,Bld r (l++s) i t->Kp r v H i t->K (.tup [I s.length,.v .nilIface]) t=x):(r! L (n+2)).call BE [.ptr r 0 0,S s] H K=x:=by
 rw[Nv];unfold G8 Eh;rw[OL];unfold HC Eh;have J:∀K:AV->Af,CV 0 (.ptr r 0 0) K=K (.ptr r 0 0):= λK=>id rfl;have a1:∀K:AV->Af,CV 1 (.ptr r 0 0) K=K (.ptr r 1 0):= λK=>id rfl;obtain⟨w,m,Q⟩:=h.at_;have main:∀j,Aj j r=some (c_ w [.ptr r 0 0,v])->Bld r l v j->Kp r v H v j->(Lg (.ptr r 0 0) λv3=>CV 1 v3 λv4=>AF AU v4 j λv5=>E9 Bt 1 Bi Ai v5 (S s) j λv6 X=>
  Lg (.ptr r 0 0) λv8=>CV 1 v8 λv9=>E0 AU v9 v6 X λF=>Bq Ai (S s) λR=>K (.tup [R,.v .nilIface]) F)=x:= λj k c O=>by
  rw[It,a1,AP (p:=1) rfl k (by simp)];show E9 Bt 1 Bi Ai v (S s) j _=x;obtain⟨i,t,h1,h2,V,D⟩:=apt (ie:=Bi) (i2:=Ai) c.sl (λK=>B9I (K:=K)) (by rw[PW];omega) (A5C s) (by decide) rfl rfl (by show(l.length+s.length)*1<=_;omega) (by omega);rw[h1,It,a1];have A:Aj t r=some (c_ w [.ptr r 0 0,v]):=D.keep c.wf r _ k c.ne;have C:=D.wf c.wf;rw[S!] at h2;have g:Bv i=[i]/\AV.one i=true:=by
   rcases h2 with⟨rfl,_⟩|⟨a,b,rfl,_⟩<;>exact⟨rfl,rfl⟩
  rw[Ed (q:=true) (e:=w) (cs:=[.ptr r 0 0,v]) A (by simp) rfl g.1 g.2,PG rfl];have Z:=c.wf.lt k;have B:¬A8 i r:= λd=>by have:=V r d;omega
  refine hx i _ ⟨⟨w,m,.inr (AC A)⟩,?_,B,Bn C⟩ ?_
  ·rw[EY];exact h2.lat C (Lat.upd t r _ (P:= λu=>u=r) rfl) (λu d e=>B (e▸d))
  ·refine O.trans h.wf ⟨λu y d hn hv=> ?_,λu d=> .inr (by rw[V u d];exact Mb _),by rw[BC];exact D.nx⟩;rw[Ag hn];exact D.keep c.wf u y d hv
 rw[It,J];rcases Q with f|f
 ·rw[AP (p:=0) rfl f (by simp)];show Rj Cj BG .eql (.v (.pointer none)) (.v (.pointer none)) _=x;have M:∀K:AV->Af,Rj Cj BG .eql (.v (.pointer none)) (.v (.pointer none)) K=K (Bo true):= λK=>id rfl;rw[M,Cy];have N:∀K:AV->Af,A1z BG (.ptr r 0 0) H K=K (.ptr r 0 0):= λK=>by
   have:A1z BG (.ptr r 0 0) H K=IJ H r λx=>JV x λ_ cs=>HI cs 0 λcl=>ck (Nat.blt (Nat.add 0 0) cl&& !Nat.beq BG.size 0) (K (.ptr r 0 0)):=rfl;rw[this,Bf f];rfl
  have Y:∀K:AV->Af,A1u A3q E1 (.ptr r 0 0) H K=K (.ptr r 0 0):= λK=>by
   have:A1u A3q E1 (.ptr r 0 0) H K=IJ H r λx=>eS x λq E cs=>HI cs 0 λcl=>ck (q&&B49 A3q E cl (Nat.add 0 0) E1) (K (.ptr r 0 0)):=rfl;rw[this,Bf f];rcases m with rfl|rfl<;>rfl
  rw[N,Y,It,J,Ed (q:=true) (e:=w) (cs:=[.v (.pointer none),v]) f (by simp) rfl rfl rfl];refine main _ (AC f) ⟨⟨w,m,.inr (AC f)⟩,h.sl.lat h.wf (Lat.upd H r _ (P:= λu=>u=r) rfl) (λu d e=>h.ne (e▸d)),h.ne,Bn h.wf⟩ ⟨λu y d hn _=>by rw[Ag hn];exact d,λu d=> .inl d,by rw[BC];exact Mb _⟩
 ·rw[AP (p:=0) rfl f (by simp)];show Rj Cj BG .eql (.ptr r 0 0) (.v (.pointer none)) _=x;have M:∀K:AV->Af,Rj Cj BG .eql (.ptr r 0 0) (.v (.pointer none)) K=K (Bo false):= λK=>id rfl;rw[M,Bj,It,J,AP (p:=0) rfl f (by simp)];show Rj Cj BG .neq (.ptr r 0 0) (.ptr r 0 0) _=x;have N:∀K:AV->Af,Rj Cj BG .neq (.ptr r 0 0) (.ptr r 0 0) K=K (Bo false):= λK=>by
   have:Rj Cj BG .neq (.ptr r 0 0) (.ptr r 0 0) K=ck (Nat.beq r r&&(Nat.beq (Nat.add 0 0) (Nat.add 0 0)&& !Nat.beq BG.size 0)) (K (Bo false)):=rfl;rw[this,mK];rfl
  rw[N,Bj];exact main H f h (Kp.refl r v H)
end
section
variable {a v v0:AV} {H H0:Hp} {k2:Hp->Af} {zs:List (List UInt8)} {e r:Nat} {t:TI}
variable {L n:Nat} {K:KV} {x:Af}
def Sr (H:Hp) (r:Nat) (v a:AV) (cs:List AV):Prop:=a= .list cs.length cs\/(a=As/\cs=[])\/∃k q e,a= .sl 1 k 0 cs.length/\Aj H k=some (.cells q e cs)/\k≠r/\¬A8 v k
def Sr.kp {H H':Hp} {v f a:AV} {cs:List AV} (h:Sr H r v a cs) (w:Wf H) (k:Kp r v H f H'):Sr H' r f a cs:=by
 rcases h with h|h|⟨i,q,e,h1,h2,b,c⟩
 ·exact .inl h
 ·exact .inr (.inl h)
 ·refine .inr (.inr ⟨i,q,e,h1,k.keep i _ h2 b c,b,λg=> ?_⟩);rcases k.new i g with d|d
  ·exact c d
  ·have:=w.lt h2;omega
def Sr.len {cs:List AV} {e z:Nat} {K:AV->Af} (h:Sr H r v a cs) (c:t.d= .slice e z):Bq t a K=K (I cs.length):=by
 obtain⟨s,b,d,zr⟩:=t;simp only at c;subst c;rcases h with rfl|⟨rfl,rfl⟩|⟨i,q,e,rfl,_⟩<;>exact id rfl
def Sr.get {r i:Nat} {cs:List AV} {t g:TI} {K:AV->Af} (h:Sr H r v a cs) (b:t.d= .slice e 1) (f:g.d.isAgg=false) (c:i<cs.length):(Dw t a (I i) λp=>AF g p H K)=K (cs.getD i .dk):=by
 rcases h with rfl|⟨_,rfl⟩|⟨k,q,m,rfl,j,_⟩
 ·rw[dL b rfl (by omega) (by omega),kV,O0 f]
 ·simp at c
 ·rw[P_ b (by omega) (by omega),kV,AP (p:=i) f j c]
def C0M {zs:List Int} (C:zs.length<100) (hz:∀z∈zs, -10<=z/\z<390) {l:List UInt8} (hb:l.length<900000000) (w0:Wf H0)
 (u:∀k b,Bld r (l++Jk zs) k b->Kp r v0 H0 k b->k2 b=x):∀(f i:Nat) (v:AV) (H:Hp),i<=zs.length->zs.length-i<f->Bld r (l++Jk (zs.take i)) v H->Kp r v0 H0 v H->Sr H r v a (Gz zs)->
 G6 (L+20) (r! L (n+9)) K k2 f (.ptr r 0 0) a (I zs.length) (I i) H=x:=by
 intro f
 induction f with
 |zero=>intro i v H _ h;omega
 |succ f ih=>
  intro i v H B A j m q;rw[Nt];unfold G7 Iv A0;by_cases h:i<zs.length
  ·have g:=hz zs[i] (Qe h);have p:=F1 (zs.take i);have w:(zs.take i).length<=zs.length:=by simp;omega
   have y:=Tt zs[i];rw[FR (by omega),Cy,q.get rfl rfl (by simp[Gz];omega),Wl h,A0b (L:=L) (n:=n+1) g.1 g.2,F3,F2,It];have s:∀K:AV->Af,CV 0 (.ptr r 0 0) K=K (.ptr r 0 0):= λK=>id rfl;rw[s];refine B? (n:=n+7) j (by rw[EY];omega) λk b c d=> ?_;rw[Dg (by omega)];rw[dW,<-yS zs h] at c;exact ih (i+1) k b (by omega) (by omega) c (m.trans w0 d) (q.kp j.wf d)
  ·rw[FP (by omega),Bj];have:i=zs.length:=by omega
   subst this;rw[vB] at j;exact u v H j m
def A64 {zs:List Int} {l:List UInt8} (k:100<L) (i:zs.length<100) (hz:∀z∈zs, -10<=z/\z<390) (hb:l.length<900000000) (c:Bld r l v H) (d:Sr H r v a (Gz zs))
 (j:∀f b,Bld r (l++Jk zs) f b->Kp r v H f b->K (.tup []) b=x):(r! L (n+10)).call BN [.ptr r 0 0,a] H K=x:=by
 rw[NY];unfold GS A0;rw[d.len rfl];simp only[BK];have g:(AV.v (.int .i64 0))=I ((0:Nat):Int):=rfl;have h:(Gz zs).length=zs.length:=by simp[Gz]
 rw[g,h];exact C0M (n:=n) i hz hb c.wf j (L+20) 0 v H (by omega) (by omega) (by simpa [Jk] using c) (Kp.refl r v H) d
def C0I (D:zs.length<100) (hz:∀z∈zs,z.length<390) {l:List UInt8} (hb:l.length<900000000) (w0:Wf H0)
 (w:∀k b,Bld r (l++Ix zs) k b->Kp r v0 H0 k b->k2 b=x):∀(f i:Nat) (v:AV) (H:Hp),i<=zs.length->zs.length-i<f->Bld r (l++Ix (zs.take i)) v H->Kp r v0 H0 v H->Sr H r v a (AG zs)->
 Hw (L+20) (r! L (n+9)) K k2 f (.ptr r 0 0) a (I zs.length) (I i) H=x:=by
 intro f
 induction f with
 |zero=>intro i v H _ h;omega
 |succ f ih=>
  intro i v H C B g p j;rw[OI];unfold Hy Iv A0;by_cases h:i<zs.length
  ·have m:=hz zs[i] (Qe h);have q:=F0 (zs.take i) (λs j=>hz s (l2a j));have y:(zs.take i).length<=zs.length:=by simp;omega
   have A:(O? zs[i]).length<=400:=by unfold O?;rw[EY];have:=Tt (zs[i].length:Int);omega
   rw[FR (by omega),Cy,j.get rfl rfl (by simp[AG];omega),OX h,A0a L n m,F3,F2,It];have u:∀K:AV->Af,CV 0 (.ptr r 0 0) K=K (.ptr r 0 0):= λK=>id rfl;rw[u];refine B? (n:=n+7) g (by rw[EY];omega) λk b c d=> ?_;rw[Dg (by omega)];rw[dW,<-yR zs h] at c;exact ih (i+1) k b (by omega) (by omega) c (p.trans w0 d) (j.kp g.wf d)
  ·rw[FP (by omega),Bj];have:i=zs.length:=by omega
   subst this;rw[vB] at g;exact w v H g p
def B_ {l:List UInt8} (k:100<L) (i:zs.length<100) (hz:∀z∈zs,z.length<390) (hb:l.length<900000000) (c:Bld r l v H) (d:Sr H r v a (AG zs))
 (j:∀f b,Bld r (l++Ix zs) f b->Kp r v H f b->K (.tup []) b=x):(r! L (n+10)).call Cw [.ptr r 0 0,a] H K=x:=by
 rw[Pn];unfold Ii A0;rw[d.len rfl];simp only[BK];have g:(AV.v (.int .i64 0))=I ((0:Nat):Int):=rfl;have h:(AG zs).length=zs.length:=by simp[AG]
 rw[g,h];exact C0I (n:=n) i hz hb c.wf j (L+20) 0 v H (by omega) (by omega) (by simpa [Ix] using c) (Kp.refl r v H) d
end
section
variable {v:AV} {q:Bool} {H:Hp} {e i k r:Nat}
variable {L n:Nat} {K:KV} {x:Af}
abbrev Rts:=List (List UInt8×List UInt8)
def rtC (q:List UInt8×List UInt8):List AV:=[S q.1,S q.2]
def Rf (l:Rts):List UInt8:=(l.map λq=>Ix [q.1,q.2]).flatten
def A70 (l:Rts) (h:i<l.length):Rf (l.take (i+1))=Rf (l.take i)++Ix [l[i].1,l[i].2]:=by
 unfold Rf;rw[kY h,YN,List.flatten_append];simp only[WR,List.map_nil,l1d,List.flatten_nil,Wi]
def Oz (l:Rts) (h:∀q∈l,q.1.length<390/\q.2.length<390):(Rf l).length<=800*l.length:=by
 induction l with
 |nil=>simp[Rf]
 |cons s l ih=>
  have a:=ih (λs c=>h s (by simp[c]));have b:=F0 [s.1,s.2] (by simp;exact h s (by simp));simp only[Rf,WR,l1d,EY,LP,QJ] at a b⊢;omega
def Kp.cons {y:Row} (w:Wf H):Kp r v H v ((Ao H,y)::H):=⟨λu z a _ _=>A4 (w.lt a) a,λu a=> .inl a,l1u _⟩
theorem Bld.lt {l:List UInt8} (h:Bld r l v H):r<Ao H:=by obtain⟨_,_,h1|h1⟩:=h.at_<;>exact h.wf.lt h1
def Bld.vlt {r u:Nat} {l:List UInt8} (h:Bld r l v H) (a:A8 v u):u<Ao H:=h.sl.lt h.wf a
def B9L {r m i:Nat} {K:AV->Af} (h:i<m):Dw Jl (.sl 2 r 0 m) (I i) K=K (.ptr r (2*i) 0):=by
 have a:Dw Jl (.sl 2 r 0 m) (I (i:Int)) K=iN (i:Int) λk=>ck (Nat.blt k m) (fN (Nat.add 0 (Nat.mul k 2)) λq=>K (.ptr r q 0)):=rfl;rw[a,JW,DT];have h2:Nat.blt i m=true:=by rw[Wj];exact h
 have b:Nat.add 0 (Nat.mul i 2)=2*i:=by show 0+i*2=_;omega
 rw[h2,b];rfl
def C0J {rs:Rts} {k2:Hp->Af} (hl:rs.length<100) (hz:∀z∈rs,z.1.length<390/\z.2.length<390) {l:List UInt8} (hL:100<L) (hb:l.length<800000000) {v0:AV} {H0:Hp} (w0:Wf H0) (Q:k≠r)
 (hx:∀F m,Bld r (l++Rf rs) F m->Kp r v0 H0 F m->k2 m=x):∀(f i:Nat) (v:AV) (H:Hp),i<=rs.length->rs.length-i<f->Bld r (l++Rf (rs.take i)) v H->Kp r v0 H0 v H->Aj H k=some (.cells q e (rs.flatMap rtC))->¬A8 v k->
 GN (L+20) (r! L (n+10)) K k2 f (.ptr r 0 0) (.sl 2 k 0 rs.length) (I rs.length) (I i) H=x:=by
 intro f
 induction f with
 |zero=>intro i v H _ h;omega
 |succ f ih=>
  intro i v H hi hf d Y C D;rw[NM];unfold GO Eh Iv A0;by_cases h:i<rs.length
  ·have V:=hz rs[i] (Qe h);have Z:=Oz (rs.take i) (λs C=>hz s (l2a C));have h5:(rs.take i).length<=rs.length:=by simp;omega
   rw[FR (by omega),Cy,B9L h];have N:=gP rtC 2 (λ_=>rfl) rs;have M:=tO rtC 2 (λ_=>rfl) rs i h;have R:∀K,AF A3 (.ptr k (2*i) 0) H K=K (.agg (rtC rs[i])):= λK=>by
    rw[GA (p:=2*i) rfl C (by rw[N];show 2*i+2<=_;omega),Nat.mul_comm 2 i];show K (.agg (((rs.flatMap rtC).drop (i*2)).take 2))=_;rw[M]
   rw[R,B1 (cs:=[zS,zS]) rfl];have B:=Aw (H:=H) (x:= .cells true Bp [zS,zS]) (by simp);rw[Cc (vs:=rtC rs[i]) B rfl rfl rfl];have g:=AC (q:=true) (e:=Bp) (cs:=rtC rs[i]) B;have aa:=d.lt;have b:=(d.cons (y:= .cells true Bp [zS,zS])).upd (s:=Ao H) (y:= .cells true Bp (rtC rs[i])) (by omega) (λc=>by have:=d.vlt c;omega);have A:Kp r v H v (upd ((Ao H,c_ Bp [zS,zS])::H) (Ao H) (c_ Bp (rtC rs[i]))):=⟨λu y c h1 h2=>by
    have:=d.wf.lt c;rw[Ag (by omega)];exact A4 this c,λu c=> .inl c,by rw[BC];exact l1u _⟩
   generalize upd ((Ao H,c_ Bp [zS,zS])::H) (Ao H) (c_ Bp (rtC rs[i]))=a at g b A;generalize Ao H=t at g;have g0:∀K:AV->Af,CV 0 (.ptr t 0 0) K=K (.ptr t 0 0):= λK=>id rfl;have g1:∀K:AV->Af,CV 1 (.ptr t 0 0) K=K (.ptr t 1 0):= λK=>id rfl;have m0:∀K,AF Ai (.ptr t 0 0) a K=K (S rs[i].1):= λK=>AP (p:=0) rfl g (show 0<2 by decide);have m1:∀K,AF Ai (.ptr t 1 0) a K=K (S rs[i].2):= λK=>AP (p:=1) rfl g (show 1<2 by decide);rw[g0,m0,g1,m1];have bs:∀K:KV,Hf Ar 1 Ai 2 [(0,1,S rs[i].1),(1,1,S rs[i].2)] a K=K (.sl 1 (Ao a) 0 2) ((Ao a,.cells false Ar (AG [rs[i].1,rs[i].2]))::a):= λK=>by
    have e:Hf Ar 1 Ai 2 [(0,1,S rs[i].1),(1,1,S rs[i].2)] a K=Ig a λs=>K (.sl 1 s 0 2) ((s,.cells false Ar (AG [rs[i].1,rs[i].2]))::a):=rfl;rw[e,BV]
   rw[bs];have J:=b.cons (y:= .cells false Ar (AG [rs[i].1,rs[i].2]));have P:Kp r v H v ((Ao a,.cells false Ar (AG [rs[i].1,rs[i].2]))::a):=A.trans d.wf (Kp.cons b.wf);refine B_ (n:=n) hL (zs:=[rs[i].1,rs[i].2]) (by simp) (by simp;exact V) (by rw[EY];omega) J (.inr (.inr ⟨Ao a,false,Ar,rfl,Aw (by simp),by have:=b.lt;omega,λc=>by have:=b.vlt c;omega⟩)) λF m w O=> ?_;rw[Dg (by omega)];rw[dW,<-A70 rs h] at w;have j:=P.trans d.wf O;refine ih (i+1) F m (by omega) (by omega) w (Y.trans w0 j) (j.keep k _ C Q D) (λc=> ?_);rcases j.new k c with X|X
   ·exact D X
   ·have:=d.wf.lt C;omega
  ·rw[FP (by omega),Bj];have:i=rs.length:=by omega
   subst this;rw[vB] at d;exact hx v H d Y
def A8g {rs:Rts} {l:List UInt8} (j:100<L) (m:rs.length<100) (hz:∀z∈rs,z.1.length<390/\z.2.length<390) (hb:l.length<800000000) (d:Bld r l v H) (b:k≠r) (p:Aj H k=some (.cells q e (rs.flatMap rtC))) (c:¬A8 v k)
 (s:∀f a,Bld r (l++Rf rs) f a->Kp r v H f a->K (.tup []) a=x):(r! L (n+11)).call CN [.ptr r 0 0,.sl 2 k 0 rs.length] H K=x:=by
 rw[OO];unfold HF A0;have h:∀K,Bq Jl (.sl 2 k 0 rs.length) K=K (I rs.length):= λK=>id rfl;rw[h];simp only[BK];have g:(AV.v (.int .i64 0))=I ((0:Nat):Int):=rfl;rw[g];exact C0J (n:=n) m hz j hb d.wf b s (L+20) 0 v H (by omega) (by omega) (by simpa [Rf] using d) (Kp.refl r v H) p c
end
section
variable {L n:Nat} {K:KV} {x:Af}
structure Bd (r:Nat) (ks:List (Nat×Row)) (b:Nat) (l:List UInt8) (v:AV) (H:Hp):Prop where
 bld:Bld r l v H
 ks:∀p∈ks,Aj H p.1=some p.2/\p.1≠r/\¬A8 v p.1
 sz:l.length<=b
def Bd.step {r b d:Nat} {ks:List (Nat×Row)} {l a:List UInt8} {v c:AV} {H H':Hp} (h:Bd r ks b l v H) (g:Bld r a c H') (k:Kp r v H c H') (j:a.length<=d):Bd r ks d a c H':=
 ⟨g,λp i=>by
  obtain⟨h1,h2,e⟩:=h.ks p i;refine⟨k.keep p.1 _ h1 h2 e,h2,λm=> ?_⟩;rcases k.new p.1 m with f|f
  ·exact e f
  ·have:=h.bld.wf.lt h1;omega,j⟩
def Bd.less {r b:Nat} {ks:List (Nat×Row)} {p:Nat×Row} {l:List UInt8} {v:AV} {H:Hp} (h:Bd r (p::ks) b l v H):Bd r ks b l v H:=⟨h.bld,λq hq=>h.ks q (List.mem_cons_of_mem _ hq),h.sz⟩
section
variable {r b:Nat} {ks:List (Nat×Row)} {l:List UInt8} {v:AV} {H:Hp}
def lZ (h:Bd r ks b l v H) (f:100<L) (hb:b<500000000) (zs:List Int) (i:zs.length<100) (hz:∀z∈zs, -10<=z/\z<390) (k:∀c a,Bd r ks (b+50000) (l++Jk zs) c a->K (.tup []) a=x):
 (r! L (n+10)).call BN [.ptr r 0 0,.sl 1 (Ao H) 0 zs.length] ((Ao H,.cells false GZ (Gz zs))::H) K=x:=by
 have h1:=h.sz;have h2:=F1 zs;have d:(Gz zs).length=zs.length:=by simp[Gz]
 refine A64 (n:=n) f i hz (by omega) h.bld.cons (.inr (.inr ⟨Ao H,false,GZ,by rw[d],Aw (by simp),by have:=h.bld.lt;omega,λj=>by have:=h.bld.vlt j;omega⟩)) λc a e g=> ?_;exact k c a (h.step e ((Kp.cons h.bld.wf).trans h.bld.wf g) (by rw[EY];omega))
def B1E (h:Bd r ks b l v H) (e:100<L) (hb:b<500000000) (zs:List (List UInt8)) (g:zs.length<100) (hz:∀z∈zs,z.length<390) (j:∀c a,Bd r ks (b+50000) (l++Ix zs) c a->K (.tup []) a=x):
 (r! L (n+10)).call Cw [.ptr r 0 0,.sl 1 (Ao H) 0 zs.length] ((Ao H,.cells false Ar (AG zs))::H) K=x:=by
 have h1:=h.sz;have h2:=F0 zs hz;refine B_ (n:=n) e g hz (by omega) h.bld.cons (.inr (.inr ⟨Ao H,false,Ar,by rw[AX],Aw (by simp),by have:=h.bld.lt;omega,λi=>by have:=h.bld.vlt i;omega⟩)) λc a d f=> ?_;exact j c a (h.step d ((Kp.cons h.bld.wf).trans h.bld.wf f) (by rw[EY];omega))
def C0f (h:Bd r ks b l v H) (f:100<L) (hb:b<500000000) (zs:List (List UInt8)) (a:AV) (g:a= .list zs.length (AG zs)\/(a=As/\zs=[])) (j:zs.length<100) (hz:∀z∈zs,z.length<390) (k:∀d c,Bd r ks (b+50000) (l++Ix zs) d c->K (.tup []) c=x):
 (r! L (n+10)).call Cw [.ptr r 0 0,a] H K=x:=by
 have h1:=h.sz;have h2:=F0 zs hz;refine B_ (n:=n) f j hz (by omega) h.bld ?_ λd c e i=>k d c (h.step e i (by rw[EY];omega));rcases g with rfl|⟨rfl,rfl⟩
 ·exact .inl (by rw[AX])
 ·exact .inr (.inl ⟨rfl,rfl⟩)
def T! (h:Bd r ks b l v H) (e:100<L) (hb:b<500000000) (rs:Rts) (j:rs.length<50) (hz:∀z∈rs,z.1.length<390/\z.2.length<390) (i:∀c a,Bd r ks (b+50000) (l++Rf rs) c a->K (.tup []) a=x):
 (r! L (n+11)).call CN [.ptr r 0 0,.sl 2 (Ao H) 0 rs.length] ((Ao H,.cells false Bp (rs.flatMap rtC))::H) K=x:=by
 have h1:=h.sz;have h2:=Oz rs hz;refine A8g (n:=n) e (by omega) hz (by omega) h.bld.cons (by have:=h.bld.lt;omega) (Aw (by simp)) (λg=>by have:=h.bld.vlt g;omega) λc a d f=> ?_;exact i c a (h.step d ((Kp.cons h.bld.wf).trans h.bld.wf f) (by rw[EY];omega))
def C0Q (h:Bld r l v H):(r! L (n+1)).call HV [.ptr r 0 0] H K=K (I l.length) H:=by
 rw[XA7];unfold JN Ip;have a1:∀K:AV->Af,CV 1 (.ptr r 0 0) K=K (.ptr r 1 0):= λK=>id rfl;rw[It,a1];have c:∀K,AF AU (.ptr r 1 0) H K=K v:= λK=>by
  obtain⟨_,_,a|a⟩:=h.at_<;>exact AP (p:=1) rfl a (by simp)
 rw[c,Lb rfl h.sl]
def A09 (h:Bld r l v H) (u:0<l.length) (hb:l.length<1000000000):∃a,∀K,(r! L (n+1)).call EH [.ptr r 0 0] H K=K (S l) a:=by
 rcases h.sl with⟨_,h1,_⟩|⟨s,q,rfl,t,hc⟩
 ·omega
 ·refine⟨upd H s .gone,λK=> ?_⟩;rw[Qu];unfold IM Ip;have a1:∀K:AV->Af,CV 1 (.ptr r 0 0) K=K (.ptr r 1 0):= λK=>id rfl;have i:∀K,AF AU (.ptr r 1 0) H K=K (.sl 1 s 0 l.length):= λK=>by
   obtain⟨_,_,c|c⟩:=h.at_<;>exact AP (p:=1) rfl c (by simp)
  have j:∀K,A73 (.sl 1 s 0 l.length) K=K (.ptr s 0 0):= λK=>by
   have:A73 (.sl 1 s 0 l.length) K=ck (Nat.beq 1 1&&Nat.blt 0 l.length) (K (.ptr s 0 0)):=rfl;rw[this];have:(Nat.beq 1 1&&Nat.blt 0 l.length)=true:=by simp;omega
   rw[this];rfl
  have k:∀K,Bq AU (.sl 1 s 0 l.length) K=K (I l.length):= λK=>id rfl;have m:∀K:KV,A3I Bt (.ptr s 0 0) (I l.length) H K=K (S l) (upd H s .gone):= λK=>by
   have:A3I Bt (.ptr s 0 0) (I l.length) H K=iN (l.length:Int) λn=>IJ H s λx=>JV x λE cs=>ck (Nat.beq E Bt&&(Nat.blt 0 n&&Nat.blt n 9223372036854775807)) (E8 n (Di (Nat.add 0 0) cs) λd=>fu8 d λl=>LC H s .gone λa=>K (.v (.string ⟨⟨l⟩⟩)) a):=rfl;rw[this,JW,Bf t];show ck (Nat.beq Bt Bt&&(Nat.blt 0 l.length&&Nat.blt l.length 9223372036854775807)) _=_;have g:(Nat.beq Bt Bt&&(Nat.blt 0 l.length&&Nat.blt l.length 9223372036854775807))=true:=by simp;omega
   rw[g];show E8 l.length (Di 0 (Ml l)) _=_;have f:∀(l:List UInt8) (K:List UInt8->Af),fu8 (Ml l) K=K l:= λl=>by
    induction l with
    |nil=>intro K;rfl
    |cons b l ih=>
     intro K;have e:fu8 (Ml (b::l)) K=iN (b.toNat:Int) λn=>fu8 (Ml l) λl=>K (UInt8.ofNat n::l):=rfl;rw[e,JW,ih];simp
   rw[C6,KA _ _ _ (by rw[pM,PW];exact Mb _),pM,W! (by rw[PW];exact Mb _),f,Dh]
  simp only[It,B7,a1,i,j,k,m,Cn]
end
end
section
variable {H:Hp}
variable {L n:Nat} {K:KV} {x:Af}
def tmB (t:Int×Int):List UInt8:=Jk [t.1]++Rf [(qn t.2,qd t.2)]
def QN (ts:iU):List UInt8:=(ts.map tmB).flatten
def xJ (l:iU) {i:Nat} (h:i<l.length):QN (l.take (i+1))=QN (l.take i)++tmB l[i]:=by
 unfold QN;rw[kY h,YN,List.flatten_append];simp only[WR,List.map_nil,l1d,List.flatten_nil,Wi]
def YZ {z:Int}:Hf GZ 1 Ab 1 [(0,1,I z)] H K=K (.sl 1 (Ao H) 0 1) ((Ao H,.cells false GZ (Gz [z]))::H):=by
 have e:Hf GZ 1 Ab 1 [(0,1,I z)] H K=Ig H λs=>K (.sl 1 s 0 1) ((s,.cells false GZ (Gz [z]))::H):=rfl;rw[e,BV]
def iI {z:List UInt8}:Hf Ar 1 Ai 1 [(0,1,S z)] H K=K (.sl 1 (Ao H) 0 1) ((Ao H,.cells false Ar (AG [z]))::H):=by
 have e:Hf Ar 1 Ai 1 [(0,1,S z)] H K=Ig H λs=>K (.sl 1 s 0 1) ((s,.cells false Ar (AG [z]))::H):=rfl;rw[e,BV]
def S_ {a b:List UInt8}:Hf Bp 2 A3 1 [(0,2,.agg [S a,S b])] H K=K (.sl 2 (Ao H) 0 1) ((Ao H,.cells false Bp (([(a,b)]:Rts).flatMap rtC))::H):=by
 have e:Hf Bp 2 A3 1 [(0,2,.agg [S a,S b])] H K=Ig H λs=>K (.sl 2 s 0 1) ((s,.cells false Bp (([(a,b)]:Rts).flatMap rtC))::H):=rfl;rw[e,BV]
def C3j {r c:Nat} {ks:List (Nat×Row)} {ts:iU} {g:AV->AV->Hp->Af} (P:TmsOk ts) (M:100<L) {b:Nat} (hb:b<100000000) {l:List UInt8}
 (hx:∀v' F,Bd r ks (b+100000*ts.length) (l++QN ts) v' F->g (.ptr c 0 0) (.ptr r 0 0) F=x):∀(f i:Nat) (v:AV) (H:Hp),i<=ts.length->ts.length-i<f->Bd r ks (b+100000*i) (l++QN (ts.take i)) v H->
 Mi (L+20) (r! L (n+11)) K g f (.ptr c 0 0) (.ptr r 0 0) (FD ts) (I ts.length) (I i) H=x:=by
 have N:=P.len;intro f
 induction f with
 |zero=>intro i v H _ h;omega
 |succ f ih=>
  intro i v H hi hf a;rw[Xj];unfold Mj Eh Iv A0;by_cases h:i<ts.length
  ·have hr:=P.rng _ (Qe h);rw[FR (by omega),Cy,W0 h,lTm,B1 (cs:=[zI,zS,zS]) rfl];have u:=Aw (H:=H) (x:= .cells true AY [zI,zS,zS]) (by simp);rw[Cc (vs:=OD ts[i]) u rfl rfl rfl];have d:=AC (q:=true) (e:=AY) (cs:=OD ts[i]) u;have O:=a.bld.lt;have w:=(a.bld.cons (y:= .cells true AY [zI,zS,zS])).upd (s:=Ao H) (y:= .cells true AY (OD ts[i])) (by omega) (λD=>by have:=a.bld.vlt D;omega);have j:Bd r ((Ao H,c_ AY (OD ts[i]))::ks) (b+100000*i) (l++QN (ts.take i)) v (upd ((Ao H,c_ AY [zI,zS,zS])::H) (Ao H) (c_ AY (OD ts[i]))):=⟨w,λp B=>by
    rcases Uf.1 B with rfl|B
    ·exact⟨d,by simp only;omega,λD=>by have:=a.bld.vlt D;omega⟩
    ·obtain⟨p1,p2,p3⟩:=a.ks p B;have:=a.bld.wf.lt p1;exact⟨by rw[Ag (by omega)];exact A4 this p1,p2,p3⟩,a.sz⟩
   generalize upd ((Ao H,c_ AY [zI,zS,zS])::H) (Ao H) (c_ AY (OD ts[i]))=Q at d j;generalize Ao H=t at d j;have Y:∀K:AV->Af,CV 0 (.ptr t 0 0) K=K (.ptr t 0 0):= λK=>id rfl;have Z:∀K:AV->Af,CV 1 (.ptr t 0 0) K=K (.ptr t 1 0):= λK=>id rfl;have m0:∀K,AF Ab (.ptr t 0 0) Q K=K (I ts[i].1):= λK=>AP (p:=0) rfl d (show 0<3 by decide);rw[Y,m0,YZ];refine lZ (n:=n+1) j M (by omega) [ts[i].1] (by simp) (by simp;omega) λv2 J k=> ?_;have C:Aj J t=some (c_ AY (OD ts[i])):=(k.ks (t,c_ AY (OD ts[i])) (by simp)).1;have m1:∀K,AF A3 (.ptr t 1 0) J K=K (.agg (qa ts[i].2)):= λK=>GA (p:=1) rfl C (show 3<=3 from Mb _);rw[Z,m1,S_];have aa:=XB (z:=ts[i].2) (by omega) (by omega);have ab:=XC ts[i].2;refine T! (n:=n) k M (by omega) [(qn ts[i].2,qd ts[i].2)] (by simp) (by simp;omega) λv3 R A=> ?_;rw[Dg (by omega)];have V:l++QN (ts.take i)++Jk [ts[i].1]++Rf [(qn ts[i].2,qd ts[i].2)]=l++QN (ts.take (i+1)):=by
    rw[xJ ts h];simp[tmB]
   have X:b+100000*i+50000+50000=b+100000*(i+1):=by omega
   have m:=A.less;rw[V,X] at m;exact ih (i+1) v3 R (by omega) (by omega) m
  ·rw[FP (by omega),Bj];have:i=ts.length:=by omega
   subst this;rw[vB] at a;exact hx v H a
end
section
variable {L n:Nat}
def UC (r:RD) (vd:Int):List UInt8:=Jk [r.k]++Rf [(r.a1,r.a2),(r.b1,r.b2),(r.c1,r.c2),(r.d1,r.d2)]++Jk [vd]
def Np (kd:Int) (m:ND) (un ca cb:List UInt8) (ts:iU) (ra rb:List UInt8) (ps:List (List UInt8)) (pt:List UInt8) (tail:List UInt8):List UInt8:=
 []++Jk [kd,m.lab,m.num,m.itm,m.tim,m.day]++Ix [un]++Rf [(ca,cb)]++Jk [(ts.length:Int)]++QN ts++Rf [(ra,rb)]++Jk [(ps.length:Int)]++Ix ps++Ix [pt]++tail
def B2v:PS (r! L (n+40)) ZA [.agg [I 0,As,As]] (.tup [S [],I 200]):=BJ (λH K=>by kernel_rfl) (by kernel_rfl)
def B2z:PS (r! L (n+40)) Qh [.agg [I 0,As,As]] (Bo true):=BJ (λH K=>by kernel_rfl) (by kernel_rfl)
def DJ (ps:List (List UInt8)):AV:=match ps with
 |[]=>As
 |p::ps=> .list (p::ps).length (AG (p::ps))
section
variable {m:ND} {u o:UD} {ca cb ra rb:List UInt8} {T P ins nds:AV} {kd id vd:Int} {r:RD} {c:Nat} {H:Hp} {K:AV->Af}
abbrev KR (kd:Int) (m:ND) (u:UD) (ca cb:List UInt8) (T:AV) (ra rb:List UInt8) (P:AV) (id:Int) (ins nds:AV) (o:UD) (r:RD) (vd:Int):Row:= .cells true Ad (Et kd m u ca cb T ra rb P id ins nds o r vd)
def SL (e:Sl T) (d:Sl P) (a:Sl ins) (b:Sl nds):(Et kd m u ca cb T ra rb P id ins nds o r vd).all AV.one=true:=by
 rcases e with rfl|⟨_,_,rfl⟩<;>rcases d with rfl|⟨_,_,rfl⟩<;>rcases a with rfl|⟨_,_,rfl⟩<;>rcases b with rfl|⟨_,_,rfl⟩<;>rfl
def WI (e:Sl T) (d:Sl P) (a:Sl ins) (b:Sl nds):Rr true depth [.agg (Et kd m u ca cb T ra rb P id ins nds o r vd)] [.agg (Et kd m u ca cb T ra rb P id ins nds o r vd)] H false:=by
 rcases e with rfl|⟨_,_,rfl⟩<;>rcases d with rfl|⟨_,_,rfl⟩<;>rcases a with rfl|⟨_,_,rfl⟩<;>rcases b with rfl|⟨_,_,rfl⟩<;>exact λK=>by kernel_rfl
def VF (a:Sl ins) (b:Sl nds):Rr true depth [.agg (BI id ins nds o)] [.agg (BI id ins nds o)] H false:=by
 rcases a with rfl|⟨_,_,rfl⟩<;>rcases b with rfl|⟨_,_,rfl⟩<;>exact λK=>by kernel_rfl
def cA (a:Aj H c=some (KR kd m u ca cb T ra rb P id ins nds o r vd)):AF Ae (.ptr c 0 0) H K=K (.agg (Et kd m u ca cb T ra rb P id ins nds o r vd)):=Bu rfl rfl a
def cI0 (a:Aj H c=some (KR kd m u ca cb T ra rb P id ins nds o r vd)):AF Ab (.ptr c 0 0) H K=K (I kd):=AP (p:=0) rfl a (show 0<68 by decide)
def cI1 (a:Aj H c=some (KR kd m u ca cb T ra rb P id ins nds o r vd)):AF Ab (.ptr c 1 0) H K=K (I m.lab):=AP (p:=1) rfl a (show 1<68 by decide)
def cI2 (a:Aj H c=some (KR kd m u ca cb T ra rb P id ins nds o r vd)):AF Ab (.ptr c 2 0) H K=K (I m.num):=AP (p:=2) rfl a (show 2<68 by decide)
def cI3 (a:Aj H c=some (KR kd m u ca cb T ra rb P id ins nds o r vd)):AF Ab (.ptr c 3 0) H K=K (I m.itm):=AP (p:=3) rfl a (show 3<68 by decide)
def cI4 (a:Aj H c=some (KR kd m u ca cb T ra rb P id ins nds o r vd)):AF Ab (.ptr c 4 0) H K=K (I m.tim):=AP (p:=4) rfl a (show 4<68 by decide)
def cI5 (a:Aj H c=some (KR kd m u ca cb T ra rb P id ins nds o r vd)):AF Ab (.ptr c 5 0) H K=K (I m.day):=AP (p:=5) rfl a (show 5<68 by decide)
def cU (a:Aj H c=some (KR kd m u ca cb T ra rb P id ins nds o r vd)):AF Ay (.ptr c 6 0) H K=K (.agg (CJ u)):=GA (p:=6) rfl a (show 26<=68 by decide)
def cC (a:Aj H c=some (KR kd m u ca cb T ra rb P id ins nds o r vd)):AF A3 (.ptr c 26 0) H K=K (.agg ([S ca,S cb])):=GA (p:=26) rfl a (show 28<=68 by decide)
def cT (a:Aj H c=some (KR kd m u ca cb T ra rb P id ins nds o r vd)):AF AA (.ptr c 28 0) H K=K (T):=AP (p:=28) rfl a (show 28<68 by decide)
def cR (a:Aj H c=some (KR kd m u ca cb T ra rb P id ins nds o r vd)):AF A3 (.ptr c 29 0) H K=K (.agg ([S ra,S rb])):=GA (p:=29) rfl a (show 31<=68 by decide)
def cP (a:Aj H c=some (KR kd m u ca cb T ra rb P id ins nds o r vd)):AF Ac (.ptr c 31 0) H K=K (P):=AP (p:=31) rfl a (show 31<68 by decide)
def cPr (a:Aj H c=some (KR kd m u ca cb T ra rb P id ins nds o r vd)):AF AR (.ptr c 32 0) H K=K (.agg (BI id ins nds o)):=GA (p:=32) rfl a (show 55<=68 by decide)
def cRk (a:Aj H c=some (KR kd m u ca cb T ra rb P id ins nds o r vd)):AF Ab (.ptr c 55 0) H K=K (I r.k):=AP (p:=55) rfl a (show 55<68 by decide)
def cR1 (a:Aj H c=some (KR kd m u ca cb T ra rb P id ins nds o r vd)):AF A3 (.ptr c 56 0) H K=K (.agg ([S r.a1,S r.a2])):=GA (p:=56) rfl a (show 58<=68 by decide)
def cR2 (a:Aj H c=some (KR kd m u ca cb T ra rb P id ins nds o r vd)):AF A3 (.ptr c 58 0) H K=K (.agg ([S r.b1,S r.b2])):=GA (p:=58) rfl a (show 60<=68 by decide)
def cR3 (a:Aj H c=some (KR kd m u ca cb T ra rb P id ins nds o r vd)):AF A3 (.ptr c 60 0) H K=K (.agg ([S r.c1,S r.c2])):=GA (p:=60) rfl a (show 62<=68 by decide)
def cR4 (a:Aj H c=some (KR kd m u ca cb T ra rb P id ins nds o r vd)):AF A3 (.ptr c 62 0) H K=K (.agg ([S r.d1,S r.d2])):=GA (p:=62) rfl a (show 64<=68 by decide)
def cV (a:Aj H c=some (KR kd m u ca cb T ra rb P id ins nds o r vd)):AF Ab (.ptr c 64 0) H K=K (I vd):=AP (p:=64) rfl a (show 64<68 by decide)
def cS (a:Aj H c=some (KR kd m u ca cb T ra rb P id ins nds o r vd)):AF PX (.ptr c 65 0) H K=K (.agg ([I 0,As,As])):=GA (p:=65) rfl a (show 68<=68 by decide)
def fA {c j k:Nat}:CV j (.ptr c k 0) K=K (.ptr c (k+j) 0):=by
 have e:CV j (.ptr c k 0) K=fN (Nat.add k j) λq=>K (.ptr c q 0):=rfl;rw[e,DT];rfl
end
def eN (ts:iU) (h:∀t∈ts,(qn t.2).length<390/\(qd t.2).length<390):(QN ts).length<=900*ts.length:=by
 induction ts with
 |nil=>simp[QN]
 |cons t l ih=>
  have h1:=ih (λt b=>h t (by simp[b]));have h2:=F1 [t.1];have a:=Oz [(qn t.2,qd t.2)] (by simp;exact h t (by simp));simp only[QN,WR,l1d,EY,LP,QJ,tmB] at h1 h2 a⊢;omega
def Bd.tms0 {r b:Nat} {ks:List (Nat×Row)} {l:List UInt8} {v:AV} {H:Hp} (ts:iU) (h:Bd r ks b l v H):Bd r ks (b+100000*0) (l++QN (ts.take 0)) v H:=by
 rw[show QN (ts.take 0)=[] from rfl,Wi];exact h
def B4N (z:Int):0<(enc z).length:=by
 unfold enc B0R;split<;>simp
def B50 {a b c d e f:Int} {H:Hp} {K:KV}:Hf GZ 1 Ab 6 [(0,1,I a),(1,1,I b),(2,1,I c),(3,1,I d),(4,1,I e),(5,1,I f)] H K=K (.sl 1 (Ao H) 0 6) ((Ao H,.cells false GZ (Gz [a,b,c,d,e,f]))::H):=by
 have g:Hf GZ 1 Ab 6 [(0,1,I a),(1,1,I b),(2,1,I c),(3,1,I d),(4,1,I e),(5,1,I f)] H K=Ig H λs=>K (.sl 1 s 0 6) ((s,.cells false GZ (Gz [a,b,c,d,e,f]))::H):=rfl;rw[g,BV]
def B4Z {a1 a2 b1 b2 c1 c2 d1 d2:List UInt8} {H:Hp} {K:KV}:Hf Bp 2 A3 4 [(0,2,.agg [S a1,S a2]),(2,2,.agg [S b1,S b2]),(4,2,.agg [S c1,S c2]),(6,2,.agg [S d1,S d2])] H K=K (.sl 2 (Ao H) 0 4) ((Ao H,.cells false Bp (([(a1,a2),(b1,b2),(c1,c2),(d1,d2)]:Rts).flatMap rtC))::H):=by
 have g:Hf Bp 2 A3 4 [(0,2,.agg [S a1,S a2]),(2,2,.agg [S b1,S b2]),(4,2,.agg [S c1,S c2]),(6,2,.agg [S d1,S d2])] H K=Ig H λs=>K (.sl 2 s 0 4) ((s,.cells false Bp (([(a1,a2),(b1,b2),(c1,c2),(d1,d2)]:Rts).flatMap rtC))::H):=rfl;rw[g,BV]
def hJ {ps:List (List UInt8)} {K:AV->Af}:Bq Ac (DJ ps) K=K (I ps.length):=by cases ps<;>exact id rfl
section
variable {m:ND} {u o:UD} {ca cb ra rb un pt:List UInt8} {ts:iU} {ps:List (List UInt8)} {ins nds:AV} {kd id vd pe:Int} {r:RD}
set_option maxHeartbeats 2000000 in
def A2F (w:100<L) (hm:m.ok) (bh:kd=1\/kd=2\/kd=3) (ht:TmsOk ts) (hI:Sl ins) (hN:Sl nds) (hp:ps.length<=6) (ab:∀s∈ps,s.length<390) (ah:un.length<390) (ad:pt.length<390)
 (hr:r.k=0\/r.k=1\/r.k=2\/r.k=3) (ae:∀q∈[(r.a1,r.a2),(r.b1,r.b2),(r.c1,r.c2),(r.d1,r.d2)],q.1.length<390/\q.2.length<390) (hv:0<=vd/\vd<=3) (bg:ca.length<10/\cb.length<10/\ra.length<10/\rb.length<10)
 (aq:LS (r! L (n+61)) Ec [.agg (Et kd m u ca cb (FD ts) ra rb (DJ ps) id ins nds o r vd)] (Bo true))
 (ar:PS (r! L (n+61)) Ju [.agg (CJ u)] (.tup [S un,I 0])) (ao:LS (r! L (n+61)) Gt [.agg (BI id ins nds o)] (.tup [S pt,I pe])):
 CS (r! L (n+62)) MZ [.agg (Et kd m u ca cb (FD ts) ra rb (DJ ps) id ins nds o r vd)] (.tup [S (Np kd m un ca cb ts ra rb ps pt (if kd=3 then UC r vd else[])),I 0]):=by
 intro K hK;obtain⟨q1,q2,q3,q4,q5,q6,q7,q8,q9,bk⟩:=hm;have hT:=Hq ts;have hP:Sl (DJ ps):=by cases ps with|nil=>exact .inl rfl|cons p l=>exact .inr ⟨_,_,rfl⟩
 have bj:=ht.len;rw[XX];unfold MX Eh Xf Df A0 HQ;rw[Ei (SL hT hP hI hN)];have f:=Aw (H:=[]) (x:=KR kd m u ca cb (FD ts) ra rb (DJ ps) id ins nds o r vd) (by simp);have w0:=AI (x:=KR kd m u ca cb (FD ts) ra rb (DJ ps) id ins nds o r vd) Fk;generalize ((Ao [],KR kd m u ca cb (FD ts) ra rb (DJ ps) id ins nds o r vd)::([]:Hp))=A at f w0;generalize Ao []=c at f;have af:∀K,An (r! L (n+61)) Ec [.agg (Et kd m u ca cb (FD ts) ra rb (DJ ps) id ins nds o r vd)] A K=K (Bo true):= λK=>by rw[zO];exact aq false _ _ (WI hT hP hI hN) K
 rw[cA f,af,ntT,Bj];have f0:∀{j:Nat} {K:AV->Af},CV j (.ptr c 0 0) K=K (.ptr c j 0):= λ{j K}=>by rw[fA,JQ]
 rw[f0,cS f,B2v (n:=n+21),F3,F2,IS];simp only[show(!decide ((200:Int)=0))=true from rfl,gT,Cn,f0,cS f];simp only[B2z (L:=L) (n:=n+21) A,ntT,Cn,UH];rw[Bj,B1 (cs:=[.v (.pointer none),zL]) rfl];have ap:=Aw (H:=A) (x:= .cells true Hr [.v (.pointer none),zL]) (by simp);have Z:=w0.lt f;have B:Bd (Ao A) [(c,KR kd m u ca cb (FD ts) ra rb (DJ ps) id ins nds o r vd)] 0 [] As ((Ao A,c_ Hr [.v (.pointer none),zL])::A):=
  ⟨⟨⟨_,.inl rfl,.inl ap⟩,.inl ⟨rfl,rfl,rfl⟩,λ⟨_,_,_,h⟩=>(by cases h),AI w0⟩,λp hp=>by
   simp only[Ur] at hp;subst hp;exact⟨A4 Z f,by simp only;omega,λ⟨_,_,_,h⟩=>(by cases h)⟩,Mb _⟩
 generalize ((Ao A,c_ Hr [.v (.pointer none),zL])::A)=H1 at B;generalize Ao A=g at B;have d:∀{b l v H},Bd g [(c,KR kd m u ca cb (FD ts) ra rb (DJ ps) id ins nds o r vd)] b l v H->Aj H c=some (KR kd m u ca cb (FD ts) ra rb (DJ ps) id ins nds o r vd):= λh=>(h.ks (c,_) (Ur.2 rfl)).1;have a:=d B;simp only[BK];rw[cI0 a,cI1 a,cI2 a,cI3 a,cI4 a,cI5 a,B50];refine lZ (n:=n+51) B w (by decide) [kd,m.lab,m.num,m.itm,m.tim,m.day] (by simp) (by simp only[Uf,List.mem_nil_iff,or_false];rintro z (rfl|rfl|rfl|rfl|rfl|rfl)<;>omega) λv2 H2 N=> ?_;have a:=d N;rw[cU a,ar,F3,F2,iI];refine B1E (n:=n+51) N w (by decide) [un] (by simp) (by simpa using ah) λv3 H3 O=> ?_;have a:=d O;have g0:∀{K:AV->Af},CV 0 (.ptr c 26 0) K=K (.ptr c 26 0):=r_ rfl;have g2:∀{K:AV->Af},CV 2 (.ptr c 26 0) K=K (.ptr c 28 0):=r_ rfl;have g3:∀{K:AV->Af},CV 3 (.ptr c 26 0) K=K (.ptr c 29 0):=r_ rfl;rw[g0,cC a,S_];refine T! (n:=n+50) O w (by decide) [(ca,cb)] (by simp) (by simp;omega) λv4 H4 Q=> ?_;have a:=d Q;rw[g2,cT a,Qk,YZ];refine lZ (n:=n+51) Q w (by decide) [(ts.length:Int)] (by simp) (by simp;omega) λv5 H5 R=> ?_;have a:=d R;rw[g2,cT a,Qk];have e0:(AV.v (.int .i64 0))=I ((0:Nat):Int):=rfl;rw[e0];refine C3j (n:=n+50) (c:=c) ht w (b:=200000) (by decide) ?_ (L+20) 0 v5 H5 (by omega) (by omega) (R.tms0 ts);intro v6 H6 i;simp only[f0];have a:=d i;have an:200000+100000*ts.length<=800000:=by omega
 have i:Bd g [(c,KR kd m u ca cb (FD ts) ra rb (DJ ps) id ins nds o r vd)] 800000 _ v6 H6:=⟨i.bld,i.ks,Z7 i.sz an⟩
 rw[g3,cR a,S_];refine T! (n:=n+50) i w (by decide) [(ra,rb)] (by simp) (by simp;omega) λv7 H7 V=> ?_;have a:=d V;rw[cP a,hJ,YZ];refine lZ (n:=n+51) V w (by decide) [(ps.length:Int)] (by simp) (by simp;omega) λv8 H8 X=> ?_;have a:=d X;rw[cP a];refine C0f (n:=n+51) X w (by decide) ps (DJ ps) (by cases ps with|nil=>exact .inr ⟨rfl,rfl⟩|cons p l=>exact .inl rfl) (by omega) ab λv9 H9 Y=> ?_;have a:=d Y;have ac:∀K,An (r! L (n+61)) Gt [.agg (BI id ins nds o)] H9 K=K (.tup [S pt,I pe]):= λK=>by rw[zO];exact ao false _ _ (VF hI hN) K
 rw[cPr a,ac,F3,F2,iI];refine B1E (n:=n+51) Y w (by decide) [pt] (by simp) (by simpa using ad) λax ak y=> ?_;have a:=d y;have aa:∀tail:List UInt8,tail.length<=5000->(Np kd m un ca cb ts ra rb ps pt tail).length<=32768/\0<(Np kd m un ca cb ts ra rb ps pt tail).length:= λtail ag=>by
  have a1:=F1 [kd,m.lab,m.num,m.itm,m.tim,m.day];have a2:=F0 [un] (by simpa using ah);have a3:=Oz [(ca,cb)] (by simp;omega);have a4:=F1 [(ts.length:Int)];have a5:=eN ts (λt h=>by have:=ht.rng t h;have:=XB (z:=t.2) (by omega) (by omega);have:=XC t.2;omega);have a6:=Oz [(ra,rb)] (by simp;omega);have a7:=F1 [(ps.length:Int)];have a8:=F0 ps ab;have a9:=F0 [pt] (by simpa using ad);have bf:0<(Jk [kd,m.lab,m.num,m.itm,m.tim,m.day]).length:=by
   have:=B4N kd;simp only[Jk,WR,l1d,EY];omega
  simp only[LP,QJ] at a1 a2 a3 a4 a6 a7 a9;simp only[Np,EY,QJ];omega
 have fin:∀(tail:List UInt8) (b:Nat) (v:AV) (H:Hp),tail.length<=5000->(if kd=3 then UC r vd else[])=tail->Bd g [(c,KR kd m u ca cb (FD ts) ra rb (DJ ps) id ins nds o r vd)] b (Np kd m un ca cb ts ra rb ps pt tail) v H->
  (CV 0 (.ptr g 0 0) λaz=>(r! L (n+61)).call HV [az] H λba J=>Go.Abs.Ap Ab .gtr ba (.v (.int .i64 32768)) λbc=>
   Az bc (K (.tup [.v (.string ⟨⟨[]⟩⟩),.v (.int .i64 210)]) J) (CV 0 (.ptr g 0 0) λai=>(r! L (n+61)).call EH [ai] J λaj F=>K (.tup [aj,.v (.int .i64 0)]) F))=some (.tup [S (Np kd m un ca cb ts ra rb ps pt (if kd=3 then UC r vd else[])),I 0],[]):= λtail b v H ag he hB=>by
  obtain⟨k1,k2⟩:=aa tail ag;have r0:∀{K:AV->Af},CV 0 (.ptr g 0 0) K=K (.ptr g 0 0):=r_ rfl;rw[r0,C0Q (n:=n+60) hB.bld,E5,IG (by omega),Bj,r0];obtain⟨H',e⟩:=A09 (L:=L) (n:=n+60) hB.bld k2 (by omega);rw[e,he];rw[he] at hK;exact hK _ _ (λb=>⟨false,λK=>by kernel_rfl⟩)
 rw[cI0 a,CP];by_cases h3:kd=3
 ·rw[Iu h3,Cy];have j0:∀{K:AV->Af},CV 0 (.ptr c 55 0) K=K (.ptr c 55 0):=r_ rfl;have j1:∀{K:AV->Af},CV 1 (.ptr c 55 0) K=K (.ptr c 56 0):=r_ rfl;have j3:∀{K:AV->Af},CV 3 (.ptr c 55 0) K=K (.ptr c 58 0):=r_ rfl;have j5:∀{K:AV->Af},CV 5 (.ptr c 55 0) K=K (.ptr c 60 0):=r_ rfl;have j7:∀{K:AV->Af},CV 7 (.ptr c 55 0) K=K (.ptr c 62 0):=r_ rfl;rw[j0,cRk a,YZ];refine lZ (n:=n+51) y w (by decide) [r.k] (by simp) (by simp;omega) λbm bd C=> ?_;have a:=d C;rw[j1,cR1 a,j3,cR2 a,j5,cR3 a,j7,cR4 a,B4Z];refine T! (n:=n+50) C w (by decide) [(r.a1,r.a2),(r.b1,r.b2),(r.c1,r.c2),(r.d1,r.d2)] (by simp) ae λbn be D=> ?_;have a:=d D;rw[cV a,YZ];refine lZ (n:=n+51) D w (by decide) [vd] (by simp) (by simp;omega) λay am M=> ?_;refine fin (UC r vd) (800000+50000+50000+50000+50000+50000+50000+50000) ay am ?_ (by rw[Dj h3]) ?_
  ·have a1:=F1 [r.k];have a2:=Oz [(r.a1,r.a2),(r.b1,r.b2),(r.c1,r.c2),(r.d1,r.d2)] ae;have a3:=F1 [vd];simp only[LP,QJ] at a1 a2 a3;simp only[UC,EY];omega
  ·have:Np kd m un ca cb ts ra rb ps pt (UC r vd)=[]++Jk [kd,m.lab,m.num,m.itm,m.tim,m.day]++Ix [un]++Rf [(ca,cb)]++Jk [(ts.length:Int)]++QN ts++Rf [(ra,rb)]++Jk [(ps.length:Int)]++Ix ps++Ix [pt]++Jk [r.k]++Rf [(r.a1,r.a2),(r.b1,r.b2),(r.c1,r.c2),(r.d1,r.d2)]++Jk [vd]:=by
    unfold Np UC;simp only[dW]
   rw[this];exact M
 ·rw[IG h3,Bj];refine fin [] (800000+50000+50000+50000+50000) ax ak (by simp) (by rw[C4 h3]) ?_;have:Np kd m un ca cb ts ra rb ps pt []=[]++Jk [kd,m.lab,m.num,m.itm,m.tim,m.day]++Ix [un]++Rf [(ca,cb)]++Jk [(ts.length:Int)]++QN ts++Rf [(ra,rb)]++Jk [(ps.length:Int)]++Ix ps++Ix [pt]:=by
   unfold Np;rw[Wi]
  rw[this];exact y
end
end
section
variable {L n:Nat}
def C3Q {cs:List AV} {b:List UInt8} (h:40000<L) (h1:cs.all AV.one=true) (hz:cs.length=68) (c:∀H,Rr true depth [.agg cs] [.agg cs] H false) (hb:b.length<=32768) (e:CS (r! L (n+62)) MZ [.agg cs] (.tup [S b,I 0])):CS (r! L (n+63)) FG [.agg cs] (S (sha b)):=by
 intro K f;rw[ZX];unfold Pq Ip;rw[Ei h1];have a:=Aw (H:=[]) (x:= .cells true Ad cs) (by simp);generalize ((Ao [],c_ Ad cs)::([]:Hp))=d at a;rw[Bu rfl hz.symm a,AQ e (c d),F3,F2,IS];show Az (.v (.bool false)) _ _=_;rw[Bj];have g:∀K,An (r! L (n+62)) Ww [S b] d K=K (S (sha b)):= λK=>AQ (C1l (L:=L+20) (n:=n+54) (by omega) (by omega)) (Am (q:=false) (q':=false) C7 AJ);rw[g];exact f _ _ (λb=>⟨false,λK=>by kernel_rfl⟩)
end
section
variable {nds:AV} {H:Hp} {i:Nat}
variable {L n:Nat}
structure Nd where
 op:Int
 (vn vd:List UInt8)
 u:UD
 (n l r:Int)
abbrev Nd.cs (x:Nd):List AV:=[I x.op,S x.vn,S x.vd,I x.u.p0,I x.u.q0,I x.u.p1,I x.u.q1,I x.u.p2,I x.u.q2,I x.u.p3,I x.u.q3,I x.u.p4,I x.u.q4,I x.u.p5,I x.u.q5,I x.u.p6,I x.u.q6,S x.u.fn,S x.u.fd,S x.u.on,S x.u.od,I x.u.kd,I x.u.sc,I x.n,I x.l,I x.r]
def HH (k:Nat):List AV:=CJ (uu k)
abbrev BO (ks:List Nat):AV:= .list ks.length (ks.flatMap HH)
def H! (x:Nd):List AV:=x.cs
abbrev Cs (xs:List Nd):AV:= .list xs.length (xs.flatMap H!)
def Ql {ks:List Nat} {K:AV->Af}:Bq Al (BO ks) K=K (I ks.length):=id rfl
def Vb {xs:List Nd} {K:AV->Af}:Bq Ax (Cs xs) K=K (I xs.length):=id rfl
def iB {ks:List Nat} {K:AV->Af} (h:i<ks.length):Dw Al (BO ks) (I i) K=K (.iptr (HH ks[i])):=WH (f:=HH) rfl (λ_=>rfl) h
def pW {xs:List Nd} {K:AV->Af} (h:i<xs.length):Dw Ax (Cs xs) (I i) K=K (.iptr (H! xs[i])):=WH (f:=H!) rfl (λ_=>rfl) h
def hY {k:Nat} {K:AV->Af}:AF Ay (.iptr (HH k)) H K=K (.agg (CJ (uu k))):=id rfl
def pV {x:Nd} {K:AV->Af}:AF AN (.iptr (H! x)) H K=K (.agg x.cs):=id rfl
abbrev IY (id:Int) (ins nds:AV) (o:UD):Row:= .cells true Cv (BI id ins nds o)
section
attribute [local irreducible] An rt mS eBi eEq cnd Go.Abs.Ap Go.Abs.Xg Az
def YF {z c a:Int} (h1:c<=z) (h2:z<=a):PS (r! L (n+1)) Dz [I z,I c,I a] (Bo true):=by
 refine CS.ps (λK d=> ?_) (λH=> λK=>by kernel_rfl);rewrite [kJ];unfold Sb q3N
 try rewrite [zO]
 try rewrite [bO]
 try rewrite [qO]
 try rewrite [cO]
 conv=>lhs;whnf
 rewrite [A5h h1]
 conv=>lhs;whnf
 rewrite [A57 h2]
 conv=>lhs;whnf
 exact d _ _ (λb=>⟨false,λK=>by kernel_rfl⟩)
end
section
variable {K:KV} {x:Af} {ks:List Nat} {xs:List Nd} {id:Int} {o:UD}
def B8n {k31:AV->Hp->Af} {c:Nat} (b:∀k∈ks,k<52) (hb:ks.length<100) (e:k31 (.ptr c 0 0) H=x) (d:Aj H c=some (IY id (BO ks) nds o)):∀(f i:Nat),i<=ks.length->ks.length-i<f->
 Qo (L+20) (r! L (n+40)) K k31 f (.ptr c 0 0) (I i) H=x:=by
 intro f
 induction f with
 |zero=>intro i _ h;omega
 |succ f ih=>
  intro i j g;rw[eU];unfold Qp Eh WY Iv A0 HQ;have f1:∀K:AV->Af,CV 1 (.ptr c 0 0) K=K (.ptr c 1 0):= λK=>r_ rfl;have a:∀K,AF Al (.ptr c 1 0) H K=K (BO ks):= λK=>AP (p:=1) rfl d (show 1<23 by decide);rw[f1,a,Ql];by_cases h:i<ks.length
  ·rw[FR (by omega),Cy,f1,a,iB h,hY,RU _ _ _ (b _ (Qe h)),ntT,Bj,Dg (by omega)];exact ih (i+1) (by omega) (by omega)
  ·rw[FP (by omega),Bj];exact e
def NK {ins nds:AV} (a:Sl ins) (b:Sl nds):(BI id ins nds o).all AV.one=true:=by
 rcases a with rfl|⟨_,_,rfl⟩<;>rcases b with rfl|⟨_,_,rfl⟩<;>rfl
def A9A (t:100<L) (g:∀k∈ks,k<52) (hb:ks.length<=6) (hn:1<=xs.length) (h:xs.length<=40) (h1:1<=id) (h2:id<=1000000):CS (r! L (n+41)) Om [.agg (BI id (BO ks) (Cs xs) o)] (.tup [Bo true,Bo true]):=by
 intro K f;rw[kK];unfold Sc WY Df A0 HQ;rw[Ei (NK (.inr ⟨_,_,rfl⟩) (.inr ⟨_,_,rfl⟩))];have a:=Aw (H:=[]) (x:=IY id (BO ks) (Cs xs) o) (by simp);generalize ((Ao [],IY id (BO ks) (Cs xs) o)::([]:Hp))=d at a;generalize Ao []=c at a;simp only[BK];refine B8n g (by omega) ?_ a (L+20) 0 (by omega) (by omega);have e:∀{j:Nat} {K:AV->Af},CV j (.ptr c 0 0) K=K (.ptr c j 0):= λ{j K}=>by rw[fA,JQ]
 have m:∀{K},AF Ab (.ptr c 0 0) d K=K (I id):= λ{K}=>AP (p:=0) rfl a (show 0<23 by decide);have q:∀{K},AF Al (.ptr c 1 0) d K=K (BO ks):= λ{K}=>AP (p:=1) rfl a (show 1<23 by decide);have r:∀{K},AF Ax (.ptr c 2 0) d K=K (Cs xs):= λ{K}=>AP (p:=2) rfl a (show 2<23 by decide);have w1:∀{K:AV->Af},An (r! L (n+40)) Dz [I id,.v (.int .i64 1),.v (.int .i64 1000000)] d K=K (Bo true):= λ{K}=>YF (n:=n+39) h1 h2 d K;have s:∀{K:AV->Af},An (r! L (n+40)) Dz [I (xs.length:Int),.v (.int .i64 1),.v (.int .i64 40)] d K=K (Bo true):= λ{K}=>YF (n:=n+39) (by omega) (by omega) d K;have q1:∀{K},Go.Abs.Ap Ab .leq (I (ks.length:Int)) (.v (.int .i64 6)) K=K (Bo true):= λ{K}=>by rw[iD,Iu (by omega)]
 have q2:∀{K},Go.Abs.Ap Ab .gtr (I (xs.length:Int)) (.v (.int .i64 0)) K=K (Bo true):= λ{K}=>by rw[E5,Iu (by omega)]
 simp only[e,m,q,r,B7,Cn,gT,w1,s,Ql,Vb,q1,q2,UH];exact f _ _ (λb=>⟨false,λK=>by kernel_rfl⟩)
end
end
section
variable {x:Value}
variable {L n:Nat}
def XH:Value->Bool
 | .int _ _=>true
 | .string _=>true
 | .bool _=>true
 | .slice none 0 0=>true
 |_=>false
def pl:Nat->AV->Bool
 |_,.v x=>XH x
 |d+1,.list _ cs=>cs.all (pl d)
 |d+1,.agg cs=>cs.all (pl d)
 |d+1,.tup cs=>cs.all (pl d)
 |_,_=>false
def B0P:∀l:List UInt8,eJ.eqbL l l=true:=by
 intro l
 induction l with
 |nil=>rfl
 |cons a l ih=>simp only[eJ.eqbL,ih,l1g];exact mK _
def jE (h:XH x=true):eJ x x=true:=by
 unfold XH at h;split at h
 ·simp[eJ]
 ·exact B0P _
 ·simp[eJ]
 ·rfl
 ·cases h
def A7u {f:AV->AV->Bool}:∀l:List AV,(∀a∈l,f a a=true)->uT f l l=true:=by
 intro l
 induction l with
 |nil=>intro _;rfl
 |cons a l ih=>intro h;simp only[uT,h a (by simp),ih λb hb=>h b (by simp[hb]),l1g]
def SP:∀(d:Nat) (a:AV),pl d a=true->Vn d a a=true:=by
 intro d
 induction d with
 |zero=>intro a h;cases a<;>first|exact jE h|cases h
 |succ d ih=>
  intro a h;cases a<;>first
   |exact jE h
   |(simp only[pl,GH] at h;simp only[Vn,mK,X'];exact A7u _ λb hb=>ih b (h b hb))
   |cases h
def A7v {a:AV} (h:pl 6 a=true):dP a a=true:=by
 cases a<;>first|exact jE h|exact SP 6 _ h|cases h
def UM {v:AV} {H:Hp} {K:Af} (h:pl 6 v=true):QQ (Ba (some (v,H)) v) K=K:=by
 show QQ (some (.v (.bool (dP v v)),[])) K=K;rw[A7v h];rfl
def A6Q (h:XH x=true) (a:x≠.slice none 0 0):gD x x=some true:=by
 unfold XH at h;split at h
 ·show(match decide (_=_) with|true=>some (ieq _ _)|false=>none)=_;rw[Iu rfl,Q8,Iu rfl]
 ·show some (Go.Abs.Y? _ _)=_;rw[QA];simp
 ·show some (_==_)=_;simp
 ·exact absurd rfl a
 ·cases h
def A1Y:∀xs:List Value,(∀x∈xs,XH x=true/\x≠.slice none 0 0)->Yx xs xs=some true:=by
 intro xs
 induction xs with
 |nil=>intro _;rfl
 |cons x xs ih=>
  intro h;have e:Yx (x::xs) (x::xs)=(match gD x x with
   |some b=>(match Yx xs xs with|some c=>some (b&&c)|none=>none)
   |none=>none):=rfl
  rw[e,A6Q (h x (by simp)).1 (h x (by simp)).2,ih λy a=>h y (by simp[a])];rfl
def C2Z {x:Nd} {K:AV->Af}:Go.Abs.Xg L3 .eql (.agg x.cs) (.agg x.cs) K=K (Bo true):=by
 have e:∀(xs:List Value),Yx xs xs=some true->∀K:AV->Af,(match(generalizing:=false) Yx xs xs,BinOp.eql with
  |some q,.eql=>bB q K
  |some q,.neq=>bB (!q) K
  |_,_=>(none:Af))=K (Bo true):= λxs h K=>by rw[h];rfl
 exact e [.int .i64 x.op,.string ⟨⟨x.vn⟩⟩,.string ⟨⟨x.vd⟩⟩,.int .i64 x.u.p0,.int .i64 x.u.q0,.int .i64 x.u.p1,.int .i64 x.u.q1,.int .i64 x.u.p2,.int .i64 x.u.q2,.int .i64 x.u.p3,.int .i64 x.u.q3,.int .i64 x.u.p4,.int .i64 x.u.q4,.int .i64 x.u.p5,.int .i64 x.u.q5,.int .i64 x.u.p6,.int .i64 x.u.q6,
  .string ⟨⟨x.u.fn⟩⟩,.string ⟨⟨x.u.fd⟩⟩,.string ⟨⟨x.u.on⟩⟩,.string ⟨⟨x.u.od⟩⟩,.int .i64 x.u.kd,.int .i64 x.u.sc,.int .i64 x.n,.int .i64 x.l,.int .i64 x.r]
  (A1Y _ (by simp[XH])) K
end
section
variable {at_:Int}
variable {L n:Nat}
def Zt (i:Nat):Nd:=⟨2,[],[],u0,i,0,0⟩
abbrev Lj:List AV:=[zI,zS,zS,zI,zI,zI,zI,zI,zI,zI,zI,zI,zI,zI,zI,zI,zI,zS,zS,zS,zS,zI,zI,zI,zI,zI]
abbrev FW:List AV:=[zI,zI,zI,zI,zI,zI,zI,zI,zI,zI,zI,zI,zI,zI,zS,zS,zS,zS,zI,zI]
abbrev Xb (x:Nd):Row:= .cells true AT x.cs
section
variable {K:KV} {x:Af} {ks:List Nat} {xs:List Nd} {id:Int} {o:UD} {i:Nat}
def A3f {x:Nd}:x.cs.all AV.one=true:=rfl
def yP {t:TI} {a:Int} {K:AV->Af}:Go.Abs.Ap t .eql (I a) (.v (.int .i64 a)) K=K (Bo true):=by rw[CP,Iu rfl]
def A0D (hb:ks.length<=6) (hi:i<ks.length):CS (r! L (n+2)) Fv [.agg (BI id (BO ks) (Cs xs) o),.agg (Zt i).cs,I at_] (.tup [Bo true,Bo false]):=by
 intro K P;rw[UN];unfold NO Eh Xf Df A0 LW HQ;rw[Ei (NK (.inr ⟨_,_,rfl⟩) (.inr ⟨_,_,rfl⟩))];have g:=Aw (H:=[]) (x:=IY id (BO ks) (Cs xs) o) (by simp);have w0:=AI (x:=IY id (BO ks) (Cs xs) o) Fk;generalize ((Ao [],IY id (BO ks) (Cs xs) o)::([]:Hp))=t at g w0;generalize Ao []=p at g;rw[Ei A3f];have c:=Aw (H:=t) (x:=Xb (Zt i)) (by simp);have k:Aj ((Ao t,Xb (Zt i))::t) p=some (IY id (BO ks) (Cs xs) o):=A4 (w0.lt g) g;have w1:=AI (x:=Xb (Zt i)) w0;generalize ((Ao t,Xb (Zt i))::t)=a at c k w1;generalize Ao t=r at c;have A:∀{s j:Nat} {K:AV->Af},CV j (.ptr s 0 0) K=K (.ptr s j 0):= λ{s j K}=>by rw[fA,JQ]
 have Q:∀{K},AF Ab (.ptr r 0 0) a K=K (I 2):= λ{K}=>AP (p:=0) rfl c (show 0<26 by decide);have b0:∀{K:AV->Af},BZ AN [(0,1,I 2)] K=K (.agg (I 2::Lj.tail)):= λ{K}=>r_ rfl;rw[A,Q,b0,B1 (cs:=Lj) rfl];have hm:=Aw (H:=a) (x:= .cells true AT Lj) (by simp);rw[Cc (vs:=I 2::Lj.tail) hm rfl rfl rfl];have d:=AC (q:=true) (e:=AT) (cs:=I 2::Lj.tail) hm;have w2:=Bn (r:=Ao a) (y:= .cells true AT (I 2::Lj.tail)) (AI (x:= .cells true AT Lj) w1);have Z:=w1.lt c;have O:=w1.lt k;have f:Aj (upd ((Ao a,c_ AT Lj)::a) (Ao a) (c_ AT (I 2::Lj.tail))) r=some (Xb (Zt i)):=by
  rw[Ag (by omega)];exact A4 Z c
 have F:Aj (upd ((Ao a,c_ AT Lj)::a) (Ao a) (c_ AT (I 2::Lj.tail))) p=some (IY id (BO ks) (Cs xs) o):=by
  rw[Ag (by omega)];exact A4 O k
 generalize upd ((Ao a,c_ AT Lj)::a) (Ao a) (c_ AT (I 2::Lj.tail))=w at d w2 f F;have D:Ao a≠r:=by omega
 have C:Ao a≠p:=by omega
 generalize Ao a=m at d D C
 try simp only[BK]
 have V:∀{K},AF Ab (.ptr r 0 0) w K=K (I 2):= λ{K}=>AP (p:=0) rfl f (show 0<26 by decide);have N:∀{K},AF Ab (.ptr r 23 0) w K=K (I i):= λ{K}=>AP (p:=23) rfl f (show 23<26 by decide);rw[A,V,CP,IG (by decide),Bj,yP,Cy,A,N,A];rw[Ed (v:=I i) d (show 23<26 by decide) rfl rfl rfl];have B:=AC (q:=true) (e:=AT) (cs:=(I 2::Lj.tail).set 23 (I i)) d;have h:Aj (upd w m (c_ AT ((I 2::Lj.tail).set 23 (I i)))) r=some (Xb (Zt i)):=by
  rw[Ag (Ne.symm D)];exact f
 have J:Aj (upd w m (c_ AT ((I 2::Lj.tail).set 23 (I i)))) p=some (IY id (BO ks) (Cs xs) o):=by
  rw[Ag (Ne.symm C)];exact F
 generalize upd w m (c_ AT ((I 2::Lj.tail).set 23 (I i)))=u at B h J;have Y:∀{K},AF AN (.ptr m 0 0) u K=K (.agg (Zt i).cs):= λ{K}=>Bu rfl rfl B;have X:∀{K},AF AN (.ptr r 0 0) u K=K (.agg (Zt i).cs):= λ{K}=>Bu rfl rfl h;have M:∀{K},AF Ab (.ptr r 23 0) u K=K (I i):= λ{K}=>AP (p:=23) rfl h (show 23<26 by decide);have R:∀{K},AF Al (.ptr p 1 0) u K=K (BO ks):= λ{K}=>AP (p:=1) rfl J (show 1<23 by decide);have sb:∀{K},Go.Abs.Ap Ab .sub (I (ks.length:Int)) (.v (.int .i64 1)) K=K (I ((ks.length:Int)-1)):= λ{K}=>by rw[K7,CW (by omega) (by omega)]
 have wi:∀{K:AV->Af},An (r! L (n+1)) Dz [I (i:Int),.v (.int .i64 0),I ((ks.length:Int)-1)] u K=K (Bo true):= λ{K}=>YF (n:=n) (by omega) (by omega) u K;simp only[X,Y,C2Z,gT,A,Cn,M,R,Ql,sb,wi,UH];exact P _ _ (λb=>⟨false,λK=>by kernel_rfl⟩)
def Ih {H:Hp} {e:Nat} {zs vs:List AV} (w:Wf H) (hz:vs.length=zs.length):∃a,a=upd ((Ao H,c_ e zs)::H) (Ao H) (c_ e vs)/\Aj a (Ao H)=some (c_ e vs)/\Wf a/\(∀s x,Aj H s=some x->Aj a s=some x/\s≠Ao H):=by
 have hm:=Aw (H:=H) (x:= .cells true e zs) (by simp);refine⟨_,rfl,AC hm,Bn (AI w),λs x h=> ?_⟩;have:=w.lt h;exact⟨by rw[Ag (by omega)];exact A4 this h,by omega⟩
def YE (hb:ks.length<=6) (Z:i<ks.length) {w:AV}:CS (r! L (n+3)) CC [.agg (BI id (BO ks) (Cs xs) o),.agg (Zt i).cs,I at_,w] (.tup [.agg (CJ (uu ks[i])),I 0]):=by
 intro K hK;rw[HB];unfold Hi q4N;rw[Ei (NK (.inr ⟨_,_,rfl⟩) (.inr ⟨_,_,rfl⟩))];have c:=Aw (H:=[]) (x:=IY id (BO ks) (Cs xs) o) (by simp);have w0:=AI (x:=IY id (BO ks) (Cs xs) o) Fk;generalize ((Ao [],IY id (BO ks) (Cs xs) o)::([]:Hp))=t at c w0;generalize Ao []=p at c;rw[Ei A3f];have a:=Aw (H:=t) (x:=Xb (Zt i)) (by simp);have f:Aj ((Ao t,Xb (Zt i))::t) p=some (IY id (BO ks) (Cs xs) o):=A4 (w0.lt c) c;have w1:=AI (x:=Xb (Zt i)) w0;generalize ((Ao t,Xb (Zt i))::t)=C at a f w1;generalize Ao t=r at a;rw[B1 (cs:=FW) rfl];have h:=Aw (H:=C) (x:= .cells true A6 FW) (by simp);have d:=A4 (x:= .cells true A6 FW) (w1.lt a) a;have g:=A4 (x:= .cells true A6 FW) (w1.lt f) f;have w2:=AI (x:= .cells true A6 FW) w1;generalize ((Ao C,c_ A6 FW)::C)=D at h d g w2;generalize Ao C=q at h;have lp:∀{K},AF AR (.ptr p 0 0) D K=K (.agg (BI id (BO ks) (Cs xs) o)):= λ{K}=>Bu rfl rfl g;have ln:∀{K},AF AN (.ptr r 0 0) D K=K (.agg (Zt i).cs):= λ{K}=>Bu rfl rfl d;have fx:Rr true depth [.agg (BI id (BO ks) (Cs xs) o),.agg (Zt i).cs,I at_] [.agg (BI id (BO ks) (Cs xs) o),.agg (Zt i).cs,I at_] D false:= λK=>by kernel_rfl
 have sh:∀{K:AV->Af},An (r! L (n+2)) Fv [.agg (BI id (BO ks) (Cs xs) o),.agg (Zt i).cs,I at_] D K=K (.tup [Bo true,Bo false]):= λ{K}=>AQ (A0D hb Z) fx;have Y:∀{K:AV->Af},BZ Ay [] K=K (.agg FW):= λ{K}=>r_ rfl;rw[lp,ln,sh,F3,F2,ntT,Bj,Y,B1 (cs:=FW) rfl];rw[Cc (vs:=FW) (Aw (by simp)) rfl rfl rfl];obtain⟨H3,e3, -,w3,J⟩:=Ih (e:=A6) (zs:=FW) (vs:=FW) w2 rfl;rw[<-e3,Y,B1 (cs:=FW) rfl,Cc (vs:=FW) (Aw (by simp)) rfl rfl rfl];obtain⟨X,e4, -,w4,M⟩:=Ih (e:=A6) (zs:=FW) (vs:=FW) w3 rfl;rw[<-e4]
 try simp only[BK]
 have F:∀{s j:Nat} {K:AV->Af},CV j (.ptr s 0 0) K=K (.ptr s j 0):= λ{s j K}=>by rw[fA,JQ]
 have y:=(M _ _ (J _ _ d).1).1;have O:=(M _ _ (J _ _ g).1).1;have Q:=(M _ _ (J _ _ h).1).1;have lu:∀{K},AF Ay (.ptr r 3 0) X K=K (.agg FW):= λ{K}=>GA (p:=3) rfl y (show 23<=26 by decide);rw[Bj,F,lu,B1 (cs:=FW) rfl,Cc (vs:=FW) (Aw (by simp)) rfl rfl rfl];obtain⟨u,e5,m,w5,N⟩:=Ih (e:=A6) (zs:=FW) (vs:=FW) w4 rfl;rw[<-e5];obtain⟨A,nr⟩:=N _ _ y;obtain⟨P,np⟩:=N _ _ O;obtain⟨R,nq⟩:=N _ _ Q;generalize Ao X=v at m nr np nq;have l0:∀{K},AF Ab (.ptr r 0 0) u K=K (I 2):= λ{K}=>AP (p:=0) rfl A (show 0<26 by decide);have V:∀{K},AF Ab (.ptr r 23 0) u K=K (I i):= λ{K}=>AP (p:=23) rfl A (show 23<26 by decide);have l1:∀{K},AF Al (.ptr p 1 0) u K=K (BO ks):= λ{K}=>AP (p:=1) rfl P (show 1<23 by decide);rw[F,l0,yP,Cy,F,l1,F,V,iB Z,hY,Cc (vs:=CJ (uu ks[i])) m rfl rfl rfl];have B:=AC (q:=true) (e:=A6) (cs:=CJ (uu ks[i])) m;have k:Aj (upd u v (c_ A6 (CJ (uu ks[i])))) q=some (c_ A6 FW):=by rw[Ag nq];exact R
 generalize upd u v (c_ A6 (CJ (uu ks[i])))=H6 at B k;rw[IS];show Az (.v (.bool false)) _ _=_;rw[Bj,Bu rfl rfl B,Cc (vs:=CJ (uu ks[i])) k rfl rfl rfl,Bu rfl rfl (AC k)];exact hK _ _ (λb=>⟨false,λK=>by kernel_rfl⟩)
end
end
section
variable {v:AV} {b:Bool} {H:Hp}
variable {L n:Nat}
def A7j {k:Nat} {K:KV}:Hf A6 20 Ay 1 [(0,20,.agg (CJ (uu k)))] H K=K (.sl 20 (Ao H) 0 1) ((Ao H,.cells false A6 (HH k))::H):=by
 have e:Hf A6 20 Ay 1 [(0,20,.agg (CJ (uu k)))] H K=Ig H (λs=>K (.sl 20 s 0 1) ((s,.cells false A6 (HH k))::H)):=r_ rfl;rw[e,BV]
def C3k {l:List Nat} (k:Nat) (h:B2 H A6 20 v l.length (l.flatMap HH)) (w:Wf H) (hn:l.length<100):
 ∃d a,(∀K:KV,(Hf A6 20 Ay 1 [(0,20,.agg (CJ (uu k)))] H λv1 i=>E9 A6 20 Ay Al v v1 i K)=K d a)/\B2 a A6 20 d (l++[k]).length ((l++[k]).flatMap HH)/\Wf a/\Ao H<=Ao a/\(∀s x,Aj H s=some x->¬A8 v s->Aj a s=some x)/\(∀s,A8 d s->Ao H<=s):=by
 have g:B2 ((Ao H,.cells false A6 (HH k))::H) A6 20 v l.length (l.flatMap HH):=h.lat w (Lat.cons H _ (λ_=>False)) (λ_ _ h=>h);have c:B2 ((Ao H,.cells false A6 (HH k))::H) A6 20 (.sl 20 (Ao H) 0 1) 1 (HH k):= .inr ⟨Ao H,false,rfl,Aw (by simp),by show 20=_;rfl⟩;obtain⟨d,a,h1,h2,j,m⟩:=apt (ie:=Ay) (i2:=Al) g (λK=>Rg (K:=K) c) rfl rfl (by decide) rfl rfl (by show(l.length+1)*192<=_;omega) (by omega);have e:=(Lat.cons H (.cells false A6 (HH k)) (A8 v)).trans m (R:=A8 v) (λ_ _ h=>h) (λ_ _ h=>h);refine⟨d,a,λK=> ?_,by rw[EY,l2m];simpa using h2,e.wf w,e.nx,λs x f hn=>e.keep w s x f hn,λs f=> ?_⟩
 ·rw[A7j];exact h1 K
 ·rw[j s f];exact l1u _
def C2g (k:Nat):List Value:=[.int .i64 (uu k).p0,.int .i64 (uu k).q0,.int .i64 (uu k).p1,.int .i64 (uu k).q1,.int .i64 (uu k).p2,.int .i64 (uu k).q2,.int .i64 (uu k).p3,.int .i64 (uu k).q3,.int .i64 (uu k).p4,.int .i64 (uu k).q4,.int .i64 (uu k).p5,.int .i64 (uu k).q5,.int .i64 (uu k).p6,.int .i64 (uu k).q6,
 .string ⟨⟨(uu k).fn⟩⟩,.string ⟨⟨(uu k).fd⟩⟩,.string ⟨⟨(uu k).on⟩⟩,.string ⟨⟨(uu k).od⟩⟩,.int .i64 (uu k).kd,.int .i64 (uu k).sc]
def B9d (k:Nat):HH k=(C2g k).map λx=> .v x:=rfl
def C2f (l:List Nat):l.flatMap HH=(l.flatMap C2g).map λx=> .v x:=by
 induction l with
 |nil=>rfl
 |cons k l ih=>rw[pP,pP,YN,ih,B9d]
def Rx (l:List Nat):AV:=match l with
 |[]=>As
 |k::l=> .list (k::l).length ((k::l).flatMap HH)
def lG {D:Nat} {l:List Nat} (h:B2 H A6 20 v l.length (l.flatMap HH)) (d:l=[]->v=As):∃q,Fx b (D+1) v (Rx l) H q:=by
 rcases h with⟨rfl,h2,_⟩|⟨r,q,rfl,h2,c⟩
 ·cases l with
  |nil=>exact⟨false,C7⟩
  |cons a l=>simp at h2
 ·cases l with
  |nil=>have:=d rfl;cases this
  |cons a l=>
   refine⟨true,?_⟩;show Fx b (D+1) _ (.list (a::l).length ((a::l).flatMap HH)) H true;rw[C2f] at h2 c⊢;exact WU (q':=false) h2 c (KO _root_.id _)
def B5O {l:List Nat} (h:B2 H A6 20 v l.length (l.flatMap HH)) (a:l=[]->v=As):∃q,Fx b depth v (Rx l) H q:=lG (D:=depth-1) h a
end
section
variable {d:Nat}
variable {L n:Nat}
section
variable {K:KV} {x:Af} {ks ty:List Nat} {xs:List Nd} {id:Int} {o:UD}
def RTy (L n:Nat) (id:Int) (ks:List Nat) (xs:List Nd) (o:UD) (ty:List Nat):Prop:=
 ∀i (h:i<xs.length),CS (r! L (n+42)) CC [.agg (BI id (BO ks) (Cs xs) o),.agg xs[i].cs,I i,Rx (ty.take i)] (.tup [.agg (CJ (uu (ty.getD i 0))),I 0])
def B8N:∀l:List Nat,(l.flatMap HH).all (pl d)=true:=by
 intro l
 induction l with
 |nil=>rfl
 |cons a l ih=>rw[pP,List.all_append,ih];cases d<;>rfl
def B8M:∀l:List Nd,(l.flatMap H!).all (pl d)=true:=by
 intro l
 induction l with
 |nil=>rfl
 |cons a l ih=>rw[pP,List.all_append,ih];cases d<;>rfl
def B3W (l:List Nat):pl (d+1) (BO l)=true:=B8N l
def A4V (l:List Nd):pl (d+1) (Cs l)=true:=B8M l
def B3V:pl 6 (.agg (BI id (BO ks) (Cs xs) o))=true:=by
 show(pl 5 (I id)&&(pl 5 (BO ks)&&(pl 5 (Cs xs)&&true)))=true;rw[B3W,A4V];rfl
def B8m {u:AV->AV->Hp->Af} {p:Nat} (hT:RTy L n id ks xs o ty) (g:ty.length=xs.length) (hb:xs.length<100)
 (hx:∀v H,B2 H A6 20 v ty.length (ty.flatMap HH)->(ty=[]->v=As)->Aj H p=some (IY id (BO ks) (Cs xs) o)->u (.ptr p 0 0) v H=x):
 ∀(f i:Nat) (v:AV) (H:Hp),i<=xs.length->xs.length-i<f->B2 H A6 20 v (ty.take i).length ((ty.take i).flatMap HH)->(ty.take i=[]->v=As)->¬A8 v p->Aj H p=some (IY id (BO ks) (Cs xs) o)->Wf H->
 RH (L+20) (r! L (n+42)) K u f (.ptr p 0 0) v (I i) H=x:=by
 intro f
 induction f with
 |zero=>intro i v H _ h;omega
 |succ f ih=>
  intro i v H hi hf a A hr c w;rw[jR];unfold RI Eh A0;have N:∀{s j:Nat} {K:AV->Af},CV j (.ptr s 0 0) K=K (.ptr s j 0):= λ{s j K}=>by rw[fA,JQ]
  have R:∀{K},AF Ax (.ptr p 2 0) H K=K (Cs xs):= λ{K}=>AP (p:=2) rfl c (show 2<23 by decide);have lp:∀{K},AF AR (.ptr p 0 0) H K=K (.agg (BI id (BO ks) (Cs xs) o)):= λ{K}=>Bu rfl rfl c;rw[N,R,Vb];by_cases h:i<xs.length
  ·have y:∀{H:Hp} (_:B2 H A6 20 v (ty.take i).length ((ty.take i).flatMap HH)) {K:AV->Af},An (r! L (n+42)) CC [.agg (BI id (BO ks) (Cs xs) o),.agg xs[i].cs,I i,v] H K=K (.tup [.agg (CJ (uu (ty.getD i 0))),I 0]):= λ{H} a {K}=>by
    obtain⟨q,hq⟩:=B5O (b:=true) a A;have a1:Fx true depth (.agg (BI id (BO ks) (Cs xs) o)) (.agg (BI id (BO ks) (Cs xs) o)) H false:= λK=>by kernel_rfl
    have a2:Fx true depth (.agg xs[i].cs) (.agg xs[i].cs) H false:= λK=>by kernel_rfl
    exact AQ (hT i h) (Am a1 (Am a2 (Am (q:=false) C7 (Am hq AJ))))
   rw[FR (by omega),Cy];simp only[lp,B7,N,R,pW h,pV,y a,F3,F2];rw[B1 (cs:=FW) rfl,Cn];have hz:=Aw (H:=H) (x:= .cells true A6 FW) (by simp);rw[Cc (vs:=CJ (uu (ty.getD i 0))) hz rfl rfl rfl,Cn];have k:=A4 (x:= .cells true A6 FW) (w.lt c) c;have C:B2 ((Ao H,c_ A6 FW)::H) A6 20 v (ty.take i).length ((ty.take i).flatMap HH):=a.lat w (Lat.cons H _ (λ_=>False)) (λ_ _ h=>h);obtain⟨X,Z,F,V,O⟩:=Ih (e:=A6) (zs:=FW) (vs:=CJ (uu (ty.getD i 0))) w rfl;rw[<-Z];have m:=(O _ _ c).1;have D:B2 X A6 20 v (ty.take i).length ((ty.take i).flatMap HH):=by
    rcases a with a|⟨r,q,h1,h2,h3⟩
    ·exact .inl a
    ·exact .inr ⟨r,q,h1,(O _ _ h2).1,h3⟩
   have M:∀{K},AF AR (.ptr p 0 0) ((Ao H,c_ A6 FW)::H) K=K (.agg (BI id (BO ks) (Cs xs) o)):= λ{K}=>Bu rfl rfl k;have J:∀{K},AF Ax (.ptr p 2 0) ((Ao H,c_ A6 FW)::H) K=K (Cs xs):= λ{K}=>AP (p:=2) rfl k (show 2<23 by decide);rw[M,UM B3V,J,UM (A4V xs),UM (by rfl),y C,UM (by rfl),IS];show Az (.v (.bool false)) _ _=_;rw[Bj,Bu rfl rfl F];have Q:ty.take i++[ty.getD i 0]=ty.take (i+1):=by
    have P:i<ty.length:=by omega
    rw[kY P];simp[List.getD,K9 P]
   obtain⟨v',Y,e5,t,w5, -,keep,new⟩:=C3k (ty.getD i 0) D V (by rw[l0h];omega);rw[e5,Dg (by omega)];rw[Q] at t;exact ih (i+1) v' Y (by omega) (by omega) t (λe=>by rw[<-Q] at e;simp at e) (λB=>by have:=new _ B;have:=V.lt m;omega) (keep _ _ m hr) w5
  ·rw[FP (by omega),Bj];have:i=xs.length:=by omega
   subst this;rw[<-g,vB] at a A;exact hx v H a A c
end
end
section
variable {L n:Nat}
def A4I {H:Hp} {v:AV} {l:List Nat} {i:Nat} (h:B2 H A6 20 v l.length (l.flatMap HH)) (c:i<l.length):∃a,(∀K:AV->Af,Dw Al v (I i) K=K a)/\(∀K:AV->Af,AF Ay a H K=K (.agg (CJ (uu l[i])))):=by
 rcases h with⟨_,h2,_⟩|⟨r,q,rfl,h2,b⟩
 ·omega
 ·refine⟨.ptr r (i*20) 0,λK=> ?_,λK=> ?_⟩
  ·have d:Dw Al (.sl 20 r 0 l.length) (I (i:Int)) K=iN (i:Int) λm=>ck (Nat.blt m l.length) (fN (Nat.add 0 (Nat.mul m 20)) λp=>K (.ptr r p 0)):=r_ rfl;rw[d,JW,DT];have b:Nat.blt i l.length=true:=by rw[Wj];exact c
   rw[b];show K (.ptr r (0+i*20) 0)=_;rw[JQ]
  ·rw[GA rfl h2 (by rw[b];show i*20+20<=_;omega)];have:((l.flatMap HH).drop (i*20)).take 20=HH l[i]:=tO HH 20 (λ_=>rfl) l i c;show K (.agg (((l.flatMap HH).drop (i*20)).take 20))=_;rw[this];rfl
def C2Y {u:UD} {K:AV->Af}:Go.Abs.Xg L2 .neq (.agg (CJ u)) (.agg (CJ u)) K=K (Bo false):=by
 have e:∀(xs:List Value),Yx xs xs=some true->∀K:AV->Af,(match(generalizing:=false) Yx xs xs,BinOp.neq with
  |some q,.eql=>bB q K
  |some q,.neq=>bB (!q) K
  |_,_=>(none:Af))=K (Bo false):= λxs h K=>by rw[h];rfl
 exact e [.int .i64 u.p0,.int .i64 u.q0,.int .i64 u.p1,.int .i64 u.q1,.int .i64 u.p2,.int .i64 u.q2,.int .i64 u.p3,.int .i64 u.q3,.int .i64 u.p4,.int .i64 u.q4,.int .i64 u.p5,.int .i64 u.q5,.int .i64 u.p6,.int .i64 u.q6,
  .string ⟨⟨u.fn⟩⟩,.string ⟨⟨u.fd⟩⟩,.string ⟨⟨u.on⟩⟩,.string ⟨⟨u.od⟩⟩,.int .i64 u.kd,.int .i64 u.sc]
  (A1Y _ (by simp[XH])) K
section
variable {ks ty:List Nat} {xs:List Nd} {id:Int}
def B3Q (B:100<L) (C:RTy L n id ks xs (uu (ty.getD (xs.length-1) 0)) ty) (d:ty.length=xs.length) (F:∀k∈ks,k<52) (hb:ks.length<=6) (hn:1<=xs.length) (i:xs.length<=40) (h1:1<=id) (h2:id<=1000000):
 CS (r! L (n+43)) Ug [.agg (BI id (BO ks) (Cs xs) (uu (ty.getD (xs.length-1) 0)))] (.tup [Rx ty,I 0,I 0]):=by
 intro K A;rw[nY];unfold TQ WY OB A0;rw[Ei (NK (.inr ⟨_,_,rfl⟩) (.inr ⟨_,_,rfl⟩))];have c:=Aw (H:=[]) (x:=IY id (BO ks) (Cs xs) (uu (ty.getD (xs.length-1) 0))) (by simp);have w0:=AI (x:=IY id (BO ks) (Cs xs) (uu (ty.getD (xs.length-1) 0))) Fk;generalize ((Ao [],IY id (BO ks) (Cs xs) (uu (ty.getD (xs.length-1) 0)))::([]:Hp))=r at c w0;generalize Ao []=p at c;have t:∀{K:AV->Af},An (r! L (n+42)) Om [.agg (BI id (BO ks) (Cs xs) (uu (ty.getD (xs.length-1) 0)))] r K=K (.tup [Bo true,Bo true]):= λ{K}=>AQ (A9A (n:=n+1) B F hb hn i h1 h2) (VF (.inr ⟨_,_,rfl⟩) (.inr ⟨_,_,rfl⟩));rw[Bu rfl rfl c,t,F3,F2,ntT,Bj];simp only[BK];refine B8m C d (by omega) ?_ (L+20) 0 _ r (by omega) (by omega) (.inl ⟨rfl,rfl,rfl⟩) (λ_=>rfl) (λ⟨_,_,_,h⟩=>by cases h) c w0;intro v H m y M;have w:∀{s j:Nat} {K:AV->Af},CV j (.ptr s 0 0) K=K (.ptr s j 0):= λ{s j K}=>by rw[fA,JQ]
 have f:ty.length-1<ty.length:=by omega
 obtain⟨a,g,e⟩:=A4I m f;have J:∀{K},AF Ay (.ptr p 3 0) H K=K (.agg (CJ (uu (ty.getD (xs.length-1) 0)))):= λ{K}=>GA (p:=3) rfl M (show 23<=23 by decide);have u:ty[ty.length-1]=ty.getD (xs.length-1) 0:=by rw[<-d];simp[List.getD,K9 f]
 rw[u] at e;rw[Lb rfl m,B7,eP (by omega) (by omega),B7,g,B7,e,B7,w,B7,J,B7,C2Y,B7,Bj];exact A _ _ (λb=>by
  obtain⟨q,hq⟩:=lG (D:=depth-2) (b:=b) m y;exact⟨_,dG (D:=depth-1) (Am hq (Am (q:=false) C7 (Am (q:=false) C7 AJ)))⟩)
def A9n (j:100<L) (m:RTy L n id ks xs (uu (ty.getD (xs.length-1) 0)) ty) (a:ty.length=xs.length) (p:∀k∈ks,k<52) (hb:ks.length<=6) (hn:1<=xs.length) (d:xs.length<=40) (h1:1<=id) (h2:id<=1000000):
 CS (r! L (n+44)) FV [.agg (BI id (BO ks) (Cs xs) (uu (ty.getD (xs.length-1) 0)))] (Bo true):=by
 intro K i;rw[nW];unfold TO Ip;rw[Ei (NK (.inr ⟨_,_,rfl⟩) (.inr ⟨_,_,rfl⟩))];have c:=Aw (H:=[]) (x:=IY id (BO ks) (Cs xs) (uu (ty.getD (xs.length-1) 0))) (by simp);generalize ((Ao [],IY id (BO ks) (Cs xs) (uu (ty.getD (xs.length-1) 0)))::([]:Hp))=e at c;have ck:∀{K:AV->Af},An (r! L (n+43)) Ug [.agg (BI id (BO ks) (Cs xs) (uu (ty.getD (xs.length-1) 0)))] e K=K (.tup [Rx ty,I 0,I 0]):= λ{K}=>AQ (B3Q j m a p hb hn d h1 h2) (VF (.inr ⟨_,_,rfl⟩) (.inr ⟨_,_,rfl⟩));have h:∀{K:AV->Af},Cx (.tup [Rx ty,I 0,I 0]) 2 K=K (I 0):= λ{K}=>r_ rfl;have f:∀{K:AV->Af},Cx (.tup [Rx ty,I 0,I 0]) 0 K=K (Rx ty):= λ{K}=>r_ rfl;have g:∀{K:AV->Af},Cx (.tup [Rx ty,I 0,I 0]) 1 K=K (I 0):= λ{K}=>r_ rfl;rw[Bu rfl rfl c,ck,f,g,h,yP];exact i _ _ (λb=>⟨false,λK=>by kernel_rfl⟩)
end
end
section
variable {L n:Nat}
section
variable {ks:List Nat} {xs:List Nd} {id:Int} {o:UD}
def Li (ks:List Nat):List Nd:=(List.range ks.length).map Zt
def DR:(Li ks).length=ks.length:=by simp[Li]
def gG {i:Nat} (h:i<(Li ks).length):(Li ks)[i]=Zt i:=by simp[Li]
def B8i (hb:ks.length<=6):RTy L n id ks (Li ks) o ks:=by
 intro i h;rw[gG h];have a:i<ks.length:=by rw[DR] at h;exact h
 have e:ks.getD i 0=ks[i]:=by simp[List.getD,K9 a]
 rw[e];exact YE (n:=n+39) hb a
def pD {y:Nd} {k:Nat} (hb:ks.length<=6) (d:CS (r! L (n+42)) CC [.agg (BI id (BO ks) (Cs (Li ks++[y])) o),.agg y.cs,I ks.length,Rx ks] (.tup [.agg (CJ (uu k)),I 0])):
 RTy L n id ks (Li ks++[y]) o (ks++[k]):=by
 intro i h;rw[EY,DR] at h;by_cases a:i<ks.length
 ·have e:(Li ks++[y])[i]'(by rw[EY,DR];exact h)=Zt i:=by
   rw[List.getElem_append_left (by rw[DR];exact a)];exact gG _
  rw[e];have b:(ks++[k]).getD i 0=ks[i]:=by simp[List.getD,l0m a,K9 a]
  rw[b];exact YE (n:=n+39) hb a
 ·have c:i=ks.length:=by simp at h;omega
  subst c;have e:(Li ks++[y])[ks.length]'(by rw[EY,DR];exact h)=y:=by
   rw[List.getElem_append_right (by rw[DR];omega)];simp
  rw[e];have b:(ks++[k]).getD ks.length 0=k:=by simp[List.getD]
  rw[b,List.take_left']
  ·exact d
  ·rfl
end
end
section
def dg (k:Nat):List UInt8:=if k<10 then[UInt8.ofNat (48+k)] else if k<100 then[UInt8.ofNat (48+k/10),UInt8.ofNat (48+k%10)] else[UInt8.ofNat (48+k/100),UInt8.ofNat (48+k/10%10),UInt8.ofNat (48+k%10)]
variable (L n:Nat)
def B8G:((List.range 50).all λk=>(λi=>JI (Ba (Dq (r! L (n+10)) BY [I (i:Nat)]) (S (dg i)))) (k+0))=true:=by kernel_rfl
def B8F:((List.range 50).all λk=>(λi=>JI (Ba (Dq (r! L (n+10)) BY [I (i:Nat)]) (S (dg i)))) (k+50))=true:=by kernel_rfl
def B8E:((List.range 50).all λk=>(λi=>JI (Ba (Dq (r! L (n+10)) BY [I (i:Nat)]) (S (dg i)))) (k+100))=true:=by kernel_rfl
def B8D:((List.range 50).all λk=>(λi=>JI (Ba (Dq (r! L (n+10)) BY [I (i:Nat)]) (S (dg i)))) (k+150))=true:=by kernel_rfl
def B8C:((List.range 50).all λk=>(λi=>JI (Ba (Dq (r! L (n+10)) BY [I (i:Nat)]) (S (dg i)))) (k+200))=true:=by kernel_rfl
def B8B:((List.range 50).all λk=>(λi=>JI (Ba (Dq (r! L (n+10)) BY [I (i:Nat)]) (S (dg i)))) (k+250))=true:=by kernel_rfl
def B8A:((List.range 50).all λk=>(λi=>JI (Ba (Dq (r! L (n+10)) BY [I (i:Nat)]) (S (dg i)))) (k+300))=true:=by kernel_rfl
def B8z:((List.range 50).all λk=>(λi=>JI (Ba (Dq (r! L (n+10)) BY [I (i:Nat)]) (S (dg i)))) (k+350))=true:=by kernel_rfl
def B8y:((List.range 50).all λk=>(λi=>JI (Ba (Dq (r! L (n+10)) BY [I (i:Nat)]) (S (dg i)))) (k+400))=true:=by kernel_rfl
def B8x:((List.range 50).all λk=>(λi=>JI (Ba (Dq (r! L (n+10)) BY [I (i:Nat)]) (S (dg i)))) (k+450))=true:=by kernel_rfl
def B3P:((List.range 50).all λk=>(λi=>JI (Ba (Dq (r! L (n+10)) BY [I (i:Nat)]) (S (dg i)))) (k+500))=true:=by kernel_rfl
def B3O:((List.range 50).all λk=>(λi=>JI (Ba (Dq (r! L (n+10)) BY [I (i:Nat)]) (S (dg i)))) (k+550))=true:=by kernel_rfl
def B3N:((List.range 50).all λk=>(λi=>JI (Ba (Dq (r! L (n+10)) BY [I (i:Nat)]) (S (dg i)))) (k+600))=true:=by kernel_rfl
def B3M:((List.range 50).all λk=>(λi=>JI (Ba (Dq (r! L (n+10)) BY [I (i:Nat)]) (S (dg i)))) (k+650))=true:=by kernel_rfl
def B3L:((List.range 50).all λk=>(λi=>JI (Ba (Dq (r! L (n+10)) BY [I (i:Nat)]) (S (dg i)))) (k+700))=true:=by kernel_rfl
def B3K:((List.range 50).all λk=>(λi=>JI (Ba (Dq (r! L (n+10)) BY [I (i:Nat)]) (S (dg i)))) (k+750))=true:=by kernel_rfl
def B3J:((List.range 50).all λk=>(λi=>JI (Ba (Dq (r! L (n+10)) BY [I (i:Nat)]) (S (dg i)))) (k+800))=true:=by kernel_rfl
def B3I:((List.range 50).all λk=>(λi=>JI (Ba (Dq (r! L (n+10)) BY [I (i:Nat)]) (S (dg i)))) (k+850))=true:=by kernel_rfl
def B3H:((List.range 50).all λk=>(λi=>JI (Ba (Dq (r! L (n+10)) BY [I (i:Nat)]) (S (dg i)))) (k+900))=true:=by kernel_rfl
def C3Z (i:Nat) (h:i<950):PS (r! L (n+10)) BY [I (i:Nat)] (S (dg i)):=by
 refine BJ (λH=>by first|exact λK=>by kernel_rfl) ?_;by_cases p:i<50
 ·have:=GH.1 (B8G L n) (i-0) (K8.2 (by omega));have e:i-0+0=i:=by omega
  simp only[e] at this;exact this
 by_cases h1:i<100
 ·have:=GH.1 (B8F L n) (i-50) (K8.2 (by omega));have e:i-50+50=i:=by omega
  simp only[e] at this;exact this
 by_cases h2:i<150
 ·have:=GH.1 (B8E L n) (i-100) (K8.2 (by omega));have e:i-100+100=i:=by omega
  simp only[e] at this;exact this
 by_cases q:i<200
 ·have:=GH.1 (B8D L n) (i-150) (K8.2 (by omega));have e:i-150+150=i:=by omega
  simp only[e] at this;exact this
 by_cases r:i<250
 ·have:=GH.1 (B8C L n) (i-200) (K8.2 (by omega));have e:i-200+200=i:=by omega
  simp only[e] at this;exact this
 by_cases s:i<300
 ·have:=GH.1 (B8B L n) (i-250) (K8.2 (by omega));have e:i-250+250=i:=by omega
  simp only[e] at this;exact this
 by_cases t:i<350
 ·have:=GH.1 (B8A L n) (i-300) (K8.2 (by omega));have e:i-300+300=i:=by omega
  simp only[e] at this;exact this
 by_cases u:i<400
 ·have:=GH.1 (B8z L n) (i-350) (K8.2 (by omega));have e:i-350+350=i:=by omega
  simp only[e] at this;exact this
 by_cases v:i<450
 ·have:=GH.1 (B8y L n) (i-400) (K8.2 (by omega));have e:i-400+400=i:=by omega
  simp only[e] at this;exact this
 by_cases w:i<500
 ·have:=GH.1 (B8x L n) (i-450) (K8.2 (by omega));have e:i-450+450=i:=by omega
  simp only[e] at this;exact this
 by_cases a:i<550
 ·have:=GH.1 (B3P L n) (i-500) (K8.2 (by omega));have e:i-500+500=i:=by omega
  simp only[e] at this;exact this
 by_cases b:i<600
 ·have:=GH.1 (B3O L n) (i-550) (K8.2 (by omega));have e:i-550+550=i:=by omega
  simp only[e] at this;exact this
 by_cases c:i<650
 ·have:=GH.1 (B3N L n) (i-600) (K8.2 (by omega));have e:i-600+600=i:=by omega
  simp only[e] at this;exact this
 by_cases d:i<700
 ·have:=GH.1 (B3M L n) (i-650) (K8.2 (by omega));have e:i-650+650=i:=by omega
  simp only[e] at this;exact this
 by_cases f:i<750
 ·have:=GH.1 (B3L L n) (i-700) (K8.2 (by omega));have e:i-700+700=i:=by omega
  simp only[e] at this;exact this
 by_cases g:i<800
 ·have:=GH.1 (B3K L n) (i-750) (K8.2 (by omega));have e:i-750+750=i:=by omega
  simp only[e] at this;exact this
 by_cases j:i<850
 ·have:=GH.1 (B3J L n) (i-800) (K8.2 (by omega));have e:i-800+800=i:=by omega
  simp only[e] at this;exact this
 by_cases k:i<900
 ·have:=GH.1 (B3I L n) (i-850) (K8.2 (by omega));have e:i-850+850=i:=by omega
  simp only[e] at this;exact this
 by_cases m:i<950
 ·have:=GH.1 (B3H L n) (i-900) (K8.2 (by omega));have e:i-900+900=i:=by omega
  simp only[e] at this;exact this
 omega
end
section
variable (L n:Nat)
def B6y:((List.range 50).all λk=>(λi=>JI (Ba (Dq (r! L (n+10)) BP [I (i:Nat)]) (S (dg i)))) (k+0))=true:=by kernel_rfl
def B6x:((List.range 50).all λk=>(λi=>JI (Ba (Dq (r! L (n+10)) BP [I (i:Nat)]) (S (dg i)))) (k+50))=true:=by kernel_rfl
def B6w:((List.range 50).all λk=>(λi=>JI (Ba (Dq (r! L (n+10)) BP [I (i:Nat)]) (S (dg i)))) (k+100))=true:=by kernel_rfl
def B6v:((List.range 50).all λk=>(λi=>JI (Ba (Dq (r! L (n+10)) BP [I (i:Nat)]) (S (dg i)))) (k+150))=true:=by kernel_rfl
def B6u:((List.range 50).all λk=>(λi=>JI (Ba (Dq (r! L (n+10)) BP [I (i:Nat)]) (S (dg i)))) (k+200))=true:=by kernel_rfl
def B6t:((List.range 50).all λk=>(λi=>JI (Ba (Dq (r! L (n+10)) BP [I (i:Nat)]) (S (dg i)))) (k+250))=true:=by kernel_rfl
def B6s:((List.range 50).all λk=>(λi=>JI (Ba (Dq (r! L (n+10)) BP [I (i:Nat)]) (S (dg i)))) (k+300))=true:=by kernel_rfl
def B6r:((List.range 50).all λk=>(λi=>JI (Ba (Dq (r! L (n+10)) BP [I (i:Nat)]) (S (dg i)))) (k+350))=true:=by kernel_rfl
def B6q:((List.range 50).all λk=>(λi=>JI (Ba (Dq (r! L (n+10)) BP [I (i:Nat)]) (S (dg i)))) (k+400))=true:=by kernel_rfl
def B6p:((List.range 50).all λk=>(λi=>JI (Ba (Dq (r! L (n+10)) BP [I (i:Nat)]) (S (dg i)))) (k+450))=true:=by kernel_rfl
def B2K:((List.range 50).all λk=>(λi=>JI (Ba (Dq (r! L (n+10)) BP [I (i:Nat)]) (S (dg i)))) (k+500))=true:=by kernel_rfl
def B2J:((List.range 50).all λk=>(λi=>JI (Ba (Dq (r! L (n+10)) BP [I (i:Nat)]) (S (dg i)))) (k+550))=true:=by kernel_rfl
def B2I:((List.range 50).all λk=>(λi=>JI (Ba (Dq (r! L (n+10)) BP [I (i:Nat)]) (S (dg i)))) (k+600))=true:=by kernel_rfl
def B2H:((List.range 50).all λk=>(λi=>JI (Ba (Dq (r! L (n+10)) BP [I (i:Nat)]) (S (dg i)))) (k+650))=true:=by kernel_rfl
def B2G:((List.range 50).all λk=>(λi=>JI (Ba (Dq (r! L (n+10)) BP [I (i:Nat)]) (S (dg i)))) (k+700))=true:=by kernel_rfl
def B2F:((List.range 50).all λk=>(λi=>JI (Ba (Dq (r! L (n+10)) BP [I (i:Nat)]) (S (dg i)))) (k+750))=true:=by kernel_rfl
def B2E:((List.range 50).all λk=>(λi=>JI (Ba (Dq (r! L (n+10)) BP [I (i:Nat)]) (S (dg i)))) (k+800))=true:=by kernel_rfl
def B2D:((List.range 50).all λk=>(λi=>JI (Ba (Dq (r! L (n+10)) BP [I (i:Nat)]) (S (dg i)))) (k+850))=true:=by kernel_rfl
def B2C:((List.range 50).all λk=>(λi=>JI (Ba (Dq (r! L (n+10)) BP [I (i:Nat)]) (S (dg i)))) (k+900))=true:=by kernel_rfl
def C3R (i:Nat) (h:i<950):PS (r! L (n+10)) BP [I (i:Nat)] (S (dg i)):=by
 refine BJ (λH=>by first|exact λK=>by kernel_rfl) ?_;by_cases p:i<50
 ·have:=GH.1 (B6y L n) (i-0) (K8.2 (by omega));have e:i-0+0=i:=by omega
  simp only[e] at this;exact this
 by_cases h1:i<100
 ·have:=GH.1 (B6x L n) (i-50) (K8.2 (by omega));have e:i-50+50=i:=by omega
  simp only[e] at this;exact this
 by_cases h2:i<150
 ·have:=GH.1 (B6w L n) (i-100) (K8.2 (by omega));have e:i-100+100=i:=by omega
  simp only[e] at this;exact this
 by_cases q:i<200
 ·have:=GH.1 (B6v L n) (i-150) (K8.2 (by omega));have e:i-150+150=i:=by omega
  simp only[e] at this;exact this
 by_cases r:i<250
 ·have:=GH.1 (B6u L n) (i-200) (K8.2 (by omega));have e:i-200+200=i:=by omega
  simp only[e] at this;exact this
 by_cases s:i<300
 ·have:=GH.1 (B6t L n) (i-250) (K8.2 (by omega));have e:i-250+250=i:=by omega
  simp only[e] at this;exact this
 by_cases t:i<350
 ·have:=GH.1 (B6s L n) (i-300) (K8.2 (by omega));have e:i-300+300=i:=by omega
  simp only[e] at this;exact this
 by_cases u:i<400
 ·have:=GH.1 (B6r L n) (i-350) (K8.2 (by omega));have e:i-350+350=i:=by omega
  simp only[e] at this;exact this
 by_cases v:i<450
 ·have:=GH.1 (B6q L n) (i-400) (K8.2 (by omega));have e:i-400+400=i:=by omega
  simp only[e] at this;exact this
 by_cases w:i<500
 ·have:=GH.1 (B6p L n) (i-450) (K8.2 (by omega));have e:i-450+450=i:=by omega
  simp only[e] at this;exact this
 by_cases a:i<550
 ·have:=GH.1 (B2K L n) (i-500) (K8.2 (by omega));have e:i-500+500=i:=by omega
  simp only[e] at this;exact this
 by_cases b:i<600
 ·have:=GH.1 (B2J L n) (i-550) (K8.2 (by omega));have e:i-550+550=i:=by omega
  simp only[e] at this;exact this
 by_cases c:i<650
 ·have:=GH.1 (B2I L n) (i-600) (K8.2 (by omega));have e:i-600+600=i:=by omega
  simp only[e] at this;exact this
 by_cases d:i<700
 ·have:=GH.1 (B2H L n) (i-650) (K8.2 (by omega));have e:i-650+650=i:=by omega
  simp only[e] at this;exact this
 by_cases f:i<750
 ·have:=GH.1 (B2G L n) (i-700) (K8.2 (by omega));have e:i-700+700=i:=by omega
  simp only[e] at this;exact this
 by_cases g:i<800
 ·have:=GH.1 (B2F L n) (i-750) (K8.2 (by omega));have e:i-750+750=i:=by omega
  simp only[e] at this;exact this
 by_cases j:i<850
 ·have:=GH.1 (B2E L n) (i-800) (K8.2 (by omega));have e:i-800+800=i:=by omega
  simp only[e] at this;exact this
 by_cases k:i<900
 ·have:=GH.1 (B2D L n) (i-850) (K8.2 (by omega));have e:i-850+850=i:=by omega
  simp only[e] at this;exact this
 by_cases m:i<950
 ·have:=GH.1 (B2C L n) (i-900) (K8.2 (by omega));have e:i-900+900=i:=by omega
  simp only[e] at this;exact this
 omega
end
section
def exN (j:Nat):Nd:=
 if j<3 then Zt j
 else if j<39 then⟨(3+(j-3)/9:Nat),[],[],u0,0,((j-3)/3%3:Nat),((j-3)%3:Nat)⟩
 else⟨7,[],[],u0,lM ((j-39)%5),((j-39)/5:Nat),0⟩
def GF:List (List UInt8):=[[],[99,111,110,115,116],[105,110,112,117,116],[97,100,100],[115,117,98],[109,117,108],[100,105,118],[112,111,119],[115,113,114,116]]
def exT (j:Nat):List UInt8:=
 if j<3 then GF.getD 2 []++[32]++dec j
 else if j<39 then GF.getD (3+(j-3)/9) []++[32]++dec ((j-3)/3%3:Nat)++[32]++dec ((j-3)%3:Nat)
 else GF.getD 7 []++[32]++dec ((j-39)/5:Nat)++[32]++dec (lM ((j-39)%5))
variable (L n:Nat)
def A9v:((List.range 54).all λi=>JI (Ba (Dq (r! L (n+41)) Jw [.agg (exN i).cs]) (S (exT i))))=true:=by kernel_rfl
end
section
def frL:List (List UInt8×List UInt8):=[([45,54],[49]),
 ([45,51],[49]),
 ([45,50],[49]),
 ([45,51],[50]),
 ([45,53],[49]),
 ([45,53],[50]),
 ([45,53],[51]),
 ([45,53],[52]),
 ([45,52],[49]),
 ([45,52],[51]),
 ([45,49],[49]),
 ([45,51],[52]),
 ([45,50],[51]),
 ([45,49],[50]),
 ([45,49],[51]),
 ([45,49],[52]),
 ([48],[49]),
 ([49],[49]),
 ([49],[50]),
 ([49],[51]),
 ([49],[52]),
 ([50],[49]),
 ([50],[51]),
 ([51],[49]),
 ([51],[50]),
 ([51],[52]),
 ([52],[49]),
 ([52],[51]),
 ([53],[49]),
 ([53],[50]),
 ([53],[51]),
 ([53],[52]),
 ([54],[49])]
def frn (i:Nat):List UInt8:=(frL.getD i ([],[])).1
def frd (i:Nat):List UInt8:=(frL.getD i ([],[])).2
abbrev dX (i:Nat):List AV:=[S (frn i),S (frd i)]
def frt (i:Nat):List UInt8:=if frd i=[49] then frn i else frn i++[47]++frd i
def C2K:List (List Nat):=[[0,1,2,3],[4,5,6,7],[8,2,9,10],[1,3,10,11],[2,10,12,13],[10,13,14,15],[16,16,16,16],[17,18,19,20],[21,17,22,18],[23,24,17,25],[26,21,27,17],[28,29,30,31],[32,23,21,24]]
def lH (a b:Nat):Nat:=(C2K.getD a []).getD b 0
variable (L n:Nat)
def A9z:((List.range 13).all λk=>(λi=>JI (Ba (Dq (r! L (n+40)) Gr [I (((i/4:Nat):Int)-6),I (1+((i%4:Nat):Int))]) (.tup [.agg (dX (lH (i/4) (i%4))),I 0]))) (k+0))=true:=by kernel_rfl
def A9y:((List.range 13).all λk=>(λi=>JI (Ba (Dq (r! L (n+40)) Gr [I (((i/4:Nat):Int)-6),I (1+((i%4:Nat):Int))]) (.tup [.agg (dX (lH (i/4) (i%4))),I 0]))) (k+13))=true:=by kernel_rfl
def A9x:((List.range 13).all λk=>(λi=>JI (Ba (Dq (r! L (n+40)) Gr [I (((i/4:Nat):Int)-6),I (1+((i%4:Nat):Int))]) (.tup [.agg (dX (lH (i/4) (i%4))),I 0]))) (k+26))=true:=by kernel_rfl
def A9w:((List.range 13).all λk=>(λi=>JI (Ba (Dq (r! L (n+40)) Gr [I (((i/4:Nat):Int)-6),I (1+((i%4:Nat):Int))]) (.tup [.agg (dX (lH (i/4) (i%4))),I 0]))) (k+39))=true:=by kernel_rfl
def B8w (i:Nat) (h:i<52):PS (r! L (n+40)) Gr [I (((i/4:Nat):Int)-6),I (1+((i%4:Nat):Int))] (.tup [.agg (dX (lH (i/4) (i%4))),I 0]):=by
 refine BJ (λH=>by first|exact λK=>by kernel_rfl) ?_;by_cases a:i<13
 ·have:=GH.1 (A9z L n) (i-0) (K8.2 (by omega));have e:i-0+0=i:=by omega
  simp only[e] at this;exact this
 by_cases h1:i<26
 ·have:=GH.1 (A9y L n) (i-13) (K8.2 (by omega));have e:i-13+13=i:=by omega
  simp only[e] at this;exact this
 by_cases h2:i<39
 ·have:=GH.1 (A9x L n) (i-26) (K8.2 (by omega));have e:i-26+26=i:=by omega
  simp only[e] at this;exact this
 by_cases b:i<52
 ·have:=GH.1 (A9w L n) (i-39) (K8.2 (by omega));have e:i-39+39=i:=by omega
  simp only[e] at this;exact this
 ·omega
def A0J:((List.range 11).all λk=>(λi=>JI (Ba (Dq (r! L (n+40)) Fy [.agg (dX i)]) (Bo true))) (k+0))=true:=by kernel_rfl
def A0I:((List.range 11).all λk=>(λi=>JI (Ba (Dq (r! L (n+40)) Fy [.agg (dX i)]) (Bo true))) (k+11))=true:=by kernel_rfl
def A0H:((List.range 11).all λk=>(λi=>JI (Ba (Dq (r! L (n+40)) Fy [.agg (dX i)]) (Bo true))) (k+22))=true:=by kernel_rfl
def A6r (i:Nat) (h:i<33):PS (r! L (n+40)) Fy [.agg (dX i)] (Bo true):=by
 refine BJ (λH=>by first|exact λK=>by kernel_rfl) ?_;by_cases a:i<11
 ·have:=GH.1 (A0J L n) (i-0) (K8.2 (by omega));have e:i-0+0=i:=by omega
  simp only[e] at this;exact this
 by_cases h1:i<22
 ·have:=GH.1 (A0I L n) (i-11) (K8.2 (by omega));have e:i-11+11=i:=by omega
  simp only[e] at this;exact this
 by_cases h2:i<33
 ·have:=GH.1 (A0H L n) (i-22) (K8.2 (by omega));have e:i-22+22=i:=by omega
  simp only[e] at this;exact this
 ·omega
def A0M:((List.range 11).all λk=>(λi=>JI (Ba (Dq (r! L (n+40)) Mz [.agg (dX i)]) (S (frt i)))) (k+0))=true:=by kernel_rfl
def A0L:((List.range 11).all λk=>(λi=>JI (Ba (Dq (r! L (n+40)) Mz [.agg (dX i)]) (S (frt i)))) (k+11))=true:=by kernel_rfl
def A0K:((List.range 11).all λk=>(λi=>JI (Ba (Dq (r! L (n+40)) Mz [.agg (dX i)]) (S (frt i)))) (k+22))=true:=by kernel_rfl
def A6s (i:Nat) (h:i<33):PS (r! L (n+40)) Mz [.agg (dX i)] (S (frt i)):=by
 refine BJ (λH=>by first|exact λK=>by kernel_rfl) ?_;by_cases a:i<11
 ·have:=GH.1 (A0M L n) (i-0) (K8.2 (by omega));have e:i-0+0=i:=by omega
  simp only[e] at this;exact this
 by_cases h1:i<22
 ·have:=GH.1 (A0L L n) (i-11) (K8.2 (by omega));have e:i-11+11=i:=by omega
  simp only[e] at this;exact this
 by_cases h2:i<33
 ·have:=GH.1 (A0K L n) (i-22) (K8.2 (by omega));have e:i-22+22=i:=by omega
  simp only[e] at this;exact this
 ·omega
end
section
variable (L n:Nat)
def A8m:((List.range 54).all λi=>JI (Ba (Dq (r! L (n+41)) FE [.agg (exN i).cs]) (S (exT i))))=true:=by kernel_rfl
def cnN (i k:Nat):Nd:=⟨1,frn i,frd i,uu k,0,0,0⟩
def cnT (i k:Nat):List UInt8:=GF.getD 1 []++[32]++frt i++[32]++Ll k
end
end Go.Abs
end
noncomputable section
end
noncomputable section
namespace Go.Abs
open Go.RowKit Go.Proofs
set_option maxRecDepth 100000
section
variable {v:AV} {args:List AV} {f:Nat} {R:Rt}
variable {L n:Nat}
def RV (R:Rt) (f:Nat) (args:List AV) (v:AV):Prop:=∀b,(R.call f args [] λv d=>HP b d depth v λ_ e=>some (e,[]))=some (v,[])
def qB {args args':List AV} {H:Hp} {q:Bool} {K:AV->Af} (hc:RV R f args' v) (d:Rr true depth args args' H q):An R f args H K=K v:=by
 unfold An;rw[d];show Aq (R.call f args' [] _) K=K v;rw[hc (!q)];rfl
def CS.rv (h:CS R f args v):RV R f args v:= λb=>h _ λe d hv=>by
 obtain⟨q,hq⟩:=hv b;exact hq _
abbrev fnA (f:Nat):AV:= .fn (.func f) [] []
abbrev dU (w:List UInt8) (F:AV) (g:Nat):AV:= .agg [S w,F,fnA g]
abbrev mT:AV:= .list 2 [fnA PE,fnA gW]
abbrev B8L:AV:= .list 2 [fnA PE,fnA SG]
abbrev B8W:AV:= .list 1 [fnA SG]
abbrev XL:AV:= .imap [(.int .i64 1,dU (GF.getD 1 []) As DI),(.int .i64 2,dU (GF.getD 2 []) B8W FJ),
 (.int .i64 3,dU (GF.getD 3 []) mT Fa),(.int .i64 4,dU (GF.getD 4 []) mT D0),
 (.int .i64 5,dU (GF.getD 5 []) mT DS),(.int .i64 6,dU (GF.getD 6 []) mT DH),
 (.int .i64 7,dU (GF.getD 7 []) B8L E4),(.int .i64 8,dU (GF.getD 8 []) (.list 1 [fnA PE]) SH)]
def B5i:PS (r! L (n+1)) I5 [] XL:=BJ (λH K=>by kernel_rfl) (by kernel_rfl)
abbrev Xi (I U:AV):AV:= .iptr [XL,I,U]
variable {I1:AV} {a b c i k:Nat}
end
section
variable {L n:Nat}
section
variable {H:Hp} {c:Nat} {v I1 F:AV} {l:List Nat} {y:Nd} {w:List UInt8} {g k:Nat}
abbrev WX (I1 v:AV):Row:= .cells true Zb [XL,I1,v]
def B9u (hc:Aj H c=some (WX I1 v)) (h:B2 H A6 20 v l.length (l.flatMap HH)) (e:l=[]->v=As) (f:Sl I1):Fx true depth (.ptr c 0 0) (Xi I1 (Rx l)) H true:=by
 obtain⟨q,hq⟩:=lG (D:=depth-2) (b:=true) h e;have a1:Fx true (depth-1) XL XL H false:= λK=>r_ rfl;have a2:Fx true (depth-1) I1 I1 H false:=by rcases f with rfl|⟨_,_,rfl⟩<;>exact λK=>r_ rfl
 have d:Rr true (depth-1) [XL,I1,v] [XL,I1,Rx l] H (false||(false||(q||false))):=Am a1 (Am a2 (Am hq AJ));intro K;show IJ H c (λx=>JV x λ_ cs=>IB (HP true H (depth-1)) (Di (Nat.add 0 0) cs) λ_ a=>K true (.iptr a))=_;rw[Bf hc];show IB (HP true H (depth-1)) (Di 0 [XL,I1,v]) (λ_ a=>K true (.iptr a))=_;rw[C6,pM,d]
def A4t {f m:Nat} {args:List AV} {K:KV} (hn:(E (L+20)).ne f=false) (b:(E (L+20)).imp f=false) (hz:∀s,args≠[.ptr s 0 0]):Cr (E (L+20)) (rt (L+20) m) (fnA f) args H K=An (rt (L+20) m) f args H λv=>K v H:=by
 show SD args [] (λa=>SD [] a λall=>A1r ((E (L+20)).ne f) all H K (@Bool.rec (λ_=>Af) (zpm (E (L+20)) f (rt (L+20) m) all H λv=>K v H) ((rt (L+20) m).call f all H K) ((E (L+20)).imp f)))=_;rw[Jt,Jt,hn,b,Wi,l3d];show zpm (E (L+20)) f (rt (L+20) m) args H (λv=>K v H)=_;rw[A2f hz]
def A9W {K:Af} (h:dP v v=true):QQ (Ba (some (v,H)) v) K=K:=by
 show QQ (some (.v (.bool (dP v v)),[])) K=K;rw[h];rfl
def A0s {e z n:Nat} {cs:List AV} (h:B2 H e z v n cs):dP v v=true:=by
 rcases h with⟨rfl,_⟩|⟨r,q,rfl,_⟩
 ·rfl
 ·show(Nat.beq z z&&(Nat.beq r r&&(Nat.beq 0 0&&Nat.beq n n)))=true;simp
def B1k {K:AV->Af} {t:TI}:Go.Abs.Ap t .eql (I 0) (.v (.int .i64 0)) K=K (Bo true):=by rw[CP,Iu rfl]
def C0U (hc:Aj H c=some (WX I1 v)) (hs:B2 H A6 20 v l.length (l.flatMap HH)) (h0:l=[]->v=As) (hr:¬A8 v c) (wf:Wf H) (hb:l.length<100) (hI:Sl I1) (hF:Sl F)
 (hk:∀H K,(Wk .i64 (I y.op) λq=>YV Bs true XL q H K)=K (.tup [dU w F g,Bo true]))
 (ha:dP (.tup [dU w F g,Bo true]) (.tup [dU w F g,Bo true])=true)
 (hn:(E (L+20)).ne g=false) (hi:(E (L+20)).imp g=false)
 (hh:RV (r! L (n+41)) BQ [Xi I1 (Rx l),dU w F g,.agg y.cs] (Bo true))
 (B:RV (r! L (n+41)) g [Xi I1 (Rx l),.agg y.cs] (.tup [.agg (CJ (uu k)),I 0])):
 ∃f J,(∀K,(r! L (n+42)).call Jj [.ptr c 0 0,.agg y.cs] H K=K (Bo true) J)/\Aj J c=some (WX I1 f)/\B2 J A6 20 f (l++[k]).length ((l++[k]).flatMap HH)/\¬A8 f c/\Wf J/\Ao H<=Ao J/\(∀s x,Aj H s=some x->s≠c->¬A8 v s->Aj J s=some x)/\(∀s,A8 f s->Ao H<=s):=by
 have i:=Aw (H:=H) (x:=Xb y) (by simp);have t:=A4 (x:=Xb y) (wf.lt hc) hc;have w1:=AI (x:=Xb y) wf;have Y:B2 ((Ao H,Xb y)::H) A6 20 v l.length (l.flatMap HH):=hs.lat wf (Lat.cons H _ (λ_=>False)) (λ_ _ h=>h);have ad:∀s x,Aj H s=some x->Aj ((Ao H,Xb y)::H) s=some x:= λs x h=>A4 (wf.lt h) h;have n1:Ao H<=Ao ((Ao H,Xb y)::H):=l1u _;have aj:∀s,A8 v s->s<Ao H:= λs B=>by
  rcases hs with⟨rfl,_⟩|⟨r,q,rfl,h2,_⟩
  ·obtain⟨_,_,_,h⟩:=B;cases h
  ·obtain⟨_,_,_,h⟩:=B;cases h;exact wf.lt h2
 have ey:∀K:KV,Ho AT (.agg y.cs) H K=K (.ptr (Ao H) 0 0) ((Ao H,Xb y)::H):= λK=>Ei A3f;have yl:=wf.lt hc;generalize az:((Ao H,Xb y)::H)=d at i t w1 Y ad n1 ey;generalize a4:Ao H=r at i ey yl n1 aj;obtain⟨m,e2,X,w2,k2⟩:=Ih (e:=C5) (zs:=[zS,zL,.v .nilFunc]) (vs:=[S w,F,fnA g]) w1 rfl;have ai:=Aw (H:=d) (x:= .cells true C5 [zS,zL,.v .nilFunc]) (by simp);have N:=A4 (x:= .cells true C5 [zS,zL,.v .nilFunc]) (w1.lt t) t;have ac:=A4 (x:= .cells true C5 [zS,zL,.v .nilFunc]) (w1.lt i) i;obtain⟨O,a5⟩:=k2 _ _ t;obtain⟨an,a7⟩:=k2 _ _ i;have Z:B2 m A6 20 v l.length (l.flatMap HH):=by
  rcases Y with h|⟨r,q,h1,h2,h3⟩
  ·exact .inl h
  ·exact .inr ⟨r,q,h1,(k2 _ _ h2).1,h3⟩
 have n2:Ao d<=Ao m:=by rw[e2,BC];exact l1u _
 obtain⟨C,e3,ak,w3,k3⟩:=Ih (e:=A6) (zs:=FW) (vs:=CJ (uu k)) w2 rfl;obtain⟨A,a6⟩:=k3 _ _ O;have aa:B2 C A6 20 v l.length (l.flatMap HH):=by
  rcases Z with h|⟨r,q,h1,h2,h3⟩
  ·exact .inl h
  ·exact .inr ⟨r,q,h1,(k3 _ _ h2).1,h3⟩
 have n3:Ao m<=Ao C:=by rw[e3,BC];exact l1u _
 obtain⟨f,M,e4,ab,w4,n4,k4,ah⟩:=C3k k aa w3 hb;have Q:=k4 _ _ A hr;have R:¬A8 f c:= λB=>by have:=ah c B;have:=w3.lt A;omega
 have D:Bv f=[f]/\AV.one f=true:=by
  rcases ab with⟨rfl,_⟩|⟨a,b,rfl,_⟩<;>exact⟨rfl,rfl⟩
 refine⟨f,upd M c (WX I1 f),λK=> ?_,AC Q,ab.lat w4 (Lat.upd M c _ (P:= λu=>u=c) rfl) (λu B e=>R (e▸B)),R,Bn w4,by rw[BC];omega,λs x h h1 h2=> ?_,λs B=>by have:=ah s B;omega⟩
 ·rw[QT];unfold Jg Eh GT A0 LW HQ;rw[ey];have f0:∀{s j:Nat} {K:AV->Af},CV j (.ptr s 0 0) K=K (.ptr s j 0):= λ{s j K}=>by rw[fA,JQ]
  have lk1:∀{K},AF DG (.ptr c 0 0) d K=K XL:= λ{K}=>AP (p:=0) rfl t (show 0<3 by decide);have ax:∀{K},AF Ab (.ptr r 0 0) d K=K (I y.op):= λ{K}=>AP (p:=0) rfl i (show 0<26 by decide);have af:∀{K},AF DG (.ptr c 0 0) ((Ao d,c_ C5 [zS,zL,.v .nilFunc])::d) K=K XL:= λ{K}=>AP (p:=0) rfl N (show 0<3 by decide);have ag:∀{K},AF Ab (.ptr r 0 0) ((Ao d,c_ C5 [zS,zL,.v .nilFunc])::d) K=K (I y.op):= λ{K}=>AP (p:=0) rfl ac (show 0<26 by decide);have al:∀{K:KV},Bx C5 Bs d K=K (.ptr (Ao d) 0 0) ((Ao d,c_ C5 [zS,zL,.v .nilFunc])::d):= λ{K}=>B1 rfl;have st:∀{K:Hp->Af},E0 Bs (.ptr (Ao d) 0 0) (dU w F g) ((Ao d,c_ C5 [zS,zL,.v .nilFunc])::d) K=K m:= λ{K}=>by
   rw[e2];exact Cc (vs:=[S w,F,fnA g]) ai rfl rfl (by rcases hF with rfl|⟨_,_,rfl⟩<;>rfl)
  have o1:∀{K:Af} {H:Hp},QQ (Ba (some (XL,H)) XL) K=K:= λ{K H}=>by kernel_rfl
  have o2:∀{K:Af} {H:Hp} {z:Int},QQ (Ba (some (I z,H)) (I z)) K=K:= λ{K H z}=>UM (by rfl);have o3:∀{K:Af} {H:Hp},QQ (Ba (some (.tup [dU w F g,Bo true],H)) (.tup [dU w F g,Bo true])) K=K:= λ{K H}=>by
   show QQ (some (.v (.bool (dP _ _)),[])) K=K;rw[ha];rfl
  simp only[It,B7,f0,lk1,ax,hk,F3,F2,al,Cn,st,af,ag,o1,o2,o3,ntT];have aq:∀{K},AF Bs (.ptr (Ao d) 0 0) m K=K (dU w F g):= λ{K}=>Bu rfl rfl X;have ay:∀{K},AF AN (.ptr r 0 0) m K=K (.agg y.cs):= λ{K}=>Bu rfl rfl an;have ap:∀{K},AF Aa (.ptr (Ao d) 2 0) m K=K (fnA g):= λ{K}=>AP (p:=2) rfl X (show 2<3 by decide);have a1:=B9u O Z h0 hI;have a2:Fx true depth (dU w F g) (dU w F g) m false:=by rcases hF with rfl|⟨_,_,rfl⟩<;>exact λK=>by kernel_rfl
  have a3:Fx true depth (.agg y.cs) (.agg y.cs) m false:= λK=>by kernel_rfl
  have V:∀{K:AV->Af},An (r! L (n+41)) BQ [.ptr c 0 0,dU w F g,.agg y.cs] m K=K (Bo true):= λ{K}=>qB hh (Am a1 (Am a2 (Am a3 AJ)));have am:∀{K:AV->Af},An (r! L (n+41)) g [.ptr c 0 0,.agg y.cs] m K=K (.tup [.agg (CJ (uu k)),I 0]):= λ{K}=>qB B (Am a1 (Am a3 AJ));simp only[gT,Cn,aq,ay,V,ntT,SS];rw[Bj,ap,A4t hn hi (by simp),am,F3,F2,B1 (cs:=FW) rfl,Cc (cs:=FW) (vs:=CJ (uu k)) (Aw (by simp)) rfl rfl rfl,<-e3];have ao:∀{K},AF Al (.ptr c 2 0) C K=K v:= λ{K}=>AP (p:=2) rfl A (show 2<3 by decide);have ar:∀{K},AF Ay (.ptr (Ao m) 0 0) C K=K (.agg (CJ (uu k))):= λ{K}=>Bu rfl rfl ak;simp only[It,B7,f0,ao,ar];have e5:∀K:KV,E9 A6 20 Ay Al v (.sl 20 (Ao C) 0 1) ((Ao C,.cells false A6 (HH k))::C) K=K f M:= λK=>by have:=e4 K;rw[A7j] at this;exact this
  have ae:∀{K},AF Al (.ptr c 2 0) ((Ao C,.cells false A6 (HH k))::C) K=K v:= λ{K}=>AP (p:=2) rfl (A4 (w3.lt A) A) (show 2<3 by decide);have s5:∀{K:Hp->Af},E0 Al (.ptr c 2 0) f M K=K (upd M c (WX I1 f)):= λ{K}=>Ed Q (show 2<3 by decide) rfl D.1 D.2;have o4:∀{K:Af} {H:Hp},QQ (Ba (some (v,H)) v) K=K:= λ{K H}=>A9W (A0s aa);simp only[A7j,Cn,e5,s5,ae,o4,B1k]
 ·have a1:=ad s x h;have a2:=(k2 s x a1).1;have a3:=(k3 s x a2).1;rw[Ag h1];exact k4 s x a3 h2
end
end
section
variable {L n:Nat}
abbrev A0p:AV:=fnA GI
def B6j {k:Nat} (c:k<52):PS (r! L (n+41)) GI [.agg (CJ (uu k))] (Bo false):=by
 refine CS.ps (λK a=> ?_) (λH=> λK=>by kernel_rfl);rw[UO];unfold KK Ip;rw[Ei rfl,Bu (cs:=CJ (uu k)) rfl rfl (Aw (by simp)),Xs _ _ _ c,ntT];exact a _ _ (λb=>⟨false,λK=>by kernel_rfl⟩)
def B2R {a:Hp->Af} {K:KV} {ks:List Nat} {H:Hp} (hb:ks.length<1000000000) (c:∀k∈ks,k<52):∀(f i:Nat),i<=ks.length->ks.length-i<f->
 Eu (L+20) (r! L (n+41)) K a f (BO ks) A0p (I ks.length) (I i) H=a H:=by
 intro f
 induction f with
 |zero=>intro i _ h;omega
 |succ f ih=>
  intro i e d;rw[Kd];unfold Ev Iv A0;by_cases h:i<ks.length
  ·rw[FR (by omega),Cy,iB h,hY];have b:∀K,Cr (E (L+20)) (r! L (n+41)) A0p [.agg (CJ (uu ks[i]))] H K=An (r! L (n+41)) GI [.agg (CJ (uu ks[i]))] H λv=>K v H:= λK=>A4t rfl rfl (by simp);rw[b,B6j (c _ (Qe h)),Bj,Dg (by omega)];exact ih (i+1) (by omega) (by omega)
  ·rw[FP (by omega),Bj]
def A6f {ks:List Nat} (hb:ks.length<1000000000) (f:ks.length<L) (e:∀k∈ks,k<52):CS (r! L (n+43)) Dd [BO ks,A0p] (Bo false):=by
 intro K a;rw[JK];unfold DY Lo;have d:CS (r! L (n+42)) Hd [BO ks,A0p] (I (-1)):=by
  intro K a;rw[K0];unfold E6 A0;simp only[BK];have c:(AV.v (.int .i64 0))=I ((0:Nat):Int):=rfl;rw[Ql,c,B2R hb e _ 0 (by omega) (by omega)];exact a _ _ (λb=>⟨false,λK=>by kernel_rfl⟩)
 rw[AQ (q:=false) d (λK=>by kernel_rfl),L7];exact a _ _ (λb=>⟨false,λK=>by kernel_rfl⟩)
def WNd (L n:Nat) (a:AV) (l:List Nat) (y:Nd) (k:Nat):Prop:=∃w F g,Sl F/\
 (∀H K,(Wk .i64 (I y.op) λq=>YV Bs true XL q H K)=K (.tup [dU w F g,Bo true]))/\
 dP (.tup [dU w F g,Bo true]) (.tup [dU w F g,Bo true])=true/\(E (L+20)).ne g=false/\(E (L+20)).imp g=false/\
 RV (r! L (n+41)) BQ [Xi a (Rx l),dU w F g,.agg y.cs] (Bo true)/\
 RV (r! L (n+41)) g [Xi a (Rx l),.agg y.cs] (.tup [.agg (CJ (uu k)),I 0])
def WTy (L n:Nat) (ks:List Nat) (xs:List Nd) (ty:List Nat):Prop:=∀i (h:i<xs.length),WNd L n (BO ks) (ty.take i) xs[i] (ty.getD i 0)
section
variable {K:KV} {x:Af} {ks ty:List Nat} {xs:List Nd} {id:Int} {o:UD}
def B6c {k:AV->AV->Hp->Af} {p c:Nat} (hT:WTy L n ks xs ty) (a:ty.length=xs.length) (hb:xs.length<100) (A:p≠c)
 (hx:∀v H,B2 H A6 20 v ty.length (ty.flatMap HH)->(ty=[]->v=As)->Aj H p=some (IY id (BO ks) (Cs xs) o)->Aj H c=some (WX (BO ks) v)->k (.ptr p 0 0) (.ptr c 0 0) H=x):
 ∀(f i:Nat) (v:AV) (H:Hp),i<=xs.length->xs.length-i<f->B2 H A6 20 v (ty.take i).length ((ty.take i).flatMap HH)->(ty.take i=[]->v=As)->¬A8 v p->¬A8 v c->Aj H p=some (IY id (BO ks) (Cs xs) o)->Aj H c=some (WX (BO ks) v)->Wf H->
 MP (L+20) (r! L (n+42)) K k f (.ptr p 0 0) (.ptr c 0 0) (Cs xs) (I xs.length) (I i) H=x:=by
 intro f
 induction f with
 |zero=>intro i v H _ h;omega
 |succ f ih=>
  intro i v H hi hf d m hr D P hc w;rw[XG];unfold MQ Iv A0;by_cases h:i<xs.length
  ·rw[FR (by omega),Cy,pW h,pV,B1 (cs:=Lj) rfl,Cc (cs:=Lj) (vs:=xs[i].cs) (Aw (by simp)) rfl rfl rfl];obtain⟨V,Y,M,R,s⟩:=Ih (e:=AT) (zs:=Lj) (vs:=xs[i].cs) w rfl;rw[<-Y,Bu rfl rfl M];have b:=(s _ _ P).1;have t:=(s _ _ hc).1;have J:B2 V A6 20 v (ty.take i).length ((ty.take i).flatMap HH):=by
    rcases d with d|⟨r,q,h1,h2,h3⟩
    ·exact .inl d
    ·exact .inr ⟨r,q,h1,(s _ _ h2).1,h3⟩
   obtain⟨wd,F,g,hF,hk,ha,hn,y,hh,hu⟩:=hT i h;obtain⟨v',X,Z,u,j,C,w5,n5,k5,N⟩:=C0U (n:=n) t J m D R (by rw[l0h];omega) (.inr ⟨_,_,rfl⟩) hF hk ha hn y hh hu;have Q:ty.take i++[ty.getD i 0]=ty.take (i+1):=by
    have O:i<ty.length:=by omega
    rw[kY O];simp[List.getD,K9 O]
   rw[Z,ntT,Bj,Dg (by omega)];rw[Q] at j;exact ih (i+1) v' X (by omega) (by omega) j (λe=>by rw[<-Q] at e;simp at e) (λB=>by have:=N _ B;have:=R.lt b;omega) C (k5 _ _ b A hr) u w5
  ·rw[FP (by omega),Bj];have:i=xs.length:=by omega
   subst this;rw[<-a,vB] at d m;exact hx v H d m P hc
set_option maxHeartbeats 1000000 in
def B2M (hL:100<L) (R:WTy L (n+2) ks xs ty) (Y:o=uu (ty.getD (xs.length-1) 0)) (f:ty.length=xs.length) (V:∀k∈ks,k<52) (hb:ks.length<=6) (hn:1<=xs.length) (X:xs.length<=40) (h1:1<=id) (h2:id<=1000000):
 CS (r! L (n+45)) Ot [.agg (BI id (BO ks) (Cs xs) o)] (.tup [Rx ty,I 0,I 0]):=by
 intro K Q;rw[Zl];unfold NU Eh WY dD OB GT A0 LW;rw[Ei (NK (.inr ⟨_,_,rfl⟩) (.inr ⟨_,_,rfl⟩))];have d:=Aw (H:=[]) (x:=IY id (BO ks) (Cs xs) o) (by simp);have w0:=AI (x:=IY id (BO ks) (Cs xs) o) Fk;generalize ((Ao [],IY id (BO ks) (Cs xs) o)::([]:Hp))=e at d w0;generalize Ao []=p at d;have u:∀{s j:Nat} {K:AV->Af},CV j (.ptr s 0 0) K=K (.ptr s j 0):= λ{s j K}=>by rw[fA,JQ]
 have J:∀{K},AF Ab (.ptr p 0 0) e K=K (I id):= λ{K}=>AP (p:=0) rfl d (show 0<23 by decide);have l1:∀{K},AF Al (.ptr p 1 0) e K=K (BO ks):= λ{K}=>AP (p:=1) rfl d (show 1<23 by decide);have l2:∀{K},AF Ax (.ptr p 2 0) e K=K (Cs xs):= λ{K}=>AP (p:=2) rfl d (show 2<23 by decide);have t1:∀{K},Go.Abs.Ap Ab .lss (I id) (.v (.int .i64 1)) K=K (Bo false):= λ{K}=>by rw[Ej,IG (by omega)]
 have t2:∀{K},Go.Abs.Ap Ab .gtr (I id) (.v (.int .i64 1000000)) K=K (Bo false):= λ{K}=>by rw[E5,IG (by omega)]
 have t3:∀{K},Go.Abs.Ap Ab .gtr (I (ks.length:Int)) (.v (.int .i64 6)) K=K (Bo false):= λ{K}=>by rw[E5,IG (by omega)]
 have t4:∀{K},Go.Abs.Ap Ab .lss (I (xs.length:Int)) (.v (.int .i64 1)) K=K (Bo false):= λ{K}=>by rw[Ej,IG (by omega)]
 have t5:∀{K},Go.Abs.Ap Ab .gtr (I (xs.length:Int)) (.v (.int .i64 40)) K=K (Bo false):= λ{K}=>by rw[E5,IG (by omega)]
 have M:∀{K:AV->Af},An (r! L (n+44)) Dd [BO ks,A0p] e K=K (Bo false):= λ{K}=>AQ (q:=false) (A6f (n:=n+1) (by omega) (by omega) V) (λK=>by kernel_rfl);rw[u,J,t1];simp only[gT,u,J,Cn,t2,SS,l1,Ql,t3,M,l2,Vb,t4,t5];rw[Bj];have N:∀{K:KV},(r! L (n+44)).call Oq [BO ks] e K=K (.ptr (Ao e) 0 0) ((Ao e,WX (BO ks) As)::e):= λ{K}=>by
  rw[Zi];unfold NR Ip;have b2:∀{K:AV->Af},BZ Lm [(0,1,XL),(1,1,BO ks)] K=K (.agg [XL,BO ks,As]):= λ{K}=>r_ rfl;rw[B5i (n:=n+42),b2,Ei rfl]
 rw[N];have g:=Aw (H:=e) (x:=WX (BO ks) As) (by simp);have m:=A4 (x:=WX (BO ks) As) (w0.lt d) d;have w1:=AI (x:=WX (BO ks) As) w0;have A:=w0.lt d;generalize ((Ao e,WX (BO ks) As)::e)=F at g m w1;generalize Ao e=c at g A;have C:∀{K},AF Ax (.ptr p 2 0) F K=K (Cs xs):= λ{K}=>AP (p:=2) rfl m (show 2<23 by decide);simp only[BK];rw[C,Vb];refine B6c (n:=n+2) R f (by omega) (by omega) ?_ (L+20) 0 _ F (by omega) (by omega) (.inl ⟨rfl,rfl,rfl⟩) (λ_=>rfl) (λ⟨_,_,_,h⟩=>by cases h) (λ⟨_,_,_,h⟩=>by cases h) m g w1;intro v H B P Z hc;have t:ty.length-1<ty.length:=by omega
 obtain⟨a,w,r⟩:=A4I B t;have y:∀{K},AF Ay (.ptr p 3 0) H K=K (.agg (CJ o)):= λ{K}=>GA (p:=3) rfl Z (show 23<=23 by decide);have O:uu ty[ty.length-1]=o:=by rw[Y,<-f];simp[List.getD,K9 t]
 rw[O] at r;have lc:∀{K},AF Al (.ptr c 2 0) H K=K v:= λ{K}=>AP (p:=2) rfl hc (show 2<3 by decide);have ln:∀{K:AV->Af},Bq Al v K=K (I ty.length):= λ{K}=>Lb rfl B;simp only[It,B7,u,lc,ln,eP (ty:=Ab) (i:=ty.length) (by omega) (by omega),w,r,y,C2Y];rw[Bj];exact Q _ _ (λb=>by
  obtain⟨q,hq⟩:=lG (D:=depth-2) (b:=b) B P;exact⟨_,dG (D:=depth-1) (Am hq (Am (q:=false) C7 (Am (q:=false) C7 AJ)))⟩)
def A8h (j:100<L) (m:WTy L (n+2) ks xs ty) (q:o=uu (ty.getD (xs.length-1) 0)) (a:ty.length=xs.length) (p:∀k∈ks,k<52) (hb:ks.length<=6) (hn:1<=xs.length) (d:xs.length<=40) (h1:1<=id) (h2:id<=1000000):
 CS (r! L (n+46)) Gs [.agg (BI id (BO ks) (Cs xs) o)] (Bo true):=by
 intro K i;rw[Zj];unfold NS Ip;rw[Ei (NK (.inr ⟨_,_,rfl⟩) (.inr ⟨_,_,rfl⟩))];have c:=Aw (H:=[]) (x:=IY id (BO ks) (Cs xs) o) (by simp);generalize ((Ao [],IY id (BO ks) (Cs xs) o)::([]:Hp))=e at c;have ck:∀{K:AV->Af},An (r! L (n+45)) Ot [.agg (BI id (BO ks) (Cs xs) o)] e K=K (.tup [Rx ty,I 0,I 0]):= λ{K}=>AQ (B2M j m q a p hb hn d h1 h2) (VF (.inr ⟨_,_,rfl⟩) (.inr ⟨_,_,rfl⟩));have h:∀{K:AV->Af},Cx (.tup [Rx ty,I 0,I 0]) 2 K=K (I 0):= λ{K}=>r_ rfl;have f:∀{K:AV->Af},Cx (.tup [Rx ty,I 0,I 0]) 0 K=K (Rx ty):= λ{K}=>r_ rfl;have g:∀{K:AV->Af},Cx (.tup [Rx ty,I 0,I 0]) 1 K=K (I 0):= λ{K}=>r_ rfl;rw[Bu rfl rfl c,ck,f,g,h,yP];exact i _ _ (λb=>⟨false,λK=>by kernel_rfl⟩)
end
end
section
variable {H:Hp} {i p:Nat}
variable {L n:Nat}
def RX:List UInt8:=[112,114,111,99,101,100,117,114,101,32]
def sE:List UInt8:=[103,105,118,101,110,32]
def B8S:List UInt8:=[111,117,116,112,117,116,32]
def pQ (k:Nat):List UInt8:=sE++Ll k++[10]
def uZ (t:List UInt8):List UInt8:=t++[10]
def rZ (id:Nat) (ks:List Nat) (ts:List (List UInt8)) (o:Nat):List UInt8:=RX++dg id++[10]++ks.flatMap pQ++ts.flatMap uZ++B8S++Ll o++[10]
def Gw (k:Nat):(Ll k).length<60:=by
 by_cases h:k<52
 ·have:=GH.1 (show((List.range 52).all λk=>decide ((Ll k).length<60))=true by kernel_rfl) k (K8.2 h);simpa using this
 ·have:Ll k=[]:=by
   unfold Ll;rw[Vl,l1j (Nat.le_of_not_lt h)];rfl
  rw[this];decide
def A42 (k:Nat):(dg k).length<=3:=by
 unfold dg;split
 ·simp
 ·split<;>simp
def B0r (ks:List Nat):(ks.flatMap pQ).length<=67*ks.length:=by
 induction ks with
 |nil=>simp
 |cons k ks ih=>
  have:=Gw k;simp only[pP,EY,LP,pQ,sE,QJ] at ih⊢;omega
def B04 {ts:List (List UInt8)} (h:∀t∈ts,t.length<100):(ts.flatMap uZ).length<=100*ts.length:=by
 induction ts with
 |nil=>simp
 |cons t ts ih=>
  have h1:=h t (by simp);have h2:=ih λu a=>h u (by simp[a]);simp only[pP,EY,LP,uZ,QJ] at h2⊢;omega
def pR {α:Type} {f:α->List UInt8} (l:List α) (h:i<l.length):(l.take (i+1)).flatMap f=(l.take i).flatMap f++f l[i]:=by
 rw[kY h,l2m];simp
section
variable {K:KV} {x:Af} {ks:List Nat} {ts:List (List UInt8)} {xs:List Nd} {id:Int} {o:UD} {s0:List UInt8}
def B8j {a:AV->AV->AV->Hp->Af} (e:∀k∈ks,k<52) (hb:ks.length<100) (u:s0.length<1000) (g:Aj H p=some (IY id (BO ks) (Cs xs) o))
 (m:a (.ptr p 0 0) (S (s0++ks.flatMap pQ)) (I ks.length) H=x):
 ∀(f i:Nat) (w:AV),i<=ks.length->ks.length-i<f->RC (L+20) (r! L (n+40)) K a f (.ptr p 0 0) (S (s0++(ks.take i).flatMap pQ)) (I i) w H=x:=by
 intro f
 induction f with
 |zero=>intro i w _ h;omega
 |succ f ih=>
  intro i w y v;rw[jP];unfold RF Eh Iv A0;have b:∀{s j:Nat} {K:AV->Af},CV j (.ptr s 0 0) K=K (.ptr s j 0):= λ{s j K}=>by rw[fA,JQ]
  have c:∀{K},AF Al (.ptr p 1 0) H K=K (BO ks):= λ{K}=>AP (p:=1) rfl g (show 1<23 by decide);rw[b,c,Ql];by_cases h:i<ks.length
  ·have q:=B0r (ks.take i);have r:(ks.take i).length<=ks.length:=by simp;omega
   have t:=Gw ks[i];rw[FR (by omega),Cy,b,c,iB h,hY,UG _ _ _ (e _ (Qe h)),F3,F2,B5 (by simp only[EY,LP,QJ];omega),B5 (by simp only[EY,LP,QJ];omega),B5 (by simp only[EY,LP,QJ];omega),Dg (by omega)];have d:s0++(ks.take i).flatMap pQ++[103,105,118,101,110,32]++Ll ks[i]++[10]=s0++(ks.take (i+1)).flatMap pQ:=by
    rw[pR ks h];simp[pQ,sE]
   rw[d];exact ih (i+1) _ (by omega) (by omega)
  ·rw[FP (by omega),Bj];have:i=ks.length:=by omega
   subst this;rw[vB];exact m
def B8k {c:AV->AV->Hp->Af} {u:AV} (r:∀i (h:i<xs.length),PS (r! L (n+41)) Jw [.agg xs[i].cs] (S (ts.getD i []))) (g:∀t∈ts,t.length<100) (e:ts.length=xs.length) (hb:xs.length<100) (C:s0.length<10000) (v:Aj H p=some (IY id (BO ks) (Cs xs) o))
 (w:c (.ptr p 0 0) (S (s0++ts.flatMap uZ)) H=x):
 ∀(f i:Nat),i<=xs.length->xs.length-i<f->RE (L+20) (r! L (n+41)) K c f (.ptr p 0 0) (S (s0++(ts.take i).flatMap uZ)) u (I i) H=x:=by
 intro f
 induction f with
 |zero=>intro i _ h;omega
 |succ f ih=>
  intro i F D;rw[jQ];unfold RG Eh Iv A0;have d:∀{s j:Nat} {K:AV->Af},CV j (.ptr s 0 0) K=K (.ptr s j 0):= λ{s j K}=>by rw[fA,JQ]
  have k:∀{K},AF Ax (.ptr p 2 0) H K=K (Cs xs):= λ{K}=>AP (p:=2) rfl v (show 2<23 by decide);rw[d,k,Vb];by_cases h:i<xs.length
  ·have a:i<ts.length:=by omega
   have m:ts.getD i []=ts[i]:=by simp[List.getD,K9 a]
   have y:=B04 (ts:=ts.take i) λt hm=>g t (l2a hm);have A:(ts.take i).length<=ts.length:=by simp;omega
   have B:=g ts[i] (Qe a);have b:=r i h;rw[m] at b;rw[FR (by omega),Cy,d,k,pW h,pV,b,B5 (by simp only[EY,LP,QJ];omega),B5 (by simp only[EY,LP,QJ];omega),Dg (by omega)];have q:s0++(ts.take i).flatMap uZ++ts[i]++[10]=s0++(ts.take (i+1)).flatMap uZ:=by
    rw[pR ts a];simp[uZ]
   rw[q];exact ih (i+1) (by omega) (by omega)
  ·rw[FP (by omega),Bj];have:i=ts.length:=by omega
   subst this;rw[vB];exact w
def A9o {i c:Nat} (N:100<L) (f:i<950) (v:CS (r! L (n+44)) FV [.agg (BI i (BO ks) (Cs xs) (uu c))] (Bo true)) (y:∀i (h:i<xs.length),PS (r! L (n+44)) Jw [.agg xs[i].cs] (S (ts.getD i []))) (m:∀t∈ts,t.length<100) (d:ts.length=xs.length)
 (w:∀k∈ks,k<52) (hb:ks.length<=6) (A:xs.length<=40) (B:c<52):
 CS (r! L (n+45)) JB [.agg (BI i (BO ks) (Cs xs) (uu c))] (.tup [S (rZ i ks ts c),I 0]):=by
 intro K u;rw[nX];unfold TP Eh A0;rw[Ei (NK (.inr ⟨_,_,rfl⟩) (.inr ⟨_,_,rfl⟩))];have a:=Aw (H:=[]) (x:=IY i (BO ks) (Cs xs) (uu c)) (by simp);generalize ((Ao [],IY i (BO ks) (Cs xs) (uu c))::([]:Hp))=e at a;generalize Ao []=p at a;have g:∀{s j:Nat} {K:AV->Af},CV j (.ptr s 0 0) K=K (.ptr s j 0):= λ{s j K}=>by rw[fA,JQ]
 have C:∀{K},AF Ab (.ptr p 0 0) e K=K (I i):= λ{K}=>AP (p:=0) rfl a (show 0<23 by decide);have hv:∀{K:AV->Af},An (r! L (n+44)) FV [.agg (BI i (BO ks) (Cs xs) (uu c))] e K=K (Bo true):= λ{K}=>AQ v (VF (.inr ⟨_,_,rfl⟩) (.inr ⟨_,_,rfl⟩));have d1:=A42 i;rw[Bu rfl rfl a,hv,ntT,Bj,g,C,C3Z L (n+34) i f,B5 (by simp only[EY,LP,QJ];omega),B5 (by simp only[EY,LP,QJ];omega)];simp only[BK];have q:([112,114,111,99,101,100,117,114,101,32]++dg i++[10]:List UInt8)=(RX++dg i++[10])++(ks.take 0).flatMap pQ:=by simp[RX]
 rw[q];have b0:(RX++dg i++[10]).length<=14:=by simp only[EY,LP,QJ,RX];omega
 refine B8j (n:=n+4) w (by omega) (by omega) a ?_ (L+20) 0 _ (by omega) (by omega);have r:(RX++dg i++[10])++ks.flatMap pQ=((RX++dg i++[10])++ks.flatMap pQ)++(ts.take 0).flatMap uZ:=by simp
 rw[r];have F:=B0r ks;have b1:((RX++dg i++[10])++ks.flatMap pQ).length<=500:=by rw[EY];omega
 refine B8k (n:=n+3) y m d (by omega) (by omega) a ?_ (L+20) 0 (by omega) (by omega);have D:∀{K},AF Ay (.ptr p 3 0) e K=K (.agg (CJ (uu c))):= λ{K}=>GA (p:=3) rfl a (show 23<=23 by decide);have J:=B04 m;have M:=Gw c;have b2:(((RX++dg i++[10])++ks.flatMap pQ)++ts.flatMap uZ).length<=5000:=by rw[EY];omega
 rw[g,D,UG _ _ _ B,F3,F2,B5 (by rw[EY];simp only[LP,QJ] at*;omega),B5 (by rw[EY];simp only[LP,QJ] at*;omega),B5 (by rw[EY,EY];simp only[LP,QJ] at*;omega)];exact u _ _ (λb=>⟨false,λK=>by kernel_rfl⟩)
end
end
section
variable {v:AV} {H:Hp} {b p r:Nat}
variable {L n:Nat}
section
variable {K:KV} {x:Af} {ks:List Nat} {ts:List (List UInt8)} {xs:List Nd} {id:Int} {o:UD} {s0:List UInt8}
abbrev pks (p:Nat) (id:Int) (ks:List Nat) (xs:List Nd) (o:UD):List (Nat×Row):=[(p,IY id (BO ks) (Cs xs) o)]
def A5E {kp:List (Nat×Row)} {l s:List UInt8} (h:Bd r kp b l v H) (hb:b<100000000) (g:s.length<1000) (f:∀c a,Bd r kp (b+1000) (l++s) c a->K (.tup [I s.length,.v .nilIface]) a=x):
 (r! L (n+2)).call BE [.ptr r 0 0,S s] H K=x:=by
 have:=h.sz;exact B? h.bld (by omega) λc a d e=>f c a (h.step d e (by rw[EY];omega))
def Bd.al {r b e:Nat} {kp:List (Nat×Row)} {l:List UInt8} {zs vs:List AV} (h:Bd r kp b l v H) (hz:vs.length=zs.length):∃a,a=upd ((Ao H,c_ e zs)::H) (Ao H) (c_ e vs)/\Aj a (Ao H)=some (c_ e vs)/\Bd r kp b l v a:=by
 refine⟨_,rfl,AC (Aw (H:=H) (x:= .cells true e zs) (by simp)),⟨(h.bld.cons (y:= .cells true e zs)).upd (by have:=h.bld.lt;omega) (λd=>by have:=h.bld.vlt d;omega),λp c=> ?_,h.sz⟩⟩;obtain⟨p1,p2,p3⟩:=h.ks p c;have:=h.bld.wf.lt p1;exact⟨by rw[Ag (by omega)];exact A4 this p1,p2,p3⟩
def B6a {c:AV->AV->AV->AV->AV->Hp->Af} {kp:List (Nat×Row)} (t:∀k∈ks,k<52) (hb:ks.length<100) (s:b<1000000)
 (w:∀v H,Bd r kp (b+1000*ks.length) (s0++ks.flatMap pQ) v H->c (.ptr p 0 0) (.ptr r 0 0) (BO ks) (I ks.length) (I ks.length) H=x):
 ∀(f i:Nat) (v:AV) (H:Hp),i<=ks.length->ks.length-i<f->Bd r kp (b+1000*i) (s0++(ks.take i).flatMap pQ) v H->ML (L+20) (r! L (n+40)) K c f (.ptr p 0 0) (.ptr r 0 0) (BO ks) (I ks.length) (I i) AV.dk AV.dk AV.dk H=x:=by
 intro f
 induction f with
 |zero=>intro i v H _ h;omega
 |succ f ih=>
  intro i v H D C d;rw[XD];unfold MN Iv A0;by_cases h:i<ks.length
  ·have B:=Gw ks[i];rw[FR (by omega),Cy,iB h,hY,B1 (cs:=FW) rfl,Cc (cs:=FW) (vs:=CJ (uu ks[i])) (Aw (by simp)) rfl rfl rfl];obtain⟨A,m,u,g⟩:=d.al (e:=A6) (zs:=FW) (vs:=CJ (uu ks[i])) rfl;rw[<-m,Bu rfl rfl u,Ut _ _ _ (t _ (Qe h)),F3,F2,B5 (by simp only[LP,QJ];omega),B5 (by simp only[EY,LP,QJ];omega)];refine A5E (n:=n+38) g (by omega) (by simp only[EY,LP,QJ];omega) λy j a=> ?_;rw[Dg (by omega)];have q:s0++(ks.take i).flatMap pQ++([103,105,118,101,110,32]++Ll ks[i]++[10])=s0++(ks.take (i+1)).flatMap pQ:=by
    rw[pR ks h];simp[pQ,sE]
   rw[q,kX,<-Nat.mul_succ] at a;exact ih (i+1) y j (by omega) (by omega) a
  ·rw[FP (by omega),Bj];have:i=ks.length:=by omega
   subst this;rw[vB] at d;exact w v H d
def B6b {m:AV->AV->Hp->Af} {kp:List (Nat×Row)} {a w c:AV} (D:∀i (h:i<xs.length),PS (r! L (n+41)) FE [.agg xs[i].cs] (S (ts.getD i []))) (F:∀t∈ts,t.length<100) (k:ts.length=xs.length) (hb:xs.length<100) (C:b<10000000)
 (M:∀v H,Bd r kp (b+1000*xs.length) (s0++ts.flatMap uZ) v H->m (.ptr p 0 0) (.ptr r 0 0) H=x):
 ∀(f i:Nat) (v:AV) (H:Hp),i<=xs.length->xs.length-i<f->Bd r kp (b+1000*i) (s0++(ts.take i).flatMap uZ) v H->MM (L+20) (r! L (n+41)) K m f (.ptr p 0 0) (.ptr r 0 0) a w c (Cs xs) (I xs.length) (I i) H=x:=by
 intro f
 induction f with
 |zero=>intro i v H _ h;omega
 |succ f ih=>
  intro i v H R Q q;rw[XF];unfold MO Iv A0;by_cases h:i<xs.length
  ·have d:i<ts.length:=by omega
   have y:ts.getD i []=ts[i]:=by simp[List.getD,K9 d]
   have P:=F ts[i] (Qe d);have j:=D i h;rw[y] at j;rw[FR (by omega),Cy,pW h,pV,B1 (cs:=Lj) rfl,Cc (cs:=Lj) (vs:=xs[i].cs) (Aw (by simp)) rfl rfl rfl];obtain⟨O,A,J,s⟩:=q.al (e:=AT) (zs:=Lj) (vs:=xs[i].cs) rfl;rw[<-A,Bu rfl rfl J,j,B5 (by simp only[LP,QJ];omega)];refine A5E (n:=n+39) s (by omega) (by simp only[EY,LP,QJ];omega) λN u g=> ?_;rw[Dg (by omega)];have B:s0++(ts.take i).flatMap uZ++(ts[i]++[10])=s0++(ts.take (i+1)).flatMap uZ:=by
    rw[pR ts d];simp[uZ]
   rw[B,kX,<-Nat.mul_succ] at g;exact ih (i+1) N u (by omega) (by omega) g
  ·rw[FP (by omega),Bj];have:i=ts.length:=by omega
   subst this;rw[vB] at q;exact M v H (k▸q)
def A8j {i a:Nat} (hL:100<L) (C:i<950) (V:CS (r! L (n+46)) Gs [.agg (BI i (BO ks) (Cs xs) (uu a))] (Bo true)) (Y:∀i (h:i<xs.length),PS (r! L (n+46)) FE [.agg xs[i].cs] (S (ts.getD i []))) (ht:∀t∈ts,t.length<100) (A:ts.length=xs.length)
 (X:∀k∈ks,k<52) (hb:ks.length<=6) (Z:xs.length<=40) (ho:a<52):
 CS (r! L (n+47)) Gt [.agg (BI i (BO ks) (Cs xs) (uu a))] (.tup [S (rZ i ks ts a),I 0]):=by
 intro K R;rw[Zk];unfold NT Eh A0;rw[Ei (NK (.inr ⟨_,_,rfl⟩) (.inr ⟨_,_,rfl⟩))];have c:=Aw (H:=[]) (x:=IY i (BO ks) (Cs xs) (uu a)) (by simp);have w0:=AI (x:=IY i (BO ks) (Cs xs) (uu a)) Fk;generalize ((Ao [],IY i (BO ks) (Cs xs) (uu a))::([]:Hp))=f at c w0;generalize Ao []=p at c;have B:∀{s j:Nat} {K:AV->Af},CV j (.ptr s 0 0) K=K (.ptr s j 0):= λ{s j K}=>by rw[fA,JQ]
 have hv:∀{K:AV->Af},An (r! L (n+46)) Gs [.agg (BI i (BO ks) (Cs xs) (uu a))] f K=K (Bo true):= λ{K}=>AQ V (VF (.inr ⟨_,_,rfl⟩) (.inr ⟨_,_,rfl⟩));have d1:=A42 i;rw[Bu rfl rfl c,hv,ntT,Bj,B1 (cs:=[.v (.pointer none),zL]) rfl];have D:=Aw (H:=f) (x:= .cells true E1 [.v (.pointer none),zL]) (by simp);have y:=w0.lt c;have e:Bd (Ao f) (pks p i ks xs (uu a)) 0 [] As ((Ao f,c_ E1 [.v (.pointer none),zL])::f):=
  ⟨⟨⟨_,.inr rfl,.inl D⟩,.inl ⟨rfl,rfl,rfl⟩,λ⟨_,_,_,h⟩=>(by cases h),AI w0⟩,λq hq=>by
   simp only[Ur] at hq;subst hq;exact⟨A4 y c,by simp only;omega,λ⟨_,_,_,h⟩=>(by cases h)⟩,Mb _⟩
 generalize ((Ao f,c_ E1 [.v (.pointer none),zL])::f)=M at e;generalize Ao f=r at e;have d:∀{b l v H},Bd r (pks p i ks xs (uu a)) b l v H->Aj H p=some (IY i (BO ks) (Cs xs) (uu a)):= λh=>(h.ks (p,_) (Ur.2 rfl)).1;have l0:∀{K},AF Ab (.ptr p 0 0) M K=K (I i):= λ{K}=>AP (p:=0) rfl (d e) (show 0<23 by decide);rw[B,l0,C3R L (n+36) i C,B5 (by simp only[LP,QJ];omega),B5 (by simp only[EY,LP,QJ];omega)];refine A5E (n:=n+44) e (by omega) (by simp only[EY,LP,QJ];omega) λv2 F g=> ?_;simp only[BK];have l1:∀{K},AF Al (.ptr p 1 0) F K=K (BO ks):= λ{K}=>AP (p:=1) rfl (d g) (show 1<23 by decide);rw[B,l1,Ql];have O:([]++([112,114,111,99,101,100,117,114,101,32]++dg i++[10]):List UInt8)=(RX++dg i++[10])++(ks.take 0).flatMap pQ:=by simp[RX]
 rw[O] at g;refine B6a (n:=n+6) X (by omega) (b:=0+1000) (by omega) (λv3 J m=> ?_) (L+20) 0 v2 F (by omega) (by omega) g;have l2:∀{K},AF Ax (.ptr p 2 0) J K=K (Cs xs):= λ{K}=>AP (p:=2) rfl (d m) (show 2<23 by decide);rw[B,l2,Vb];have P:(RX++dg i++[10])++ks.flatMap pQ=((RX++dg i++[10])++ks.flatMap pQ)++(ts.take 0).flatMap uZ:=by simp
 rw[P] at m;refine B6b (n:=n+5) Y ht A (by omega) (b:=0+1000+1000*ks.length) (by omega) (λv4 N w=> ?_) (L+20) 0 v3 J (by omega) (by omega) m;have lo:∀{K},AF Ay (.ptr p 3 0) N K=K (.agg (CJ (uu a))):= λ{K}=>GA (p:=3) rfl (d w) (show 23<=23 by decide);have g3:=Gw a;rw[B,lo,Ut _ _ _ ho,F3,F2,B5 (by simp only[LP,QJ];omega),B5 (by simp only[EY,LP,QJ];omega)];refine A5E (n:=n+44) w (by omega) (by simp only[EY,LP,QJ];omega) λv5 H5 u=> ?_;have Q:((RX++dg i++[10])++ks.flatMap pQ)++ts.flatMap uZ++([111,117,116,112,117,116,32]++Ll a++[10])=rZ i ks ts a:=by simp[rZ,B8S]
 rw[Q] at u;have z1:=u.sz;obtain⟨H6,hs⟩:=A09 (n:=n+45) u.bld (by unfold rZ;rw[EY];simp only[LP,QJ];omega) (by omega);rw[hs];exact R _ _ (λb=>⟨false,λK=>by kernel_rfl⟩)
end
end
end Go.Abs
end
