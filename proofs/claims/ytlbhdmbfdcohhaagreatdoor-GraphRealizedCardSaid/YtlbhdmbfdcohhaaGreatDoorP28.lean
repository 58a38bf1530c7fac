import Derived.Test.YtlbhdmbfdcohhaaGreatDoorP26
import Derived.Test.YtlbhdmbfdcohhaaGreatDoorP27
set_option linter.all false
set_option maxHeartbeats 100000000
noncomputable section
namespace Go.Abs
open Go.RowKit Go.Proofs
set_option maxRecDepth 100000
section
variable {L n:Nat}
structure Nd where
 op:Int
 (vn vd:List UInt8)
 u:UD
 (n l r:Int)
abbrev Nd.cs (x:Nd):List AV:=[I x.op,S x.vn,S x.vd,I x.u.p0,I x.u.q0,I x.u.p1,I x.u.q1,I x.u.p2,I x.u.q2,I x.u.p3,I x.u.q3,I x.u.p4,I x.u.q4,I x.u.p5,I x.u.q5,I x.u.p6,I x.u.q6,S x.u.fn,S x.u.fd,S x.u.on,S x.u.od,I x.u.kd,I x.u.sc,I x.n,I x.l,I x.r]
def FE (k:Nat):List AV:=BW (uu k)
abbrev BA (ks:List Nat):AV:= .list ks.length (ks.flatMap FE)
def ndC (x:Nd):List AV:=x.cs
abbrev BQ (xs:List Nd):AV:= .list xs.length (xs.flatMap ndC)
theorem Nh {ks:List Nat} {K:AV→Am}:AM Al (BA ks) K=K (I ks.length):=id rfl
theorem QV {xs:List Nd} {K:AV→Am}:AM Ax (BQ xs) K=K (I xs.length):=id rfl
theorem Wr {ks:List Nat} {i:Nat} {K:AV→Am} (h:i<ks.length):B1 Al (BA ks) (I i) K=K (.iptr (FE ks[i])):=A18 (f:=FE) rfl (λ_=>rfl) h
theorem Zi {xs:List Nd} {i:Nat} {K:AV→Am} (h:i<xs.length):B1 Ax (BQ xs) (I i) K=K (.iptr (ndC xs[i])):=A18 (f:=ndC) rfl (λ_=>rfl) h
theorem Wq {k:Nat} {H:Hp} {K:AV→Am}:Ap Ag (.iptr (FE k)) H K=K (.agg (BW (uu k))):=id rfl
theorem Zh {x:Nd} {H:Hp} {K:AV→Am}:Ap AE (.iptr (ndC x)) H K=K (.agg x.cs):=id rfl
abbrev Gj (id:Int) (ins nds:AV) (o:UD):Row:= .cells true B4 (Br id ins nds o)
section
attribute [local irreducible] Ah rt Yb eBi eEq cnd Go.Abs.Aj Go.Abs.T8 Ar
theorem TO {z lo hi:Int} (h1:lo≤z) (h2:z≤hi):PS (rt (L+20) (n+1)) Cn [I z,I lo,I hi] (Bo true):=by
 refine CS.ps (λK hK=> ?_) (λH=> λK=>by kernel_rfl)
 rewrite [Xm]
 unfold O2 AR Cz
 try rewrite [zO]
 try rewrite [bO]
 try rewrite [qO]
 try rewrite [cO]
 conv=>lhs;whnf
 rewrite [A97 h1]
 conv=>lhs;whnf
 rewrite [A8W h2]
 conv=>lhs;whnf
 exact hK _ _ (λb=>⟨false,λK=>by kernel_rfl⟩)
end
section
variable {K:KV} {x:Am} {ks:List Nat} {xs:List Nd} {id:Int} {o:UD}
theorem C0e {k31:AV→Hp→Am} {H:Hp} {c:Nat} {nds:AV} (hk:∀k∈ks,k<52) (hb:ks.length<100) (hx:k31 (.ptr c 0 0) H=x) (hl:Aw H c=some (Gj id (BA ks) nds o)):∀(f i:Nat),i≤ks.length→ks.length-i<f→
 JR (L+20) (rt (L+20) (n+40)) K k31 f (.ptr c 0 0) (I i) H=x:=by
 intro f
 induction f with
 |zero=>intro i _ h;omega
 |succ f ih=>
  intro i hi hf
  rw[V7]
  unfold Nk Aq Cz
  have f1:∀K:AV→Am,AH 1 (.ptr c 0 0) K=K (.ptr c 1 0):= λK=>_root_.id rfl
  have l1:∀K,Ap Al (.ptr c 1 0) H K=K (BA ks):= λK=>AW (p:=1) rfl hl (show 1<23 by decide)
  rw[f1,l1,Nh]
  by_cases h:i<ks.length
  ·rw[FR (by omega),Do,f1,l1,Wr h,Wq,Ox _ _ _ (hk _ (Qu h)),Xj,BC,DH (by omega)]
   exact ih (i+1) (by omega) (by omega)
  ·rw[FT (by omega),BC]
   exact hx
theorem KO {ins nds:AV} (hI:Sl ins) (hN:Sl nds):(Br id ins nds o).all AV.one=true:=by
 rcases hI with rfl|⟨_,_,rfl⟩<;>rcases hN with rfl|⟨_,_,rfl⟩<;>rfl
theorem B2F (hL:100<L) (hk:∀k∈ks,k<52) (hb:ks.length≤6) (hn:1≤xs.length) (hn':xs.length≤40) (h1:1≤id) (h2:id≤1000000):CS (rt (L+20) (n+41)) Lo [.agg (Br id (BA ks) (BQ xs) o)] (.tup [Bo true,Bo true]):=by
 intro K hK
 rw[Xn]
 unfold O3 AR Aq Cz
 rw[EG (KO (.inr ⟨_,_,rfl⟩) (.inr ⟨_,_,rfl⟩))]
 have hc0:=A0 (H:=[]) (x:=Gj id (BA ks) (BQ xs) o) (by simp)
 generalize ((A7 [],Gj id (BA ks) (BQ xs) o)::([]:Hp))=H0 at hc0
 generalize A7 []=c at hc0
 simp only[Cm]
 refine C0e hk (by omega) ?_ hc0 (L+20) 0 (by omega) (by omega)
 have f0:∀{j:Nat} {K:AV→Am},AH j (.ptr c 0 0) K=K (.ptr c j 0):= λ{j K}=>by rw[fA,Le]
 have l0:∀{K},Ap Ab (.ptr c 0 0) H0 K=K (I id):= λ{K}=>AW (p:=0) rfl hc0 (show 0<23 by decide)
 have l1:∀{K},Ap Al (.ptr c 1 0) H0 K=K (BA ks):= λ{K}=>AW (p:=1) rfl hc0 (show 1<23 by decide)
 have l2:∀{K},Ap Ax (.ptr c 2 0) H0 K=K (BQ xs):= λ{K}=>AW (p:=2) rfl hc0 (show 2<23 by decide)
 have w1:∀{K:AV→Am},Ah (rt (L+20) (n+40)) Cn [I id,.v (.int .i64 1),.v (.int .i64 1000000)] H0 K=K (Bo true):= λ{K}=>TO (n:=n+39) h1 h2 H0 K
 have w2:∀{K:AV→Am},Ah (rt (L+20) (n+40)) Cn [I (xs.length:Int),.v (.int .i64 1),.v (.int .i64 40)] H0 K=K (Bo true):= λ{K}=>TO (n:=n+39) (by omega) (by omega) H0 K
 have q1:∀{K},Go.Abs.Aj Ab .leq (I (ks.length:Int)) (.v (.int .i64 6)) K=K (Bo true):= λ{K}=>by rw[QY,decide_eq_true (by omega)]
 have q2:∀{K},Go.Abs.Aj Ab .gtr (I (xs.length:Int)) (.v (.int .i64 0)) K=K (Bo true):= λ{K}=>by rw[DQ,decide_eq_true (by omega)]
 simp only[f0,l0,l1,l2,BK,BN,gT,w1,w2,Nh,QV,q1,q2,Un]
 exact hK _ _ (λb=>⟨false,λK=>by kernel_rfl⟩)
end
end
section
variable {L n:Nat}
def Tf:Value→Bool
 | .int _ _=>true
 | .string _=>true
 | .bool _=>true
 | .slice none 0 0=>true
 |_=>false
def pl:Nat→AV→Bool
 |_,.v x=>Tf x
 |d+1,.list _ cs=>cs.all (pl d)
 |d+1,.agg cs=>cs.all (pl d)
 |d+1,.tup cs=>cs.all (pl d)
 |_,_=>false
theorem B3B:∀l:List UInt8,Vv.eqbL l l=true:=by
 intro l
 induction l with
 |nil=>rfl
 |cons a l ih=>simp only[Vv.eqbL,ih,l1b];exact l29 _
theorem WJ {x:Value} (h:Tf x=true):Vv x x=true:=by
 unfold Tf at h
 split at h
 ·simp[Vv]
 ·exact B3B _
 ·simp[Vv]
 ·rfl
 ·cases h
theorem B19 {f:AV→AV→Bool}:∀l:List AV,(∀a∈l,f a a=true)→A1j f l l=true:=by
 intro l
 induction l with
 |nil=>intro _;rfl
 |cons a l ih=>intro h;simp only[A1j,h a (by simp),ih λb hb=>h b (by simp[hb]),l1b]
theorem B4j:∀(d:Nat) (a:AV),pl d a=true→aeq d a a=true:=by
 intro d
 induction d with
 |zero=>intro a h;cases a<;>first|exact WJ h|cases h
 |succ d ih=>
  intro a h
  cases a<;>first
   |exact WJ h
   |(simp only[pl,GW] at h;simp only[aeq,l29,l16];exact B19 _ λb hb=>ih b (h b hb))
   |cases h
theorem B1a {a:AV} (h:pl 6 a=true):YS a a=true:=by
 cases a<;>first|exact WJ h|exact B4j 6 _ h|cases h
theorem QF {v:AV} {H:Hp} {K:Am} (h:pl 6 v=true):QG (AU (some (v,H)) v) K=K:=by
 show QG (some (.v (.bool (YS v v)),[])) K=K
 rw[B1a h];rfl
theorem B0q {x:Value} (h:Tf x=true) (h':x≠.slice none 0 0):VS x x=some true:=by
 unfold Tf at h
 split at h
 ·show(match decide (_=_) with|true=>some (ieq _ _)|false=>none)=_
  rw[decide_eq_true rfl,Ns,decide_eq_true rfl]
 ·show some (Go.Abs.eqB _ _)=_
  rw[OR];simp
 ·show some (_==_)=_
  simp
 ·exact absurd rfl h'
 ·cases h
theorem A6a:∀xs:List Value,(∀x∈xs,Tf x=true∧x≠.slice none 0 0)→TG xs xs=some true:=by
 intro xs
 induction xs with
 |nil=>intro _;rfl
 |cons x xs ih=>
  intro h
  have e:TG (x::xs) (x::xs)=(match VS x x with
   |some b=>(match TG xs xs with|some c=>some (b&&c)|none=>none)
   |none=>none):=rfl
  rw[e,B0q (h x (by simp)).1 (h x (by simp)).2,ih λy hy=>h y (by simp[hy])]
  rfl
theorem C49 {x:Nd} {K:AV→Am}:Go.Abs.T8 Jg .eql (.agg x.cs) (.agg x.cs) K=K (Bo true):=by
 have e:∀(xs:List Value),TG xs xs=some true→∀K:AV→Am,(match(generalizing:=false) TG xs xs,BinOp.eql with
  |some q,.eql=>bB q K
  |some q,.neq=>bB (!q) K
  |_,_=>(none:Am))=K (Bo true):= λxs h K=>by rw[h];rfl
 exact e [.int .i64 x.op,.string ⟨⟨x.vn⟩⟩,.string ⟨⟨x.vd⟩⟩,.int .i64 x.u.p0,.int .i64 x.u.q0,.int .i64 x.u.p1,.int .i64 x.u.q1,.int .i64 x.u.p2,.int .i64 x.u.q2,.int .i64 x.u.p3,.int .i64 x.u.q3,.int .i64 x.u.p4,.int .i64 x.u.q4,.int .i64 x.u.p5,.int .i64 x.u.q5,.int .i64 x.u.p6,.int .i64 x.u.q6,
  .string ⟨⟨x.u.fn⟩⟩,.string ⟨⟨x.u.fd⟩⟩,.string ⟨⟨x.u.on⟩⟩,.string ⟨⟨x.u.od⟩⟩,.int .i64 x.u.kd,.int .i64 x.u.sc,.int .i64 x.n,.int .i64 x.l,.int .i64 x.r]
  (A6a _ (by simp[Tf])) K
end
section
variable {L n:Nat}
def Uj (i:Nat):Nd:=⟨2,[],[],u0,i,0,0⟩
abbrev IP:List AV:=[zI,zS,zS,zI,zI,zI,zI,zI,zI,zI,zI,zI,zI,zI,zI,zI,zI,zS,zS,zS,zS,zI,zI,zI,zI,zI]
abbrev En:List AV:=[zI,zI,zI,zI,zI,zI,zI,zI,zI,zI,zI,zI,zI,zI,zS,zS,zS,zS,zI,zI]
abbrev SC (x:Nd):Row:= .cells true AF x.cs
section
variable {K:KV} {x:Am} {ks:List Nat} {xs:List Nd} {id:Int} {o:UD} {i:Nat}
theorem A7n {x:Nd}:x.cs.all AV.one=true:=rfl
theorem A2N {t:TI} {a:Int} {K:AV→Am}:Go.Abs.Aj t .eql (I a) (.v (.int .i64 a)) K=K (Bo true):=by rw[CG,decide_eq_true rfl]
theorem A51 (hb:ks.length≤6) (hi:i<ks.length) {at_:Int}:CS (rt (L+20) (n+2)) Dv [.agg (Br id (BA ks) (BQ xs) o),.agg (Uj i).cs,I at_] (.tup [Bo true,Bo false]):=by
 intro K hK
 rw[QH]
 unfold KR AR Aq DW Cz
 rw[EG (KO (.inr ⟨_,_,rfl⟩) (.inr ⟨_,_,rfl⟩))]
 have hp0:=A0 (H:=[]) (x:=Gj id (BA ks) (BQ xs) o) (by simp)
 have w0:=BP (x:=Gj id (BA ks) (BQ xs) o) Fw
 generalize ((A7 [],Gj id (BA ks) (BQ xs) o)::([]:Hp))=H0 at hp0 w0
 generalize A7 []=p at hp0
 rw[EG A7n]
 have hn1:=A0 (H:=H0) (x:=SC (Uj i)) (by simp)
 have hp1:Aw ((A7 H0,SC (Uj i))::H0) p=some (Gj id (BA ks) (BQ xs) o):=Bn (w0.lt hp0) hp0
 have w1:=BP (x:=SC (Uj i)) w0
 generalize ((A7 H0,SC (Uj i))::H0)=H1 at hn1 hp1 w1
 generalize A7 H0=r at hn1
 have f0:∀{s j:Nat} {K:AV→Am},AH j (.ptr s 0 0) K=K (.ptr s j 0):= λ{s j K}=>by rw[fA,Le]
 have l0:∀{K},Ap Ab (.ptr r 0 0) H1 K=K (I 2):= λ{K}=>AW (p:=0) rfl hn1 (show 0<26 by decide)
 have b0:∀{K:AV→Am},Bg AE [(0,1,I 2)] K=K (.agg (I 2::IP.tail)):= λ{K}=>_root_.id rfl
 rw[f0,l0,b0,Ba (cs:=IP) rfl]
 have hm:=A0 (H:=H1) (x:= .cells true AF IP) (by simp)
 rw[B0 (vs:=I 2::IP.tail) hm rfl rfl rfl]
 have hm2:=A8 (q:=true) (e:=AF) (cs:=I 2::IP.tail) hm
 have w2:=C7 (r:=A7 H1) (y:= .cells true AF (I 2::IP.tail)) (BP (x:= .cells true AF IP) w1)
 have rl:=w1.lt hn1
 have plt:=w1.lt hp1
 have hn2:Aw (upd ((A7 H1,Row.cells true AF IP)::H1) (A7 H1) (.cells true AF (I 2::IP.tail))) r=some (SC (Uj i)):=by
  rw[As (by omega)];exact Bn rl hn1
 have hp2:Aw (upd ((A7 H1,Row.cells true AF IP)::H1) (A7 H1) (.cells true AF (I 2::IP.tail))) p=some (Gj id (BA ks) (BQ xs) o):=by
  rw[As (by omega)];exact Bn plt hp1
 generalize upd ((A7 H1,Row.cells true AF IP)::H1) (A7 H1) (.cells true AF (I 2::IP.tail))=H2 at hm2 w2 hn2 hp2
 have hmr:A7 H1≠r:=by omega
 have hmp:A7 H1≠p:=by omega
 generalize A7 H1=m at hm2 hmr hmp
 simp only[Cm]
 have l2:∀{K},Ap Ab (.ptr r 0 0) H2 K=K (I 2):= λ{K}=>AW (p:=0) rfl hn2 (show 0<26 by decide)
 have l23:∀{K},Ap Ab (.ptr r 23 0) H2 K=K (I i):= λ{K}=>AW (p:=23) rfl hn2 (show 23<26 by decide)
 rw[f0,l2,CG,decide_eq_false (by decide),BC,A2N,Do,f0,l23,f0]
 rw[E9 (v:=I i) hm2 (show 23<26 by decide) rfl rfl rfl]
 have hm3:=A8 (q:=true) (e:=AF) (cs:=(I 2::IP.tail).set 23 (I i)) hm2
 have hn3:Aw (upd H2 m (.cells true AF ((I 2::IP.tail).set 23 (I i)))) r=some (SC (Uj i)):=by
  rw[As (Ne.symm hmr)];exact hn2
 have hp3:Aw (upd H2 m (.cells true AF ((I 2::IP.tail).set 23 (I i)))) p=some (Gj id (BA ks) (BQ xs) o):=by
  rw[As (Ne.symm hmp)];exact hp2
 generalize upd H2 m (.cells true AF ((I 2::IP.tail).set 23 (I i)))=H3 at hm3 hn3 hp3
 have ly:∀{K},Ap AE (.ptr m 0 0) H3 K=K (.agg (Uj i).cs):= λ{K}=>Bf rfl rfl hm3
 have lx:∀{K},Ap AE (.ptr r 0 0) H3 K=K (.agg (Uj i).cs):= λ{K}=>Bf rfl rfl hn3
 have l23':∀{K},Ap Ab (.ptr r 23 0) H3 K=K (I i):= λ{K}=>AW (p:=23) rfl hn3 (show 23<26 by decide)
 have l1:∀{K},Ap Al (.ptr p 1 0) H3 K=K (BA ks):= λ{K}=>AW (p:=1) rfl hp3 (show 1<23 by decide)
 have sb:∀{K},Go.Abs.Aj Ab .sub (I (ks.length:Int)) (.v (.int .i64 1)) K=K (I ((ks.length:Int)-1)):= λ{K}=>by rw[GN,Ca (by omega) (by omega)]
 have wi:∀{K:AV→Am},Ah (rt (L+20) (n+1)) Cn [I (i:Int),.v (.int .i64 0),I ((ks.length:Int)-1)] H3 K=K (Bo true):= λ{K}=>TO (n:=n) (by omega) (by omega) H3 K
 simp only[lx,ly,C49,gT,f0,BN,l23',l1,Nh,sb,wi,Un]
 exact hK _ _ (λb=>⟨false,λK=>by kernel_rfl⟩)
theorem DZ {H:Hp} {e:Nat} {zs vs:List AV} (w:Wf H) (hz:vs.length=zs.length):∃H',H'=upd ((A7 H,.cells true e zs)::H) (A7 H) (.cells true e vs)∧Aw H' (A7 H)=some (.cells true e vs)∧Wf H'∧(∀s x,Aw H s=some x→Aw H' s=some x∧s≠A7 H):=by
 have hm:=A0 (H:=H) (x:= .cells true e zs) (by simp)
 refine⟨_,rfl,A8 hm,C7 (BP w),λs x h=> ?_⟩
 have:=w.lt h
 exact⟨by rw[As (by omega)];exact Bn this h,by omega⟩
theorem TN (hb:ks.length≤6) (hi:i<ks.length) {at_:Int} {w:AV}:CS (rt (L+20) (n+3)) BU [.agg (Br id (BA ks) (BQ xs) o),.agg (Uj i).cs,I at_,w] (.tup [.agg (BW (uu ks[i])),I 0]):=by
 intro K hK
 rw[Fh]
 unfold EZ Aq
 rw[EG (KO (.inr ⟨_,_,rfl⟩) (.inr ⟨_,_,rfl⟩))]
 have hp0:=A0 (H:=[]) (x:=Gj id (BA ks) (BQ xs) o) (by simp)
 have w0:=BP (x:=Gj id (BA ks) (BQ xs) o) Fw
 generalize ((A7 [],Gj id (BA ks) (BQ xs) o)::([]:Hp))=H0 at hp0 w0
 generalize A7 []=p at hp0
 rw[EG A7n]
 have hn1:=A0 (H:=H0) (x:=SC (Uj i)) (by simp)
 have hp1:Aw ((A7 H0,SC (Uj i))::H0) p=some (Gj id (BA ks) (BQ xs) o):=Bn (w0.lt hp0) hp0
 have w1:=BP (x:=SC (Uj i)) w0
 generalize ((A7 H0,SC (Uj i))::H0)=H1 at hn1 hp1 w1
 generalize A7 H0=r at hn1
 rw[Ba (cs:=En) rfl]
 have hq2:=A0 (H:=H1) (x:= .cells true Av En) (by simp)
 have hn2:=Bn (x:= .cells true Av En) (w1.lt hn1) hn1
 have hp2:=Bn (x:= .cells true Av En) (w1.lt hp1) hp1
 have w2:=BP (x:= .cells true Av En) w1
 generalize ((A7 H1,Row.cells true Av En)::H1)=H2 at hq2 hn2 hp2 w2
 generalize A7 H1=q at hq2
 have lp:∀{K},Ap A5 (.ptr p 0 0) H2 K=K (.agg (Br id (BA ks) (BQ xs) o)):= λ{K}=>Bf rfl rfl hp2
 have ln:∀{K},Ap AE (.ptr r 0 0) H2 K=K (.agg (Uj i).cs):= λ{K}=>Bf rfl rfl hn2
 have fx:Py true depth [.agg (Br id (BA ks) (BQ xs) o),.agg (Uj i).cs,I at_] [.agg (Br id (BA ks) (BQ xs) o),.agg (Uj i).cs,I at_] H2 false:= λK=>by kernel_rfl
 have sh:∀{K:AV→Am},Ah (rt (L+20) (n+2)) Dv [.agg (Br id (BA ks) (BQ xs) o),.agg (Uj i).cs,I at_] H2 K=K (.tup [Bo true,Bo false]):= λ{K}=>AZ (A51 hb hi) fx
 have bu:∀{K:AV→Am},Bg Ag [] K=K (.agg En):= λ{K}=>_root_.id rfl
 rw[lp,ln,sh,CJ,CI,Xj,BC,bu,Ba (cs:=En) rfl]
 rw[B0 (vs:=En) (A0 (by simp)) rfl rfl rfl]
 obtain⟨H3,e3, -,w3,h3⟩:=DZ (e:=Av) (zs:=En) (vs:=En) w2 rfl
 rw[←e3,bu,Ba (cs:=En) rfl,B0 (vs:=En) (A0 (by simp)) rfl rfl rfl]
 obtain⟨H4,e4, -,w4,h4⟩:=DZ (e:=Av) (zs:=En) (vs:=En) w3 rfl
 rw[←e4]
 simp only[Cm]
 have f0:∀{s j:Nat} {K:AV→Am},AH j (.ptr s 0 0) K=K (.ptr s j 0):= λ{s j K}=>by rw[fA,Le]
 have hn4:=(h4 _ _ (h3 _ _ hn2).1).1
 have hp4:=(h4 _ _ (h3 _ _ hp2).1).1
 have hq4:=(h4 _ _ (h3 _ _ hq2).1).1
 have lu:∀{K},Ap Ag (.ptr r 3 0) H4 K=K (.agg En):= λ{K}=>EF (p:=3) rfl hn4 (show 23≤26 by decide)
 rw[BC,f0,lu,Ba (cs:=En) rfl,B0 (vs:=En) (A0 (by simp)) rfl rfl rfl]
 obtain⟨H5,e5,hu5,w5,h5⟩:=DZ (e:=Av) (zs:=En) (vs:=En) w4 rfl
 rw[←e5]
 obtain⟨hn5,nr⟩:=h5 _ _ hn4
 obtain⟨hp5,np⟩:=h5 _ _ hp4
 obtain⟨hq5,nq⟩:=h5 _ _ hq4
 generalize A7 H4=v at hu5 nr np nq
 have l0:∀{K},Ap Ab (.ptr r 0 0) H5 K=K (I 2):= λ{K}=>AW (p:=0) rfl hn5 (show 0<26 by decide)
 have l23:∀{K},Ap Ab (.ptr r 23 0) H5 K=K (I i):= λ{K}=>AW (p:=23) rfl hn5 (show 23<26 by decide)
 have l1:∀{K},Ap Al (.ptr p 1 0) H5 K=K (BA ks):= λ{K}=>AW (p:=1) rfl hp5 (show 1<23 by decide)
 rw[f0,l0,A2N,Do,f0,l1,f0,l23,Wr hi,Wq,B0 (vs:=BW (uu ks[i])) hu5 rfl rfl rfl]
 have hu6:=A8 (q:=true) (e:=Av) (cs:=BW (uu ks[i])) hu5
 have hq6:Aw (upd H5 v (.cells true Av (BW (uu ks[i])))) q=some (.cells true Av En):=by rw[As nq];exact hq5
 generalize upd H5 v (.cells true Av (BW (uu ks[i])))=H6 at hu6 hq6
 rw[F8]
 show Ar (.v (.bool false)) _ _=_
 rw[BC,Bf rfl rfl hu6,B0 (vs:=BW (uu ks[i])) hq6 rfl rfl rfl,Bf rfl rfl (A8 hq6)]
 exact hK _ _ (λb=>⟨false,λK=>by kernel_rfl⟩)
end
end
section
variable {L n:Nat}
theorem B11 {k:Nat} {H:Hp} {K:KV}:Fp Av 20 Ag 1 [(0,20,.agg (BW (uu k)))] H K=K (.sl 20 (A7 H) 0 1) ((A7 H,.cells false Av (FE k))::H):=by
 have e:Fp Av 20 Ag 1 [(0,20,.agg (BW (uu k)))] H K=Ij H (λs=>K (.sl 20 s 0 1) ((s,.cells false Av (FE k))::H)):=_root_.id rfl
 rw[e,Cg]
theorem C4l {H:Hp} {v:AV} {l:List Nat} (k:Nat) (h:B3 H Av 20 v l.length (l.flatMap FE)) (w:Wf H) (hn:l.length<100):
 ∃v' H',(∀K:KV,(Fp Av 20 Ag 1 [(0,20,.agg (BW (uu k)))] H λv1 H1=>Ea Av 20 Ag Al v v1 H1 K)=K v' H')∧B3 H' Av 20 v' (l++[k]).length ((l++[k]).flatMap FE)∧Wf H'∧A7 H≤A7 H'∧(∀s x,Aw H s=some x→¬Bh v s→Aw H' s=some x)∧(∀s,Bh v' s→A7 H≤s):=by
 have hv1:B3 ((A7 H,.cells false Av (FE k))::H) Av 20 v l.length (l.flatMap FE):=h.lat w (Lat.cons H _ (λ_=>False)) (λ_ _ h=>h)
 have hsrc:B3 ((A7 H,.cells false Av (FE k))::H) Av 20 (.sl 20 (A7 H) 0 1) 1 (FE k):= .inr ⟨A7 H,false,rfl,A0 (by simp),by show 20=_;rfl⟩
 obtain⟨v',H',h1,h2,h3,h4⟩:=apt (ie:=Ag) (i2:=Al) hv1 (λK=>Sg (K:=K) hsrc) rfl rfl (by decide) rfl rfl (by show(l.length+1)*192≤_;omega) (by omega)
 have h5:=(Lat.cons H (.cells false Av (FE k)) (Bh v)).trans h4 (R:=Bh v) (λ_ _ h=>h) (λ_ _ h=>h)
 refine⟨v',H',λK=> ?_,by rw[F5,l2g];simpa using h2,h5.wf w,h5.nx,λs x hs hn=>h5.keep w s x hs hn,λs hs=> ?_⟩
 ·rw[B11]
  exact h1 K
 ·rw[h3 s hs];exact l1p _
def C3v (k:Nat):List Value:=[.int .i64 (uu k).p0,.int .i64 (uu k).q0,.int .i64 (uu k).p1,.int .i64 (uu k).q1,.int .i64 (uu k).p2,.int .i64 (uu k).q2,.int .i64 (uu k).p3,.int .i64 (uu k).q3,.int .i64 (uu k).p4,.int .i64 (uu k).q4,.int .i64 (uu k).p5,.int .i64 (uu k).q5,.int .i64 (uu k).p6,.int .i64 (uu k).q6,
 .string ⟨⟨(uu k).fn⟩⟩,.string ⟨⟨(uu k).fd⟩⟩,.string ⟨⟨(uu k).on⟩⟩,.string ⟨⟨(uu k).od⟩⟩,.int .i64 (uu k).kd,.int .i64 (uu k).sc]
theorem C0Z (k:Nat):FE k=(C3v k).map λx=> .v x:=rfl
theorem C3u (l:List Nat):l.flatMap FE=(l.flatMap C3v).map λx=> .v x:=by
 induction l with
 |nil=>rfl
 |cons k l ih=>rw[l00,l00,l01,ih,C0Z]
def Oa (l:List Nat):AV:=match l with
 |[]=>AP
 |k::l=> .list (k::l).length ((k::l).flatMap FE)
theorem Xz {D:Nat} {b:Bool} {H:Hp} {v:AV} {l:List Nat} (h:B3 H Av 20 v l.length (l.flatMap FE)) (h0:l=[]→v=AP):∃q,Fx b (D+1) v (Oa l) H q:=by
 rcases h with⟨rfl,h2,_⟩|⟨r,q,rfl,h2,h3⟩
 ·cases l with
  |nil=>exact⟨false,E1⟩
  |cons a l=>simp at h2
 ·cases l with
  |nil=>have:=h0 rfl;cases this
  |cons a l=>
   refine⟨true,?_⟩
   show Fx b (D+1) _ (.list (a::l).length ((a::l).flatMap FE)) H true
   rw[C3u] at h2 h3⊢
   exact VZ (q':=false) h2 h3 (J6 _root_.id _)
theorem B7D {b:Bool} {H:Hp} {v:AV} {l:List Nat} (h:B3 H Av 20 v l.length (l.flatMap FE)) (h0:l=[]→v=AP):∃q,Fx b depth v (Oa l) H q:=Xz (D:=depth-1) h h0
end
section
variable {L n:Nat}
section
variable {K:KV} {x:Am} {ks ty:List Nat} {xs:List Nd} {id:Int} {o:UD}
def RTy (L n:Nat) (id:Int) (ks:List Nat) (xs:List Nd) (o:UD) (ty:List Nat):Prop:=
 ∀i (h:i<xs.length),CS (rt (L+20) (n+42)) BU [.agg (Br id (BA ks) (BQ xs) o),.agg xs[i].cs,I i,Oa (ty.take i)] (.tup [.agg (BW (uu (ty.getD i 0))),I 0])
theorem C0E {d:Nat}:∀l:List Nat,(l.flatMap FE).all (pl d)=true:=by
 intro l
 induction l with
 |nil=>rfl
 |cons a l ih=>rw[l00,List.all_append,ih];cases d<;>rfl
theorem C0D {d:Nat}:∀l:List Nd,(l.flatMap ndC).all (pl d)=true:=by
 intro l
 induction l with
 |nil=>rfl
 |cons a l ih=>rw[l00,List.all_append,ih];cases d<;>rfl
theorem B68 {d:Nat} (l:List Nat):pl (d+1) (BA l)=true:=C0E l
theorem A8K {d:Nat} (l:List Nd):pl (d+1) (BQ l)=true:=C0D l
theorem B67:pl 6 (.agg (Br id (BA ks) (BQ xs) o))=true:=by
 show(pl 5 (I id)&&(pl 5 (BA ks)&&(pl 5 (BQ xs)&&true)))=true
 rw[B68,A8K];rfl
theorem C0d {k22:AV→AV→Hp→Am} {p:Nat} (hT:RTy L n id ks xs o ty) (hlen:ty.length=xs.length) (hb:xs.length<100)
 (hx:∀v H,B3 H Av 20 v ty.length (ty.flatMap FE)→(ty=[]→v=AP)→Aw H p=some (Gj id (BA ks) (BQ xs) o)→k22 (.ptr p 0 0) v H=x):
 ∀(f i:Nat) (v:AV) (H:Hp),i≤xs.length→xs.length-i<f→B3 H Av 20 v (ty.take i).length ((ty.take i).flatMap FE)→(ty.take i=[]→v=AP)→¬Bh v p→Aw H p=some (Gj id (BA ks) (BQ xs) o)→Wf H→
 KE (L+20) (rt (L+20) (n+42)) K k22 f (.ptr p 0 0) v (I i) H=x:=by
 intro f
 induction f with
 |zero=>intro i v H _ h;omega
 |succ f ih=>
  intro i v H hi hf hs h0 hr hp w
  rw[WR]
  unfold Oo Aq
  have f0:∀{s j:Nat} {K:AV→Am},AH j (.ptr s 0 0) K=K (.ptr s j 0):= λ{s j K}=>by rw[fA,Le]
  have l2:∀{K},Ap Ax (.ptr p 2 0) H K=K (BQ xs):= λ{K}=>AW (p:=2) rfl hp (show 2<23 by decide)
  have lp:∀{K},Ap A5 (.ptr p 0 0) H K=K (.agg (Br id (BA ks) (BQ xs) o)):= λ{K}=>Bf rfl rfl hp
  rw[f0,l2,QV]
  by_cases h:i<xs.length
  ·have tyc:∀{H:Hp} (_:B3 H Av 20 v (ty.take i).length ((ty.take i).flatMap FE)) {K:AV→Am},Ah (rt (L+20) (n+42)) BU [.agg (Br id (BA ks) (BQ xs) o),.agg xs[i].cs,I i,v] H K=K (.tup [.agg (BW (uu (ty.getD i 0))),I 0]):= λ{H} hs {K}=>by
    obtain⟨q,hq⟩:=B7D (b:=true) hs h0
    have a1:Fx true depth (.agg (Br id (BA ks) (BQ xs) o)) (.agg (Br id (BA ks) (BQ xs) o)) H false:= λK=>by kernel_rfl
    have a2:Fx true depth (.agg xs[i].cs) (.agg xs[i].cs) H false:= λK=>by kernel_rfl
    exact AZ (hT i h) (Ay a1 (Ay a2 (Ay (q:=false) E1 (Ay hq Bl))))
   rw[FR (by omega),Do]
   simp only[lp,BK,f0,l2,Zi h,Zh,tyc hs,CJ,CI]
   rw[Ba (cs:=En) rfl,BN]
   have hz:=A0 (H:=H) (x:= .cells true Av En) (by simp)
   rw[B0 (vs:=BW (uu (ty.getD i 0))) hz rfl rfl rfl,BN]
   have hp3:=Bn (x:= .cells true Av En) (w.lt hp) hp
   have hs3:B3 ((A7 H,.cells true Av En)::H) Av 20 v (ty.take i).length ((ty.take i).flatMap FE):=hs.lat w (Lat.cons H _ (λ_=>False)) (λ_ _ h=>h)
   obtain⟨H4,e4,hv4,w4,h4⟩:=DZ (e:=Av) (zs:=En) (vs:=BW (uu (ty.getD i 0))) w rfl
   rw[←e4]
   have hp4:=(h4 _ _ hp).1
   have hs4:B3 H4 Av 20 v (ty.take i).length ((ty.take i).flatMap FE):=by
    rcases hs with hs|⟨r,q,h1,h2,h3⟩
    ·exact .inl hs
    ·exact .inr ⟨r,q,h1,(h4 _ _ h2).1,h3⟩
   have lp3:∀{K},Ap A5 (.ptr p 0 0) ((A7 H,.cells true Av En)::H) K=K (.agg (Br id (BA ks) (BQ xs) o)):= λ{K}=>Bf rfl rfl hp3
   have l23:∀{K},Ap Ax (.ptr p 2 0) ((A7 H,.cells true Av En)::H) K=K (BQ xs):= λ{K}=>AW (p:=2) rfl hp3 (show 2<23 by decide)
   rw[lp3,QF B67,l23,QF (A8K xs),QF (by rfl),tyc hs3,QF (by rfl),F8]
   show Ar (.v (.bool false)) _ _=_
   rw[BC,Bf rfl rfl hv4]
   have ht:ty.take i++[ty.getD i 0]=ty.take (i+1):=by
    have hl:i<ty.length:=by omega
    rw[l04 hl];simp[List.getD,Jw hl]
   obtain⟨v',H5,e5,hs5,w5, -,keep,new⟩:=C4l (ty.getD i 0) hs4 w4 (by rw[l0g];omega)
   rw[e5,DH (by omega)]
   rw[ht] at hs5
   exact ih (i+1) v' H5 (by omega) (by omega) hs5 (λe=>by rw[←ht] at e;simp at e) (λhr'=>by have:=new _ hr';have:=w4.lt hp4;omega) (keep _ _ hp4 hr) w5
  ·rw[FT (by omega),BC]
   have:i=xs.length:=by omega
   subst this
   rw[←hlen,l06] at hs h0
   exact hx v H hs h0 hp
end
end
section
variable {L n:Nat}
theorem A8y {H:Hp} {v:AV} {l:List Nat} {i:Nat} (h:B3 H Av 20 v l.length (l.flatMap FE)) (hi:i<l.length):∃a,(∀K:AV→Am,B1 Al v (I i) K=K a)∧(∀K:AV→Am,Ap Ag a H K=K (.agg (BW (uu l[i])))):=by
 rcases h with⟨_,h2,_⟩|⟨r,q,rfl,h2,h3⟩
 ·omega
 ·refine⟨.ptr r (i*20) 0,λK=> ?_,λK=> ?_⟩
  ·have e1:B1 Al (.sl 20 r 0 l.length) (I (i:Int)) K=iN (i:Int) λm=>ck (Nat.blt m l.length) (fN (Nat.add 0 (Nat.mul m 20)) λp=>K (.ptr r p 0)):=_root_.id rfl
   rw[e1,JM,DX]
   have h3:Nat.blt i l.length=true:=by rw[TS];exact hi
   rw[h3]
   show K (.ptr r (0+i*20) 0)=_
   rw[Le]
  ·rw[EF rfl h2 (by rw[h3];show i*20+20≤_;omega)]
   have:((l.flatMap FE).drop (i*20)).take 20=FE l[i]:=A0W FE 20 (λ_=>rfl) l i hi
   show K (.agg (((l.flatMap FE).drop (i*20)).take 20))=_
   rw[this];rfl
theorem C48 {u:UD} {K:AV→Am}:Go.Abs.T8 HG .neq (.agg (BW u)) (.agg (BW u)) K=K (Bo false):=by
 have e:∀(xs:List Value),TG xs xs=some true→∀K:AV→Am,(match(generalizing:=false) TG xs xs,BinOp.neq with
  |some q,.eql=>bB q K
  |some q,.neq=>bB (!q) K
  |_,_=>(none:Am))=K (Bo false):= λxs h K=>by rw[h];rfl
 exact e [.int .i64 u.p0,.int .i64 u.q0,.int .i64 u.p1,.int .i64 u.q1,.int .i64 u.p2,.int .i64 u.q2,.int .i64 u.p3,.int .i64 u.q3,.int .i64 u.p4,.int .i64 u.q4,.int .i64 u.p5,.int .i64 u.q5,.int .i64 u.p6,.int .i64 u.q6,
  .string ⟨⟨u.fn⟩⟩,.string ⟨⟨u.fd⟩⟩,.string ⟨⟨u.on⟩⟩,.string ⟨⟨u.od⟩⟩,.int .i64 u.kd,.int .i64 u.sc]
  (A6a _ (by simp[Tf])) K
section
variable {ks ty:List Nat} {xs:List Nd} {id:Int}
theorem B63 (hL:100<L) (hT:RTy L n id ks xs (uu (ty.getD (xs.length-1) 0)) ty) (hlen:ty.length=xs.length) (hk:∀k∈ks,k<52) (hb:ks.length≤6) (hn:1≤xs.length) (hn':xs.length≤40) (h1:1≤id) (h2:id≤1000000):
 CS (rt (L+20) (n+43)) MH [.agg (Br id (BA ks) (BQ xs) (uu (ty.getD (xs.length-1) 0)))] (.tup [Oa ty,I 0,I 0]):=by
 intro K hK
 rw[Y2]
 unfold PT Aq
 rw[EG (KO (.inr ⟨_,_,rfl⟩) (.inr ⟨_,_,rfl⟩))]
 have hp0:=A0 (H:=[]) (x:=Gj id (BA ks) (BQ xs) (uu (ty.getD (xs.length-1) 0))) (by simp)
 have w0:=BP (x:=Gj id (BA ks) (BQ xs) (uu (ty.getD (xs.length-1) 0))) Fw
 generalize ((A7 [],Gj id (BA ks) (BQ xs) (uu (ty.getD (xs.length-1) 0)))::([]:Hp))=H0 at hp0 w0
 generalize A7 []=p at hp0
 have bg:∀{K:AV→Am},Ah (rt (L+20) (n+42)) Lo [.agg (Br id (BA ks) (BQ xs) (uu (ty.getD (xs.length-1) 0)))] H0 K=K (.tup [Bo true,Bo true]):= λ{K}=>AZ (B2F (n:=n+1) hL hk hb hn hn' h1 h2) (Rv (.inr ⟨_,_,rfl⟩) (.inr ⟨_,_,rfl⟩))
 rw[Bf rfl rfl hp0,bg,CJ,CI,Xj,BC]
 simp only[Cm]
 refine C0d hT hlen (by omega) ?_ (L+20) 0 _ H0 (by omega) (by omega) (.inl ⟨rfl,rfl,rfl⟩) (λ_=>rfl) (λ⟨_,_,_,h⟩=>by cases h) hp0 w0
 intro v H hs h0 hp
 have f0:∀{s j:Nat} {K:AV→Am},AH j (.ptr s 0 0) K=K (.ptr s j 0):= λ{s j K}=>by rw[fA,Le]
 have hlt:ty.length-1<ty.length:=by omega
 obtain⟨a,ha1,ha2⟩:=A8y hs hlt
 have ho:∀{K},Ap Ag (.ptr p 3 0) H K=K (.agg (BW (uu (ty.getD (xs.length-1) 0)))):= λ{K}=>EF (p:=3) rfl hp (show 23≤23 by decide)
 have eg:ty[ty.length-1]=ty.getD (xs.length-1) 0:=by rw[←hlen];simp[List.getD,Jw hlt]
 rw[eg] at ha2
 rw[IJ rfl hs,BK,A2q (by omega) (by omega),BK,ha1,BK,ha2,BK,f0,BK,ho,BK,C48,BK,BC]
 exact hK _ _ (λb=>by
  obtain⟨q,hq⟩:=Xz (D:=depth-2) (b:=b) hs h0
  exact⟨_,UW (D:=depth-1) (Ay hq (Ay (q:=false) E1 (Ay (q:=false) E1 Bl)))⟩)
theorem B2r (hL:100<L) (hT:RTy L n id ks xs (uu (ty.getD (xs.length-1) 0)) ty) (hlen:ty.length=xs.length) (hk:∀k∈ks,k<52) (hb:ks.length≤6) (hn:1≤xs.length) (hn':xs.length≤40) (h1:1≤id) (h2:id≤1000000):
 CS (rt (L+20) (n+44)) DN [.agg (Br id (BA ks) (BQ xs) (uu (ty.getD (xs.length-1) 0)))] (Bo true):=by
 intro K hK
 rw[Y0]
 unfold PQ Aq
 rw[EG (KO (.inr ⟨_,_,rfl⟩) (.inr ⟨_,_,rfl⟩))]
 have hp0:=A0 (H:=[]) (x:=Gj id (BA ks) (BQ xs) (uu (ty.getD (xs.length-1) 0))) (by simp)
 generalize ((A7 [],Gj id (BA ks) (BQ xs) (uu (ty.getD (xs.length-1) 0)))::([]:Hp))=H0 at hp0
 have ck:∀{K:AV→Am},Ah (rt (L+20) (n+43)) MH [.agg (Br id (BA ks) (BQ xs) (uu (ty.getD (xs.length-1) 0)))] H0 K=K (.tup [Oa ty,I 0,I 0]):= λ{K}=>AZ (B63 hL hT hlen hk hb hn hn' h1 h2) (Rv (.inr ⟨_,_,rfl⟩) (.inr ⟨_,_,rfl⟩))
 have e2:∀{K:AV→Am},A9 (.tup [Oa ty,I 0,I 0]) 2 K=K (I 0):= λ{K}=>_root_.id rfl
 have e0:∀{K:AV→Am},A9 (.tup [Oa ty,I 0,I 0]) 0 K=K (Oa ty):= λ{K}=>_root_.id rfl
 have e1:∀{K:AV→Am},A9 (.tup [Oa ty,I 0,I 0]) 1 K=K (I 0):= λ{K}=>_root_.id rfl
 rw[Bf rfl rfl hp0,ck,e0,e1,e2,A2N]
 exact hK _ _ (λb=>⟨false,λK=>by kernel_rfl⟩)
end
end
section
variable {L n:Nat}
section
variable {ks:List Nat} {xs:List Nd} {id:Int} {o:UD}
def JL (ks:List Nat):List Nd:=(List.range ks.length).map Uj
theorem D7:(JL ks).length=ks.length:=by simp[JL]
theorem VV {i:Nat} (h:i<(JL ks).length):(JL ks)[i]=Uj i:=by simp[JL]
theorem C09 (hb:ks.length≤6):RTy L n id ks (JL ks) o ks:=by
 intro i h
 rw[VV h]
 have hi:i<ks.length:=by rw[D7] at h;exact h
 have e:ks.getD i 0=ks[i]:=by simp[List.getD,Jw hi]
 rw[e]
 exact TN (n:=n+39) hb hi
theorem YY {y:Nd} {k:Nat} (hb:ks.length≤6) (hy:CS (rt (L+20) (n+42)) BU [.agg (Br id (BA ks) (BQ (JL ks++[y])) o),.agg y.cs,I ks.length,Oa ks] (.tup [.agg (BW (uu k)),I 0])):
 RTy L n id ks (JL ks++[y]) o (ks++[k]):=by
 intro i h
 rw[F5,D7] at h
 by_cases hi:i<ks.length
 ·have e:(JL ks++[y])[i]'(by rw[F5,D7];exact h)=Uj i:=by
   rw[List.getElem_append_left (by rw[D7];exact hi)];exact VV _
  rw[e]
  have e2:(ks++[k]).getD i 0=ks[i]:=by simp[List.getD,l0l hi,Jw hi]
  rw[e2]
  exact TN (n:=n+39) hb hi
 ·have hi':i=ks.length:=by simp at h;omega
  subst hi'
  have e:(JL ks++[y])[ks.length]'(by rw[F5,D7];exact h)=y:=by
   rw[List.getElem_append_right (by rw[D7];omega)];simp
  rw[e]
  have e2:(ks++[k]).getD ks.length 0=k:=by simp[List.getD]
  rw[e2,List.take_left']
  ·exact hy
  ·rfl
end
end
section
def dg (k:Nat):List UInt8:=if k<10 then[UInt8.ofNat (48+k)] else if k<100 then[UInt8.ofNat (48+k/10),UInt8.ofNat (48+k%10)] else[UInt8.ofNat (48+k/100),UInt8.ofNat (48+k/10%10),UInt8.ofNat (48+k%10)]
variable (L n:Nat)
theorem C0y:((List.range 50).all λk=>(λi=>Hg (AU (Cu (rt (L+20) (n+10)) Be [I (i:Nat)]) (S (dg i)))) (k+0))=true:=by kernel_rfl
theorem C0x:((List.range 50).all λk=>(λi=>Hg (AU (Cu (rt (L+20) (n+10)) Be [I (i:Nat)]) (S (dg i)))) (k+50))=true:=by kernel_rfl
theorem C0w:((List.range 50).all λk=>(λi=>Hg (AU (Cu (rt (L+20) (n+10)) Be [I (i:Nat)]) (S (dg i)))) (k+100))=true:=by kernel_rfl
theorem C0v:((List.range 50).all λk=>(λi=>Hg (AU (Cu (rt (L+20) (n+10)) Be [I (i:Nat)]) (S (dg i)))) (k+150))=true:=by kernel_rfl
theorem C0u:((List.range 50).all λk=>(λi=>Hg (AU (Cu (rt (L+20) (n+10)) Be [I (i:Nat)]) (S (dg i)))) (k+200))=true:=by kernel_rfl
theorem C0t:((List.range 50).all λk=>(λi=>Hg (AU (Cu (rt (L+20) (n+10)) Be [I (i:Nat)]) (S (dg i)))) (k+250))=true:=by kernel_rfl
theorem C0s:((List.range 50).all λk=>(λi=>Hg (AU (Cu (rt (L+20) (n+10)) Be [I (i:Nat)]) (S (dg i)))) (k+300))=true:=by kernel_rfl
theorem C0r:((List.range 50).all λk=>(λi=>Hg (AU (Cu (rt (L+20) (n+10)) Be [I (i:Nat)]) (S (dg i)))) (k+350))=true:=by kernel_rfl
theorem C0q:((List.range 50).all λk=>(λi=>Hg (AU (Cu (rt (L+20) (n+10)) Be [I (i:Nat)]) (S (dg i)))) (k+400))=true:=by kernel_rfl
theorem C0p:((List.range 50).all λk=>(λi=>Hg (AU (Cu (rt (L+20) (n+10)) Be [I (i:Nat)]) (S (dg i)))) (k+450))=true:=by kernel_rfl
theorem B62:((List.range 50).all λk=>(λi=>Hg (AU (Cu (rt (L+20) (n+10)) Be [I (i:Nat)]) (S (dg i)))) (k+500))=true:=by kernel_rfl
theorem B61:((List.range 50).all λk=>(λi=>Hg (AU (Cu (rt (L+20) (n+10)) Be [I (i:Nat)]) (S (dg i)))) (k+550))=true:=by kernel_rfl
theorem B60:((List.range 50).all λk=>(λi=>Hg (AU (Cu (rt (L+20) (n+10)) Be [I (i:Nat)]) (S (dg i)))) (k+600))=true:=by kernel_rfl
theorem B5Z:((List.range 50).all λk=>(λi=>Hg (AU (Cu (rt (L+20) (n+10)) Be [I (i:Nat)]) (S (dg i)))) (k+650))=true:=by kernel_rfl
theorem B5Y:((List.range 50).all λk=>(λi=>Hg (AU (Cu (rt (L+20) (n+10)) Be [I (i:Nat)]) (S (dg i)))) (k+700))=true:=by kernel_rfl
theorem B5X:((List.range 50).all λk=>(λi=>Hg (AU (Cu (rt (L+20) (n+10)) Be [I (i:Nat)]) (S (dg i)))) (k+750))=true:=by kernel_rfl
theorem B5W:((List.range 50).all λk=>(λi=>Hg (AU (Cu (rt (L+20) (n+10)) Be [I (i:Nat)]) (S (dg i)))) (k+800))=true:=by kernel_rfl
theorem B5V:((List.range 50).all λk=>(λi=>Hg (AU (Cu (rt (L+20) (n+10)) Be [I (i:Nat)]) (S (dg i)))) (k+850))=true:=by kernel_rfl
theorem B5U:((List.range 50).all λk=>(λi=>Hg (AU (Cu (rt (L+20) (n+10)) Be [I (i:Nat)]) (S (dg i)))) (k+900))=true:=by kernel_rfl
theorem C4X (i:Nat) (h:i<950):PS (rt (L+20) (n+10)) Be [I (i:Nat)] (S (dg i)):=by
 refine Bt (λH=>by first|exact λK=>by kernel_rfl) ?_
 by_cases h0:i<50
 ·have:=GW.1 (C0y L n) (i-0) (Iw.2 (by omega))
  have e:i-0+0=i:=by omega
  simp only[e] at this
  exact this
 by_cases h1:i<100
 ·have:=GW.1 (C0x L n) (i-50) (Iw.2 (by omega))
  have e:i-50+50=i:=by omega
  simp only[e] at this
  exact this
 by_cases h2:i<150
 ·have:=GW.1 (C0w L n) (i-100) (Iw.2 (by omega))
  have e:i-100+100=i:=by omega
  simp only[e] at this
  exact this
 by_cases h3:i<200
 ·have:=GW.1 (C0v L n) (i-150) (Iw.2 (by omega))
  have e:i-150+150=i:=by omega
  simp only[e] at this
  exact this
 by_cases h4:i<250
 ·have:=GW.1 (C0u L n) (i-200) (Iw.2 (by omega))
  have e:i-200+200=i:=by omega
  simp only[e] at this
  exact this
 by_cases h5:i<300
 ·have:=GW.1 (C0t L n) (i-250) (Iw.2 (by omega))
  have e:i-250+250=i:=by omega
  simp only[e] at this
  exact this
 by_cases h6:i<350
 ·have:=GW.1 (C0s L n) (i-300) (Iw.2 (by omega))
  have e:i-300+300=i:=by omega
  simp only[e] at this
  exact this
 by_cases h7:i<400
 ·have:=GW.1 (C0r L n) (i-350) (Iw.2 (by omega))
  have e:i-350+350=i:=by omega
  simp only[e] at this
  exact this
 by_cases h8:i<450
 ·have:=GW.1 (C0q L n) (i-400) (Iw.2 (by omega))
  have e:i-400+400=i:=by omega
  simp only[e] at this
  exact this
 by_cases h9:i<500
 ·have:=GW.1 (C0p L n) (i-450) (Iw.2 (by omega))
  have e:i-450+450=i:=by omega
  simp only[e] at this
  exact this
 by_cases h10:i<550
 ·have:=GW.1 (B62 L n) (i-500) (Iw.2 (by omega))
  have e:i-500+500=i:=by omega
  simp only[e] at this
  exact this
 by_cases h11:i<600
 ·have:=GW.1 (B61 L n) (i-550) (Iw.2 (by omega))
  have e:i-550+550=i:=by omega
  simp only[e] at this
  exact this
 by_cases h12:i<650
 ·have:=GW.1 (B60 L n) (i-600) (Iw.2 (by omega))
  have e:i-600+600=i:=by omega
  simp only[e] at this
  exact this
 by_cases h13:i<700
 ·have:=GW.1 (B5Z L n) (i-650) (Iw.2 (by omega))
  have e:i-650+650=i:=by omega
  simp only[e] at this
  exact this
 by_cases h14:i<750
 ·have:=GW.1 (B5Y L n) (i-700) (Iw.2 (by omega))
  have e:i-700+700=i:=by omega
  simp only[e] at this
  exact this
 by_cases h15:i<800
 ·have:=GW.1 (B5X L n) (i-750) (Iw.2 (by omega))
  have e:i-750+750=i:=by omega
  simp only[e] at this
  exact this
 by_cases h16:i<850
 ·have:=GW.1 (B5W L n) (i-800) (Iw.2 (by omega))
  have e:i-800+800=i:=by omega
  simp only[e] at this
  exact this
 by_cases h17:i<900
 ·have:=GW.1 (B5V L n) (i-850) (Iw.2 (by omega))
  have e:i-850+850=i:=by omega
  simp only[e] at this
  exact this
 by_cases h18:i<950
 ·have:=GW.1 (B5U L n) (i-900) (Iw.2 (by omega))
  have e:i-900+900=i:=by omega
  simp only[e] at this
  exact this
 omega
end
section
variable (L n:Nat)
theorem B8k:((List.range 50).all λk=>(λi=>Hg (AU (Cu (rt (L+20) (n+10)) Bs [I (i:Nat)]) (S (dg i)))) (k+0))=true:=by kernel_rfl
theorem B8j:((List.range 50).all λk=>(λi=>Hg (AU (Cu (rt (L+20) (n+10)) Bs [I (i:Nat)]) (S (dg i)))) (k+50))=true:=by kernel_rfl
theorem B8i:((List.range 50).all λk=>(λi=>Hg (AU (Cu (rt (L+20) (n+10)) Bs [I (i:Nat)]) (S (dg i)))) (k+100))=true:=by kernel_rfl
theorem B8h:((List.range 50).all λk=>(λi=>Hg (AU (Cu (rt (L+20) (n+10)) Bs [I (i:Nat)]) (S (dg i)))) (k+150))=true:=by kernel_rfl
theorem B8g:((List.range 50).all λk=>(λi=>Hg (AU (Cu (rt (L+20) (n+10)) Bs [I (i:Nat)]) (S (dg i)))) (k+200))=true:=by kernel_rfl
theorem B8f:((List.range 50).all λk=>(λi=>Hg (AU (Cu (rt (L+20) (n+10)) Bs [I (i:Nat)]) (S (dg i)))) (k+250))=true:=by kernel_rfl
theorem B8e:((List.range 50).all λk=>(λi=>Hg (AU (Cu (rt (L+20) (n+10)) Bs [I (i:Nat)]) (S (dg i)))) (k+300))=true:=by kernel_rfl
theorem B8d:((List.range 50).all λk=>(λi=>Hg (AU (Cu (rt (L+20) (n+10)) Bs [I (i:Nat)]) (S (dg i)))) (k+350))=true:=by kernel_rfl
theorem B8c:((List.range 50).all λk=>(λi=>Hg (AU (Cu (rt (L+20) (n+10)) Bs [I (i:Nat)]) (S (dg i)))) (k+400))=true:=by kernel_rfl
theorem B8b:((List.range 50).all λk=>(λi=>Hg (AU (Cu (rt (L+20) (n+10)) Bs [I (i:Nat)]) (S (dg i)))) (k+450))=true:=by kernel_rfl
theorem B4W:((List.range 50).all λk=>(λi=>Hg (AU (Cu (rt (L+20) (n+10)) Bs [I (i:Nat)]) (S (dg i)))) (k+500))=true:=by kernel_rfl
theorem B4V:((List.range 50).all λk=>(λi=>Hg (AU (Cu (rt (L+20) (n+10)) Bs [I (i:Nat)]) (S (dg i)))) (k+550))=true:=by kernel_rfl
theorem B4U:((List.range 50).all λk=>(λi=>Hg (AU (Cu (rt (L+20) (n+10)) Bs [I (i:Nat)]) (S (dg i)))) (k+600))=true:=by kernel_rfl
theorem B4T:((List.range 50).all λk=>(λi=>Hg (AU (Cu (rt (L+20) (n+10)) Bs [I (i:Nat)]) (S (dg i)))) (k+650))=true:=by kernel_rfl
theorem B4S:((List.range 50).all λk=>(λi=>Hg (AU (Cu (rt (L+20) (n+10)) Bs [I (i:Nat)]) (S (dg i)))) (k+700))=true:=by kernel_rfl
theorem B4R:((List.range 50).all λk=>(λi=>Hg (AU (Cu (rt (L+20) (n+10)) Bs [I (i:Nat)]) (S (dg i)))) (k+750))=true:=by kernel_rfl
theorem B4Q:((List.range 50).all λk=>(λi=>Hg (AU (Cu (rt (L+20) (n+10)) Bs [I (i:Nat)]) (S (dg i)))) (k+800))=true:=by kernel_rfl
theorem B4P:((List.range 50).all λk=>(λi=>Hg (AU (Cu (rt (L+20) (n+10)) Bs [I (i:Nat)]) (S (dg i)))) (k+850))=true:=by kernel_rfl
theorem B4O:((List.range 50).all λk=>(λi=>Hg (AU (Cu (rt (L+20) (n+10)) Bs [I (i:Nat)]) (S (dg i)))) (k+900))=true:=by kernel_rfl
theorem C4R (i:Nat) (h:i<950):PS (rt (L+20) (n+10)) Bs [I (i:Nat)] (S (dg i)):=by
 refine Bt (λH=>by first|exact λK=>by kernel_rfl) ?_
 by_cases h0:i<50
 ·have:=GW.1 (B8k L n) (i-0) (Iw.2 (by omega))
  have e:i-0+0=i:=by omega
  simp only[e] at this
  exact this
 by_cases h1:i<100
 ·have:=GW.1 (B8j L n) (i-50) (Iw.2 (by omega))
  have e:i-50+50=i:=by omega
  simp only[e] at this
  exact this
 by_cases h2:i<150
 ·have:=GW.1 (B8i L n) (i-100) (Iw.2 (by omega))
  have e:i-100+100=i:=by omega
  simp only[e] at this
  exact this
 by_cases h3:i<200
 ·have:=GW.1 (B8h L n) (i-150) (Iw.2 (by omega))
  have e:i-150+150=i:=by omega
  simp only[e] at this
  exact this
 by_cases h4:i<250
 ·have:=GW.1 (B8g L n) (i-200) (Iw.2 (by omega))
  have e:i-200+200=i:=by omega
  simp only[e] at this
  exact this
 by_cases h5:i<300
 ·have:=GW.1 (B8f L n) (i-250) (Iw.2 (by omega))
  have e:i-250+250=i:=by omega
  simp only[e] at this
  exact this
 by_cases h6:i<350
 ·have:=GW.1 (B8e L n) (i-300) (Iw.2 (by omega))
  have e:i-300+300=i:=by omega
  simp only[e] at this
  exact this
 by_cases h7:i<400
 ·have:=GW.1 (B8d L n) (i-350) (Iw.2 (by omega))
  have e:i-350+350=i:=by omega
  simp only[e] at this
  exact this
 by_cases h8:i<450
 ·have:=GW.1 (B8c L n) (i-400) (Iw.2 (by omega))
  have e:i-400+400=i:=by omega
  simp only[e] at this
  exact this
 by_cases h9:i<500
 ·have:=GW.1 (B8b L n) (i-450) (Iw.2 (by omega))
  have e:i-450+450=i:=by omega
  simp only[e] at this
  exact this
 by_cases h10:i<550
 ·have:=GW.1 (B4W L n) (i-500) (Iw.2 (by omega))
  have e:i-500+500=i:=by omega
  simp only[e] at this
  exact this
 by_cases h11:i<600
 ·have:=GW.1 (B4V L n) (i-550) (Iw.2 (by omega))
  have e:i-550+550=i:=by omega
  simp only[e] at this
  exact this
 by_cases h12:i<650
 ·have:=GW.1 (B4U L n) (i-600) (Iw.2 (by omega))
  have e:i-600+600=i:=by omega
  simp only[e] at this
  exact this
 by_cases h13:i<700
 ·have:=GW.1 (B4T L n) (i-650) (Iw.2 (by omega))
  have e:i-650+650=i:=by omega
  simp only[e] at this
  exact this
 by_cases h14:i<750
 ·have:=GW.1 (B4S L n) (i-700) (Iw.2 (by omega))
  have e:i-700+700=i:=by omega
  simp only[e] at this
  exact this
 by_cases h15:i<800
 ·have:=GW.1 (B4R L n) (i-750) (Iw.2 (by omega))
  have e:i-750+750=i:=by omega
  simp only[e] at this
  exact this
 by_cases h16:i<850
 ·have:=GW.1 (B4Q L n) (i-800) (Iw.2 (by omega))
  have e:i-800+800=i:=by omega
  simp only[e] at this
  exact this
 by_cases h17:i<900
 ·have:=GW.1 (B4P L n) (i-850) (Iw.2 (by omega))
  have e:i-850+850=i:=by omega
  simp only[e] at this
  exact this
 by_cases h18:i<950
 ·have:=GW.1 (B4O L n) (i-900) (Iw.2 (by omega))
  have e:i-900+900=i:=by omega
  simp only[e] at this
  exact this
 omega
end
end Go.Abs
end
