import Derived.Test.YtlbhdmbfdcohhaaGreatDoorR27
import Derived.Test.YtlbhdmbfdcohhaaGreatDoorR28
set_option linter.all false
set_option maxHeartbeats 100000000
noncomputable section
namespace Go.Abs
open Go.RowKit Go.Proofs
set_option maxRecDepth 100000
section
variable {L n:Nat}
structure Nd where
 op:Int
 (vn vd:List UInt8)
 u:UD
 (n l r:Int)
abbrev Nd.cs (x:Nd):List AV:=[I x.op,S x.vn,S x.vd,I x.u.p0,I x.u.q0,I x.u.p1,I x.u.q1,I x.u.p2,I x.u.q2,I x.u.p3,I x.u.q3,I x.u.p4,I x.u.q4,I x.u.p5,I x.u.q5,I x.u.p6,I x.u.q6,S x.u.fn,S x.u.fd,S x.u.on,S x.u.od,I x.u.kd,I x.u.sc,I x.n,I x.l,I x.r]
def Gh (k:Nat):List AV:=Cc (uu k)
abbrev BC (ks:List Nat):AV:= .list ks.length (ks.flatMap Gh)
def ndC (x:Nd):List AV:=x.cs
abbrev BU (xs:List Nd):AV:= .list xs.length (xs.flatMap ndC)
theorem NT {ks:List Nat} {K:AV→Al}:AP Am (BC ks) K=K (I ks.length):=id rfl
theorem RL {xs:List Nd} {K:AV→Al}:AP A0 (BU xs) K=K (I xs.length):=id rfl
theorem Xd {ks:List Nat} {i:Nat} {K:AV→Al} (h:i<ks.length):B0 Am (BC ks) (I i) K=K (.iptr (Gh ks[i])):=A1Z (f:=Gh) rfl (λ_=>rfl) h
theorem A06 {xs:List Nd} {i:Nat} {K:AV→Al} (h:i<xs.length):B0 A0 (BU xs) (I i) K=K (.iptr (ndC xs[i])):=A1Z (f:=ndC) rfl (λ_=>rfl) h
theorem Xc {k:Nat} {H:Hp} {K:AV→Al}:Aq Ag (.iptr (Gh k)) H K=K (.agg (Cc (uu k))):=id rfl
theorem A05 {x:Nd} {H:Hp} {K:AV→Al}:Aq AH (.iptr (ndC x)) H K=K (.agg x.cs):=id rfl
abbrev GK (id:Int) (ins nds:AV) (o:UD):Row:= .cells true B8 (Bx id ins nds o)
section
attribute [local irreducible] Ah rt YV eBi eEq cnd Go.Abs.Ak Go.Abs.Uw Av
theorem UK {z lo hi:Int} (h1:lo≤z) (h2:z≤hi):PS (rt (L+20) (n+1)) Cy [I z,I lo,I hi] (Bo true):=by
 refine CS.ps (λK hK=> ?_) (λH=> λK=>by kernel_rfl)
 rewrite [XW]
 unfold Ps Ba CK
 try rewrite [zO]
 try rewrite [bO]
 try rewrite [qO]
 try rewrite [cO]
 conv=>lhs;whnf
 rewrite [A9Z h1]
 conv=>lhs;whnf
 rewrite [A9R h2]
 conv=>lhs;whnf
 exact hK _ _ (λb=>⟨false,λK=>by kernel_rfl⟩)
end
section
variable {K:KV} {x:Al} {ks:List Nat} {xs:List Nd} {id:Int} {o:UD}
theorem C1f {k31:AV→Hp→Al} {H:Hp} {c:Nat} {nds:AV} (hk:∀k∈ks,k<52) (hb:ks.length<100) (hx:k31 (.ptr c 0 0) H=x) (hl:Ax H c=some (GK id (BC ks) nds o)):∀(f i:Nat),i≤ks.length→ks.length-i<f→
 Kz (L+20) (rt (L+20) (n+40)) K k31 f (.ptr c 0 0) (I i) H=x:=by
 intro f
 induction f with
 |zero=>intro i _ h;omega
 |succ f ih=>
  intro i hi hf
  rw[Wq]
  unfold NW Ar CK
  have f1:∀K:AV→Al,AN 1 (.ptr c 0 0) K=K (.ptr c 1 0):= λK=>_root_.id rfl
  have l1:∀K,Aq Am (.ptr c 1 0) H K=K (BC ks):= λK=>AY (p:=1) rfl hl (show 1<23 by decide)
  rw[f1,l1,NT]
  by_cases h:i<ks.length
  ·rw[FW (by omega),Dn,f1,l1,Xd h,Xc,Pk _ _ _ (hk _ (QS h)),ntT,BD,DS (by omega)]
   exact ih (i+1) (by omega) (by omega)
  ·rw[FX (by omega),BD]
   exact hx
theorem L6 {ins nds:AV} (hI:Sl ins) (hN:Sl nds):(Bx id ins nds o).all AV.one=true:=by
 rcases hI with rfl|⟨_,_,rfl⟩<;>rcases hN with rfl|⟨_,_,rfl⟩<;>rfl
theorem B3u (hL:100<L) (hk:∀k∈ks,k<52) (hb:ks.length≤6) (hn:1≤xs.length) (hn':xs.length≤40) (h1:1≤id) (h2:id≤1000000):CS (rt (L+20) (n+41)) XA5 [.agg (Bx id (BC ks) (BU xs) o)] (.tup [Bo true,Bo true]):=by
 intro K hK
 rw[XX]
 unfold Pt Ba Ar CK
 rw[EY (L6 (.inr ⟨_,_,rfl⟩) (.inr ⟨_,_,rfl⟩))]
 have hc0:=A1 (H:=[]) (x:=GK id (BC ks) (BU xs) o) (by simp)
 generalize ((A6 [],GK id (BC ks) (BU xs) o)::([]:Hp))=H0 at hc0
 generalize A6 []=c at hc0
 simp only[Cp]
 refine C1f hk (by omega) ?_ hc0 (L+20) 0 (by omega) (by omega)
 have f0:∀{j:Nat} {K:AV→Al},AN j (.ptr c 0 0) K=K (.ptr c j 0):= λ{j K}=>by rw[fA,Ln]
 have l0:∀{K},Aq Ab (.ptr c 0 0) H0 K=K (I id):= λ{K}=>AY (p:=0) rfl hc0 (show 0<23 by decide)
 have l1:∀{K},Aq Am (.ptr c 1 0) H0 K=K (BC ks):= λ{K}=>AY (p:=1) rfl hc0 (show 1<23 by decide)
 have l2:∀{K},Aq A0 (.ptr c 2 0) H0 K=K (BU xs):= λ{K}=>AY (p:=2) rfl hc0 (show 2<23 by decide)
 have w1:∀{K:AV→Al},Ah (rt (L+20) (n+40)) Cy [I id,.v (.int .i64 1),.v (.int .i64 1000000)] H0 K=K (Bo true):= λ{K}=>UK (n:=n+39) h1 h2 H0 K
 have w2:∀{K:AV→Al},Ah (rt (L+20) (n+40)) Cy [I (xs.length:Int),.v (.int .i64 1),.v (.int .i64 40)] H0 K=K (Bo true):= λ{K}=>UK (n:=n+39) (by omega) (by omega) H0 K
 have q1:∀{K},Go.Abs.Ak Ab .leq (I (ks.length:Int)) (.v (.int .i64 6)) K=K (Bo true):= λ{K}=>by rw[Xf,decide_eq_true (by omega)]
 have q2:∀{K},Go.Abs.Ak Ab .gtr (I (xs.length:Int)) (.v (.int .i64 0)) K=K (Bo true):= λ{K}=>by rw[Ej,decide_eq_true (by omega)]
 simp only[f0,l0,l1,l2,BJ,Co,gT,w1,w2,NT,RL,q1,q2,Wu]
 exact hK _ _ (λb=>⟨false,λK=>by kernel_rfl⟩)
end
end
section
variable {L n:Nat}
def TT:Value→Bool
 | .int _ _=>true
 | .string _=>true
 | .bool _=>true
 | .slice none 0 0=>true
 |_=>false
def pl:Nat→AV→Bool
 |_,.v x=>TT x
 |d+1,.list _ cs=>cs.all (pl d)
 |d+1,.agg cs=>cs.all (pl d)
 |d+1,.tup cs=>cs.all (pl d)
 |_,_=>false
theorem B4o:∀l:List UInt8,Wg.eqbL l l=true:=by
 intro l
 induction l with
 |nil=>rfl
 |cons a l ih=>simp only[Wg.eqbL,ih,l1b];exact l29 _
theorem X2 {x:Value} (h:TT x=true):Wg x x=true:=by
 unfold TT at h
 split at h
 ·simp[Wg]
 ·exact B4o _
 ·simp[Wg]
 ·rfl
 ·cases h
theorem B1W {f:AV→AV→Bool}:∀l:List AV,(∀a∈l,f a a=true)→A2d f l l=true:=by
 intro l
 induction l with
 |nil=>intro _;rfl
 |cons a l ih=>intro h;simp only[A2d,h a (by simp),ih λb hb=>h b (by simp[hb]),l1b]
theorem A78:∀(d:Nat) (a:AV),pl d a=true→aeq d a a=true:=by
 intro d
 induction d with
 |zero=>intro a h;cases a<;>first|exact X2 h|cases h
 |succ d ih=>
  intro a h
  cases a<;>first
   |exact X2 h
   |(simp only[pl,Hl] at h;simp only[aeq,l29,l16];exact B1W _ λb hb=>ih b (h b hb))
   |cases h
theorem B1X {a:AV} (h:pl 6 a=true):ZP a a=true:=by
 cases a<;>first|exact X2 h|exact A78 6 _ h|cases h
theorem R5 {v:AV} {H:Hp} {K:Al} (h:pl 6 v=true):R6 (AZ (some (v,H)) v) K=K:=by
 show R6 (some (.v (.bool (ZP v v)),[])) K=K
 rw[B1X h];rfl
theorem B1f {x:Value} (h:TT x=true) (h':x≠.slice none 0 0):WI x x=some true:=by
 unfold TT at h
 split at h
 ·show(match decide (_=_) with|true=>some (ieq _ _)|false=>none)=_
  rw[decide_eq_true rfl,Of,decide_eq_true rfl]
 ·show some (Go.Abs.eqB _ _)=_
  rw[PQ];simp
 ·show some (_==_)=_
  simp
 ·exact absurd rfl h'
 ·cases h
theorem A77:∀xs:List Value,(∀x∈xs,TT x=true∧x≠.slice none 0 0)→UC xs xs=some true:=by
 intro xs
 induction xs with
 |nil=>intro _;rfl
 |cons x xs ih=>
  intro h
  have e:UC (x::xs) (x::xs)=(match WI x x with
   |some b=>(match UC xs xs with|some c=>some (b&&c)|none=>none)
   |none=>none):=rfl
  rw[e,B1f (h x (by simp)).1 (h x (by simp)).2,ih λy hy=>h y (by simp[hy])]
  rfl
theorem C5c {x:Nd} {K:AV→Al}:Go.Abs.Uw JB .eql (.agg x.cs) (.agg x.cs) K=K (Bo true):=by
 have e:∀(xs:List Value),UC xs xs=some true→∀K:AV→Al,(match(generalizing:=false) UC xs xs,BinOp.eql with
  |some q,.eql=>bB q K
  |some q,.neq=>bB (!q) K
  |_,_=>(none:Al))=K (Bo true):= λxs h K=>by rw[h];rfl
 exact e [.int .i64 x.op,.string ⟨⟨x.vn⟩⟩,.string ⟨⟨x.vd⟩⟩,.int .i64 x.u.p0,.int .i64 x.u.q0,.int .i64 x.u.p1,.int .i64 x.u.q1,.int .i64 x.u.p2,.int .i64 x.u.q2,.int .i64 x.u.p3,.int .i64 x.u.q3,.int .i64 x.u.p4,.int .i64 x.u.q4,.int .i64 x.u.p5,.int .i64 x.u.q5,.int .i64 x.u.p6,.int .i64 x.u.q6,
  .string ⟨⟨x.u.fn⟩⟩,.string ⟨⟨x.u.fd⟩⟩,.string ⟨⟨x.u.on⟩⟩,.string ⟨⟨x.u.od⟩⟩,.int .i64 x.u.kd,.int .i64 x.u.sc,.int .i64 x.n,.int .i64 x.l,.int .i64 x.r]
  (A77 _ (by simp[TT])) K
end
section
variable {L n:Nat}
def Vg (i:Nat):Nd:=⟨2,[],[],u0,i,0,0⟩
abbrev Jv:List AV:=[zI,zS,zS,zI,zI,zI,zI,zI,zI,zI,zI,zI,zI,zI,zI,zI,zI,zS,zS,zS,zS,zI,zI,zI,zI,zI]
abbrev E5:List AV:=[zI,zI,zI,zI,zI,zI,zI,zI,zI,zI,zI,zI,zI,zI,zS,zS,zS,zS,zI,zI]
abbrev Tr (x:Nd):Row:= .cells true AI x.cs
section
variable {K:KV} {x:Al} {ks:List Nat} {xs:List Nd} {id:Int} {o:UD} {i:Nat}
theorem A8h {x:Nd}:x.cs.all AV.one=true:=rfl
theorem A3B {t:TI} {a:Int} {K:AV→Al}:Go.Abs.Ak t .eql (I a) (.v (.int .i64 a)) K=K (Bo true):=by rw[Dz,decide_eq_true rfl]
theorem A60 (hb:ks.length≤6) (hi:i<ks.length) {at_:Int}:CS (rt (L+20) (n+2)) DA [.agg (Bx id (BC ks) (BU xs) o),.agg (Vg i).cs,I at_] (.tup [Bo true,Bo false]):=by
 intro K hK
 rw[R7]
 unfold L9 Ba Ar Ev CK
 rw[EY (L6 (.inr ⟨_,_,rfl⟩) (.inr ⟨_,_,rfl⟩))]
 have hp0:=A1 (H:=[]) (x:=GK id (BC ks) (BU xs) o) (by simp)
 have w0:=BE (x:=GK id (BC ks) (BU xs) o) Fv
 generalize ((A6 [],GK id (BC ks) (BU xs) o)::([]:Hp))=H0 at hp0 w0
 generalize A6 []=p at hp0
 rw[EY A8h]
 have hn1:=A1 (H:=H0) (x:=Tr (Vg i)) (by simp)
 have hp1:Ax ((A6 H0,Tr (Vg i))::H0) p=some (GK id (BC ks) (BU xs) o):=Bj (w0.lt hp0) hp0
 have w1:=BE (x:=Tr (Vg i)) w0
 generalize ((A6 H0,Tr (Vg i))::H0)=H1 at hn1 hp1 w1
 generalize A6 H0=r at hn1
 have f0:∀{s j:Nat} {K:AV→Al},AN j (.ptr s 0 0) K=K (.ptr s j 0):= λ{s j K}=>by rw[fA,Ln]
 have l0:∀{K},Aq Ab (.ptr r 0 0) H1 K=K (I 2):= λ{K}=>AY (p:=0) rfl hn1 (show 0<26 by decide)
 have b0:∀{K:AV→Al},Bk AH [(0,1,I 2)] K=K (.agg (I 2::Jv.tail)):= λ{K}=>_root_.id rfl
 rw[f0,l0,b0,Bf (cs:=Jv) rfl]
 have hm:=A1 (H:=H1) (x:= .cells true AI Jv) (by simp)
 rw[B7 (vs:=I 2::Jv.tail) hm rfl rfl rfl]
 have hm2:=AC (q:=true) (e:=AI) (cs:=I 2::Jv.tail) hm
 have w2:=Cj (r:=A6 H1) (y:= .cells true AI (I 2::Jv.tail)) (BE (x:= .cells true AI Jv) w1)
 have rl:=w1.lt hn1
 have plt:=w1.lt hp1
 have hn2:Ax (upd ((A6 H1,Row.cells true AI Jv)::H1) (A6 H1) (.cells true AI (I 2::Jv.tail))) r=some (Tr (Vg i)):=by
  rw[Au (by omega)];exact Bj rl hn1
 have hp2:Ax (upd ((A6 H1,Row.cells true AI Jv)::H1) (A6 H1) (.cells true AI (I 2::Jv.tail))) p=some (GK id (BC ks) (BU xs) o):=by
  rw[Au (by omega)];exact Bj plt hp1
 generalize upd ((A6 H1,Row.cells true AI Jv)::H1) (A6 H1) (.cells true AI (I 2::Jv.tail))=H2 at hm2 w2 hn2 hp2
 have hmr:A6 H1≠r:=by omega
 have hmp:A6 H1≠p:=by omega
 generalize A6 H1=m at hm2 hmr hmp
 simp only[Cp]
 have l2:∀{K},Aq Ab (.ptr r 0 0) H2 K=K (I 2):= λ{K}=>AY (p:=0) rfl hn2 (show 0<26 by decide)
 have l23:∀{K},Aq Ab (.ptr r 23 0) H2 K=K (I i):= λ{K}=>AY (p:=23) rfl hn2 (show 23<26 by decide)
 rw[f0,l2,Dz,decide_eq_false (by decide),BD,A3B,Dn,f0,l23,f0]
 rw[Ez (v:=I i) hm2 (show 23<26 by decide) rfl rfl rfl]
 have hm3:=AC (q:=true) (e:=AI) (cs:=(I 2::Jv.tail).set 23 (I i)) hm2
 have hn3:Ax (upd H2 m (.cells true AI ((I 2::Jv.tail).set 23 (I i)))) r=some (Tr (Vg i)):=by
  rw[Au (Ne.symm hmr)];exact hn2
 have hp3:Ax (upd H2 m (.cells true AI ((I 2::Jv.tail).set 23 (I i)))) p=some (GK id (BC ks) (BU xs) o):=by
  rw[Au (Ne.symm hmp)];exact hp2
 generalize upd H2 m (.cells true AI ((I 2::Jv.tail).set 23 (I i)))=H3 at hm3 hn3 hp3
 have ly:∀{K},Aq AH (.ptr m 0 0) H3 K=K (.agg (Vg i).cs):= λ{K}=>Bm rfl rfl hm3
 have lx:∀{K},Aq AH (.ptr r 0 0) H3 K=K (.agg (Vg i).cs):= λ{K}=>Bm rfl rfl hn3
 have l23':∀{K},Aq Ab (.ptr r 23 0) H3 K=K (I i):= λ{K}=>AY (p:=23) rfl hn3 (show 23<26 by decide)
 have l1:∀{K},Aq Am (.ptr p 1 0) H3 K=K (BC ks):= λ{K}=>AY (p:=1) rfl hp3 (show 1<23 by decide)
 have sb:∀{K},Go.Abs.Ak Ab .sub (I (ks.length:Int)) (.v (.int .i64 1)) K=K (I ((ks.length:Int)-1)):= λ{K}=>by rw[GE,Cb (by omega) (by omega)]
 have wi:∀{K:AV→Al},Ah (rt (L+20) (n+1)) Cy [I (i:Int),.v (.int .i64 0),I ((ks.length:Int)-1)] H3 K=K (Bo true):= λ{K}=>UK (n:=n) (by omega) (by omega) H3 K
 simp only[lx,ly,C5c,gT,f0,Co,l23',l1,NT,sb,wi,Wu]
 exact hK _ _ (λb=>⟨false,λK=>by kernel_rfl⟩)
theorem Er {H:Hp} {e:Nat} {zs vs:List AV} (w:Wf H) (hz:vs.length=zs.length):∃H',H'=upd ((A6 H,.cells true e zs)::H) (A6 H) (.cells true e vs)∧Ax H' (A6 H)=some (.cells true e vs)∧Wf H'∧(∀s x,Ax H s=some x→Ax H' s=some x∧s≠A6 H):=by
 have hm:=A1 (H:=H) (x:= .cells true e zs) (by simp)
 refine⟨_,rfl,AC hm,Cj (BE w),λs x h=> ?_⟩
 have:=w.lt h
 exact⟨by rw[Au (by omega)];exact Bj this h,by omega⟩
theorem UJ (hb:ks.length≤6) (hi:i<ks.length) {at_:Int} {w:AV}:CS (rt (L+20) (n+3)) BZ [.agg (Bx id (BC ks) (BU xs) o),.agg (Vg i).cs,I at_,w] (.tup [.agg (Cc (uu ks[i])),I 0]):=by
 intro K hK
 rw[F1]
 unfold XA2 Ar
 rw[EY (L6 (.inr ⟨_,_,rfl⟩) (.inr ⟨_,_,rfl⟩))]
 have hp0:=A1 (H:=[]) (x:=GK id (BC ks) (BU xs) o) (by simp)
 have w0:=BE (x:=GK id (BC ks) (BU xs) o) Fv
 generalize ((A6 [],GK id (BC ks) (BU xs) o)::([]:Hp))=H0 at hp0 w0
 generalize A6 []=p at hp0
 rw[EY A8h]
 have hn1:=A1 (H:=H0) (x:=Tr (Vg i)) (by simp)
 have hp1:Ax ((A6 H0,Tr (Vg i))::H0) p=some (GK id (BC ks) (BU xs) o):=Bj (w0.lt hp0) hp0
 have w1:=BE (x:=Tr (Vg i)) w0
 generalize ((A6 H0,Tr (Vg i))::H0)=H1 at hn1 hp1 w1
 generalize A6 H0=r at hn1
 rw[Bf (cs:=E5) rfl]
 have hq2:=A1 (H:=H1) (x:= .cells true Az E5) (by simp)
 have hn2:=Bj (x:= .cells true Az E5) (w1.lt hn1) hn1
 have hp2:=Bj (x:= .cells true Az E5) (w1.lt hp1) hp1
 have w2:=BE (x:= .cells true Az E5) w1
 generalize ((A6 H1,Row.cells true Az E5)::H1)=H2 at hq2 hn2 hp2 w2
 generalize A6 H1=q at hq2
 have lp:∀{K},Aq AA (.ptr p 0 0) H2 K=K (.agg (Bx id (BC ks) (BU xs) o)):= λ{K}=>Bm rfl rfl hp2
 have ln:∀{K},Aq AH (.ptr r 0 0) H2 K=K (.agg (Vg i).cs):= λ{K}=>Bm rfl rfl hn2
 have fx:OM true depth [.agg (Bx id (BC ks) (BU xs) o),.agg (Vg i).cs,I at_] [.agg (Bx id (BC ks) (BU xs) o),.agg (Vg i).cs,I at_] H2 false:= λK=>by kernel_rfl
 have sh:∀{K:AV→Al},Ah (rt (L+20) (n+2)) DA [.agg (Bx id (BC ks) (BU xs) o),.agg (Vg i).cs,I at_] H2 K=K (.tup [Bo true,Bo false]):= λ{K}=>Bc (A60 hb hi) fx
 have bu:∀{K:AV→Al},Bk Ag [] K=K (.agg E5):= λ{K}=>_root_.id rfl
 rw[lp,ln,sh,CW,CV,ntT,BD,bu,Bf (cs:=E5) rfl]
 rw[B7 (vs:=E5) (A1 (by simp)) rfl rfl rfl]
 obtain⟨H3,e3, -,w3,h3⟩:=Er (e:=Az) (zs:=E5) (vs:=E5) w2 rfl
 rw[←e3,bu,Bf (cs:=E5) rfl,B7 (vs:=E5) (A1 (by simp)) rfl rfl rfl]
 obtain⟨H4,e4, -,w4,h4⟩:=Er (e:=Az) (zs:=E5) (vs:=E5) w3 rfl
 rw[←e4]
 simp only[Cp]
 have f0:∀{s j:Nat} {K:AV→Al},AN j (.ptr s 0 0) K=K (.ptr s j 0):= λ{s j K}=>by rw[fA,Ln]
 have hn4:=(h4 _ _ (h3 _ _ hn2).1).1
 have hp4:=(h4 _ _ (h3 _ _ hp2).1).1
 have hq4:=(h4 _ _ (h3 _ _ hq2).1).1
 have lu:∀{K},Aq Ag (.ptr r 3 0) H4 K=K (.agg E5):= λ{K}=>EX (p:=3) rfl hn4 (show 23≤26 by decide)
 rw[BD,f0,lu,Bf (cs:=E5) rfl,B7 (vs:=E5) (A1 (by simp)) rfl rfl rfl]
 obtain⟨H5,e5,hu5,w5,h5⟩:=Er (e:=Az) (zs:=E5) (vs:=E5) w4 rfl
 rw[←e5]
 obtain⟨hn5,nr⟩:=h5 _ _ hn4
 obtain⟨hp5,np⟩:=h5 _ _ hp4
 obtain⟨hq5,nq⟩:=h5 _ _ hq4
 generalize A6 H4=v at hu5 nr np nq
 have l0:∀{K},Aq Ab (.ptr r 0 0) H5 K=K (I 2):= λ{K}=>AY (p:=0) rfl hn5 (show 0<26 by decide)
 have l23:∀{K},Aq Ab (.ptr r 23 0) H5 K=K (I i):= λ{K}=>AY (p:=23) rfl hn5 (show 23<26 by decide)
 have l1:∀{K},Aq Am (.ptr p 1 0) H5 K=K (BC ks):= λ{K}=>AY (p:=1) rfl hp5 (show 1<23 by decide)
 rw[f0,l0,A3B,Dn,f0,l1,f0,l23,Xd hi,Xc,B7 (vs:=Cc (uu ks[i])) hu5 rfl rfl rfl]
 have hu6:=AC (q:=true) (e:=Az) (cs:=Cc (uu ks[i])) hu5
 have hq6:Ax (upd H5 v (.cells true Az (Cc (uu ks[i])))) q=some (.cells true Az E5):=by rw[Au nq];exact hq5
 generalize upd H5 v (.cells true Az (Cc (uu ks[i])))=H6 at hu6 hq6
 rw[GF]
 show Av (.v (.bool false)) _ _=_
 rw[BD,Bm rfl rfl hu6,B7 (vs:=Cc (uu ks[i])) hq6 rfl rfl rfl,Bm rfl rfl (AC hq6)]
 exact hK _ _ (λb=>⟨false,λK=>by kernel_rfl⟩)
end
end
section
variable {L n:Nat}
theorem B1N {k:Nat} {H:Hp} {K:KV}:Fh Az 20 Ag 1 [(0,20,.agg (Cc (uu k)))] H K=K (.sl 20 (A6 H) 0 1) ((A6 H,.cells false Az (Gh k))::H):=by
 have e:Fh Az 20 Ag 1 [(0,20,.agg (Cc (uu k)))] H K=HE H (λs=>K (.sl 20 s 0 1) ((s,.cells false Az (Gh k))::H)):=_root_.id rfl
 rw[e,BX]
theorem C5t {H:Hp} {v:AV} {l:List Nat} (k:Nat) (h:B1 H Az 20 v l.length (l.flatMap Gh)) (w:Wf H) (hn:l.length<100):
 ∃v' H',(∀K:KV,(Fh Az 20 Ag 1 [(0,20,.agg (Cc (uu k)))] H λv1 H1=>DN Az 20 Ag Am v v1 H1 K)=K v' H')∧B1 H' Az 20 v' (l++[k]).length ((l++[k]).flatMap Gh)∧Wf H'∧A6 H≤A6 H'∧(∀s x,Ax H s=some x→¬AX v s→Ax H' s=some x)∧(∀s,AX v' s→A6 H≤s):=by
 have hv1:B1 ((A6 H,.cells false Az (Gh k))::H) Az 20 v l.length (l.flatMap Gh):=h.lat w (Lat.cons H _ (λ_=>False)) (λ_ _ h=>h)
 have hsrc:B1 ((A6 H,.cells false Az (Gh k))::H) Az 20 (.sl 20 (A6 H) 0 1) 1 (Gh k):= .inr ⟨A6 H,false,rfl,A1 (by simp),by show 20=_;rfl⟩
 obtain⟨v',H',h1,h2,h3,h4⟩:=apt (ie:=Ag) (i2:=Am) hv1 (λK=>SZ (K:=K) hsrc) rfl rfl (by decide) rfl rfl (by show(l.length+1)*192≤_;omega) (by omega)
 have h5:=(Lat.cons H (.cells false Az (Gh k)) (AX v)).trans h4 (R:=AX v) (λ_ _ h=>h) (λ_ _ h=>h)
 refine⟨v',H',λK=> ?_,by rw[FA,l2g];simpa using h2,h5.wf w,h5.nx,λs x hs hn=>h5.keep w s x hs hn,λs hs=> ?_⟩
 ·rw[B1N]
  exact h1 K
 ·rw[h3 s hs];exact l1p _
def C4y (k:Nat):List Value:=[.int .i64 (uu k).p0,.int .i64 (uu k).q0,.int .i64 (uu k).p1,.int .i64 (uu k).q1,.int .i64 (uu k).p2,.int .i64 (uu k).q2,.int .i64 (uu k).p3,.int .i64 (uu k).q3,.int .i64 (uu k).p4,.int .i64 (uu k).q4,.int .i64 (uu k).p5,.int .i64 (uu k).q5,.int .i64 (uu k).p6,.int .i64 (uu k).q6,
 .string ⟨⟨(uu k).fn⟩⟩,.string ⟨⟨(uu k).fd⟩⟩,.string ⟨⟨(uu k).on⟩⟩,.string ⟨⟨(uu k).od⟩⟩,.int .i64 (uu k).kd,.int .i64 (uu k).sc]
theorem C21 (k:Nat):Gh k=(C4y k).map λx=> .v x:=rfl
theorem C4x (l:List Nat):l.flatMap Gh=(l.flatMap C4y).map λx=> .v x:=by
 induction l with
 |nil=>rfl
 |cons k l ih=>rw[l00,l00,l01,ih,C21]
def OQ (l:List Nat):AV:=match l with
 |[]=>AO
 |k::l=> .list (k::l).length ((k::l).flatMap Gh)
theorem Yn {D:Nat} {b:Bool} {H:Hp} {v:AV} {l:List Nat} (h:B1 H Az 20 v l.length (l.flatMap Gh)) (h0:l=[]→v=AO):∃q,Fx b (D+1) v (OQ l) H q:=by
 rcases h with⟨rfl,h2,_⟩|⟨r,q,rfl,h2,h3⟩
 ·cases l with
  |nil=>exact⟨false,Ed⟩
  |cons a l=>simp at h2
 ·cases l with
  |nil=>have:=h0 rfl;cases this
  |cons a l=>
   refine⟨true,?_⟩
   show Fx b (D+1) _ (.list (a::l).length ((a::l).flatMap Gh)) H true
   rw[C4x] at h2 h3⊢
   exact Vn (q':=false) h2 h3 (Kf _root_.id _)
theorem B8I {b:Bool} {H:Hp} {v:AV} {l:List Nat} (h:B1 H Az 20 v l.length (l.flatMap Gh)) (h0:l=[]→v=AO):∃q,Fx b depth v (OQ l) H q:=Yn (D:=depth-1) h h0
end
section
variable {L n:Nat}
section
variable {K:KV} {x:Al} {ks ty:List Nat} {xs:List Nd} {id:Int} {o:UD}
def RTy (L n:Nat) (id:Int) (ks:List Nat) (xs:List Nd) (o:UD) (ty:List Nat):Prop:=
 ∀i (h:i<xs.length),CS (rt (L+20) (n+42)) BZ [.agg (Bx id (BC ks) (BU xs) o),.agg xs[i].cs,I i,OQ (ty.take i)] (.tup [.agg (Cc (uu (ty.getD i 0))),I 0])
theorem C1F {d:Nat}:∀l:List Nat,(l.flatMap Gh).all (pl d)=true:=by
 intro l
 induction l with
 |nil=>rfl
 |cons a l ih=>rw[l00,List.all_append,ih];cases d<;>rfl
theorem C1E {d:Nat}:∀l:List Nd,(l.flatMap ndC).all (pl d)=true:=by
 intro l
 induction l with
 |nil=>rfl
 |cons a l ih=>rw[l00,List.all_append,ih];cases d<;>rfl
theorem B73 {d:Nat} (l:List Nat):pl (d+1) (BC l)=true:=C1F l
theorem A9F {d:Nat} (l:List Nd):pl (d+1) (BU l)=true:=C1E l
theorem B72:pl 6 (.agg (Bx id (BC ks) (BU xs) o))=true:=by
 show(pl 5 (I id)&&(pl 5 (BC ks)&&(pl 5 (BU xs)&&true)))=true
 rw[B73,A9F];rfl
theorem C1e {k22:AV→AV→Hp→Al} {p:Nat} (hT:RTy L n id ks xs o ty) (hlen:ty.length=xs.length) (hb:xs.length<100)
 (hx:∀v H,B1 H Az 20 v ty.length (ty.flatMap Gh)→(ty=[]→v=AO)→Ax H p=some (GK id (BC ks) (BU xs) o)→k22 (.ptr p 0 0) v H=x):
 ∀(f i:Nat) (v:AV) (H:Hp),i≤xs.length→xs.length-i<f→B1 H Az 20 v (ty.take i).length ((ty.take i).flatMap Gh)→(ty.take i=[]→v=AO)→¬AX v p→Ax H p=some (GK id (BC ks) (BU xs) o)→Wf H→
 Lw (L+20) (rt (L+20) (n+42)) K k22 f (.ptr p 0 0) v (I i) H=x:=by
 intro f
 induction f with
 |zero=>intro i v H _ h;omega
 |succ f ih=>
  intro i v H hi hf hs h0 hr hp w
  rw[XB]
  unfold Pe Ar
  have f0:∀{s j:Nat} {K:AV→Al},AN j (.ptr s 0 0) K=K (.ptr s j 0):= λ{s j K}=>by rw[fA,Ln]
  have l2:∀{K},Aq A0 (.ptr p 2 0) H K=K (BU xs):= λ{K}=>AY (p:=2) rfl hp (show 2<23 by decide)
  have lp:∀{K},Aq AA (.ptr p 0 0) H K=K (.agg (Bx id (BC ks) (BU xs) o)):= λ{K}=>Bm rfl rfl hp
  rw[f0,l2,RL]
  by_cases h:i<xs.length
  ·have tyc:∀{H:Hp} (_:B1 H Az 20 v (ty.take i).length ((ty.take i).flatMap Gh)) {K:AV→Al},Ah (rt (L+20) (n+42)) BZ [.agg (Bx id (BC ks) (BU xs) o),.agg xs[i].cs,I i,v] H K=K (.tup [.agg (Cc (uu (ty.getD i 0))),I 0]):= λ{H} hs {K}=>by
    obtain⟨q,hq⟩:=B8I (b:=true) hs h0
    have a1:Fx true depth (.agg (Bx id (BC ks) (BU xs) o)) (.agg (Bx id (BC ks) (BU xs) o)) H false:= λK=>by kernel_rfl
    have a2:Fx true depth (.agg xs[i].cs) (.agg xs[i].cs) H false:= λK=>by kernel_rfl
    exact Bc (hT i h) (A2 a1 (A2 a2 (A2 (q:=false) Ed (A2 hq Bt))))
   rw[FW (by omega),Dn]
   simp only[lp,BJ,f0,l2,A06 h,A05,tyc hs,CW,CV]
   rw[Bf (cs:=E5) rfl,Co]
   have hz:=A1 (H:=H) (x:= .cells true Az E5) (by simp)
   rw[B7 (vs:=Cc (uu (ty.getD i 0))) hz rfl rfl rfl,Co]
   have hp3:=Bj (x:= .cells true Az E5) (w.lt hp) hp
   have hs3:B1 ((A6 H,.cells true Az E5)::H) Az 20 v (ty.take i).length ((ty.take i).flatMap Gh):=hs.lat w (Lat.cons H _ (λ_=>False)) (λ_ _ h=>h)
   obtain⟨H4,e4,hv4,w4,h4⟩:=Er (e:=Az) (zs:=E5) (vs:=Cc (uu (ty.getD i 0))) w rfl
   rw[←e4]
   have hp4:=(h4 _ _ hp).1
   have hs4:B1 H4 Az 20 v (ty.take i).length ((ty.take i).flatMap Gh):=by
    rcases hs with hs|⟨r,q,h1,h2,h3⟩
    ·exact .inl hs
    ·exact .inr ⟨r,q,h1,(h4 _ _ h2).1,h3⟩
   have lp3:∀{K},Aq AA (.ptr p 0 0) ((A6 H,.cells true Az E5)::H) K=K (.agg (Bx id (BC ks) (BU xs) o)):= λ{K}=>Bm rfl rfl hp3
   have l23:∀{K},Aq A0 (.ptr p 2 0) ((A6 H,.cells true Az E5)::H) K=K (BU xs):= λ{K}=>AY (p:=2) rfl hp3 (show 2<23 by decide)
   rw[lp3,R5 B72,l23,R5 (A9F xs),R5 (by rfl),tyc hs3,R5 (by rfl),GF]
   show Av (.v (.bool false)) _ _=_
   rw[BD,Bm rfl rfl hv4]
   have ht:ty.take i++[ty.getD i 0]=ty.take (i+1):=by
    have hl:i<ty.length:=by omega
    rw[l04 hl];simp[List.getD,JV hl]
   obtain⟨v',H5,e5,hs5,w5, -,keep,new⟩:=C5t (ty.getD i 0) hs4 w4 (by rw[l0g];omega)
   rw[e5,DS (by omega)]
   rw[ht] at hs5
   exact ih (i+1) v' H5 (by omega) (by omega) hs5 (λe=>by rw[←ht] at e;simp at e) (λhr'=>by have:=new _ hr';have:=w4.lt hp4;omega) (keep _ _ hp4 hr) w5
  ·rw[FX (by omega),BD]
   have:i=xs.length:=by omega
   subst this
   rw[←hlen,l06] at hs h0
   exact hx v H hs h0 hp
end
end
section
variable {L n:Nat}
theorem A9t {H:Hp} {v:AV} {l:List Nat} {i:Nat} (h:B1 H Az 20 v l.length (l.flatMap Gh)) (hi:i<l.length):∃a,(∀K:AV→Al,B0 Am v (I i) K=K a)∧(∀K:AV→Al,Aq Ag a H K=K (.agg (Cc (uu l[i])))):=by
 rcases h with⟨_,h2,_⟩|⟨r,q,rfl,h2,h3⟩
 ·omega
 ·refine⟨.ptr r (i*20) 0,λK=> ?_,λK=> ?_⟩
  ·have e1:B0 Am (.sl 20 r 0 l.length) (I (i:Int)) K=iN (i:Int) λm=>ck (Nat.blt m l.length) (fN (Nat.add 0 (Nat.mul m 20)) λp=>K (.ptr r p 0)):=_root_.id rfl
   rw[e1,JW,DI]
   have h3:Nat.blt i l.length=true:=by rw[Uk];exact hi
   rw[h3]
   show K (.ptr r (0+i*20) 0)=_
   rw[Ln]
  ·rw[EX rfl h2 (by rw[h3];show i*20+20≤_;omega)]
   have:((l.flatMap Gh).drop (i*20)).take 20=Gh l[i]:=A1N Gh 20 (λ_=>rfl) l i hi
   show K (.agg (((l.flatMap Gh).drop (i*20)).take 20))=_
   rw[this];rfl
theorem C5b {u:UD} {K:AV→Al}:Go.Abs.Uw Ip .neq (.agg (Cc u)) (.agg (Cc u)) K=K (Bo false):=by
 have e:∀(xs:List Value),UC xs xs=some true→∀K:AV→Al,(match(generalizing:=false) UC xs xs,BinOp.neq with
  |some q,.eql=>bB q K
  |some q,.neq=>bB (!q) K
  |_,_=>(none:Al))=K (Bo false):= λxs h K=>by rw[h];rfl
 exact e [.int .i64 u.p0,.int .i64 u.q0,.int .i64 u.p1,.int .i64 u.q1,.int .i64 u.p2,.int .i64 u.q2,.int .i64 u.p3,.int .i64 u.q3,.int .i64 u.p4,.int .i64 u.q4,.int .i64 u.p5,.int .i64 u.q5,.int .i64 u.p6,.int .i64 u.q6,
  .string ⟨⟨u.fn⟩⟩,.string ⟨⟨u.fd⟩⟩,.string ⟨⟨u.on⟩⟩,.string ⟨⟨u.od⟩⟩,.int .i64 u.kd,.int .i64 u.sc]
  (A77 _ (by simp[TT])) K
section
variable {ks ty:List Nat} {xs:List Nd} {id:Int}
theorem B6Y (hL:100<L) (hT:RTy L n id ks xs (uu (ty.getD (xs.length-1) 0)) ty) (hlen:ty.length=xs.length) (hk:∀k∈ks,k<52) (hb:ks.length≤6) (hn:1≤xs.length) (hn':xs.length≤40) (h1:1≤id) (h2:id≤1000000):
 CS (rt (L+20) (n+43)) Nr [.agg (Bx id (BC ks) (BU xs) (uu (ty.getD (xs.length-1) 0)))] (.tup [OQ ty,I 0,I 0]):=by
 intro K hK
 rw[Zv]
 unfold QJ Ar
 rw[EY (L6 (.inr ⟨_,_,rfl⟩) (.inr ⟨_,_,rfl⟩))]
 have hp0:=A1 (H:=[]) (x:=GK id (BC ks) (BU xs) (uu (ty.getD (xs.length-1) 0))) (by simp)
 have w0:=BE (x:=GK id (BC ks) (BU xs) (uu (ty.getD (xs.length-1) 0))) Fv
 generalize ((A6 [],GK id (BC ks) (BU xs) (uu (ty.getD (xs.length-1) 0)))::([]:Hp))=H0 at hp0 w0
 generalize A6 []=p at hp0
 have bg:∀{K:AV→Al},Ah (rt (L+20) (n+42)) XA5 [.agg (Bx id (BC ks) (BU xs) (uu (ty.getD (xs.length-1) 0)))] H0 K=K (.tup [Bo true,Bo true]):= λ{K}=>Bc (B3u (n:=n+1) hL hk hb hn hn' h1 h2) (Sn (.inr ⟨_,_,rfl⟩) (.inr ⟨_,_,rfl⟩))
 rw[Bm rfl rfl hp0,bg,CW,CV,ntT,BD]
 simp only[Cp]
 refine C1e hT hlen (by omega) ?_ (L+20) 0 _ H0 (by omega) (by omega) (.inl ⟨rfl,rfl,rfl⟩) (λ_=>rfl) (λ⟨_,_,_,h⟩=>by cases h) hp0 w0
 intro v H hs h0 hp
 have f0:∀{s j:Nat} {K:AV→Al},AN j (.ptr s 0 0) K=K (.ptr s j 0):= λ{s j K}=>by rw[fA,Ln]
 have hlt:ty.length-1<ty.length:=by omega
 obtain⟨a,ha1,ha2⟩:=A9t hs hlt
 have ho:∀{K},Aq Ag (.ptr p 3 0) H K=K (.agg (Cc (uu (ty.getD (xs.length-1) 0)))):= λ{K}=>EX (p:=3) rfl hp (show 23≤23 by decide)
 have eg:ty[ty.length-1]=ty.getD (xs.length-1) 0:=by rw[←hlen];simp[List.getD,JV hlt]
 rw[eg] at ha2
 rw[Js rfl hs,BJ,A3f (by omega) (by omega),BJ,ha1,BJ,ha2,BJ,f0,BJ,ho,BJ,C5b,BJ,BD]
 exact hK _ _ (λb=>by
  obtain⟨q,hq⟩:=Yn (D:=depth-2) (b:=b) hs h0
  exact⟨_,Yo (D:=depth-1) (A2 hq (A2 (q:=false) Ed (A2 (q:=false) Ed Bt)))⟩)
theorem B3g (hL:100<L) (hT:RTy L n id ks xs (uu (ty.getD (xs.length-1) 0)) ty) (hlen:ty.length=xs.length) (hk:∀k∈ks,k<52) (hb:ks.length≤6) (hn:1≤xs.length) (hn':xs.length≤40) (h1:1≤id) (h2:id≤1000000):
 CS (rt (L+20) (n+44)) Eg [.agg (Bx id (BC ks) (BU xs) (uu (ty.getD (xs.length-1) 0)))] (Bo true):=by
 intro K hK
 rw[Zt]
 unfold QH Ar
 rw[EY (L6 (.inr ⟨_,_,rfl⟩) (.inr ⟨_,_,rfl⟩))]
 have hp0:=A1 (H:=[]) (x:=GK id (BC ks) (BU xs) (uu (ty.getD (xs.length-1) 0))) (by simp)
 generalize ((A6 [],GK id (BC ks) (BU xs) (uu (ty.getD (xs.length-1) 0)))::([]:Hp))=H0 at hp0
 have ck:∀{K:AV→Al},Ah (rt (L+20) (n+43)) Nr [.agg (Bx id (BC ks) (BU xs) (uu (ty.getD (xs.length-1) 0)))] H0 K=K (.tup [OQ ty,I 0,I 0]):= λ{K}=>Bc (B6Y hL hT hlen hk hb hn hn' h1 h2) (Sn (.inr ⟨_,_,rfl⟩) (.inr ⟨_,_,rfl⟩))
 have e2:∀{K:AV→Al},AD (.tup [OQ ty,I 0,I 0]) 2 K=K (I 0):= λ{K}=>_root_.id rfl
 have e0:∀{K:AV→Al},AD (.tup [OQ ty,I 0,I 0]) 0 K=K (OQ ty):= λ{K}=>_root_.id rfl
 have e1:∀{K:AV→Al},AD (.tup [OQ ty,I 0,I 0]) 1 K=K (I 0):= λ{K}=>_root_.id rfl
 rw[Bm rfl rfl hp0,ck,e0,e1,e2,A3B]
 exact hK _ _ (λb=>⟨false,λK=>by kernel_rfl⟩)
end
end
section
variable {L n:Nat}
section
variable {ks:List Nat} {xs:List Nd} {id:Int} {o:UD}
def Kv (ks:List Nat):List Nd:=(List.range ks.length).map Vg
theorem DP:(Kv ks).length=ks.length:=by simp[Kv]
theorem WK {i:Nat} (h:i<(Kv ks).length):(Kv ks)[i]=Vg i:=by simp[Kv]
theorem C1a (hb:ks.length≤6):RTy L n id ks (Kv ks) o ks:=by
 intro i h
 rw[WK h]
 have hi:i<ks.length:=by rw[DP] at h;exact h
 have e:ks.getD i 0=ks[i]:=by simp[List.getD,JV hi]
 rw[e]
 exact UJ (n:=n+39) hb hi
theorem ZV {y:Nd} {k:Nat} (hb:ks.length≤6) (hy:CS (rt (L+20) (n+42)) BZ [.agg (Bx id (BC ks) (BU (Kv ks++[y])) o),.agg y.cs,I ks.length,OQ ks] (.tup [.agg (Cc (uu k)),I 0])):
 RTy L n id ks (Kv ks++[y]) o (ks++[k]):=by
 intro i h
 rw[FA,DP] at h
 by_cases hi:i<ks.length
 ·have e:(Kv ks++[y])[i]'(by rw[FA,DP];exact h)=Vg i:=by
   rw[List.getElem_append_left (by rw[DP];exact hi)];exact WK _
  rw[e]
  have e2:(ks++[k]).getD i 0=ks[i]:=by simp[List.getD,l0l hi,JV hi]
  rw[e2]
  exact UJ (n:=n+39) hb hi
 ·have hi':i=ks.length:=by simp at h;omega
  subst hi'
  have e:(Kv ks++[y])[ks.length]'(by rw[FA,DP];exact h)=y:=by
   rw[List.getElem_append_right (by rw[DP];omega)];simp
  rw[e]
  have e2:(ks++[k]).getD ks.length 0=k:=by simp[List.getD]
  rw[e2,List.take_left']
  ·exact hy
  ·rfl
end
end
section
def dg (k:Nat):List UInt8:=if k<10 then[UInt8.ofNat (48+k)] else if k<100 then[UInt8.ofNat (48+k/10),UInt8.ofNat (48+k%10)] else[UInt8.ofNat (48+k/100),UInt8.ofNat (48+k/10%10),UInt8.ofNat (48+k%10)]
variable (L n:Nat)
theorem C1y:((List.range 50).all λk=>(λi=>HQ (AZ (C9 (rt (L+20) (n+10)) Bi [I (i:Nat)]) (S (dg i)))) (k+0))=true:=by kernel_rfl
theorem C1x:((List.range 50).all λk=>(λi=>HQ (AZ (C9 (rt (L+20) (n+10)) Bi [I (i:Nat)]) (S (dg i)))) (k+50))=true:=by kernel_rfl
theorem C1w:((List.range 50).all λk=>(λi=>HQ (AZ (C9 (rt (L+20) (n+10)) Bi [I (i:Nat)]) (S (dg i)))) (k+100))=true:=by kernel_rfl
theorem C1v:((List.range 50).all λk=>(λi=>HQ (AZ (C9 (rt (L+20) (n+10)) Bi [I (i:Nat)]) (S (dg i)))) (k+150))=true:=by kernel_rfl
theorem C1u:((List.range 50).all λk=>(λi=>HQ (AZ (C9 (rt (L+20) (n+10)) Bi [I (i:Nat)]) (S (dg i)))) (k+200))=true:=by kernel_rfl
theorem C1t:((List.range 50).all λk=>(λi=>HQ (AZ (C9 (rt (L+20) (n+10)) Bi [I (i:Nat)]) (S (dg i)))) (k+250))=true:=by kernel_rfl
theorem C1s:((List.range 50).all λk=>(λi=>HQ (AZ (C9 (rt (L+20) (n+10)) Bi [I (i:Nat)]) (S (dg i)))) (k+300))=true:=by kernel_rfl
theorem C1r:((List.range 50).all λk=>(λi=>HQ (AZ (C9 (rt (L+20) (n+10)) Bi [I (i:Nat)]) (S (dg i)))) (k+350))=true:=by kernel_rfl
theorem C1q:((List.range 50).all λk=>(λi=>HQ (AZ (C9 (rt (L+20) (n+10)) Bi [I (i:Nat)]) (S (dg i)))) (k+400))=true:=by kernel_rfl
theorem C1p:((List.range 50).all λk=>(λi=>HQ (AZ (C9 (rt (L+20) (n+10)) Bi [I (i:Nat)]) (S (dg i)))) (k+450))=true:=by kernel_rfl
theorem B6X:((List.range 50).all λk=>(λi=>HQ (AZ (C9 (rt (L+20) (n+10)) Bi [I (i:Nat)]) (S (dg i)))) (k+500))=true:=by kernel_rfl
theorem B6W:((List.range 50).all λk=>(λi=>HQ (AZ (C9 (rt (L+20) (n+10)) Bi [I (i:Nat)]) (S (dg i)))) (k+550))=true:=by kernel_rfl
theorem B6V:((List.range 50).all λk=>(λi=>HQ (AZ (C9 (rt (L+20) (n+10)) Bi [I (i:Nat)]) (S (dg i)))) (k+600))=true:=by kernel_rfl
theorem B6U:((List.range 50).all λk=>(λi=>HQ (AZ (C9 (rt (L+20) (n+10)) Bi [I (i:Nat)]) (S (dg i)))) (k+650))=true:=by kernel_rfl
theorem B6T:((List.range 50).all λk=>(λi=>HQ (AZ (C9 (rt (L+20) (n+10)) Bi [I (i:Nat)]) (S (dg i)))) (k+700))=true:=by kernel_rfl
theorem B6S:((List.range 50).all λk=>(λi=>HQ (AZ (C9 (rt (L+20) (n+10)) Bi [I (i:Nat)]) (S (dg i)))) (k+750))=true:=by kernel_rfl
theorem B6R:((List.range 50).all λk=>(λi=>HQ (AZ (C9 (rt (L+20) (n+10)) Bi [I (i:Nat)]) (S (dg i)))) (k+800))=true:=by kernel_rfl
theorem B6Q:((List.range 50).all λk=>(λi=>HQ (AZ (C9 (rt (L+20) (n+10)) Bi [I (i:Nat)]) (S (dg i)))) (k+850))=true:=by kernel_rfl
theorem B6P:((List.range 50).all λk=>(λi=>HQ (AZ (C9 (rt (L+20) (n+10)) Bi [I (i:Nat)]) (S (dg i)))) (k+900))=true:=by kernel_rfl
theorem C6d (i:Nat) (h:i<950):PS (rt (L+20) (n+10)) Bi [I (i:Nat)] (S (dg i)):=by
 refine B2 (λH=>by first|exact λK=>by kernel_rfl) ?_
 by_cases h0:i<50
 ·have:=Hl.1 (C1y L n) (i-0) (IV.2 (by omega))
  have e:i-0+0=i:=by omega
  simp only[e] at this
  exact this
 by_cases h1:i<100
 ·have:=Hl.1 (C1x L n) (i-50) (IV.2 (by omega))
  have e:i-50+50=i:=by omega
  simp only[e] at this
  exact this
 by_cases h2:i<150
 ·have:=Hl.1 (C1w L n) (i-100) (IV.2 (by omega))
  have e:i-100+100=i:=by omega
  simp only[e] at this
  exact this
 by_cases h3:i<200
 ·have:=Hl.1 (C1v L n) (i-150) (IV.2 (by omega))
  have e:i-150+150=i:=by omega
  simp only[e] at this
  exact this
 by_cases h4:i<250
 ·have:=Hl.1 (C1u L n) (i-200) (IV.2 (by omega))
  have e:i-200+200=i:=by omega
  simp only[e] at this
  exact this
 by_cases h5:i<300
 ·have:=Hl.1 (C1t L n) (i-250) (IV.2 (by omega))
  have e:i-250+250=i:=by omega
  simp only[e] at this
  exact this
 by_cases h6:i<350
 ·have:=Hl.1 (C1s L n) (i-300) (IV.2 (by omega))
  have e:i-300+300=i:=by omega
  simp only[e] at this
  exact this
 by_cases h7:i<400
 ·have:=Hl.1 (C1r L n) (i-350) (IV.2 (by omega))
  have e:i-350+350=i:=by omega
  simp only[e] at this
  exact this
 by_cases h8:i<450
 ·have:=Hl.1 (C1q L n) (i-400) (IV.2 (by omega))
  have e:i-400+400=i:=by omega
  simp only[e] at this
  exact this
 by_cases h9:i<500
 ·have:=Hl.1 (C1p L n) (i-450) (IV.2 (by omega))
  have e:i-450+450=i:=by omega
  simp only[e] at this
  exact this
 by_cases h10:i<550
 ·have:=Hl.1 (B6X L n) (i-500) (IV.2 (by omega))
  have e:i-500+500=i:=by omega
  simp only[e] at this
  exact this
 by_cases h11:i<600
 ·have:=Hl.1 (B6W L n) (i-550) (IV.2 (by omega))
  have e:i-550+550=i:=by omega
  simp only[e] at this
  exact this
 by_cases h12:i<650
 ·have:=Hl.1 (B6V L n) (i-600) (IV.2 (by omega))
  have e:i-600+600=i:=by omega
  simp only[e] at this
  exact this
 by_cases h13:i<700
 ·have:=Hl.1 (B6U L n) (i-650) (IV.2 (by omega))
  have e:i-650+650=i:=by omega
  simp only[e] at this
  exact this
 by_cases h14:i<750
 ·have:=Hl.1 (B6T L n) (i-700) (IV.2 (by omega))
  have e:i-700+700=i:=by omega
  simp only[e] at this
  exact this
 by_cases h15:i<800
 ·have:=Hl.1 (B6S L n) (i-750) (IV.2 (by omega))
  have e:i-750+750=i:=by omega
  simp only[e] at this
  exact this
 by_cases h16:i<850
 ·have:=Hl.1 (B6R L n) (i-800) (IV.2 (by omega))
  have e:i-800+800=i:=by omega
  simp only[e] at this
  exact this
 by_cases h17:i<900
 ·have:=Hl.1 (B6Q L n) (i-850) (IV.2 (by omega))
  have e:i-850+850=i:=by omega
  simp only[e] at this
  exact this
 by_cases h18:i<950
 ·have:=Hl.1 (B6P L n) (i-900) (IV.2 (by omega))
  have e:i-900+900=i:=by omega
  simp only[e] at this
  exact this
 omega
end
section
variable (L n:Nat)
theorem B9n:((List.range 50).all λk=>(λi=>HQ (AZ (C9 (rt (L+20) (n+10)) Bz [I (i:Nat)]) (S (dg i)))) (k+0))=true:=by kernel_rfl
theorem B9m:((List.range 50).all λk=>(λi=>HQ (AZ (C9 (rt (L+20) (n+10)) Bz [I (i:Nat)]) (S (dg i)))) (k+50))=true:=by kernel_rfl
theorem B9l:((List.range 50).all λk=>(λi=>HQ (AZ (C9 (rt (L+20) (n+10)) Bz [I (i:Nat)]) (S (dg i)))) (k+100))=true:=by kernel_rfl
theorem B9k:((List.range 50).all λk=>(λi=>HQ (AZ (C9 (rt (L+20) (n+10)) Bz [I (i:Nat)]) (S (dg i)))) (k+150))=true:=by kernel_rfl
theorem B9j:((List.range 50).all λk=>(λi=>HQ (AZ (C9 (rt (L+20) (n+10)) Bz [I (i:Nat)]) (S (dg i)))) (k+200))=true:=by kernel_rfl
theorem B9i:((List.range 50).all λk=>(λi=>HQ (AZ (C9 (rt (L+20) (n+10)) Bz [I (i:Nat)]) (S (dg i)))) (k+250))=true:=by kernel_rfl
theorem B9h:((List.range 50).all λk=>(λi=>HQ (AZ (C9 (rt (L+20) (n+10)) Bz [I (i:Nat)]) (S (dg i)))) (k+300))=true:=by kernel_rfl
theorem B9g:((List.range 50).all λk=>(λi=>HQ (AZ (C9 (rt (L+20) (n+10)) Bz [I (i:Nat)]) (S (dg i)))) (k+350))=true:=by kernel_rfl
theorem B9f:((List.range 50).all λk=>(λi=>HQ (AZ (C9 (rt (L+20) (n+10)) Bz [I (i:Nat)]) (S (dg i)))) (k+400))=true:=by kernel_rfl
theorem B9e:((List.range 50).all λk=>(λi=>HQ (AZ (C9 (rt (L+20) (n+10)) Bz [I (i:Nat)]) (S (dg i)))) (k+450))=true:=by kernel_rfl
theorem B5P:((List.range 50).all λk=>(λi=>HQ (AZ (C9 (rt (L+20) (n+10)) Bz [I (i:Nat)]) (S (dg i)))) (k+500))=true:=by kernel_rfl
theorem B5O:((List.range 50).all λk=>(λi=>HQ (AZ (C9 (rt (L+20) (n+10)) Bz [I (i:Nat)]) (S (dg i)))) (k+550))=true:=by kernel_rfl
theorem B5N:((List.range 50).all λk=>(λi=>HQ (AZ (C9 (rt (L+20) (n+10)) Bz [I (i:Nat)]) (S (dg i)))) (k+600))=true:=by kernel_rfl
theorem B5M:((List.range 50).all λk=>(λi=>HQ (AZ (C9 (rt (L+20) (n+10)) Bz [I (i:Nat)]) (S (dg i)))) (k+650))=true:=by kernel_rfl
theorem B5L:((List.range 50).all λk=>(λi=>HQ (AZ (C9 (rt (L+20) (n+10)) Bz [I (i:Nat)]) (S (dg i)))) (k+700))=true:=by kernel_rfl
theorem B5K:((List.range 50).all λk=>(λi=>HQ (AZ (C9 (rt (L+20) (n+10)) Bz [I (i:Nat)]) (S (dg i)))) (k+750))=true:=by kernel_rfl
theorem B5J:((List.range 50).all λk=>(λi=>HQ (AZ (C9 (rt (L+20) (n+10)) Bz [I (i:Nat)]) (S (dg i)))) (k+800))=true:=by kernel_rfl
theorem B5I:((List.range 50).all λk=>(λi=>HQ (AZ (C9 (rt (L+20) (n+10)) Bz [I (i:Nat)]) (S (dg i)))) (k+850))=true:=by kernel_rfl
theorem B5H:((List.range 50).all λk=>(λi=>HQ (AZ (C9 (rt (L+20) (n+10)) Bz [I (i:Nat)]) (S (dg i)))) (k+900))=true:=by kernel_rfl
theorem C66 (i:Nat) (h:i<950):PS (rt (L+20) (n+10)) Bz [I (i:Nat)] (S (dg i)):=by
 refine B2 (λH=>by first|exact λK=>by kernel_rfl) ?_
 by_cases h0:i<50
 ·have:=Hl.1 (B9n L n) (i-0) (IV.2 (by omega))
  have e:i-0+0=i:=by omega
  simp only[e] at this
  exact this
 by_cases h1:i<100
 ·have:=Hl.1 (B9m L n) (i-50) (IV.2 (by omega))
  have e:i-50+50=i:=by omega
  simp only[e] at this
  exact this
 by_cases h2:i<150
 ·have:=Hl.1 (B9l L n) (i-100) (IV.2 (by omega))
  have e:i-100+100=i:=by omega
  simp only[e] at this
  exact this
 by_cases h3:i<200
 ·have:=Hl.1 (B9k L n) (i-150) (IV.2 (by omega))
  have e:i-150+150=i:=by omega
  simp only[e] at this
  exact this
 by_cases h4:i<250
 ·have:=Hl.1 (B9j L n) (i-200) (IV.2 (by omega))
  have e:i-200+200=i:=by omega
  simp only[e] at this
  exact this
 by_cases h5:i<300
 ·have:=Hl.1 (B9i L n) (i-250) (IV.2 (by omega))
  have e:i-250+250=i:=by omega
  simp only[e] at this
  exact this
 by_cases h6:i<350
 ·have:=Hl.1 (B9h L n) (i-300) (IV.2 (by omega))
  have e:i-300+300=i:=by omega
  simp only[e] at this
  exact this
 by_cases h7:i<400
 ·have:=Hl.1 (B9g L n) (i-350) (IV.2 (by omega))
  have e:i-350+350=i:=by omega
  simp only[e] at this
  exact this
 by_cases h8:i<450
 ·have:=Hl.1 (B9f L n) (i-400) (IV.2 (by omega))
  have e:i-400+400=i:=by omega
  simp only[e] at this
  exact this
 by_cases h9:i<500
 ·have:=Hl.1 (B9e L n) (i-450) (IV.2 (by omega))
  have e:i-450+450=i:=by omega
  simp only[e] at this
  exact this
 by_cases h10:i<550
 ·have:=Hl.1 (B5P L n) (i-500) (IV.2 (by omega))
  have e:i-500+500=i:=by omega
  simp only[e] at this
  exact this
 by_cases h11:i<600
 ·have:=Hl.1 (B5O L n) (i-550) (IV.2 (by omega))
  have e:i-550+550=i:=by omega
  simp only[e] at this
  exact this
 by_cases h12:i<650
 ·have:=Hl.1 (B5N L n) (i-600) (IV.2 (by omega))
  have e:i-600+600=i:=by omega
  simp only[e] at this
  exact this
 by_cases h13:i<700
 ·have:=Hl.1 (B5M L n) (i-650) (IV.2 (by omega))
  have e:i-650+650=i:=by omega
  simp only[e] at this
  exact this
 by_cases h14:i<750
 ·have:=Hl.1 (B5L L n) (i-700) (IV.2 (by omega))
  have e:i-700+700=i:=by omega
  simp only[e] at this
  exact this
 by_cases h15:i<800
 ·have:=Hl.1 (B5K L n) (i-750) (IV.2 (by omega))
  have e:i-750+750=i:=by omega
  simp only[e] at this
  exact this
 by_cases h16:i<850
 ·have:=Hl.1 (B5J L n) (i-800) (IV.2 (by omega))
  have e:i-800+800=i:=by omega
  simp only[e] at this
  exact this
 by_cases h17:i<900
 ·have:=Hl.1 (B5I L n) (i-850) (IV.2 (by omega))
  have e:i-850+850=i:=by omega
  simp only[e] at this
  exact this
 by_cases h18:i<950
 ·have:=Hl.1 (B5H L n) (i-900) (IV.2 (by omega))
  have e:i-900+900=i:=by omega
  simp only[e] at this
  exact this
 omega
end
end Go.Abs
end
