import Derived.Test.YtlbhdmbfdcohhaaGreatDoorS25
import Derived.Test.YtlbhdmbfdcohhaaGreatDoorS26
set_option linter.all false
set_option maxHeartbeats 100000000
noncomputable section
namespace Go.Abs
open Go.RowKit Go.Proofs
set_option maxRecDepth 100000
section
variable {L n:Nat}
theorem C6M {cs:List AV} {b:List UInt8} (hL:40000<L) (h1:cs.all AV.one=true) (hz:cs.length=68) (hfx:∀H,Pu true depth [.agg cs] [.agg cs] H false) (hb:b.length≤32768) (hB:CS (rt (L+20) (n+62)) Jd [.agg cs] (.tup [S b,I 0])):CS (rt (L+20) (n+63)) Kt [.agg cs] (S (sha b)):=by
 intro K hK
 rw[Wg]
 unfold Nt Av
 rw[Ft h1]
 have hc0:=A1 (H:=[]) (x:= .cells true Al cs) (by simp)
 generalize ((A2 [],Row.cells true Al cs)::([]:Hp))=H0 at hc0
 rw[Bq rfl hz.symm hc0,Ba hB (hfx H0),CZ,CY,G6]
 show Aw (.v (.bool false)) _ _=_
 rw[Bz]
 have hs:∀K,Ah (rt (L+20) (n+62)) Pn [S b] H0 K=K (S (sha b)):= λK=>Ba (C4u (L:=L+20) (n:=n+54) (by omega) (by omega)) (Ay (q:=false) (q':=false) D2 Be)
 rw[hs]
 exact hK _ _ (λb=>⟨false,λK=>by kernel_rfl⟩)
end
section
variable {L n:Nat}
structure Nd where
 op:Int
 (vn vd:List UInt8)
 u:UD
 (n l r:Int)
abbrev Nd.cs (x:Nd):List AV:=[I x.op,S x.vn,S x.vd,I x.u.p0,I x.u.q0,I x.u.p1,I x.u.q1,I x.u.p2,I x.u.q2,I x.u.p3,I x.u.q3,I x.u.p4,I x.u.q4,I x.u.p5,I x.u.q5,I x.u.p6,I x.u.q6,S x.u.fn,S x.u.fd,S x.u.on,S x.u.od,I x.u.kd,I x.u.sc,I x.n,I x.l,I x.r]
def GA (k:Nat):List AV:=Ck (uu k)
abbrev BH (ks:List Nat):AV:= .list ks.length (ks.flatMap GA)
def ndC (x:Nd):List AV:=x.cs
abbrev Cb (xs:List Nd):AV:= .list xs.length (xs.flatMap ndC)
theorem OA {ks:List Nat} {K:AV→Aj}:AQ Am (BH ks) K=K (I ks.length):=id rfl
theorem Si {xs:List Nd} {K:AV→Aj}:AQ A3 (Cb xs) K=K (I xs.length):=id rfl
theorem X6 {ks:List Nat} {i:Nat} {K:AV→Aj} (h:i<ks.length):B9 Am (BH ks) (I i) K=K (.iptr (GA ks[i])):=A2g (f:=GA) rfl (λ_=>rfl) h
theorem A0y {xs:List Nd} {i:Nat} {K:AV→Aj} (h:i<xs.length):B9 A3 (Cb xs) (I i) K=K (.iptr (ndC xs[i])):=A2g (f:=ndC) rfl (λ_=>rfl) h
theorem X4 {k:Nat} {H:Hp} {K:AV→Aj}:Ar Af (.iptr (GA k)) H K=K (.agg (Ck (uu k))):=id rfl
theorem A0x {x:Nd} {H:Hp} {K:AV→Aj}:Ar AF (.iptr (ndC x)) H K=K (.agg x.cs):=id rfl
abbrev Ho (id:Int) (ins nds:AV) (o:UD):Row:= .cells true BD (B2 id ins nds o)
section
attribute [local irreducible] Ah rt Zu eBi eEq cnd Go.Abs.Ak Go.Abs.UY Aw
theorem Vp {z lo hi:Int} (h1:lo≤z) (h2:z≤hi):PS (rt (L+20) (n+1)) CF [I z,I lo,I hi] (Bo true):=by
 refine CS.ps (λK hK=> ?_) (λH=> λK=>by kernel_rfl)
 rewrite [Y0]
 unfold Qc Bc Dr
 try rewrite [zO]
 try rewrite [bO]
 try rewrite [qO]
 try rewrite [cO]
 conv=>lhs;whnf
 rewrite [B0i h1]
 conv=>lhs;whnf
 rewrite [B0a h2]
 conv=>lhs;whnf
 exact hK _ _ (λb=>⟨false,λK=>by kernel_rfl⟩)
end
section
variable {K:KV} {x:Aj} {ks:List Nat} {xs:List Nd} {id:Int} {o:UD}
theorem C1L {k31:AV→Hp→Aj} {H:Hp} {c:Nat} {nds:AV} (hk:∀k∈ks,k<52) (hb:ks.length<100) (hx:k31 (.ptr c 0 0) H=x) (hl:Aq H c=some (Ho id (BH ks) nds o)):∀(f i:Nat),i≤ks.length→ks.length-i<f→
 KX (L+20) (rt (L+20) (n+40)) K k31 f (.ptr c 0 0) (I i) H=x:=by
 intro f
 induction f with
 |zero=>intro i _ h;omega
 |succ f ih=>
  intro i hi hf
  rw[WQ]
  unfold OD Av Dr
  have f1:∀K:AV→Aj,AM 1 (.ptr c 0 0) K=K (.ptr c 1 0):= λK=>_root_.id rfl
  have l1:∀K,Ar Am (.ptr c 1 0) H K=K (BH ks):= λK=>AP (p:=1) rfl hl (show 1<23 by decide)
  rw[f1,l1,OA]
  by_cases h:i<ks.length
  ·rw[FW (by omega),De,f1,l1,X6 h,X4,PW _ _ _ (hk _ (QE h)),ntT,Bz,D4 (by omega)]
   exact ih (i+1) (by omega) (by omega)
  ·rw[FE (by omega),Bz]
   exact hx
theorem Mi {ins nds:AV} (hI:Sl ins) (hN:Sl nds):(B2 id ins nds o).all AV.one=true:=by
 rcases hI with rfl|⟨_,_,rfl⟩<;>rcases hN with rfl|⟨_,_,rfl⟩<;>rfl
theorem B3P (hL:100<L) (hk:∀k∈ks,k<52) (hb:ks.length≤6) (hn:1≤xs.length) (hn':xs.length≤40) (h1:1≤id) (h2:id≤1000000):CS (rt (L+20) (n+41)) MI [.agg (B2 id (BH ks) (Cb xs) o)] (.tup [Bo true,Bo true]):=by
 intro K hK
 rw[Y1]
 unfold Qd Bc Av Dr
 rw[Ft (Mi (.inr ⟨_,_,rfl⟩) (.inr ⟨_,_,rfl⟩))]
 have hc0:=A1 (H:=[]) (x:=Ho id (BH ks) (Cb xs) o) (by simp)
 generalize ((A2 [],Ho id (BH ks) (Cb xs) o)::([]:Hp))=H0 at hc0
 generalize A2 []=c at hc0
 simp only[BX]
 refine C1L hk (by omega) ?_ hc0 (L+20) 0 (by omega) (by omega)
 have f0:∀{j:Nat} {K:AV→Aj},AM j (.ptr c 0 0) K=K (.ptr c j 0):= λ{j K}=>by rw[fA,KF]
 have l0:∀{K},Ar Ab (.ptr c 0 0) H0 K=K (I id):= λ{K}=>AP (p:=0) rfl hc0 (show 0<23 by decide)
 have l1:∀{K},Ar Am (.ptr c 1 0) H0 K=K (BH ks):= λ{K}=>AP (p:=1) rfl hc0 (show 1<23 by decide)
 have l2:∀{K},Ar A3 (.ptr c 2 0) H0 K=K (Cb xs):= λ{K}=>AP (p:=2) rfl hc0 (show 2<23 by decide)
 have w1:∀{K:AV→Aj},Ah (rt (L+20) (n+40)) CF [I id,.v (.int .i64 1),.v (.int .i64 1000000)] H0 K=K (Bo true):= λ{K}=>Vp (n:=n+39) h1 h2 H0 K
 have w2:∀{K:AV→Aj},Ah (rt (L+20) (n+40)) CF [I (xs.length:Int),.v (.int .i64 1),.v (.int .i64 40)] H0 K=K (Bo true):= λ{K}=>Vp (n:=n+39) (by omega) (by omega) H0 K
 have q1:∀{K},Go.Abs.Ak Ab .leq (I (ks.length:Int)) (.v (.int .i64 6)) K=K (Bo true):= λ{K}=>by rw[X8,decide_eq_true (by omega)]
 have q2:∀{K},Go.Abs.Ak Ab .gtr (I (xs.length:Int)) (.v (.int .i64 0)) K=K (Bo true):= λ{K}=>by rw[DM,decide_eq_true (by omega)]
 simp only[f0,l0,l1,l2,BN,Cz,gT,w1,w2,OA,Si,q1,q2,XO]
 exact hK _ _ (λb=>⟨false,λK=>by kernel_rfl⟩)
end
end
section
variable {L n:Nat}
def Us:Value→Bool
 | .int _ _=>true
 | .string _=>true
 | .bool _=>true
 | .slice none 0 0=>true
 |_=>false
def pl:Nat→AV→Bool
 |_,.v x=>Us x
 |d+1,.list _ cs=>cs.all (pl d)
 |d+1,.agg cs=>cs.all (pl d)
 |d+1,.tup cs=>cs.all (pl d)
 |_,_=>false
theorem B4S:∀l:List UInt8,WG.eqbL l l=true:=by
 intro l
 induction l with
 |nil=>rfl
 |cons a l ih=>simp only[WG.eqbL,ih,l1b];exact Zj _
theorem Yb {x:Value} (h:Us x=true):WG x x=true:=by
 unfold Us at h
 split at h
 ·simp[WG]
 ·exact B4S _
 ·simp[WG]
 ·rfl
 ·cases h
theorem B2f {f:AV→AV→Bool}:∀l:List AV,(∀a∈l,f a a=true)→A2v f l l=true:=by
 intro l
 induction l with
 |nil=>intro _;rfl
 |cons a l ih=>intro h;simp only[A2v,h a (by simp),ih λb hb=>h b (by simp[hb]),l1b]
theorem A2u:∀(d:Nat) (a:AV),pl d a=true→Zr d a a=true:=by
 intro d
 induction d with
 |zero=>intro a h;cases a<;>first|exact Yb h|cases h
 |succ d ih=>
  intro a h
  cases a<;>first
   |exact Yb h
   |(simp only[pl,HB] at h;simp only[Zr,Zj,l16];exact B2f _ λb hb=>ih b (h b hb))
   |cases h
theorem B2g {a:AV} (h:pl 6 a=true):Ws a a=true:=by
 cases a<;>first|exact Yb h|exact A2u 6 _ h|cases h
theorem RR {v:AV} {H:Hp} {K:Aj} (h:pl 6 v=true):Pw (AX (some (v,H)) v) K=K:=by
 show Pw (some (.v (.bool (Ws v v)),[])) K=K
 rw[B2g h];rfl
theorem B1x {x:Value} (h:Us x=true) (h':x≠.slice none 0 0):Xn x x=some true:=by
 unfold Us at h
 split at h
 ·show(match decide (_=_) with|true=>some (ieq _ _)|false=>none)=_
  rw[decide_eq_true rfl,OM,decide_eq_true rfl]
 ·show some (Go.Abs.eqB _ _)=_
  rw[OQ];simp
 ·show some (_==_)=_
  simp
 ·exact absurd rfl h'
 ·cases h
theorem A7z:∀xs:List Value,(∀x∈xs,Us x=true∧x≠.slice none 0 0)→Ve xs xs=some true:=by
 intro xs
 induction xs with
 |nil=>intro _;rfl
 |cons x xs ih=>
  intro h
  have e:Ve (x::xs) (x::xs)=(match Xn x x with
   |some b=>(match Ve xs xs with|some c=>some (b&&c)|none=>none)
   |none=>none):=rfl
  rw[e,B1x (h x (by simp)).1 (h x (by simp)).2,ih λy hy=>h y (by simp[hy])]
  rfl
theorem C5Z {x:Nd} {K:AV→Aj}:Go.Abs.UY Kd .eql (.agg x.cs) (.agg x.cs) K=K (Bo true):=by
 have e:∀(xs:List Value),Ve xs xs=some true→∀K:AV→Aj,(match(generalizing:=false) Ve xs xs,BinOp.eql with
  |some q,.eql=>bB q K
  |some q,.neq=>bB (!q) K
  |_,_=>(none:Aj))=K (Bo true):= λxs h K=>by rw[h];rfl
 exact e [.int .i64 x.op,.string ⟨⟨x.vn⟩⟩,.string ⟨⟨x.vd⟩⟩,.int .i64 x.u.p0,.int .i64 x.u.q0,.int .i64 x.u.p1,.int .i64 x.u.q1,.int .i64 x.u.p2,.int .i64 x.u.q2,.int .i64 x.u.p3,.int .i64 x.u.q3,.int .i64 x.u.p4,.int .i64 x.u.q4,.int .i64 x.u.p5,.int .i64 x.u.q5,.int .i64 x.u.p6,.int .i64 x.u.q6,
  .string ⟨⟨x.u.fn⟩⟩,.string ⟨⟨x.u.fd⟩⟩,.string ⟨⟨x.u.on⟩⟩,.string ⟨⟨x.u.od⟩⟩,.int .i64 x.u.kd,.int .i64 x.u.sc,.int .i64 x.n,.int .i64 x.l,.int .i64 x.r]
  (A7z _ (by simp[Us])) K
end
section
variable {L n:Nat}
def VD (i:Nat):Nd:=⟨2,[],[],u0,i,0,0⟩
abbrev JO:List AV:=[zI,zS,zS,zI,zI,zI,zI,zI,zI,zI,zI,zI,zI,zI,zI,zI,zI,zS,zS,zS,zS,zI,zI,zI,zI,zI]
abbrev XA0:List AV:=[zI,zI,zI,zI,zI,zI,zI,zI,zI,zI,zI,zI,zI,zI,zS,zS,zS,zS,zI,zI]
abbrev TG (x:Nd):Row:= .cells true AH x.cs
section
variable {K:KV} {x:Aj} {ks:List Nat} {xs:List Nd} {id:Int} {o:UD} {i:Nat}
theorem A8F {x:Nd}:x.cs.all AV.one=true:=rfl
theorem A3U {t:TI} {a:Int} {K:AV→Aj}:Go.Abs.Ak t .eql (I a) (.v (.int .i64 a)) K=K (Bo true):=by rw[Dd,decide_eq_true rfl]
theorem A6q (hb:ks.length≤6) (hi:i<ks.length) {at_:Int}:CS (rt (L+20) (n+2)) DX [.agg (B2 id (BH ks) (Cb xs) o),.agg (VD i).cs,I at_] (.tup [Bo true,Bo false]):=by
 intro K hK
 rw[RS]
 unfold Ml Bc Av Gb Dr
 rw[Ft (Mi (.inr ⟨_,_,rfl⟩) (.inr ⟨_,_,rfl⟩))]
 have hp0:=A1 (H:=[]) (x:=Ho id (BH ks) (Cb xs) o) (by simp)
 have w0:=Br (x:=Ho id (BH ks) (Cb xs) o) FH
 generalize ((A2 [],Ho id (BH ks) (Cb xs) o)::([]:Hp))=H0 at hp0 w0
 generalize A2 []=p at hp0
 rw[Ft A8F]
 have hn1:=A1 (H:=H0) (x:=TG (VD i)) (by simp)
 have hp1:Aq ((A2 H0,TG (VD i))::H0) p=some (Ho id (BH ks) (Cb xs) o):=AS (w0.lt hp0) hp0
 have w1:=Br (x:=TG (VD i)) w0
 generalize ((A2 H0,TG (VD i))::H0)=H1 at hn1 hp1 w1
 generalize A2 H0=r at hn1
 have f0:∀{s j:Nat} {K:AV→Aj},AM j (.ptr s 0 0) K=K (.ptr s j 0):= λ{s j K}=>by rw[fA,KF]
 have l0:∀{K},Ar Ab (.ptr r 0 0) H1 K=K (I 2):= λ{K}=>AP (p:=0) rfl hn1 (show 0<26 by decide)
 have b0:∀{K:AV→Aj},B3 AF [(0,1,I 2)] K=K (.agg (I 2::JO.tail)):= λ{K}=>_root_.id rfl
 rw[f0,l0,b0,Bi (cs:=JO) rfl]
 have hm:=A1 (H:=H1) (x:= .cells true AH JO) (by simp)
 rw[B7 (vs:=I 2::JO.tail) hm rfl rfl rfl]
 have hm2:=AB (q:=true) (e:=AH) (cs:=I 2::JO.tail) hm
 have w2:=BR (r:=A2 H1) (y:= .cells true AH (I 2::JO.tail)) (Br (x:= .cells true AH JO) w1)
 have rl:=w1.lt hn1
 have plt:=w1.lt hp1
 have hn2:Aq (upd ((A2 H1,Row.cells true AH JO)::H1) (A2 H1) (.cells true AH (I 2::JO.tail))) r=some (TG (VD i)):=by
  rw[Ap (by omega)];exact AS rl hn1
 have hp2:Aq (upd ((A2 H1,Row.cells true AH JO)::H1) (A2 H1) (.cells true AH (I 2::JO.tail))) p=some (Ho id (BH ks) (Cb xs) o):=by
  rw[Ap (by omega)];exact AS plt hp1
 generalize upd ((A2 H1,Row.cells true AH JO)::H1) (A2 H1) (.cells true AH (I 2::JO.tail))=H2 at hm2 w2 hn2 hp2
 have hmr:A2 H1≠r:=by omega
 have hmp:A2 H1≠p:=by omega
 generalize A2 H1=m at hm2 hmr hmp
 simp only[BX]
 have l2:∀{K},Ar Ab (.ptr r 0 0) H2 K=K (I 2):= λ{K}=>AP (p:=0) rfl hn2 (show 0<26 by decide)
 have l23:∀{K},Ar Ab (.ptr r 23 0) H2 K=K (I i):= λ{K}=>AP (p:=23) rfl hn2 (show 23<26 by decide)
 rw[f0,l2,Dd,decide_eq_false (by decide),Bz,A3U,De,f0,l23,f0]
 rw[Ez (v:=I i) hm2 (show 23<26 by decide) rfl rfl rfl]
 have hm3:=AB (q:=true) (e:=AH) (cs:=(I 2::JO.tail).set 23 (I i)) hm2
 have hn3:Aq (upd H2 m (.cells true AH ((I 2::JO.tail).set 23 (I i)))) r=some (TG (VD i)):=by
  rw[Ap (Ne.symm hmr)];exact hn2
 have hp3:Aq (upd H2 m (.cells true AH ((I 2::JO.tail).set 23 (I i)))) p=some (Ho id (BH ks) (Cb xs) o):=by
  rw[Ap (Ne.symm hmp)];exact hp2
 generalize upd H2 m (.cells true AH ((I 2::JO.tail).set 23 (I i)))=H3 at hm3 hn3 hp3
 have ly:∀{K},Ar AF (.ptr m 0 0) H3 K=K (.agg (VD i).cs):= λ{K}=>Bq rfl rfl hm3
 have lx:∀{K},Ar AF (.ptr r 0 0) H3 K=K (.agg (VD i).cs):= λ{K}=>Bq rfl rfl hn3
 have l23':∀{K},Ar Ab (.ptr r 23 0) H3 K=K (I i):= λ{K}=>AP (p:=23) rfl hn3 (show 23<26 by decide)
 have l1:∀{K},Ar Am (.ptr p 1 0) H3 K=K (BH ks):= λ{K}=>AP (p:=1) rfl hp3 (show 1<23 by decide)
 have sb:∀{K},Go.Abs.Ak Ab .sub (I (ks.length:Int)) (.v (.int .i64 1)) K=K (I ((ks.length:Int)-1)):= λ{K}=>by rw[HY,Cp (by omega) (by omega)]
 have wi:∀{K:AV→Aj},Ah (rt (L+20) (n+1)) CF [I (i:Int),.v (.int .i64 0),I ((ks.length:Int)-1)] H3 K=K (Bo true):= λ{K}=>Vp (n:=n) (by omega) (by omega) H3 K
 simp only[lx,ly,C5Z,gT,f0,Cz,l23',l1,OA,sb,wi,XO]
 exact hK _ _ (λb=>⟨false,λK=>by kernel_rfl⟩)
theorem Er {H:Hp} {e:Nat} {zs vs:List AV} (w:Wf H) (hz:vs.length=zs.length):∃H',H'=upd ((A2 H,.cells true e zs)::H) (A2 H) (.cells true e vs)∧Aq H' (A2 H)=some (.cells true e vs)∧Wf H'∧(∀s x,Aq H s=some x→Aq H' s=some x∧s≠A2 H):=by
 have hm:=A1 (H:=H) (x:= .cells true e zs) (by simp)
 refine⟨_,rfl,AB hm,BR (Br w),λs x h=> ?_⟩
 have:=w.lt h
 exact⟨by rw[Ap (by omega)];exact AS this h,by omega⟩
theorem Vo (hb:ks.length≤6) (hi:i<ks.length) {at_:Int} {w:AV}:CS (rt (L+20) (n+3)) Ci [.agg (B2 id (BH ks) (Cb xs) o),.agg (VD i).cs,I at_,w] (.tup [.agg (Ck (uu ks[i])),I 0]):=by
 intro K hK
 rw[FP]
 unfold FD Av
 rw[Ft (Mi (.inr ⟨_,_,rfl⟩) (.inr ⟨_,_,rfl⟩))]
 have hp0:=A1 (H:=[]) (x:=Ho id (BH ks) (Cb xs) o) (by simp)
 have w0:=Br (x:=Ho id (BH ks) (Cb xs) o) FH
 generalize ((A2 [],Ho id (BH ks) (Cb xs) o)::([]:Hp))=H0 at hp0 w0
 generalize A2 []=p at hp0
 rw[Ft A8F]
 have hn1:=A1 (H:=H0) (x:=TG (VD i)) (by simp)
 have hp1:Aq ((A2 H0,TG (VD i))::H0) p=some (Ho id (BH ks) (Cb xs) o):=AS (w0.lt hp0) hp0
 have w1:=Br (x:=TG (VD i)) w0
 generalize ((A2 H0,TG (VD i))::H0)=H1 at hn1 hp1 w1
 generalize A2 H0=r at hn1
 rw[Bi (cs:=XA0) rfl]
 have hq2:=A1 (H:=H1) (x:= .cells true A0 XA0) (by simp)
 have hn2:=AS (x:= .cells true A0 XA0) (w1.lt hn1) hn1
 have hp2:=AS (x:= .cells true A0 XA0) (w1.lt hp1) hp1
 have w2:=Br (x:= .cells true A0 XA0) w1
 generalize ((A2 H1,Row.cells true A0 XA0)::H1)=H2 at hq2 hn2 hp2 w2
 generalize A2 H1=q at hq2
 have lp:∀{K},Ar A9 (.ptr p 0 0) H2 K=K (.agg (B2 id (BH ks) (Cb xs) o)):= λ{K}=>Bq rfl rfl hp2
 have ln:∀{K},Ar AF (.ptr r 0 0) H2 K=K (.agg (VD i).cs):= λ{K}=>Bq rfl rfl hn2
 have fx:Pu true depth [.agg (B2 id (BH ks) (Cb xs) o),.agg (VD i).cs,I at_] [.agg (B2 id (BH ks) (Cb xs) o),.agg (VD i).cs,I at_] H2 false:= λK=>by kernel_rfl
 have sh:∀{K:AV→Aj},Ah (rt (L+20) (n+2)) DX [.agg (B2 id (BH ks) (Cb xs) o),.agg (VD i).cs,I at_] H2 K=K (.tup [Bo true,Bo false]):= λ{K}=>Ba (A6q hb hi) fx
 have bu:∀{K:AV→Aj},B3 Af [] K=K (.agg XA0):= λ{K}=>_root_.id rfl
 rw[lp,ln,sh,CZ,CY,ntT,Bz,bu,Bi (cs:=XA0) rfl]
 rw[B7 (vs:=XA0) (A1 (by simp)) rfl rfl rfl]
 obtain⟨H3,e3, -,w3,h3⟩:=Er (e:=A0) (zs:=XA0) (vs:=XA0) w2 rfl
 rw[←e3,bu,Bi (cs:=XA0) rfl,B7 (vs:=XA0) (A1 (by simp)) rfl rfl rfl]
 obtain⟨H4,e4, -,w4,h4⟩:=Er (e:=A0) (zs:=XA0) (vs:=XA0) w3 rfl
 rw[←e4]
 simp only[BX]
 have f0:∀{s j:Nat} {K:AV→Aj},AM j (.ptr s 0 0) K=K (.ptr s j 0):= λ{s j K}=>by rw[fA,KF]
 have hn4:=(h4 _ _ (h3 _ _ hn2).1).1
 have hp4:=(h4 _ _ (h3 _ _ hp2).1).1
 have hq4:=(h4 _ _ (h3 _ _ hq2).1).1
 have lu:∀{K},Ar Af (.ptr r 3 0) H4 K=K (.agg XA0):= λ{K}=>Fs (p:=3) rfl hn4 (show 23≤26 by decide)
 rw[Bz,f0,lu,Bi (cs:=XA0) rfl,B7 (vs:=XA0) (A1 (by simp)) rfl rfl rfl]
 obtain⟨H5,e5,hu5,w5,h5⟩:=Er (e:=A0) (zs:=XA0) (vs:=XA0) w4 rfl
 rw[←e5]
 obtain⟨hn5,nr⟩:=h5 _ _ hn4
 obtain⟨hp5,np⟩:=h5 _ _ hp4
 obtain⟨hq5,nq⟩:=h5 _ _ hq4
 generalize A2 H4=v at hu5 nr np nq
 have l0:∀{K},Ar Ab (.ptr r 0 0) H5 K=K (I 2):= λ{K}=>AP (p:=0) rfl hn5 (show 0<26 by decide)
 have l23:∀{K},Ar Ab (.ptr r 23 0) H5 K=K (I i):= λ{K}=>AP (p:=23) rfl hn5 (show 23<26 by decide)
 have l1:∀{K},Ar Am (.ptr p 1 0) H5 K=K (BH ks):= λ{K}=>AP (p:=1) rfl hp5 (show 1<23 by decide)
 rw[f0,l0,A3U,De,f0,l1,f0,l23,X6 hi,X4,B7 (vs:=Ck (uu ks[i])) hu5 rfl rfl rfl]
 have hu6:=AB (q:=true) (e:=A0) (cs:=Ck (uu ks[i])) hu5
 have hq6:Aq (upd H5 v (.cells true A0 (Ck (uu ks[i])))) q=some (.cells true A0 XA0):=by rw[Ap nq];exact hq5
 generalize upd H5 v (.cells true A0 (Ck (uu ks[i])))=H6 at hu6 hq6
 rw[G6]
 show Aw (.v (.bool false)) _ _=_
 rw[Bz,Bq rfl rfl hu6,B7 (vs:=Ck (uu ks[i])) hq6 rfl rfl rfl,Bq rfl rfl (AB hq6)]
 exact hK _ _ (λb=>⟨false,λK=>by kernel_rfl⟩)
end
end
section
variable {L n:Nat}
theorem B26 {k:Nat} {H:Hp} {K:KV}:F3 A0 20 Af 1 [(0,20,.agg (Ck (uu k)))] H K=K (.sl 20 (A2 H) 0 1) ((A2 H,.cells false A0 (GA k))::H):=by
 have e:F3 A0 20 Af 1 [(0,20,.agg (Ck (uu k)))] H K=XA3 H (λs=>K (.sl 20 s 0 1) ((s,.cells false A0 (GA k))::H)):=_root_.id rfl
 rw[e,BZ]
theorem C6e {H:Hp} {v:AV} {l:List Nat} (k:Nat) (h:Bv H A0 20 v l.length (l.flatMap GA)) (w:Wf H) (hn:l.length<100):
 ∃v' H',(∀K:KV,(F3 A0 20 Af 1 [(0,20,.agg (Ck (uu k)))] H λv1 H1=>DN A0 20 Af Am v v1 H1 K)=K v' H')∧Bv H' A0 20 v' (l++[k]).length ((l++[k]).flatMap GA)∧Wf H'∧A2 H≤A2 H'∧(∀s x,Aq H s=some x→¬AG v s→Aq H' s=some x)∧(∀s,AG v' s→A2 H≤s):=by
 have hv1:Bv ((A2 H,.cells false A0 (GA k))::H) A0 20 v l.length (l.flatMap GA):=h.lat w (Lat.cons H _ (λ_=>False)) (λ_ _ h=>h)
 have hsrc:Bv ((A2 H,.cells false A0 (GA k))::H) A0 20 (.sl 20 (A2 H) 0 1) 1 (GA k):= .inr ⟨A2 H,false,rfl,A1 (by simp),by show 20=_;rfl⟩
 obtain⟨v',H',h1,h2,h3,h4⟩:=apt (ie:=Af) (i2:=Am) hv1 (λK=>Pt (K:=K) hsrc) rfl rfl (by decide) rfl rfl (by show(l.length+1)*192≤_;omega) (by omega)
 have h5:=(Lat.cons H (.cells false A0 (GA k)) (AG v)).trans h4 (R:=AG v) (λ_ _ h=>h) (λ_ _ h=>h)
 refine⟨v',H',λK=> ?_,by rw[Fl,l2g];simpa using h2,h5.wf w,h5.nx,λs x hs hn=>h5.keep w s x hs hn,λs hs=> ?_⟩
 ·rw[B26]
  exact h1 K
 ·rw[h3 s hs];exact l1p _
def C5j (k:Nat):List Value:=[.int .i64 (uu k).p0,.int .i64 (uu k).q0,.int .i64 (uu k).p1,.int .i64 (uu k).q1,.int .i64 (uu k).p2,.int .i64 (uu k).q2,.int .i64 (uu k).p3,.int .i64 (uu k).q3,.int .i64 (uu k).p4,.int .i64 (uu k).q4,.int .i64 (uu k).p5,.int .i64 (uu k).q5,.int .i64 (uu k).p6,.int .i64 (uu k).q6,
 .string ⟨⟨(uu k).fn⟩⟩,.string ⟨⟨(uu k).fd⟩⟩,.string ⟨⟨(uu k).on⟩⟩,.string ⟨⟨(uu k).od⟩⟩,.int .i64 (uu k).kd,.int .i64 (uu k).sc]
theorem C2y (k:Nat):GA k=(C5j k).map λx=> .v x:=rfl
theorem C5i (l:List Nat):l.flatMap GA=(l.flatMap C5j).map λx=> .v x:=by
 induction l with
 |nil=>rfl
 |cons k l ih=>rw[l00,l00,Zl,ih,C2y]
def PC (l:List Nat):AV:=match l with
 |[]=>AA
 |k::l=> .list (k::l).length ((k::l).flatMap GA)
theorem YG {D:Nat} {b:Bool} {H:Hp} {v:AV} {l:List Nat} (h:Bv H A0 20 v l.length (l.flatMap GA)) (h0:l=[]→v=AA):∃q,Fx b (D+1) v (PC l) H q:=by
 rcases h with⟨rfl,h2,_⟩|⟨r,q,rfl,h2,h3⟩
 ·cases l with
  |nil=>exact⟨false,D2⟩
  |cons a l=>simp at h2
 ·cases l with
  |nil=>have:=h0 rfl;cases this
  |cons a l=>
   refine⟨true,?_⟩
   show Fx b (D+1) _ (.list (a::l).length ((a::l).flatMap GA)) H true
   rw[C5i] at h2 h3⊢
   exact Xt (q':=false) h2 h3 (KA _root_.id _)
theorem B9b {b:Bool} {H:Hp} {v:AV} {l:List Nat} (h:Bv H A0 20 v l.length (l.flatMap GA)) (h0:l=[]→v=AA):∃q,Fx b depth v (PC l) H q:=YG (D:=depth-1) h h0
end
section
variable {L n:Nat}
section
variable {K:KV} {x:Aj} {ks ty:List Nat} {xs:List Nd} {id:Int} {o:UD}
def RTy (L n:Nat) (id:Int) (ks:List Nat) (xs:List Nd) (o:UD) (ty:List Nat):Prop:=
 ∀i (h:i<xs.length),CS (rt (L+20) (n+42)) Ci [.agg (B2 id (BH ks) (Cb xs) o),.agg xs[i].cs,I i,PC (ty.take i)] (.tup [.agg (Ck (uu (ty.getD i 0))),I 0])
theorem C2b {d:Nat}:∀l:List Nat,(l.flatMap GA).all (pl d)=true:=by
 intro l
 induction l with
 |nil=>rfl
 |cons a l ih=>rw[l00,List.all_append,ih];cases d<;>rfl
theorem C2a {d:Nat}:∀l:List Nd,(l.flatMap ndC).all (pl d)=true:=by
 intro l
 induction l with
 |nil=>rfl
 |cons a l ih=>rw[l00,List.all_append,ih];cases d<;>rfl
theorem B7A {d:Nat} (l:List Nat):pl (d+1) (BH l)=true:=C2b l
theorem A9Z {d:Nat} (l:List Nd):pl (d+1) (Cb l)=true:=C2a l
theorem B7z:pl 6 (.agg (B2 id (BH ks) (Cb xs) o))=true:=by
 show(pl 5 (I id)&&(pl 5 (BH ks)&&(pl 5 (Cb xs)&&true)))=true
 rw[B7A,A9Z];rfl
theorem C1K {k22:AV→AV→Hp→Aj} {p:Nat} (hT:RTy L n id ks xs o ty) (hlen:ty.length=xs.length) (hb:xs.length<100)
 (hx:∀v H,Bv H A0 20 v ty.length (ty.flatMap GA)→(ty=[]→v=AA)→Aq H p=some (Ho id (BH ks) (Cb xs) o)→k22 (.ptr p 0 0) v H=x):
 ∀(f i:Nat) (v:AV) (H:Hp),i≤xs.length→xs.length-i<f→Bv H A0 20 v (ty.take i).length ((ty.take i).flatMap GA)→(ty.take i=[]→v=AA)→¬AG v p→Aq H p=some (Ho id (BH ks) (Cb xs) o)→Wf H→
 LW (L+20) (rt (L+20) (n+42)) K k22 f (.ptr p 0 0) v (I i) H=x:=by
 intro f
 induction f with
 |zero=>intro i v H _ h;omega
 |succ f ih=>
  intro i v H hi hf hs h0 hr hp w
  rw[Yj]
  unfold PP Av
  have f0:∀{s j:Nat} {K:AV→Aj},AM j (.ptr s 0 0) K=K (.ptr s j 0):= λ{s j K}=>by rw[fA,KF]
  have l2:∀{K},Ar A3 (.ptr p 2 0) H K=K (Cb xs):= λ{K}=>AP (p:=2) rfl hp (show 2<23 by decide)
  have lp:∀{K},Ar A9 (.ptr p 0 0) H K=K (.agg (B2 id (BH ks) (Cb xs) o)):= λ{K}=>Bq rfl rfl hp
  rw[f0,l2,Si]
  by_cases h:i<xs.length
  ·have tyc:∀{H:Hp} (_:Bv H A0 20 v (ty.take i).length ((ty.take i).flatMap GA)) {K:AV→Aj},Ah (rt (L+20) (n+42)) Ci [.agg (B2 id (BH ks) (Cb xs) o),.agg xs[i].cs,I i,v] H K=K (.tup [.agg (Ck (uu (ty.getD i 0))),I 0]):= λ{H} hs {K}=>by
    obtain⟨q,hq⟩:=B9b (b:=true) hs h0
    have a1:Fx true depth (.agg (B2 id (BH ks) (Cb xs) o)) (.agg (B2 id (BH ks) (Cb xs) o)) H false:= λK=>by kernel_rfl
    have a2:Fx true depth (.agg xs[i].cs) (.agg xs[i].cs) H false:= λK=>by kernel_rfl
    exact Ba (hT i h) (Ay a1 (Ay a2 (Ay (q:=false) D2 (Ay hq Be))))
   rw[FW (by omega),De]
   simp only[lp,BN,f0,l2,A0y h,A0x,tyc hs,CZ,CY]
   rw[Bi (cs:=XA0) rfl,Cz]
   have hz:=A1 (H:=H) (x:= .cells true A0 XA0) (by simp)
   rw[B7 (vs:=Ck (uu (ty.getD i 0))) hz rfl rfl rfl,Cz]
   have hp3:=AS (x:= .cells true A0 XA0) (w.lt hp) hp
   have hs3:Bv ((A2 H,.cells true A0 XA0)::H) A0 20 v (ty.take i).length ((ty.take i).flatMap GA):=hs.lat w (Lat.cons H _ (λ_=>False)) (λ_ _ h=>h)
   obtain⟨H4,e4,hv4,w4,h4⟩:=Er (e:=A0) (zs:=XA0) (vs:=Ck (uu (ty.getD i 0))) w rfl
   rw[←e4]
   have hp4:=(h4 _ _ hp).1
   have hs4:Bv H4 A0 20 v (ty.take i).length ((ty.take i).flatMap GA):=by
    rcases hs with hs|⟨r,q,h1,h2,h3⟩
    ·exact .inl hs
    ·exact .inr ⟨r,q,h1,(h4 _ _ h2).1,h3⟩
   have lp3:∀{K},Ar A9 (.ptr p 0 0) ((A2 H,.cells true A0 XA0)::H) K=K (.agg (B2 id (BH ks) (Cb xs) o)):= λ{K}=>Bq rfl rfl hp3
   have l23:∀{K},Ar A3 (.ptr p 2 0) ((A2 H,.cells true A0 XA0)::H) K=K (Cb xs):= λ{K}=>AP (p:=2) rfl hp3 (show 2<23 by decide)
   rw[lp3,RR B7z,l23,RR (A9Z xs),RR (by rfl),tyc hs3,RR (by rfl),G6]
   show Aw (.v (.bool false)) _ _=_
   rw[Bz,Bq rfl rfl hv4]
   have ht:ty.take i++[ty.getD i 0]=ty.take (i+1):=by
    have hl:i<ty.length:=by omega
    rw[l04 hl];simp[List.getD,Kq hl]
   obtain⟨v',H5,e5,hs5,w5, -,keep,new⟩:=C6e (ty.getD i 0) hs4 w4 (by rw[l0g];omega)
   rw[e5,D4 (by omega)]
   rw[ht] at hs5
   exact ih (i+1) v' H5 (by omega) (by omega) hs5 (λe=>by rw[←ht] at e;simp at e) (λhr'=>by have:=new _ hr';have:=w4.lt hp4;omega) (keep _ _ hp4 hr) w5
  ·rw[FE (by omega),Bz]
   have:i=xs.length:=by omega
   subst this
   rw[←hlen,l06] at hs h0
   exact hx v H hs h0 hp
end
end
section
variable {L n:Nat}
theorem A9N {H:Hp} {v:AV} {l:List Nat} {i:Nat} (h:Bv H A0 20 v l.length (l.flatMap GA)) (hi:i<l.length):∃a,(∀K:AV→Aj,B9 Am v (I i) K=K a)∧(∀K:AV→Aj,Ar Af a H K=K (.agg (Ck (uu l[i])))):=by
 rcases h with⟨_,h2,_⟩|⟨r,q,rfl,h2,h3⟩
 ·omega
 ·refine⟨.ptr r (i*20) 0,λK=> ?_,λK=> ?_⟩
  ·have e1:B9 Am (.sl 20 r 0 l.length) (I (i:Int)) K=iN (i:Int) λm=>ck (Nat.blt m l.length) (fN (Nat.add 0 (Nat.mul m 20)) λp=>K (.ptr r p 0)):=_root_.id rfl
   rw[e1,Jn,Di]
   have h3:Nat.blt i l.length=true:=by rw[UK];exact hi
   rw[h3]
   show K (.ptr r (0+i*20) 0)=_
   rw[KF]
  ·rw[Fs rfl h2 (by rw[h3];show i*20+20≤_;omega)]
   have:((l.flatMap GA).drop (i*20)).take 20=GA l[i]:=A27 GA 20 (λ_=>rfl) l i hi
   show K (.agg (((l.flatMap GA).drop (i*20)).take 20))=_
   rw[this];rfl
theorem C5Y {u:UD} {K:AV→Aj}:Go.Abs.UY ID .neq (.agg (Ck u)) (.agg (Ck u)) K=K (Bo false):=by
 have e:∀(xs:List Value),Ve xs xs=some true→∀K:AV→Aj,(match(generalizing:=false) Ve xs xs,BinOp.neq with
  |some q,.eql=>bB q K
  |some q,.neq=>bB (!q) K
  |_,_=>(none:Aj))=K (Bo false):= λxs h K=>by rw[h];rfl
 exact e [.int .i64 u.p0,.int .i64 u.q0,.int .i64 u.p1,.int .i64 u.q1,.int .i64 u.p2,.int .i64 u.q2,.int .i64 u.p3,.int .i64 u.q3,.int .i64 u.p4,.int .i64 u.q4,.int .i64 u.p5,.int .i64 u.q5,.int .i64 u.p6,.int .i64 u.q6,
  .string ⟨⟨u.fn⟩⟩,.string ⟨⟨u.fd⟩⟩,.string ⟨⟨u.on⟩⟩,.string ⟨⟨u.od⟩⟩,.int .i64 u.kd,.int .i64 u.sc]
  (A7z _ (by simp[Us])) K
section
variable {ks ty:List Nat} {xs:List Nd} {id:Int}
theorem B7v (hL:100<L) (hT:RTy L n id ks xs (uu (ty.getD (xs.length-1) 0)) ty) (hlen:ty.length=xs.length) (hk:∀k∈ks,k<52) (hb:ks.length≤6) (hn:1≤xs.length) (hn':xs.length≤40) (h1:1≤id) (h2:id≤1000000):
 CS (rt (L+20) (n+43)) Ob [.agg (B2 id (BH ks) (Cb xs) (uu (ty.getD (xs.length-1) 0)))] (.tup [PC ty,I 0,I 0]):=by
 intro K hK
 rw[ZS]
 unfold Rk Av
 rw[Ft (Mi (.inr ⟨_,_,rfl⟩) (.inr ⟨_,_,rfl⟩))]
 have hp0:=A1 (H:=[]) (x:=Ho id (BH ks) (Cb xs) (uu (ty.getD (xs.length-1) 0))) (by simp)
 have w0:=Br (x:=Ho id (BH ks) (Cb xs) (uu (ty.getD (xs.length-1) 0))) FH
 generalize ((A2 [],Ho id (BH ks) (Cb xs) (uu (ty.getD (xs.length-1) 0)))::([]:Hp))=H0 at hp0 w0
 generalize A2 []=p at hp0
 have bg:∀{K:AV→Aj},Ah (rt (L+20) (n+42)) MI [.agg (B2 id (BH ks) (Cb xs) (uu (ty.getD (xs.length-1) 0)))] H0 K=K (.tup [Bo true,Bo true]):= λ{K}=>Ba (B3P (n:=n+1) hL hk hb hn hn' h1 h2) (SI (.inr ⟨_,_,rfl⟩) (.inr ⟨_,_,rfl⟩))
 rw[Bq rfl rfl hp0,bg,CZ,CY,ntT,Bz]
 simp only[BX]
 refine C1K hT hlen (by omega) ?_ (L+20) 0 _ H0 (by omega) (by omega) (.inl ⟨rfl,rfl,rfl⟩) (λ_=>rfl) (λ⟨_,_,_,h⟩=>by cases h) hp0 w0
 intro v H hs h0 hp
 have f0:∀{s j:Nat} {K:AV→Aj},AM j (.ptr s 0 0) K=K (.ptr s j 0):= λ{s j K}=>by rw[fA,KF]
 have hlt:ty.length-1<ty.length:=by omega
 obtain⟨a,ha1,ha2⟩:=A9N hs hlt
 have ho:∀{K},Ar Af (.ptr p 3 0) H K=K (.agg (Ck (uu (ty.getD (xs.length-1) 0)))):= λ{K}=>Fs (p:=3) rfl hp (show 23≤23 by decide)
 have eg:ty[ty.length-1]=ty.getD (xs.length-1) 0:=by rw[←hlen];simp[List.getD,Kq hlt]
 rw[eg] at ha2
 rw[JI rfl hs,BN,A11 (by omega) (by omega),BN,ha1,BN,ha2,BN,f0,BN,ho,BN,C5Y,BN,Bz]
 exact hK _ _ (λb=>by
  obtain⟨q,hq⟩:=YG (D:=depth-2) (b:=b) hs h0
  exact⟨_,UO (D:=depth-1) (Ay hq (Ay (q:=false) D2 (Ay (q:=false) D2 Be)))⟩)
theorem B3A (hL:100<L) (hT:RTy L n id ks xs (uu (ty.getD (xs.length-1) 0)) ty) (hlen:ty.length=xs.length) (hk:∀k∈ks,k<52) (hb:ks.length≤6) (hn:1≤xs.length) (hn':xs.length≤40) (h1:1≤id) (h2:id≤1000000):
 CS (rt (L+20) (n+44)) E3 [.agg (B2 id (BH ks) (Cb xs) (uu (ty.getD (xs.length-1) 0)))] (Bo true):=by
 intro K hK
 rw[ZQ]
 unfold Rh Av
 rw[Ft (Mi (.inr ⟨_,_,rfl⟩) (.inr ⟨_,_,rfl⟩))]
 have hp0:=A1 (H:=[]) (x:=Ho id (BH ks) (Cb xs) (uu (ty.getD (xs.length-1) 0))) (by simp)
 generalize ((A2 [],Ho id (BH ks) (Cb xs) (uu (ty.getD (xs.length-1) 0)))::([]:Hp))=H0 at hp0
 have ck:∀{K:AV→Aj},Ah (rt (L+20) (n+43)) Ob [.agg (B2 id (BH ks) (Cb xs) (uu (ty.getD (xs.length-1) 0)))] H0 K=K (.tup [PC ty,I 0,I 0]):= λ{K}=>Ba (B7v hL hT hlen hk hb hn hn' h1 h2) (SI (.inr ⟨_,_,rfl⟩) (.inr ⟨_,_,rfl⟩))
 have e2:∀{K:AV→Aj},AN (.tup [PC ty,I 0,I 0]) 2 K=K (I 0):= λ{K}=>_root_.id rfl
 have e0:∀{K:AV→Aj},AN (.tup [PC ty,I 0,I 0]) 0 K=K (PC ty):= λ{K}=>_root_.id rfl
 have e1:∀{K:AV→Aj},AN (.tup [PC ty,I 0,I 0]) 1 K=K (I 0):= λ{K}=>_root_.id rfl
 rw[Bq rfl rfl hp0,ck,e0,e1,e2,A3U]
 exact hK _ _ (λb=>⟨false,λK=>by kernel_rfl⟩)
end
end
section
variable {L n:Nat}
section
variable {ks:List Nat} {xs:List Nd} {id:Int} {o:UD}
def KP (ks:List Nat):List Nd:=(List.range ks.length).map VD
theorem En:(KP ks).length=ks.length:=by simp[KP]
theorem Xp {i:Nat} (h:i<(KP ks).length):(KP ks)[i]=VD i:=by simp[KP]
theorem C1G (hb:ks.length≤6):RTy L n id ks (KP ks) o ks:=by
 intro i h
 rw[Xp h]
 have hi:i<ks.length:=by rw[En] at h;exact h
 have e:ks.getD i 0=ks[i]:=by simp[List.getD,Kq hi]
 rw[e]
 exact Vo (n:=n+39) hb hi
theorem A0j {y:Nd} {k:Nat} (hb:ks.length≤6) (hy:CS (rt (L+20) (n+42)) Ci [.agg (B2 id (BH ks) (Cb (KP ks++[y])) o),.agg y.cs,I ks.length,PC ks] (.tup [.agg (Ck (uu k)),I 0])):
 RTy L n id ks (KP ks++[y]) o (ks++[k]):=by
 intro i h
 rw[Fl,En] at h
 by_cases hi:i<ks.length
 ·have e:(KP ks++[y])[i]'(by rw[Fl,En];exact h)=VD i:=by
   rw[List.getElem_append_left (by rw[En];exact hi)];exact Xp _
  rw[e]
  have e2:(ks++[k]).getD i 0=ks[i]:=by simp[List.getD,l0l hi,Kq hi]
  rw[e2]
  exact Vo (n:=n+39) hb hi
 ·have hi':i=ks.length:=by simp at h;omega
  subst hi'
  have e:(KP ks++[y])[ks.length]'(by rw[Fl,En];exact h)=y:=by
   rw[List.getElem_append_right (by rw[En];omega)];simp
  rw[e]
  have e2:(ks++[k]).getD ks.length 0=k:=by simp[List.getD]
  rw[e2,List.take_left']
  ·exact hy
  ·rfl
end
end
section
def dg (k:Nat):List UInt8:=if k<10 then[UInt8.ofNat (48+k)] else if k<100 then[UInt8.ofNat (48+k/10),UInt8.ofNat (48+k%10)] else[UInt8.ofNat (48+k/100),UInt8.ofNat (48+k/10%10),UInt8.ofNat (48+k%10)]
variable (L n:Nat)
theorem C24:((List.range 50).all λk=>(λi=>Iu (AX (CL (rt (L+20) (n+10)) Bm [I (i:Nat)]) (S (dg i)))) (k+0))=true:=by kernel_rfl
theorem C23:((List.range 50).all λk=>(λi=>Iu (AX (CL (rt (L+20) (n+10)) Bm [I (i:Nat)]) (S (dg i)))) (k+50))=true:=by kernel_rfl
theorem C22:((List.range 50).all λk=>(λi=>Iu (AX (CL (rt (L+20) (n+10)) Bm [I (i:Nat)]) (S (dg i)))) (k+100))=true:=by kernel_rfl
theorem C21:((List.range 50).all λk=>(λi=>Iu (AX (CL (rt (L+20) (n+10)) Bm [I (i:Nat)]) (S (dg i)))) (k+150))=true:=by kernel_rfl
theorem C20:((List.range 50).all λk=>(λi=>Iu (AX (CL (rt (L+20) (n+10)) Bm [I (i:Nat)]) (S (dg i)))) (k+200))=true:=by kernel_rfl
theorem C1Z:((List.range 50).all λk=>(λi=>Iu (AX (CL (rt (L+20) (n+10)) Bm [I (i:Nat)]) (S (dg i)))) (k+250))=true:=by kernel_rfl
theorem C1Y:((List.range 50).all λk=>(λi=>Iu (AX (CL (rt (L+20) (n+10)) Bm [I (i:Nat)]) (S (dg i)))) (k+300))=true:=by kernel_rfl
theorem C1X:((List.range 50).all λk=>(λi=>Iu (AX (CL (rt (L+20) (n+10)) Bm [I (i:Nat)]) (S (dg i)))) (k+350))=true:=by kernel_rfl
theorem C1W:((List.range 50).all λk=>(λi=>Iu (AX (CL (rt (L+20) (n+10)) Bm [I (i:Nat)]) (S (dg i)))) (k+400))=true:=by kernel_rfl
theorem C1V:((List.range 50).all λk=>(λi=>Iu (AX (CL (rt (L+20) (n+10)) Bm [I (i:Nat)]) (S (dg i)))) (k+450))=true:=by kernel_rfl
theorem B7u:((List.range 50).all λk=>(λi=>Iu (AX (CL (rt (L+20) (n+10)) Bm [I (i:Nat)]) (S (dg i)))) (k+500))=true:=by kernel_rfl
theorem B7t:((List.range 50).all λk=>(λi=>Iu (AX (CL (rt (L+20) (n+10)) Bm [I (i:Nat)]) (S (dg i)))) (k+550))=true:=by kernel_rfl
theorem B7s:((List.range 50).all λk=>(λi=>Iu (AX (CL (rt (L+20) (n+10)) Bm [I (i:Nat)]) (S (dg i)))) (k+600))=true:=by kernel_rfl
theorem B7r:((List.range 50).all λk=>(λi=>Iu (AX (CL (rt (L+20) (n+10)) Bm [I (i:Nat)]) (S (dg i)))) (k+650))=true:=by kernel_rfl
theorem B7q:((List.range 50).all λk=>(λi=>Iu (AX (CL (rt (L+20) (n+10)) Bm [I (i:Nat)]) (S (dg i)))) (k+700))=true:=by kernel_rfl
theorem B7p:((List.range 50).all λk=>(λi=>Iu (AX (CL (rt (L+20) (n+10)) Bm [I (i:Nat)]) (S (dg i)))) (k+750))=true:=by kernel_rfl
theorem B7o:((List.range 50).all λk=>(λi=>Iu (AX (CL (rt (L+20) (n+10)) Bm [I (i:Nat)]) (S (dg i)))) (k+800))=true:=by kernel_rfl
theorem B7n:((List.range 50).all λk=>(λi=>Iu (AX (CL (rt (L+20) (n+10)) Bm [I (i:Nat)]) (S (dg i)))) (k+850))=true:=by kernel_rfl
theorem B7m:((List.range 50).all λk=>(λi=>Iu (AX (CL (rt (L+20) (n+10)) Bm [I (i:Nat)]) (S (dg i)))) (k+900))=true:=by kernel_rfl
theorem C6S (i:Nat) (h:i<950):PS (rt (L+20) (n+10)) Bm [I (i:Nat)] (S (dg i)):=by
 refine B4 (λH=>by first|exact λK=>by kernel_rfl) ?_
 by_cases h0:i<50
 ·have:=HB.1 (C24 L n) (i-0) (Ju.2 (by omega))
  have e:i-0+0=i:=by omega
  simp only[e] at this
  exact this
 by_cases h1:i<100
 ·have:=HB.1 (C23 L n) (i-50) (Ju.2 (by omega))
  have e:i-50+50=i:=by omega
  simp only[e] at this
  exact this
 by_cases h2:i<150
 ·have:=HB.1 (C22 L n) (i-100) (Ju.2 (by omega))
  have e:i-100+100=i:=by omega
  simp only[e] at this
  exact this
 by_cases h3:i<200
 ·have:=HB.1 (C21 L n) (i-150) (Ju.2 (by omega))
  have e:i-150+150=i:=by omega
  simp only[e] at this
  exact this
 by_cases h4:i<250
 ·have:=HB.1 (C20 L n) (i-200) (Ju.2 (by omega))
  have e:i-200+200=i:=by omega
  simp only[e] at this
  exact this
 by_cases h5:i<300
 ·have:=HB.1 (C1Z L n) (i-250) (Ju.2 (by omega))
  have e:i-250+250=i:=by omega
  simp only[e] at this
  exact this
 by_cases h6:i<350
 ·have:=HB.1 (C1Y L n) (i-300) (Ju.2 (by omega))
  have e:i-300+300=i:=by omega
  simp only[e] at this
  exact this
 by_cases h7:i<400
 ·have:=HB.1 (C1X L n) (i-350) (Ju.2 (by omega))
  have e:i-350+350=i:=by omega
  simp only[e] at this
  exact this
 by_cases h8:i<450
 ·have:=HB.1 (C1W L n) (i-400) (Ju.2 (by omega))
  have e:i-400+400=i:=by omega
  simp only[e] at this
  exact this
 by_cases h9:i<500
 ·have:=HB.1 (C1V L n) (i-450) (Ju.2 (by omega))
  have e:i-450+450=i:=by omega
  simp only[e] at this
  exact this
 by_cases h10:i<550
 ·have:=HB.1 (B7u L n) (i-500) (Ju.2 (by omega))
  have e:i-500+500=i:=by omega
  simp only[e] at this
  exact this
 by_cases h11:i<600
 ·have:=HB.1 (B7t L n) (i-550) (Ju.2 (by omega))
  have e:i-550+550=i:=by omega
  simp only[e] at this
  exact this
 by_cases h12:i<650
 ·have:=HB.1 (B7s L n) (i-600) (Ju.2 (by omega))
  have e:i-600+600=i:=by omega
  simp only[e] at this
  exact this
 by_cases h13:i<700
 ·have:=HB.1 (B7r L n) (i-650) (Ju.2 (by omega))
  have e:i-650+650=i:=by omega
  simp only[e] at this
  exact this
 by_cases h14:i<750
 ·have:=HB.1 (B7q L n) (i-700) (Ju.2 (by omega))
  have e:i-700+700=i:=by omega
  simp only[e] at this
  exact this
 by_cases h15:i<800
 ·have:=HB.1 (B7p L n) (i-750) (Ju.2 (by omega))
  have e:i-750+750=i:=by omega
  simp only[e] at this
  exact this
 by_cases h16:i<850
 ·have:=HB.1 (B7o L n) (i-800) (Ju.2 (by omega))
  have e:i-800+800=i:=by omega
  simp only[e] at this
  exact this
 by_cases h17:i<900
 ·have:=HB.1 (B7n L n) (i-850) (Ju.2 (by omega))
  have e:i-850+850=i:=by omega
  simp only[e] at this
  exact this
 by_cases h18:i<950
 ·have:=HB.1 (B7m L n) (i-900) (Ju.2 (by omega))
  have e:i-900+900=i:=by omega
  simp only[e] at this
  exact this
 omega
end
section
variable (L n:Nat)
theorem B9U:((List.range 50).all λk=>(λi=>Iu (AX (CL (rt (L+20) (n+10)) BA [I (i:Nat)]) (S (dg i)))) (k+0))=true:=by kernel_rfl
theorem B9T:((List.range 50).all λk=>(λi=>Iu (AX (CL (rt (L+20) (n+10)) BA [I (i:Nat)]) (S (dg i)))) (k+50))=true:=by kernel_rfl
theorem B9S:((List.range 50).all λk=>(λi=>Iu (AX (CL (rt (L+20) (n+10)) BA [I (i:Nat)]) (S (dg i)))) (k+100))=true:=by kernel_rfl
theorem B9R:((List.range 50).all λk=>(λi=>Iu (AX (CL (rt (L+20) (n+10)) BA [I (i:Nat)]) (S (dg i)))) (k+150))=true:=by kernel_rfl
theorem B9Q:((List.range 50).all λk=>(λi=>Iu (AX (CL (rt (L+20) (n+10)) BA [I (i:Nat)]) (S (dg i)))) (k+200))=true:=by kernel_rfl
theorem B9P:((List.range 50).all λk=>(λi=>Iu (AX (CL (rt (L+20) (n+10)) BA [I (i:Nat)]) (S (dg i)))) (k+250))=true:=by kernel_rfl
theorem B9O:((List.range 50).all λk=>(λi=>Iu (AX (CL (rt (L+20) (n+10)) BA [I (i:Nat)]) (S (dg i)))) (k+300))=true:=by kernel_rfl
theorem B9N:((List.range 50).all λk=>(λi=>Iu (AX (CL (rt (L+20) (n+10)) BA [I (i:Nat)]) (S (dg i)))) (k+350))=true:=by kernel_rfl
theorem B9M:((List.range 50).all λk=>(λi=>Iu (AX (CL (rt (L+20) (n+10)) BA [I (i:Nat)]) (S (dg i)))) (k+400))=true:=by kernel_rfl
theorem B9L:((List.range 50).all λk=>(λi=>Iu (AX (CL (rt (L+20) (n+10)) BA [I (i:Nat)]) (S (dg i)))) (k+450))=true:=by kernel_rfl
theorem B6n:((List.range 50).all λk=>(λi=>Iu (AX (CL (rt (L+20) (n+10)) BA [I (i:Nat)]) (S (dg i)))) (k+500))=true:=by kernel_rfl
theorem B6m:((List.range 50).all λk=>(λi=>Iu (AX (CL (rt (L+20) (n+10)) BA [I (i:Nat)]) (S (dg i)))) (k+550))=true:=by kernel_rfl
theorem B6l:((List.range 50).all λk=>(λi=>Iu (AX (CL (rt (L+20) (n+10)) BA [I (i:Nat)]) (S (dg i)))) (k+600))=true:=by kernel_rfl
theorem B6k:((List.range 50).all λk=>(λi=>Iu (AX (CL (rt (L+20) (n+10)) BA [I (i:Nat)]) (S (dg i)))) (k+650))=true:=by kernel_rfl
theorem B6j:((List.range 50).all λk=>(λi=>Iu (AX (CL (rt (L+20) (n+10)) BA [I (i:Nat)]) (S (dg i)))) (k+700))=true:=by kernel_rfl
theorem B6i:((List.range 50).all λk=>(λi=>Iu (AX (CL (rt (L+20) (n+10)) BA [I (i:Nat)]) (S (dg i)))) (k+750))=true:=by kernel_rfl
theorem B6h:((List.range 50).all λk=>(λi=>Iu (AX (CL (rt (L+20) (n+10)) BA [I (i:Nat)]) (S (dg i)))) (k+800))=true:=by kernel_rfl
theorem B6g:((List.range 50).all λk=>(λi=>Iu (AX (CL (rt (L+20) (n+10)) BA [I (i:Nat)]) (S (dg i)))) (k+850))=true:=by kernel_rfl
theorem B6f:((List.range 50).all λk=>(λi=>Iu (AX (CL (rt (L+20) (n+10)) BA [I (i:Nat)]) (S (dg i)))) (k+900))=true:=by kernel_rfl
theorem C6N (i:Nat) (h:i<950):PS (rt (L+20) (n+10)) BA [I (i:Nat)] (S (dg i)):=by
 refine B4 (λH=>by first|exact λK=>by kernel_rfl) ?_
 by_cases h0:i<50
 ·have:=HB.1 (B9U L n) (i-0) (Ju.2 (by omega))
  have e:i-0+0=i:=by omega
  simp only[e] at this
  exact this
 by_cases h1:i<100
 ·have:=HB.1 (B9T L n) (i-50) (Ju.2 (by omega))
  have e:i-50+50=i:=by omega
  simp only[e] at this
  exact this
 by_cases h2:i<150
 ·have:=HB.1 (B9S L n) (i-100) (Ju.2 (by omega))
  have e:i-100+100=i:=by omega
  simp only[e] at this
  exact this
 by_cases h3:i<200
 ·have:=HB.1 (B9R L n) (i-150) (Ju.2 (by omega))
  have e:i-150+150=i:=by omega
  simp only[e] at this
  exact this
 by_cases h4:i<250
 ·have:=HB.1 (B9Q L n) (i-200) (Ju.2 (by omega))
  have e:i-200+200=i:=by omega
  simp only[e] at this
  exact this
 by_cases h5:i<300
 ·have:=HB.1 (B9P L n) (i-250) (Ju.2 (by omega))
  have e:i-250+250=i:=by omega
  simp only[e] at this
  exact this
 by_cases h6:i<350
 ·have:=HB.1 (B9O L n) (i-300) (Ju.2 (by omega))
  have e:i-300+300=i:=by omega
  simp only[e] at this
  exact this
 by_cases h7:i<400
 ·have:=HB.1 (B9N L n) (i-350) (Ju.2 (by omega))
  have e:i-350+350=i:=by omega
  simp only[e] at this
  exact this
 by_cases h8:i<450
 ·have:=HB.1 (B9M L n) (i-400) (Ju.2 (by omega))
  have e:i-400+400=i:=by omega
  simp only[e] at this
  exact this
 by_cases h9:i<500
 ·have:=HB.1 (B9L L n) (i-450) (Ju.2 (by omega))
  have e:i-450+450=i:=by omega
  simp only[e] at this
  exact this
 by_cases h10:i<550
 ·have:=HB.1 (B6n L n) (i-500) (Ju.2 (by omega))
  have e:i-500+500=i:=by omega
  simp only[e] at this
  exact this
 by_cases h11:i<600
 ·have:=HB.1 (B6m L n) (i-550) (Ju.2 (by omega))
  have e:i-550+550=i:=by omega
  simp only[e] at this
  exact this
 by_cases h12:i<650
 ·have:=HB.1 (B6l L n) (i-600) (Ju.2 (by omega))
  have e:i-600+600=i:=by omega
  simp only[e] at this
  exact this
 by_cases h13:i<700
 ·have:=HB.1 (B6k L n) (i-650) (Ju.2 (by omega))
  have e:i-650+650=i:=by omega
  simp only[e] at this
  exact this
 by_cases h14:i<750
 ·have:=HB.1 (B6j L n) (i-700) (Ju.2 (by omega))
  have e:i-700+700=i:=by omega
  simp only[e] at this
  exact this
 by_cases h15:i<800
 ·have:=HB.1 (B6i L n) (i-750) (Ju.2 (by omega))
  have e:i-750+750=i:=by omega
  simp only[e] at this
  exact this
 by_cases h16:i<850
 ·have:=HB.1 (B6h L n) (i-800) (Ju.2 (by omega))
  have e:i-800+800=i:=by omega
  simp only[e] at this
  exact this
 by_cases h17:i<900
 ·have:=HB.1 (B6g L n) (i-850) (Ju.2 (by omega))
  have e:i-850+850=i:=by omega
  simp only[e] at this
  exact this
 by_cases h18:i<950
 ·have:=HB.1 (B6f L n) (i-900) (Ju.2 (by omega))
  have e:i-900+900=i:=by omega
  simp only[e] at this
  exact this
 omega
end
end Go.Abs
end
