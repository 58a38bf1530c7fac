import Derived.Test.YtlbhdmbfdcohhaaGreatDoorT25
import Derived.Test.YtlbhdmbfdcohhaaGreatDoorT26
set_option linter.all false
set_option maxHeartbeats 100000000
noncomputable section
namespace Go.Abs
open Go.RowKit Go.Proofs
set_option maxRecDepth 100000
section
variable {L n:Nat}
theorem C6S {cs:List AV} {b:List UInt8} (hL:40000<L) (h1:cs.all AV.one=true) (hz:cs.length=68) (hfx:∀H,OV true depth [.agg cs] [.agg cs] H false) (hb:b.length≤32768) (hB:CS (rt (L+20) (n+62)) Jd [.agg cs] (.tup [S b,I 0])):CS (rt (L+20) (n+63)) Kr [.agg cs] (S (sha b)):=by
 intro K hK
 rw[Wl]
 unfold Nt Av
 rw[Fz h1]
 have hc0:=A1 (H:=[]) (x:= .cells true Ak cs) (by simp)
 generalize ((A2 [],Row.cells true Ak cs)::([]:Hp))=H0 at hc0
 rw[Br rfl hz.symm hc0,AT hB (hfx H0),CZ,CY,Ib]
 show Aw (.v (.bool false)) _ _=_
 rw[Bx]
 have hs:∀K,Ai (rt (L+20) (n+62)) Pn [S b] H0 K=K (S (sha b)):= λK=>AT (C4u (L:=L+20) (n:=n+54) (by omega) (by omega)) (Ax (q:=false) (q':=false) D1 Ba)
 rw[hs]
 exact hK _ _ (λb=>⟨false,λK=>by kernel_rfl⟩)
end
section
variable {L n:Nat}
structure Nd where
 op:Int
 (vn vd:List UInt8)
 u:UD
 (n l r:Int)
abbrev Nd.cs (x:Nd):List AV:=[I x.op,S x.vn,S x.vd,I x.u.p0,I x.u.q0,I x.u.p1,I x.u.q1,I x.u.p2,I x.u.q2,I x.u.p3,I x.u.q3,I x.u.p4,I x.u.q4,I x.u.p5,I x.u.q5,I x.u.p6,I x.u.q6,S x.u.fn,S x.u.fd,S x.u.on,S x.u.od,I x.u.kd,I x.u.sc,I x.n,I x.l,I x.r]
def GG (k:Nat):List AV:=Cm (uu k)
abbrev BJ (ks:List Nat):AV:= .list ks.length (ks.flatMap GG)
def ndC (x:Nd):List AV:=x.cs
abbrev Cc (xs:List Nd):AV:= .list xs.length (xs.flatMap ndC)
theorem O0 {ks:List Nat} {K:AV→Aj}:AR Am (BJ ks) K=K (I ks.length):=id rfl
theorem Sk {xs:List Nd} {K:AV→Aj}:AR A3 (Cc xs) K=K (I xs.length):=id rfl
theorem XB {ks:List Nat} {i:Nat} {K:AV→Aj} (h:i<ks.length):BA Am (BJ ks) (I i) K=K (.iptr (GG ks[i])):=A2i (f:=GG) rfl (λ_=>rfl) h
theorem A0C {xs:List Nd} {i:Nat} {K:AV→Aj} (h:i<xs.length):BA A3 (Cc xs) (I i) K=K (.iptr (ndC xs[i])):=A2i (f:=ndC) rfl (λ_=>rfl) h
theorem X8 {k:Nat} {H:Hp} {K:AV→Aj}:Au Af (.iptr (GG k)) H K=K (.agg (Cm (uu k))):=id rfl
theorem A0B {x:Nd} {H:Hp} {K:AV→Aj}:Au AE (.iptr (ndC x)) H K=K (.agg x.cs):=id rfl
abbrev Hu (id:Int) (ins nds:AV) (o:UD):Row:= .cells true BE (B1 id ins nds o)
section
attribute [local irreducible] Ai rt Zz eBi eEq cnd Go.Abs.Al Go.Abs.Vc Aw
theorem Vq {z lo hi:Int} (h1:lo≤z) (h2:z≤hi):PS (rt (L+20) (n+1)) CF [I z,I lo,I hi] (Bo true):=by
 refine CS.ps (λK hK=> ?_) (λH=> λK=>by kernel_rfl)
 rewrite [Y5]
 unfold Qc Bh D3
 try rewrite [zO]
 try rewrite [bO]
 try rewrite [qO]
 try rewrite [cO]
 conv=>lhs;whnf
 rewrite [B0e h1]
 conv=>lhs;whnf
 rewrite [B06 h2]
 conv=>lhs;whnf
 exact hK _ _ (λb=>⟨false,λK=>by kernel_rfl⟩)
end
section
variable {K:KV} {x:Aj} {ks:List Nat} {xs:List Nd} {id:Int} {o:UD}
theorem C1J {k31:AV→Hp→Aj} {H:Hp} {c:Nat} {nds:AV} (hk:∀k∈ks,k<52) (hb:ks.length<100) (hx:k31 (.ptr c 0 0) H=x) (hl:Aq H c=some (Hu id (BJ ks) nds o)):∀(f i:Nat),i≤ks.length→ks.length-i<f→
 KU (L+20) (rt (L+20) (n+40)) K k31 f (.ptr c 0 0) (I i) H=x:=by
 intro f
 induction f with
 |zero=>intro i _ h;omega
 |succ f ih=>
  intro i hi hf
  rw[WW]
  unfold OB Av D3
  have f1:∀K:AV→Aj,AN 1 (.ptr c 0 0) K=K (.ptr c 1 0):= λK=>_root_.id rfl
  have l1:∀K,Au Am (.ptr c 1 0) H K=K (BJ ks):= λK=>AK (p:=1) rfl hl (show 1<23 by decide)
  rw[f1,l1,O0]
  by_cases h:i<ks.length
  ·rw[FL (by omega),Dc,f1,l1,XB h,X8,PW _ _ _ (hk _ (QN h)),ntT,Bx,Dv (by omega)]
   exact ih (i+1) (by omega) (by omega)
  ·rw[FE (by omega),Bx]
   exact hx
theorem Mh {ins nds:AV} (hI:Sl ins) (hN:Sl nds):(B1 id ins nds o).all AV.one=true:=by
 rcases hI with rfl|⟨_,_,rfl⟩<;>rcases hN with rfl|⟨_,_,rfl⟩<;>rfl
theorem B3M (hL:100<L) (hk:∀k∈ks,k<52) (hb:ks.length≤6) (hn:1≤xs.length) (hn':xs.length≤40) (h1:1≤id) (h2:id≤1000000):CS (rt (L+20) (n+41)) MK [.agg (B1 id (BJ ks) (Cc xs) o)] (.tup [Bo true,Bo true]):=by
 intro K hK
 rw[Y6]
 unfold Qd Bh Av D3
 rw[Fz (Mh (.inr ⟨_,_,rfl⟩) (.inr ⟨_,_,rfl⟩))]
 have hc0:=A1 (H:=[]) (x:=Hu id (BJ ks) (Cc xs) o) (by simp)
 generalize ((A2 [],Hu id (BJ ks) (Cc xs) o)::([]:Hp))=H0 at hc0
 generalize A2 []=c at hc0
 simp only[BW]
 refine C1J hk (by omega) ?_ hc0 (L+20) 0 (by omega) (by omega)
 have f0:∀{j:Nat} {K:AV→Aj},AN j (.ptr c 0 0) K=K (.ptr c j 0):= λ{j K}=>by rw[fA,KN]
 have l0:∀{K},Au Ab (.ptr c 0 0) H0 K=K (I id):= λ{K}=>AK (p:=0) rfl hc0 (show 0<23 by decide)
 have l1:∀{K},Au Am (.ptr c 1 0) H0 K=K (BJ ks):= λ{K}=>AK (p:=1) rfl hc0 (show 1<23 by decide)
 have l2:∀{K},Au A3 (.ptr c 2 0) H0 K=K (Cc xs):= λ{K}=>AK (p:=2) rfl hc0 (show 2<23 by decide)
 have w1:∀{K:AV→Aj},Ai (rt (L+20) (n+40)) CF [I id,.v (.int .i64 1),.v (.int .i64 1000000)] H0 K=K (Bo true):= λ{K}=>Vq (n:=n+39) h1 h2 H0 K
 have w2:∀{K:AV→Aj},Ai (rt (L+20) (n+40)) CF [I (xs.length:Int),.v (.int .i64 1),.v (.int .i64 40)] H0 K=K (Bo true):= λ{K}=>Vq (n:=n+39) (by omega) (by omega) H0 K
 have q1:∀{K},Go.Abs.Al Ab .leq (I (ks.length:Int)) (.v (.int .i64 6)) K=K (Bo true):= λ{K}=>by rw[XD,decide_eq_true (by omega)]
 have q2:∀{K},Go.Abs.Al Ab .gtr (I (xs.length:Int)) (.v (.int .i64 0)) K=K (Bo true):= λ{K}=>by rw[D7,decide_eq_true (by omega)]
 simp only[f0,l0,l1,l2,BK,Cu,gT,w1,w2,O0,Sk,q1,q2,Wz]
 exact hK _ _ (λb=>⟨false,λK=>by kernel_rfl⟩)
end
end
section
variable {L n:Nat}
def Uv:Value→Bool
 | .int _ _=>true
 | .string _=>true
 | .bool _=>true
 | .slice none 0 0=>true
 |_=>false
def pl:Nat→AV→Bool
 |_,.v x=>Uv x
 |d+1,.list _ cs=>cs.all (pl d)
 |d+1,.agg cs=>cs.all (pl d)
 |d+1,.tup cs=>cs.all (pl d)
 |_,_=>false
theorem B4T:∀l:List UInt8,WK.eqbL l l=true:=by
 intro l
 induction l with
 |nil=>rfl
 |cons a l ih=>simp only[WK.eqbL,ih,l1b];exact Zq _
theorem Ye {x:Value} (h:Uv x=true):WK x x=true:=by
 unfold Uv at h
 split at h
 ·simp[WK]
 ·exact B4T _
 ·simp[WK]
 ·rfl
 ·cases h
theorem B2c {f:AV→AV→Bool}:∀l:List AV,(∀a∈l,f a a=true)→A2z f l l=true:=by
 intro l
 induction l with
 |nil=>intro _;rfl
 |cons a l ih=>intro h;simp only[A2z,h a (by simp),ih λb hb=>h b (by simp[hb]),l1b]
theorem XP:∀(d:Nat) (a:AV),pl d a=true→XV d a a=true:=by
 intro d
 induction d with
 |zero=>intro a h;cases a<;>first|exact Ye h|cases h
 |succ d ih=>
  intro a h
  cases a<;>first
   |exact Ye h
   |(simp only[pl,HF] at h;simp only[XV,Zq,l16];exact B2c _ λb hb=>ih b (h b hb))
   |cases h
theorem B2d {a:AV} (h:pl 6 a=true):Ww a a=true:=by
 cases a<;>first|exact Ye h|exact XP 6 _ h|cases h
theorem RS {v:AV} {H:Hp} {K:Aj} (h:pl 6 v=true):Pw (AX (some (v,H)) v) K=K:=by
 show Pw (some (.v (.bool (Ww v v)),[])) K=K
 rw[B2d h];rfl
theorem B1u {x:Value} (h:Uv x=true) (h':x≠.slice none 0 0):Xr x x=some true:=by
 unfold Uv at h
 split at h
 ·show(match decide (_=_) with|true=>some (ieq _ _)|false=>none)=_
  rw[decide_eq_true rfl,OK,decide_eq_true rfl]
 ·show some (Go.Abs.eqB _ _)=_
  rw[OO];simp
 ·show some (_==_)=_
  simp
 ·exact absurd rfl h'
 ·cases h
theorem A7s:∀xs:List Value,(∀x∈xs,Uv x=true∧x≠.slice none 0 0)→Vi xs xs=some true:=by
 intro xs
 induction xs with
 |nil=>intro _;rfl
 |cons x xs ih=>
  intro h
  have e:Vi (x::xs) (x::xs)=(match Xr x x with
   |some b=>(match Vi xs xs with|some c=>some (b&&c)|none=>none)
   |none=>none):=rfl
  rw[e,B1u (h x (by simp)).1 (h x (by simp)).2,ih λy hy=>h y (by simp[hy])]
  rfl
theorem C62 {x:Nd} {K:AV→Aj}:Go.Abs.Vc Ka .eql (.agg x.cs) (.agg x.cs) K=K (Bo true):=by
 have e:∀(xs:List Value),Vi xs xs=some true→∀K:AV→Aj,(match(generalizing:=false) Vi xs xs,BinOp.eql with
  |some q,.eql=>bB q K
  |some q,.neq=>bB (!q) K
  |_,_=>(none:Aj))=K (Bo true):= λxs h K=>by rw[h];rfl
 exact e [.int .i64 x.op,.string ⟨⟨x.vn⟩⟩,.string ⟨⟨x.vd⟩⟩,.int .i64 x.u.p0,.int .i64 x.u.q0,.int .i64 x.u.p1,.int .i64 x.u.q1,.int .i64 x.u.p2,.int .i64 x.u.q2,.int .i64 x.u.p3,.int .i64 x.u.q3,.int .i64 x.u.p4,.int .i64 x.u.q4,.int .i64 x.u.p5,.int .i64 x.u.q5,.int .i64 x.u.p6,.int .i64 x.u.q6,
  .string ⟨⟨x.u.fn⟩⟩,.string ⟨⟨x.u.fd⟩⟩,.string ⟨⟨x.u.on⟩⟩,.string ⟨⟨x.u.od⟩⟩,.int .i64 x.u.kd,.int .i64 x.u.sc,.int .i64 x.n,.int .i64 x.l,.int .i64 x.r]
  (A7s _ (by simp[Uv])) K
end
section
variable {L n:Nat}
def VH (i:Nat):Nd:=⟨2,[],[],u0,i,0,0⟩
abbrev JM:List AV:=[zI,zS,zS,zI,zI,zI,zI,zI,zI,zI,zI,zI,zI,zI,zI,zI,zI,zS,zS,zS,zS,zI,zI,zI,zI,zI]
abbrev EW:List AV:=[zI,zI,zI,zI,zI,zI,zI,zI,zI,zI,zI,zI,zI,zI,zS,zS,zS,zS,zI,zI]
abbrev TJ (x:Nd):Row:= .cells true AG x.cs
section
variable {K:KV} {x:Aj} {ks:List Nat} {xs:List Nd} {id:Int} {o:UD} {i:Nat}
theorem A8y {x:Nd}:x.cs.all AV.one=true:=rfl
theorem A3W {t:TI} {a:Int} {K:AV→Aj}:Go.Abs.Al t .eql (I a) (.v (.int .i64 a)) K=K (Bo true):=by rw[Do,decide_eq_true rfl]
theorem A6l (hb:ks.length≤6) (hi:i<ks.length) {at_:Int}:CS (rt (L+20) (n+2)) Ea [.agg (B1 id (BJ ks) (Cc xs) o),.agg (VH i).cs,I at_] (.tup [Bo true,Bo false]):=by
 intro K hK
 rw[RU]
 unfold Ml Bh Av Gr D3
 rw[Fz (Mh (.inr ⟨_,_,rfl⟩) (.inr ⟨_,_,rfl⟩))]
 have hp0:=A1 (H:=[]) (x:=Hu id (BJ ks) (Cc xs) o) (by simp)
 have w0:=Bj (x:=Hu id (BJ ks) (Cc xs) o) F8
 generalize ((A2 [],Hu id (BJ ks) (Cc xs) o)::([]:Hp))=H0 at hp0 w0
 generalize A2 []=p at hp0
 rw[Fz A8y]
 have hn1:=A1 (H:=H0) (x:=TJ (VH i)) (by simp)
 have hp1:Aq ((A2 H0,TJ (VH i))::H0) p=some (Hu id (BJ ks) (Cc xs) o):=AM (w0.lt hp0) hp0
 have w1:=Bj (x:=TJ (VH i)) w0
 generalize ((A2 H0,TJ (VH i))::H0)=H1 at hn1 hp1 w1
 generalize A2 H0=r at hn1
 have f0:∀{s j:Nat} {K:AV→Aj},AN j (.ptr s 0 0) K=K (.ptr s j 0):= λ{s j K}=>by rw[fA,KN]
 have l0:∀{K},Au Ab (.ptr r 0 0) H1 K=K (I 2):= λ{K}=>AK (p:=0) rfl hn1 (show 0<26 by decide)
 have b0:∀{K:AV→Aj},B4 AE [(0,1,I 2)] K=K (.agg (I 2::JM.tail)):= λ{K}=>_root_.id rfl
 rw[f0,l0,b0,Bi (cs:=JM) rfl]
 have hm:=A1 (H:=H1) (x:= .cells true AG JM) (by simp)
 rw[B8 (vs:=I 2::JM.tail) hm rfl rfl rfl]
 have hm2:=A9 (q:=true) (e:=AG) (cs:=I 2::JM.tail) hm
 have w2:=BH (r:=A2 H1) (y:= .cells true AG (I 2::JM.tail)) (Bj (x:= .cells true AG JM) w1)
 have rl:=w1.lt hn1
 have plt:=w1.lt hp1
 have hn2:Aq (upd ((A2 H1,Row.cells true AG JM)::H1) (A2 H1) (.cells true AG (I 2::JM.tail))) r=some (TJ (VH i)):=by
  rw[Ap (by omega)];exact AM rl hn1
 have hp2:Aq (upd ((A2 H1,Row.cells true AG JM)::H1) (A2 H1) (.cells true AG (I 2::JM.tail))) p=some (Hu id (BJ ks) (Cc xs) o):=by
  rw[Ap (by omega)];exact AM plt hp1
 generalize upd ((A2 H1,Row.cells true AG JM)::H1) (A2 H1) (.cells true AG (I 2::JM.tail))=H2 at hm2 w2 hn2 hp2
 have hmr:A2 H1≠r:=by omega
 have hmp:A2 H1≠p:=by omega
 generalize A2 H1=m at hm2 hmr hmp
 simp only[BW]
 have l2:∀{K},Au Ab (.ptr r 0 0) H2 K=K (I 2):= λ{K}=>AK (p:=0) rfl hn2 (show 0<26 by decide)
 have l23:∀{K},Au Ab (.ptr r 23 0) H2 K=K (I i):= λ{K}=>AK (p:=23) rfl hn2 (show 23<26 by decide)
 rw[f0,l2,Do,decide_eq_false (by decide),Bx,A3W,Dc,f0,l23,f0]
 rw[E4 (v:=I i) hm2 (show 23<26 by decide) rfl rfl rfl]
 have hm3:=A9 (q:=true) (e:=AG) (cs:=(I 2::JM.tail).set 23 (I i)) hm2
 have hn3:Aq (upd H2 m (.cells true AG ((I 2::JM.tail).set 23 (I i)))) r=some (TJ (VH i)):=by
  rw[Ap (Ne.symm hmr)];exact hn2
 have hp3:Aq (upd H2 m (.cells true AG ((I 2::JM.tail).set 23 (I i)))) p=some (Hu id (BJ ks) (Cc xs) o):=by
  rw[Ap (Ne.symm hmp)];exact hp2
 generalize upd H2 m (.cells true AG ((I 2::JM.tail).set 23 (I i)))=H3 at hm3 hn3 hp3
 have ly:∀{K},Au AE (.ptr m 0 0) H3 K=K (.agg (VH i).cs):= λ{K}=>Br rfl rfl hm3
 have lx:∀{K},Au AE (.ptr r 0 0) H3 K=K (.agg (VH i).cs):= λ{K}=>Br rfl rfl hn3
 have l23':∀{K},Au Ab (.ptr r 23 0) H3 K=K (I i):= λ{K}=>AK (p:=23) rfl hn3 (show 23<26 by decide)
 have l1:∀{K},Au Am (.ptr p 1 0) H3 K=K (BJ ks):= λ{K}=>AK (p:=1) rfl hp3 (show 1<23 by decide)
 have sb:∀{K},Go.Abs.Al Ab .sub (I (ks.length:Int)) (.v (.int .i64 1)) K=K (I ((ks.length:Int)-1)):= λ{K}=>by rw[Hn,Cl (by omega) (by omega)]
 have wi:∀{K:AV→Aj},Ai (rt (L+20) (n+1)) CF [I (i:Int),.v (.int .i64 0),I ((ks.length:Int)-1)] H3 K=K (Bo true):= λ{K}=>Vq (n:=n) (by omega) (by omega) H3 K
 simp only[lx,ly,C62,gT,f0,Cu,l23',l1,O0,sb,wi,Wz]
 exact hK _ _ (λb=>⟨false,λK=>by kernel_rfl⟩)
theorem Ev {H:Hp} {e:Nat} {zs vs:List AV} (w:Wf H) (hz:vs.length=zs.length):∃H',H'=upd ((A2 H,.cells true e zs)::H) (A2 H) (.cells true e vs)∧Aq H' (A2 H)=some (.cells true e vs)∧Wf H'∧(∀s x,Aq H s=some x→Aq H' s=some x∧s≠A2 H):=by
 have hm:=A1 (H:=H) (x:= .cells true e zs) (by simp)
 refine⟨_,rfl,A9 hm,BH (Bj w),λs x h=> ?_⟩
 have:=w.lt h
 exact⟨by rw[Ap (by omega)];exact AM this h,by omega⟩
theorem Vp (hb:ks.length≤6) (hi:i<ks.length) {at_:Int} {w:AV}:CS (rt (L+20) (n+3)) Cj [.agg (B1 id (BJ ks) (Cc xs) o),.agg (VH i).cs,I at_,w] (.tup [.agg (Cm (uu ks[i])),I 0]):=by
 intro K hK
 rw[FV]
 unfold FK Av
 rw[Fz (Mh (.inr ⟨_,_,rfl⟩) (.inr ⟨_,_,rfl⟩))]
 have hp0:=A1 (H:=[]) (x:=Hu id (BJ ks) (Cc xs) o) (by simp)
 have w0:=Bj (x:=Hu id (BJ ks) (Cc xs) o) F8
 generalize ((A2 [],Hu id (BJ ks) (Cc xs) o)::([]:Hp))=H0 at hp0 w0
 generalize A2 []=p at hp0
 rw[Fz A8y]
 have hn1:=A1 (H:=H0) (x:=TJ (VH i)) (by simp)
 have hp1:Aq ((A2 H0,TJ (VH i))::H0) p=some (Hu id (BJ ks) (Cc xs) o):=AM (w0.lt hp0) hp0
 have w1:=Bj (x:=TJ (VH i)) w0
 generalize ((A2 H0,TJ (VH i))::H0)=H1 at hn1 hp1 w1
 generalize A2 H0=r at hn1
 rw[Bi (cs:=EW) rfl]
 have hq2:=A1 (H:=H1) (x:= .cells true A0 EW) (by simp)
 have hn2:=AM (x:= .cells true A0 EW) (w1.lt hn1) hn1
 have hp2:=AM (x:= .cells true A0 EW) (w1.lt hp1) hp1
 have w2:=Bj (x:= .cells true A0 EW) w1
 generalize ((A2 H1,Row.cells true A0 EW)::H1)=H2 at hq2 hn2 hp2 w2
 generalize A2 H1=q at hq2
 have lp:∀{K},Au A8 (.ptr p 0 0) H2 K=K (.agg (B1 id (BJ ks) (Cc xs) o)):= λ{K}=>Br rfl rfl hp2
 have ln:∀{K},Au AE (.ptr r 0 0) H2 K=K (.agg (VH i).cs):= λ{K}=>Br rfl rfl hn2
 have fx:OV true depth [.agg (B1 id (BJ ks) (Cc xs) o),.agg (VH i).cs,I at_] [.agg (B1 id (BJ ks) (Cc xs) o),.agg (VH i).cs,I at_] H2 false:= λK=>by kernel_rfl
 have sh:∀{K:AV→Aj},Ai (rt (L+20) (n+2)) Ea [.agg (B1 id (BJ ks) (Cc xs) o),.agg (VH i).cs,I at_] H2 K=K (.tup [Bo true,Bo false]):= λ{K}=>AT (A6l hb hi) fx
 have bu:∀{K:AV→Aj},B4 Af [] K=K (.agg EW):= λ{K}=>_root_.id rfl
 rw[lp,ln,sh,CZ,CY,ntT,Bx,bu,Bi (cs:=EW) rfl]
 rw[B8 (vs:=EW) (A1 (by simp)) rfl rfl rfl]
 obtain⟨H3,e3, -,w3,h3⟩:=Ev (e:=A0) (zs:=EW) (vs:=EW) w2 rfl
 rw[←e3,bu,Bi (cs:=EW) rfl,B8 (vs:=EW) (A1 (by simp)) rfl rfl rfl]
 obtain⟨H4,e4, -,w4,h4⟩:=Ev (e:=A0) (zs:=EW) (vs:=EW) w3 rfl
 rw[←e4]
 simp only[BW]
 have f0:∀{s j:Nat} {K:AV→Aj},AN j (.ptr s 0 0) K=K (.ptr s j 0):= λ{s j K}=>by rw[fA,KN]
 have hn4:=(h4 _ _ (h3 _ _ hn2).1).1
 have hp4:=(h4 _ _ (h3 _ _ hp2).1).1
 have hq4:=(h4 _ _ (h3 _ _ hq2).1).1
 have lu:∀{K},Au Af (.ptr r 3 0) H4 K=K (.agg EW):= λ{K}=>Fy (p:=3) rfl hn4 (show 23≤26 by decide)
 rw[Bx,f0,lu,Bi (cs:=EW) rfl,B8 (vs:=EW) (A1 (by simp)) rfl rfl rfl]
 obtain⟨H5,e5,hu5,w5,h5⟩:=Ev (e:=A0) (zs:=EW) (vs:=EW) w4 rfl
 rw[←e5]
 obtain⟨hn5,nr⟩:=h5 _ _ hn4
 obtain⟨hp5,np⟩:=h5 _ _ hp4
 obtain⟨hq5,nq⟩:=h5 _ _ hq4
 generalize A2 H4=v at hu5 nr np nq
 have l0:∀{K},Au Ab (.ptr r 0 0) H5 K=K (I 2):= λ{K}=>AK (p:=0) rfl hn5 (show 0<26 by decide)
 have l23:∀{K},Au Ab (.ptr r 23 0) H5 K=K (I i):= λ{K}=>AK (p:=23) rfl hn5 (show 23<26 by decide)
 have l1:∀{K},Au Am (.ptr p 1 0) H5 K=K (BJ ks):= λ{K}=>AK (p:=1) rfl hp5 (show 1<23 by decide)
 rw[f0,l0,A3W,Dc,f0,l1,f0,l23,XB hi,X8,B8 (vs:=Cm (uu ks[i])) hu5 rfl rfl rfl]
 have hu6:=A9 (q:=true) (e:=A0) (cs:=Cm (uu ks[i])) hu5
 have hq6:Aq (upd H5 v (.cells true A0 (Cm (uu ks[i])))) q=some (.cells true A0 EW):=by rw[Ap nq];exact hq5
 generalize upd H5 v (.cells true A0 (Cm (uu ks[i])))=H6 at hu6 hq6
 rw[Ib]
 show Aw (.v (.bool false)) _ _=_
 rw[Bx,Br rfl rfl hu6,B8 (vs:=Cm (uu ks[i])) hq6 rfl rfl rfl,Br rfl rfl (A9 hq6)]
 exact hK _ _ (λb=>⟨false,λK=>by kernel_rfl⟩)
end
end
section
variable {L n:Nat}
theorem B24 {k:Nat} {H:Hp} {K:KV}:FG A0 20 Af 1 [(0,20,.agg (Cm (uu k)))] H K=K (.sl 20 (A2 H) 0 1) ((A2 H,.cells false A0 (GG k))::H):=by
 have e:FG A0 20 Af 1 [(0,20,.agg (Cm (uu k)))] H K=Ih H (λs=>K (.sl 20 s 0 1) ((s,.cells false A0 (GG k))::H)):=_root_.id rfl
 rw[e,Ca]
theorem C6k {H:Hp} {v:AV} {l:List Nat} (k:Nat) (h:Bu H A0 20 v l.length (l.flatMap GG)) (w:Wf H) (hn:l.length<100):
 ∃v' H',(∀K:KV,(FG A0 20 Af 1 [(0,20,.agg (Cm (uu k)))] H λv1 H1=>DN A0 20 Af Am v v1 H1 K)=K v' H')∧Bu H' A0 20 v' (l++[k]).length ((l++[k]).flatMap GG)∧Wf H'∧A2 H≤A2 H'∧(∀s x,Aq H s=some x→¬AF v s→Aq H' s=some x)∧(∀s,AF v' s→A2 H≤s):=by
 have hv1:Bu ((A2 H,.cells false A0 (GG k))::H) A0 20 v l.length (l.flatMap GG):=h.lat w (Lat.cons H _ (λ_=>False)) (λ_ _ h=>h)
 have hsrc:Bu ((A2 H,.cells false A0 (GG k))::H) A0 20 (.sl 20 (A2 H) 0 1) 1 (GG k):= .inr ⟨A2 H,false,rfl,A1 (by simp),by show 20=_;rfl⟩
 obtain⟨v',H',h1,h2,h3,h4⟩:=apt (ie:=Af) (i2:=Am) hv1 (λK=>Pt (K:=K) hsrc) rfl rfl (by decide) rfl rfl (by show(l.length+1)*192≤_;omega) (by omega)
 have h5:=(Lat.cons H (.cells false A0 (GG k)) (AF v)).trans h4 (R:=AF v) (λ_ _ h=>h) (λ_ _ h=>h)
 refine⟨v',H',λK=> ?_,by rw[XA2,l2g];simpa using h2,h5.wf w,h5.nx,λs x hs hn=>h5.keep w s x hs hn,λs hs=> ?_⟩
 ·rw[B24]
  exact h1 K
 ·rw[h3 s hs];exact l1p _
def C5i (k:Nat):List Value:=[.int .i64 (uu k).p0,.int .i64 (uu k).q0,.int .i64 (uu k).p1,.int .i64 (uu k).q1,.int .i64 (uu k).p2,.int .i64 (uu k).q2,.int .i64 (uu k).p3,.int .i64 (uu k).q3,.int .i64 (uu k).p4,.int .i64 (uu k).q4,.int .i64 (uu k).p5,.int .i64 (uu k).q5,.int .i64 (uu k).p6,.int .i64 (uu k).q6,
 .string ⟨⟨(uu k).fn⟩⟩,.string ⟨⟨(uu k).fd⟩⟩,.string ⟨⟨(uu k).on⟩⟩,.string ⟨⟨(uu k).od⟩⟩,.int .i64 (uu k).kd,.int .i64 (uu k).sc]
theorem C2x (k:Nat):GG k=(C5i k).map λx=> .v x:=rfl
theorem C5h (l:List Nat):l.flatMap GG=(l.flatMap C5i).map λx=> .v x:=by
 induction l with
 |nil=>rfl
 |cons k l ih=>rw[l00,l00,YG,ih,C2x]
def PC (l:List Nat):AV:=match l with
 |[]=>AA
 |k::l=> .list (k::l).length ((k::l).flatMap GG)
theorem YN {D:Nat} {b:Bool} {H:Hp} {v:AV} {l:List Nat} (h:Bu H A0 20 v l.length (l.flatMap GG)) (h0:l=[]→v=AA):∃q,Fx b (D+1) v (PC l) H q:=by
 rcases h with⟨rfl,h2,_⟩|⟨r,q,rfl,h2,h3⟩
 ·cases l with
  |nil=>exact⟨false,D1⟩
  |cons a l=>simp at h2
 ·cases l with
  |nil=>have:=h0 rfl;cases this
  |cons a l=>
   refine⟨true,?_⟩
   show Fx b (D+1) _ (.list (a::l).length ((a::l).flatMap GG)) H true
   rw[C5h] at h2 h3⊢
   exact Xz (q':=false) h2 h3 (K9 _root_.id _)
theorem B9b {b:Bool} {H:Hp} {v:AV} {l:List Nat} (h:Bu H A0 20 v l.length (l.flatMap GG)) (h0:l=[]→v=AA):∃q,Fx b depth v (PC l) H q:=YN (D:=depth-1) h h0
end
section
variable {L n:Nat}
section
variable {K:KV} {x:Aj} {ks ty:List Nat} {xs:List Nd} {id:Int} {o:UD}
def RTy (L n:Nat) (id:Int) (ks:List Nat) (xs:List Nd) (o:UD) (ty:List Nat):Prop:=
 ∀i (h:i<xs.length),CS (rt (L+20) (n+42)) Cj [.agg (B1 id (BJ ks) (Cc xs) o),.agg xs[i].cs,I i,PC (ty.take i)] (.tup [.agg (Cm (uu (ty.getD i 0))),I 0])
theorem C28 {d:Nat}:∀l:List Nat,(l.flatMap GG).all (pl d)=true:=by
 intro l
 induction l with
 |nil=>rfl
 |cons a l ih=>rw[l00,List.all_append,ih];cases d<;>rfl
theorem C27 {d:Nat}:∀l:List Nd,(l.flatMap ndC).all (pl d)=true:=by
 intro l
 induction l with
 |nil=>rfl
 |cons a l ih=>rw[l00,List.all_append,ih];cases d<;>rfl
theorem B7E {d:Nat} (l:List Nat):pl (d+1) (BJ l)=true:=C28 l
theorem A9V {d:Nat} (l:List Nd):pl (d+1) (Cc l)=true:=C27 l
theorem B7D:pl 6 (.agg (B1 id (BJ ks) (Cc xs) o))=true:=by
 show(pl 5 (I id)&&(pl 5 (BJ ks)&&(pl 5 (Cc xs)&&true)))=true
 rw[B7E,A9V];rfl
theorem C1I {k22:AV→AV→Hp→Aj} {p:Nat} (hT:RTy L n id ks xs o ty) (hlen:ty.length=xs.length) (hb:xs.length<100)
 (hx:∀v H,Bu H A0 20 v ty.length (ty.flatMap GG)→(ty=[]→v=AA)→Aq H p=some (Hu id (BJ ks) (Cc xs) o)→k22 (.ptr p 0 0) v H=x):
 ∀(f i:Nat) (v:AV) (H:Hp),i≤xs.length→xs.length-i<f→Bu H A0 20 v (ty.take i).length ((ty.take i).flatMap GG)→(ty.take i=[]→v=AA)→¬AF v p→Aq H p=some (Hu id (BJ ks) (Cc xs) o)→Wf H→
 LV (L+20) (rt (L+20) (n+42)) K k22 f (.ptr p 0 0) v (I i) H=x:=by
 intro f
 induction f with
 |zero=>intro i v H _ h;omega
 |succ f ih=>
  intro i v H hi hf hs h0 hr hp w
  rw[Ym]
  unfold PP Av
  have f0:∀{s j:Nat} {K:AV→Aj},AN j (.ptr s 0 0) K=K (.ptr s j 0):= λ{s j K}=>by rw[fA,KN]
  have l2:∀{K},Au A3 (.ptr p 2 0) H K=K (Cc xs):= λ{K}=>AK (p:=2) rfl hp (show 2<23 by decide)
  have lp:∀{K},Au A8 (.ptr p 0 0) H K=K (.agg (B1 id (BJ ks) (Cc xs) o)):= λ{K}=>Br rfl rfl hp
  rw[f0,l2,Sk]
  by_cases h:i<xs.length
  ·have tyc:∀{H:Hp} (_:Bu H A0 20 v (ty.take i).length ((ty.take i).flatMap GG)) {K:AV→Aj},Ai (rt (L+20) (n+42)) Cj [.agg (B1 id (BJ ks) (Cc xs) o),.agg xs[i].cs,I i,v] H K=K (.tup [.agg (Cm (uu (ty.getD i 0))),I 0]):= λ{H} hs {K}=>by
    obtain⟨q,hq⟩:=B9b (b:=true) hs h0
    have a1:Fx true depth (.agg (B1 id (BJ ks) (Cc xs) o)) (.agg (B1 id (BJ ks) (Cc xs) o)) H false:= λK=>by kernel_rfl
    have a2:Fx true depth (.agg xs[i].cs) (.agg xs[i].cs) H false:= λK=>by kernel_rfl
    exact AT (hT i h) (Ax a1 (Ax a2 (Ax (q:=false) D1 (Ax hq Ba))))
   rw[FL (by omega),Dc]
   simp only[lp,BK,f0,l2,A0C h,A0B,tyc hs,CZ,CY]
   rw[Bi (cs:=EW) rfl,Cu]
   have hz:=A1 (H:=H) (x:= .cells true A0 EW) (by simp)
   rw[B8 (vs:=Cm (uu (ty.getD i 0))) hz rfl rfl rfl,Cu]
   have hp3:=AM (x:= .cells true A0 EW) (w.lt hp) hp
   have hs3:Bu ((A2 H,.cells true A0 EW)::H) A0 20 v (ty.take i).length ((ty.take i).flatMap GG):=hs.lat w (Lat.cons H _ (λ_=>False)) (λ_ _ h=>h)
   obtain⟨H4,e4,hv4,w4,h4⟩:=Ev (e:=A0) (zs:=EW) (vs:=Cm (uu (ty.getD i 0))) w rfl
   rw[←e4]
   have hp4:=(h4 _ _ hp).1
   have hs4:Bu H4 A0 20 v (ty.take i).length ((ty.take i).flatMap GG):=by
    rcases hs with hs|⟨r,q,h1,h2,h3⟩
    ·exact .inl hs
    ·exact .inr ⟨r,q,h1,(h4 _ _ h2).1,h3⟩
   have lp3:∀{K},Au A8 (.ptr p 0 0) ((A2 H,.cells true A0 EW)::H) K=K (.agg (B1 id (BJ ks) (Cc xs) o)):= λ{K}=>Br rfl rfl hp3
   have l23:∀{K},Au A3 (.ptr p 2 0) ((A2 H,.cells true A0 EW)::H) K=K (Cc xs):= λ{K}=>AK (p:=2) rfl hp3 (show 2<23 by decide)
   rw[lp3,RS B7D,l23,RS (A9V xs),RS (by rfl),tyc hs3,RS (by rfl),Ib]
   show Aw (.v (.bool false)) _ _=_
   rw[Bx,Br rfl rfl hv4]
   have ht:ty.take i++[ty.getD i 0]=ty.take (i+1):=by
    have hl:i<ty.length:=by omega
    rw[l04 hl];simp[List.getD,Kn hl]
   obtain⟨v',H5,e5,hs5,w5, -,keep,new⟩:=C6k (ty.getD i 0) hs4 w4 (by rw[l0g];omega)
   rw[e5,Dv (by omega)]
   rw[ht] at hs5
   exact ih (i+1) v' H5 (by omega) (by omega) hs5 (λe=>by rw[←ht] at e;simp at e) (λhr'=>by have:=new _ hr';have:=w4.lt hp4;omega) (keep _ _ hp4 hr) w5
  ·rw[FE (by omega),Bx]
   have:i=xs.length:=by omega
   subst this
   rw[←hlen,l06] at hs h0
   exact hx v H hs h0 hp
end
end
section
variable {L n:Nat}
theorem A9I {H:Hp} {v:AV} {l:List Nat} {i:Nat} (h:Bu H A0 20 v l.length (l.flatMap GG)) (hi:i<l.length):∃a,(∀K:AV→Aj,BA Am v (I i) K=K a)∧(∀K:AV→Aj,Au Af a H K=K (.agg (Cm (uu l[i])))):=by
 rcases h with⟨_,h2,_⟩|⟨r,q,rfl,h2,h3⟩
 ·omega
 ·refine⟨.ptr r (i*20) 0,λK=> ?_,λK=> ?_⟩
  ·have e1:BA Am (.sl 20 r 0 l.length) (I (i:Int)) K=iN (i:Int) λm=>ck (Nat.blt m l.length) (fN (Nat.add 0 (Nat.mul m 20)) λp=>K (.ptr r p 0)):=_root_.id rfl
   rw[e1,JD,Dt]
   have h3:Nat.blt i l.length=true:=by rw[UM];exact hi
   rw[h3]
   show K (.ptr r (0+i*20) 0)=_
   rw[KN]
  ·rw[Fy rfl h2 (by rw[h3];show i*20+20≤_;omega)]
   have:((l.flatMap GG).drop (i*20)).take 20=GG l[i]:=A28 GG 20 (λ_=>rfl) l i hi
   show K (.agg (((l.flatMap GG).drop (i*20)).take 20))=_
   rw[this];rfl
theorem C61 {u:UD} {K:AV→Aj}:Go.Abs.Vc II .neq (.agg (Cm u)) (.agg (Cm u)) K=K (Bo false):=by
 have e:∀(xs:List Value),Vi xs xs=some true→∀K:AV→Aj,(match(generalizing:=false) Vi xs xs,BinOp.neq with
  |some q,.eql=>bB q K
  |some q,.neq=>bB (!q) K
  |_,_=>(none:Aj))=K (Bo false):= λxs h K=>by rw[h];rfl
 exact e [.int .i64 u.p0,.int .i64 u.q0,.int .i64 u.p1,.int .i64 u.q1,.int .i64 u.p2,.int .i64 u.q2,.int .i64 u.p3,.int .i64 u.q3,.int .i64 u.p4,.int .i64 u.q4,.int .i64 u.p5,.int .i64 u.q5,.int .i64 u.p6,.int .i64 u.q6,
  .string ⟨⟨u.fn⟩⟩,.string ⟨⟨u.fd⟩⟩,.string ⟨⟨u.on⟩⟩,.string ⟨⟨u.od⟩⟩,.int .i64 u.kd,.int .i64 u.sc]
  (A7s _ (by simp[Uv])) K
section
variable {ks ty:List Nat} {xs:List Nd} {id:Int}
theorem B7z (hL:100<L) (hT:RTy L n id ks xs (uu (ty.getD (xs.length-1) 0)) ty) (hlen:ty.length=xs.length) (hk:∀k∈ks,k<52) (hb:ks.length≤6) (hn:1≤xs.length) (hn':xs.length≤40) (h1:1≤id) (h2:id≤1000000):
 CS (rt (L+20) (n+43)) Oc [.agg (B1 id (BJ ks) (Cc xs) (uu (ty.getD (xs.length-1) 0)))] (.tup [PC ty,I 0,I 0]):=by
 intro K hK
 rw[ZX]
 unfold Rk Av
 rw[Fz (Mh (.inr ⟨_,_,rfl⟩) (.inr ⟨_,_,rfl⟩))]
 have hp0:=A1 (H:=[]) (x:=Hu id (BJ ks) (Cc xs) (uu (ty.getD (xs.length-1) 0))) (by simp)
 have w0:=Bj (x:=Hu id (BJ ks) (Cc xs) (uu (ty.getD (xs.length-1) 0))) F8
 generalize ((A2 [],Hu id (BJ ks) (Cc xs) (uu (ty.getD (xs.length-1) 0)))::([]:Hp))=H0 at hp0 w0
 generalize A2 []=p at hp0
 have bg:∀{K:AV→Aj},Ai (rt (L+20) (n+42)) MK [.agg (B1 id (BJ ks) (Cc xs) (uu (ty.getD (xs.length-1) 0)))] H0 K=K (.tup [Bo true,Bo true]):= λ{K}=>AT (B3M (n:=n+1) hL hk hb hn hn' h1 h2) (SK (.inr ⟨_,_,rfl⟩) (.inr ⟨_,_,rfl⟩))
 rw[Br rfl rfl hp0,bg,CZ,CY,ntT,Bx]
 simp only[BW]
 refine C1I hT hlen (by omega) ?_ (L+20) 0 _ H0 (by omega) (by omega) (.inl ⟨rfl,rfl,rfl⟩) (λ_=>rfl) (λ⟨_,_,_,h⟩=>by cases h) hp0 w0
 intro v H hs h0 hp
 have f0:∀{s j:Nat} {K:AV→Aj},AN j (.ptr s 0 0) K=K (.ptr s j 0):= λ{s j K}=>by rw[fA,KN]
 have hlt:ty.length-1<ty.length:=by omega
 obtain⟨a,ha1,ha2⟩:=A9I hs hlt
 have ho:∀{K},Au Af (.ptr p 3 0) H K=K (.agg (Cm (uu (ty.getD (xs.length-1) 0)))):= λ{K}=>Fy (p:=3) rfl hp (show 23≤23 by decide)
 have eg:ty[ty.length-1]=ty.getD (xs.length-1) 0:=by rw[←hlen];simp[List.getD,Kn hlt]
 rw[eg] at ha2
 rw[JH rfl hs,BK,A15 (by omega) (by omega),BK,ha1,BK,ha2,BK,f0,BK,ho,BK,C61,BK,Bx]
 exact hK _ _ (λb=>by
  obtain⟨q,hq⟩:=YN (D:=depth-2) (b:=b) hs h0
  exact⟨_,UP (D:=depth-1) (Ax hq (Ax (q:=false) D1 (Ax (q:=false) D1 Ba)))⟩)
theorem B3x (hL:100<L) (hT:RTy L n id ks xs (uu (ty.getD (xs.length-1) 0)) ty) (hlen:ty.length=xs.length) (hk:∀k∈ks,k<52) (hb:ks.length≤6) (hn:1≤xs.length) (hn':xs.length≤40) (h1:1≤id) (h2:id≤1000000):
 CS (rt (L+20) (n+44)) E8 [.agg (B1 id (BJ ks) (Cc xs) (uu (ty.getD (xs.length-1) 0)))] (Bo true):=by
 intro K hK
 rw[ZV]
 unfold Rh Av
 rw[Fz (Mh (.inr ⟨_,_,rfl⟩) (.inr ⟨_,_,rfl⟩))]
 have hp0:=A1 (H:=[]) (x:=Hu id (BJ ks) (Cc xs) (uu (ty.getD (xs.length-1) 0))) (by simp)
 generalize ((A2 [],Hu id (BJ ks) (Cc xs) (uu (ty.getD (xs.length-1) 0)))::([]:Hp))=H0 at hp0
 have ck:∀{K:AV→Aj},Ai (rt (L+20) (n+43)) Oc [.agg (B1 id (BJ ks) (Cc xs) (uu (ty.getD (xs.length-1) 0)))] H0 K=K (.tup [PC ty,I 0,I 0]):= λ{K}=>AT (B7z hL hT hlen hk hb hn hn' h1 h2) (SK (.inr ⟨_,_,rfl⟩) (.inr ⟨_,_,rfl⟩))
 have e2:∀{K:AV→Aj},Bc (.tup [PC ty,I 0,I 0]) 2 K=K (I 0):= λ{K}=>_root_.id rfl
 have e0:∀{K:AV→Aj},Bc (.tup [PC ty,I 0,I 0]) 0 K=K (PC ty):= λ{K}=>_root_.id rfl
 have e1:∀{K:AV→Aj},Bc (.tup [PC ty,I 0,I 0]) 1 K=K (I 0):= λ{K}=>_root_.id rfl
 rw[Br rfl rfl hp0,ck,e0,e1,e2,A3W]
 exact hK _ _ (λb=>⟨false,λK=>by kernel_rfl⟩)
end
end
section
variable {L n:Nat}
section
variable {ks:List Nat} {xs:List Nd} {id:Int} {o:UD}
def KO (ks:List Nat):List Nd:=(List.range ks.length).map VH
theorem Et:(KO ks).length=ks.length:=by simp[KO]
theorem Xt {i:Nat} (h:i<(KO ks).length):(KO ks)[i]=VH i:=by simp[KO]
theorem C1E (hb:ks.length≤6):RTy L n id ks (KO ks) o ks:=by
 intro i h
 rw[Xt h]
 have hi:i<ks.length:=by rw[Et] at h;exact h
 have e:ks.getD i 0=ks[i]:=by simp[List.getD,Kn hi]
 rw[e]
 exact Vp (n:=n+39) hb hi
theorem A0m {y:Nd} {k:Nat} (hb:ks.length≤6) (hy:CS (rt (L+20) (n+42)) Cj [.agg (B1 id (BJ ks) (Cc (KO ks++[y])) o),.agg y.cs,I ks.length,PC ks] (.tup [.agg (Cm (uu k)),I 0])):
 RTy L n id ks (KO ks++[y]) o (ks++[k]):=by
 intro i h
 rw[XA2,Et] at h
 by_cases hi:i<ks.length
 ·have e:(KO ks++[y])[i]'(by rw[XA2,Et];exact h)=VH i:=by
   rw[List.getElem_append_left (by rw[Et];exact hi)];exact Xt _
  rw[e]
  have e2:(ks++[k]).getD i 0=ks[i]:=by simp[List.getD,l0l hi,Kn hi]
  rw[e2]
  exact Vp (n:=n+39) hb hi
 ·have hi':i=ks.length:=by simp at h;omega
  subst hi'
  have e:(KO ks++[y])[ks.length]'(by rw[XA2,Et];exact h)=y:=by
   rw[List.getElem_append_right (by rw[Et];omega)];simp
  rw[e]
  have e2:(ks++[k]).getD ks.length 0=k:=by simp[List.getD]
  rw[e2,List.take_left']
  ·exact hy
  ·rfl
end
end
section
def dg (k:Nat):List UInt8:=if k<10 then[UInt8.ofNat (48+k)] else if k<100 then[UInt8.ofNat (48+k/10),UInt8.ofNat (48+k%10)] else[UInt8.ofNat (48+k/100),UInt8.ofNat (48+k/10%10),UInt8.ofNat (48+k%10)]
variable (L n:Nat)
theorem C22:((List.range 50).all λk=>(λi=>Iz (AX (CM (rt (L+20) (n+10)) Bn [I (i:Nat)]) (S (dg i)))) (k+0))=true:=by kernel_rfl
theorem C21:((List.range 50).all λk=>(λi=>Iz (AX (CM (rt (L+20) (n+10)) Bn [I (i:Nat)]) (S (dg i)))) (k+50))=true:=by kernel_rfl
theorem C20:((List.range 50).all λk=>(λi=>Iz (AX (CM (rt (L+20) (n+10)) Bn [I (i:Nat)]) (S (dg i)))) (k+100))=true:=by kernel_rfl
theorem C1Z:((List.range 50).all λk=>(λi=>Iz (AX (CM (rt (L+20) (n+10)) Bn [I (i:Nat)]) (S (dg i)))) (k+150))=true:=by kernel_rfl
theorem C1Y:((List.range 50).all λk=>(λi=>Iz (AX (CM (rt (L+20) (n+10)) Bn [I (i:Nat)]) (S (dg i)))) (k+200))=true:=by kernel_rfl
theorem C1X:((List.range 50).all λk=>(λi=>Iz (AX (CM (rt (L+20) (n+10)) Bn [I (i:Nat)]) (S (dg i)))) (k+250))=true:=by kernel_rfl
theorem C1W:((List.range 50).all λk=>(λi=>Iz (AX (CM (rt (L+20) (n+10)) Bn [I (i:Nat)]) (S (dg i)))) (k+300))=true:=by kernel_rfl
theorem C1V:((List.range 50).all λk=>(λi=>Iz (AX (CM (rt (L+20) (n+10)) Bn [I (i:Nat)]) (S (dg i)))) (k+350))=true:=by kernel_rfl
theorem C1U:((List.range 50).all λk=>(λi=>Iz (AX (CM (rt (L+20) (n+10)) Bn [I (i:Nat)]) (S (dg i)))) (k+400))=true:=by kernel_rfl
theorem C1T:((List.range 50).all λk=>(λi=>Iz (AX (CM (rt (L+20) (n+10)) Bn [I (i:Nat)]) (S (dg i)))) (k+450))=true:=by kernel_rfl
theorem B7y:((List.range 50).all λk=>(λi=>Iz (AX (CM (rt (L+20) (n+10)) Bn [I (i:Nat)]) (S (dg i)))) (k+500))=true:=by kernel_rfl
theorem B7x:((List.range 50).all λk=>(λi=>Iz (AX (CM (rt (L+20) (n+10)) Bn [I (i:Nat)]) (S (dg i)))) (k+550))=true:=by kernel_rfl
theorem B7w:((List.range 50).all λk=>(λi=>Iz (AX (CM (rt (L+20) (n+10)) Bn [I (i:Nat)]) (S (dg i)))) (k+600))=true:=by kernel_rfl
theorem B7v:((List.range 50).all λk=>(λi=>Iz (AX (CM (rt (L+20) (n+10)) Bn [I (i:Nat)]) (S (dg i)))) (k+650))=true:=by kernel_rfl
theorem B7u:((List.range 50).all λk=>(λi=>Iz (AX (CM (rt (L+20) (n+10)) Bn [I (i:Nat)]) (S (dg i)))) (k+700))=true:=by kernel_rfl
theorem B7t:((List.range 50).all λk=>(λi=>Iz (AX (CM (rt (L+20) (n+10)) Bn [I (i:Nat)]) (S (dg i)))) (k+750))=true:=by kernel_rfl
theorem B7s:((List.range 50).all λk=>(λi=>Iz (AX (CM (rt (L+20) (n+10)) Bn [I (i:Nat)]) (S (dg i)))) (k+800))=true:=by kernel_rfl
theorem B7r:((List.range 50).all λk=>(λi=>Iz (AX (CM (rt (L+20) (n+10)) Bn [I (i:Nat)]) (S (dg i)))) (k+850))=true:=by kernel_rfl
theorem B7q:((List.range 50).all λk=>(λi=>Iz (AX (CM (rt (L+20) (n+10)) Bn [I (i:Nat)]) (S (dg i)))) (k+900))=true:=by kernel_rfl
theorem C6Z (i:Nat) (h:i<950):PS (rt (L+20) (n+10)) Bn [I (i:Nat)] (S (dg i)):=by
 refine B2 (λH=>by first|exact λK=>by kernel_rfl) ?_
 by_cases h0:i<50
 ·have:=HF.1 (C22 L n) (i-0) (Jr.2 (by omega))
  have e:i-0+0=i:=by omega
  simp only[e] at this
  exact this
 by_cases h1:i<100
 ·have:=HF.1 (C21 L n) (i-50) (Jr.2 (by omega))
  have e:i-50+50=i:=by omega
  simp only[e] at this
  exact this
 by_cases h2:i<150
 ·have:=HF.1 (C20 L n) (i-100) (Jr.2 (by omega))
  have e:i-100+100=i:=by omega
  simp only[e] at this
  exact this
 by_cases h3:i<200
 ·have:=HF.1 (C1Z L n) (i-150) (Jr.2 (by omega))
  have e:i-150+150=i:=by omega
  simp only[e] at this
  exact this
 by_cases h4:i<250
 ·have:=HF.1 (C1Y L n) (i-200) (Jr.2 (by omega))
  have e:i-200+200=i:=by omega
  simp only[e] at this
  exact this
 by_cases h5:i<300
 ·have:=HF.1 (C1X L n) (i-250) (Jr.2 (by omega))
  have e:i-250+250=i:=by omega
  simp only[e] at this
  exact this
 by_cases h6:i<350
 ·have:=HF.1 (C1W L n) (i-300) (Jr.2 (by omega))
  have e:i-300+300=i:=by omega
  simp only[e] at this
  exact this
 by_cases h7:i<400
 ·have:=HF.1 (C1V L n) (i-350) (Jr.2 (by omega))
  have e:i-350+350=i:=by omega
  simp only[e] at this
  exact this
 by_cases h8:i<450
 ·have:=HF.1 (C1U L n) (i-400) (Jr.2 (by omega))
  have e:i-400+400=i:=by omega
  simp only[e] at this
  exact this
 by_cases h9:i<500
 ·have:=HF.1 (C1T L n) (i-450) (Jr.2 (by omega))
  have e:i-450+450=i:=by omega
  simp only[e] at this
  exact this
 by_cases h10:i<550
 ·have:=HF.1 (B7y L n) (i-500) (Jr.2 (by omega))
  have e:i-500+500=i:=by omega
  simp only[e] at this
  exact this
 by_cases h11:i<600
 ·have:=HF.1 (B7x L n) (i-550) (Jr.2 (by omega))
  have e:i-550+550=i:=by omega
  simp only[e] at this
  exact this
 by_cases h12:i<650
 ·have:=HF.1 (B7w L n) (i-600) (Jr.2 (by omega))
  have e:i-600+600=i:=by omega
  simp only[e] at this
  exact this
 by_cases h13:i<700
 ·have:=HF.1 (B7v L n) (i-650) (Jr.2 (by omega))
  have e:i-650+650=i:=by omega
  simp only[e] at this
  exact this
 by_cases h14:i<750
 ·have:=HF.1 (B7u L n) (i-700) (Jr.2 (by omega))
  have e:i-700+700=i:=by omega
  simp only[e] at this
  exact this
 by_cases h15:i<800
 ·have:=HF.1 (B7t L n) (i-750) (Jr.2 (by omega))
  have e:i-750+750=i:=by omega
  simp only[e] at this
  exact this
 by_cases h16:i<850
 ·have:=HF.1 (B7s L n) (i-800) (Jr.2 (by omega))
  have e:i-800+800=i:=by omega
  simp only[e] at this
  exact this
 by_cases h17:i<900
 ·have:=HF.1 (B7r L n) (i-850) (Jr.2 (by omega))
  have e:i-850+850=i:=by omega
  simp only[e] at this
  exact this
 by_cases h18:i<950
 ·have:=HF.1 (B7q L n) (i-900) (Jr.2 (by omega))
  have e:i-900+900=i:=by omega
  simp only[e] at this
  exact this
 omega
end
section
variable (L n:Nat)
theorem B9S:((List.range 50).all λk=>(λi=>Iz (AX (CM (rt (L+20) (n+10)) BB [I (i:Nat)]) (S (dg i)))) (k+0))=true:=by kernel_rfl
theorem B9R:((List.range 50).all λk=>(λi=>Iz (AX (CM (rt (L+20) (n+10)) BB [I (i:Nat)]) (S (dg i)))) (k+50))=true:=by kernel_rfl
theorem B9Q:((List.range 50).all λk=>(λi=>Iz (AX (CM (rt (L+20) (n+10)) BB [I (i:Nat)]) (S (dg i)))) (k+100))=true:=by kernel_rfl
theorem B9P:((List.range 50).all λk=>(λi=>Iz (AX (CM (rt (L+20) (n+10)) BB [I (i:Nat)]) (S (dg i)))) (k+150))=true:=by kernel_rfl
theorem B9O:((List.range 50).all λk=>(λi=>Iz (AX (CM (rt (L+20) (n+10)) BB [I (i:Nat)]) (S (dg i)))) (k+200))=true:=by kernel_rfl
theorem B9N:((List.range 50).all λk=>(λi=>Iz (AX (CM (rt (L+20) (n+10)) BB [I (i:Nat)]) (S (dg i)))) (k+250))=true:=by kernel_rfl
theorem B9M:((List.range 50).all λk=>(λi=>Iz (AX (CM (rt (L+20) (n+10)) BB [I (i:Nat)]) (S (dg i)))) (k+300))=true:=by kernel_rfl
theorem B9L:((List.range 50).all λk=>(λi=>Iz (AX (CM (rt (L+20) (n+10)) BB [I (i:Nat)]) (S (dg i)))) (k+350))=true:=by kernel_rfl
theorem B9K:((List.range 50).all λk=>(λi=>Iz (AX (CM (rt (L+20) (n+10)) BB [I (i:Nat)]) (S (dg i)))) (k+400))=true:=by kernel_rfl
theorem B9J:((List.range 50).all λk=>(λi=>Iz (AX (CM (rt (L+20) (n+10)) BB [I (i:Nat)]) (S (dg i)))) (k+450))=true:=by kernel_rfl
theorem B6q:((List.range 50).all λk=>(λi=>Iz (AX (CM (rt (L+20) (n+10)) BB [I (i:Nat)]) (S (dg i)))) (k+500))=true:=by kernel_rfl
theorem B6p:((List.range 50).all λk=>(λi=>Iz (AX (CM (rt (L+20) (n+10)) BB [I (i:Nat)]) (S (dg i)))) (k+550))=true:=by kernel_rfl
theorem B6o:((List.range 50).all λk=>(λi=>Iz (AX (CM (rt (L+20) (n+10)) BB [I (i:Nat)]) (S (dg i)))) (k+600))=true:=by kernel_rfl
theorem B6n:((List.range 50).all λk=>(λi=>Iz (AX (CM (rt (L+20) (n+10)) BB [I (i:Nat)]) (S (dg i)))) (k+650))=true:=by kernel_rfl
theorem B6m:((List.range 50).all λk=>(λi=>Iz (AX (CM (rt (L+20) (n+10)) BB [I (i:Nat)]) (S (dg i)))) (k+700))=true:=by kernel_rfl
theorem B6l:((List.range 50).all λk=>(λi=>Iz (AX (CM (rt (L+20) (n+10)) BB [I (i:Nat)]) (S (dg i)))) (k+750))=true:=by kernel_rfl
theorem B6k:((List.range 50).all λk=>(λi=>Iz (AX (CM (rt (L+20) (n+10)) BB [I (i:Nat)]) (S (dg i)))) (k+800))=true:=by kernel_rfl
theorem B6j:((List.range 50).all λk=>(λi=>Iz (AX (CM (rt (L+20) (n+10)) BB [I (i:Nat)]) (S (dg i)))) (k+850))=true:=by kernel_rfl
theorem B6i:((List.range 50).all λk=>(λi=>Iz (AX (CM (rt (L+20) (n+10)) BB [I (i:Nat)]) (S (dg i)))) (k+900))=true:=by kernel_rfl
theorem C6T (i:Nat) (h:i<950):PS (rt (L+20) (n+10)) BB [I (i:Nat)] (S (dg i)):=by
 refine B2 (λH=>by first|exact λK=>by kernel_rfl) ?_
 by_cases h0:i<50
 ·have:=HF.1 (B9S L n) (i-0) (Jr.2 (by omega))
  have e:i-0+0=i:=by omega
  simp only[e] at this
  exact this
 by_cases h1:i<100
 ·have:=HF.1 (B9R L n) (i-50) (Jr.2 (by omega))
  have e:i-50+50=i:=by omega
  simp only[e] at this
  exact this
 by_cases h2:i<150
 ·have:=HF.1 (B9Q L n) (i-100) (Jr.2 (by omega))
  have e:i-100+100=i:=by omega
  simp only[e] at this
  exact this
 by_cases h3:i<200
 ·have:=HF.1 (B9P L n) (i-150) (Jr.2 (by omega))
  have e:i-150+150=i:=by omega
  simp only[e] at this
  exact this
 by_cases h4:i<250
 ·have:=HF.1 (B9O L n) (i-200) (Jr.2 (by omega))
  have e:i-200+200=i:=by omega
  simp only[e] at this
  exact this
 by_cases h5:i<300
 ·have:=HF.1 (B9N L n) (i-250) (Jr.2 (by omega))
  have e:i-250+250=i:=by omega
  simp only[e] at this
  exact this
 by_cases h6:i<350
 ·have:=HF.1 (B9M L n) (i-300) (Jr.2 (by omega))
  have e:i-300+300=i:=by omega
  simp only[e] at this
  exact this
 by_cases h7:i<400
 ·have:=HF.1 (B9L L n) (i-350) (Jr.2 (by omega))
  have e:i-350+350=i:=by omega
  simp only[e] at this
  exact this
 by_cases h8:i<450
 ·have:=HF.1 (B9K L n) (i-400) (Jr.2 (by omega))
  have e:i-400+400=i:=by omega
  simp only[e] at this
  exact this
 by_cases h9:i<500
 ·have:=HF.1 (B9J L n) (i-450) (Jr.2 (by omega))
  have e:i-450+450=i:=by omega
  simp only[e] at this
  exact this
 by_cases h10:i<550
 ·have:=HF.1 (B6q L n) (i-500) (Jr.2 (by omega))
  have e:i-500+500=i:=by omega
  simp only[e] at this
  exact this
 by_cases h11:i<600
 ·have:=HF.1 (B6p L n) (i-550) (Jr.2 (by omega))
  have e:i-550+550=i:=by omega
  simp only[e] at this
  exact this
 by_cases h12:i<650
 ·have:=HF.1 (B6o L n) (i-600) (Jr.2 (by omega))
  have e:i-600+600=i:=by omega
  simp only[e] at this
  exact this
 by_cases h13:i<700
 ·have:=HF.1 (B6n L n) (i-650) (Jr.2 (by omega))
  have e:i-650+650=i:=by omega
  simp only[e] at this
  exact this
 by_cases h14:i<750
 ·have:=HF.1 (B6m L n) (i-700) (Jr.2 (by omega))
  have e:i-700+700=i:=by omega
  simp only[e] at this
  exact this
 by_cases h15:i<800
 ·have:=HF.1 (B6l L n) (i-750) (Jr.2 (by omega))
  have e:i-750+750=i:=by omega
  simp only[e] at this
  exact this
 by_cases h16:i<850
 ·have:=HF.1 (B6k L n) (i-800) (Jr.2 (by omega))
  have e:i-800+800=i:=by omega
  simp only[e] at this
  exact this
 by_cases h17:i<900
 ·have:=HF.1 (B6j L n) (i-850) (Jr.2 (by omega))
  have e:i-850+850=i:=by omega
  simp only[e] at this
  exact this
 by_cases h18:i<950
 ·have:=HF.1 (B6i L n) (i-900) (Jr.2 (by omega))
  have e:i-900+900=i:=by omega
  simp only[e] at this
  exact this
 omega
end
section
def exN (j:Nat):Nd:=
 if j<3 then VH j
 else if j<39 then⟨(3+(j-3)/9:Nat),[],[],u0,0,((j-3)/3%3:Nat),((j-3)%3:Nat)⟩
 else⟨7,[],[],u0,YT ((j-39)%5),((j-39)/5:Nat),0⟩
def F2:List (List UInt8):=[[],[99,111,110,115,116],[105,110,112,117,116],[97,100,100],[115,117,98],[109,117,108],[100,105,118],[112,111,119],[115,113,114,116]]
def exT (j:Nat):List UInt8:=
 if j<3 then F2.getD 2 []++[32]++dec j
 else if j<39 then F2.getD (3+(j-3)/9) []++[32]++dec ((j-3)/3%3:Nat)++[32]++dec ((j-3)%3:Nat)
 else F2.getD 7 []++[32]++dec ((j-39)/5:Nat)++[32]++dec (YT ((j-39)%5))
variable (L n:Nat)
theorem B3F:((List.range 54).all λi=>Iz (AX (CM (rt (L+20) (n+41)) HV [.agg (exN i).cs]) (S (exT i))))=true:=by kernel_rfl
end
end Go.Abs
end
