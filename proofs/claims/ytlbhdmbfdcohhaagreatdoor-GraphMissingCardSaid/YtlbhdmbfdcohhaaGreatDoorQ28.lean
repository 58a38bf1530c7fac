import Derived.Test.YtlbhdmbfdcohhaaGreatDoorQ26
import Derived.Test.YtlbhdmbfdcohhaaGreatDoorQ27
set_option linter.all false
set_option maxHeartbeats 100000000
noncomputable section
namespace Go.Abs
open Go.RowKit Go.Proofs
set_option maxRecDepth 100000
section
variable {L n:Nat}
structure Nd where
 op:Int
 (vn vd:List UInt8)
 u:UD
 (n l r:Int)
abbrev Nd.cs (x:Nd):List AV:=[I x.op,S x.vn,S x.vd,I x.u.p0,I x.u.q0,I x.u.p1,I x.u.q1,I x.u.p2,I x.u.q2,I x.u.p3,I x.u.q3,I x.u.p4,I x.u.q4,I x.u.p5,I x.u.q5,I x.u.p6,I x.u.q6,S x.u.fn,S x.u.fd,S x.u.on,S x.u.od,I x.u.kd,I x.u.sc,I x.n,I x.l,I x.r]
def Gg (k:Nat):List AV:=Cb (uu k)
abbrev BC (ks:List Nat):AV:= .list ks.length (ks.flatMap Gg)
def ndC (x:Nd):List AV:=x.cs
abbrev BR (xs:List Nd):AV:= .list xs.length (xs.flatMap ndC)
theorem NJ {ks:List Nat} {K:AV→Al}:AN Am (BC ks) K=K (I ks.length):=id rfl
theorem R6 {xs:List Nd} {K:AV→Al}:AN Ax (BR xs) K=K (I xs.length):=id rfl
theorem WU {ks:List Nat} {i:Nat} {K:AV→Al} (h:i<ks.length):Bv Am (BC ks) (I i) K=K (.iptr (Gg ks[i])):=A1P (f:=Gg) rfl (λ_=>rfl) h
theorem ZS {xs:List Nd} {i:Nat} {K:AV→Al} (h:i<xs.length):Bv Ax (BR xs) (I i) K=K (.iptr (ndC xs[i])):=A1P (f:=ndC) rfl (λ_=>rfl) h
theorem WT {k:Nat} {H:Hp} {K:AV→Al}:Aq Ag (.iptr (Gg k)) H K=K (.agg (Cb (uu k))):=id rfl
theorem ZR {x:Nd} {H:Hp} {K:AV→Al}:Aq AE (.iptr (ndC x)) H K=K (.agg x.cs):=id rfl
abbrev GL (id:Int) (ins nds:AV) (o:UD):Row:= .cells true B4 (Bs id ins nds o)
section
attribute [local irreducible] Ah rt YF eBi eEq cnd Go.Abs.Ak Go.Abs.Uc As
theorem Ut {z lo hi:Int} (h1:lo≤z) (h2:z≤hi):PS (rt (L+20) (n+1)) Cu [I z,I lo,I hi] (Bo true):=by
 refine CS.ps (λK hK=> ?_) (λH=> λK=>by kernel_rfl)
 rewrite [XK]
 unfold Pb AU CH
 try rewrite [zO]
 try rewrite [bO]
 try rewrite [qO]
 try rewrite [cO]
 conv=>lhs;whnf
 rewrite [A9L h1]
 conv=>lhs;whnf
 rewrite [A9D h2]
 conv=>lhs;whnf
 exact hK _ _ (λb=>⟨false,λK=>by kernel_rfl⟩)
end
section
variable {K:KV} {x:Al} {ks:List Nat} {xs:List Nd} {id:Int} {o:UD}
theorem C0R {k31:AV→Hp→Al} {H:Hp} {c:Nat} {nds:AV} (hk:∀k∈ks,k<52) (hb:ks.length<100) (hx:k31 (.ptr c 0 0) H=x) (hl:Au H c=some (GL id (BC ks) nds o)):∀(f i:Nat),i≤ks.length→ks.length-i<f→
 Kx (L+20) (rt (L+20) (n+40)) K k31 f (.ptr c 0 0) (I i) H=x:=by
 intro f
 induction f with
 |zero=>intro i _ h;omega
 |succ f ih=>
  intro i hi hf
  rw[Wj]
  unfold NM Ar CH
  have f1:∀K:AV→Al,AL 1 (.ptr c 0 0) K=K (.ptr c 1 0):= λK=>_root_.id rfl
  have l1:∀K,Aq Am (.ptr c 1 0) H K=K (BC ks):= λK=>AQ (p:=1) rfl hl (show 1<23 by decide)
  rw[f1,l1,NJ]
  by_cases h:i<ks.length
  ·rw[Ge (by omega),D3,f1,l1,WU h,WT,OV _ _ _ (hk _ (Ow h)),ntT,B9,DS (by omega)]
   exact ih (i+1) (by omega) (by omega)
  ·rw[Gf (by omega),B9]
   exact hx
theorem L0 {ins nds:AV} (hI:Sl ins) (hN:Sl nds):(Bs id ins nds o).all AV.one=true:=by
 rcases hI with rfl|⟨_,_,rfl⟩<;>rcases hN with rfl|⟨_,_,rfl⟩<;>rfl
theorem B3h (hL:100<L) (hk:∀k∈ks,k<52) (hb:ks.length≤6) (hn:1≤xs.length) (hn':xs.length≤40) (h1:1≤id) (h2:id≤1000000):CS (rt (L+20) (n+41)) LM [.agg (Bs id (BC ks) (BR xs) o)] (.tup [Bo true,Bo true]):=by
 intro K hK
 rw[XL]
 unfold Pc AU Ar CH
 rw[Fa (L0 (.inr ⟨_,_,rfl⟩) (.inr ⟨_,_,rfl⟩))]
 have hc0:=Ay (H:=[]) (x:=GL id (BC ks) (BR xs) o) (by simp)
 generalize ((A3 [],GL id (BC ks) (BR xs) o)::([]:Hp))=H0 at hc0
 generalize A3 []=c at hc0
 simp only[Cl]
 refine C0R hk (by omega) ?_ hc0 (L+20) 0 (by omega) (by omega)
 have f0:∀{j:Nat} {K:AV→Al},AL j (.ptr c 0 0) K=K (.ptr c j 0):= λ{j K}=>by rw[fA,K1]
 have l0:∀{K},Aq Ab (.ptr c 0 0) H0 K=K (I id):= λ{K}=>AQ (p:=0) rfl hc0 (show 0<23 by decide)
 have l1:∀{K},Aq Am (.ptr c 1 0) H0 K=K (BC ks):= λ{K}=>AQ (p:=1) rfl hc0 (show 1<23 by decide)
 have l2:∀{K},Aq Ax (.ptr c 2 0) H0 K=K (BR xs):= λ{K}=>AQ (p:=2) rfl hc0 (show 2<23 by decide)
 have w1:∀{K:AV→Al},Ah (rt (L+20) (n+40)) Cu [I id,.v (.int .i64 1),.v (.int .i64 1000000)] H0 K=K (Bo true):= λ{K}=>Ut (n:=n+39) h1 h2 H0 K
 have w2:∀{K:AV→Al},Ah (rt (L+20) (n+40)) Cu [I (xs.length:Int),.v (.int .i64 1),.v (.int .i64 40)] H0 K=K (Bo true):= λ{K}=>Ut (n:=n+39) (by omega) (by omega) H0 K
 have q1:∀{K},Go.Abs.Ak Ab .leq (I (ks.length:Int)) (.v (.int .i64 6)) K=K (Bo true):= λ{K}=>by rw[WW,decide_eq_true (by omega)]
 have q2:∀{K},Go.Abs.Ak Ab .gtr (I (xs.length:Int)) (.v (.int .i64 0)) K=K (Bo true):= λ{K}=>by rw[Ey,decide_eq_true (by omega)]
 simp only[f0,l0,l1,l2,BH,Ci,gT,w1,w2,NJ,R6,q1,q2,Vu]
 exact hK _ _ (λb=>⟨false,λK=>by kernel_rfl⟩)
end
end
section
variable {L n:Nat}
def TA:Value→Bool
 | .int _ _=>true
 | .string _=>true
 | .bool _=>true
 | .slice none 0 0=>true
 |_=>false
def pl:Nat→AV→Bool
 |_,.v x=>TA x
 |d+1,.list _ cs=>cs.all (pl d)
 |d+1,.agg cs=>cs.all (pl d)
 |d+1,.tup cs=>cs.all (pl d)
 |_,_=>false
theorem B4e:∀l:List UInt8,VW.eqbL l l=true:=by
 intro l
 induction l with
 |nil=>rfl
 |cons a l ih=>simp only[VW.eqbL,ih,l1b];exact l29 _
theorem Xr {x:Value} (h:TA x=true):VW x x=true:=by
 unfold TA at h
 split at h
 ·simp[VW]
 ·exact B4e _
 ·simp[VW]
 ·rfl
 ·cases h
theorem B1J {f:AV→AV→Bool}:∀l:List AV,(∀a∈l,f a a=true)→A22 f l l=true:=by
 intro l
 induction l with
 |nil=>intro _;rfl
 |cons a l ih=>intro h;simp only[A22,h a (by simp),ih λb hb=>h b (by simp[hb]),l1b]
theorem A72:∀(d:Nat) (a:AV),pl d a=true→aeq d a a=true:=by
 intro d
 induction d with
 |zero=>intro a h;cases a<;>first|exact Xr h|cases h
 |succ d ih=>
  intro a h
  cases a<;>first
   |exact Xr h
   |(simp only[pl,Hv] at h;simp only[aeq,l29,l16];exact B1J _ λb hb=>ih b (h b hb))
   |cases h
theorem B1K {a:AV} (h:pl 6 a=true):ZA a a=true:=by
 cases a<;>first|exact Xr h|exact A72 6 _ h|cases h
theorem Rf {v:AV} {H:Hp} {K:Al} (h:pl 6 v=true):Rg (AW (some (v,H)) v) K=K:=by
 show Rg (some (.v (.bool (ZA v v)),[])) K=K
 rw[B1K h];rfl
theorem B11 {x:Value} (h:TA x=true) (h':x≠.slice none 0 0):WA x x=some true:=by
 unfold TA at h
 split at h
 ·show(match decide (_=_) with|true=>some (ieq _ _)|false=>none)=_
  rw[decide_eq_true rfl,NV,decide_eq_true rfl]
 ·show some (Go.Abs.eqB _ _)=_
  rw[Pz];simp
 ·show some (_==_)=_
  simp
 ·exact absurd rfl h'
 ·cases h
theorem A71:∀xs:List Value,(∀x∈xs,TA x=true∧x≠.slice none 0 0)→Uj xs xs=some true:=by
 intro xs
 induction xs with
 |nil=>intro _;rfl
 |cons x xs ih=>
  intro h
  have e:Uj (x::xs) (x::xs)=(match WA x x with
   |some b=>(match Uj xs xs with|some c=>some (b&&c)|none=>none)
   |none=>none):=rfl
  rw[e,B11 (h x (by simp)).1 (h x (by simp)).2,ih λy hy=>h y (by simp[hy])]
  rfl
theorem C4Y {x:Nd} {K:AV→Al}:Go.Abs.Uc JA .eql (.agg x.cs) (.agg x.cs) K=K (Bo true):=by
 have e:∀(xs:List Value),Uj xs xs=some true→∀K:AV→Al,(match(generalizing:=false) Uj xs xs,BinOp.eql with
  |some q,.eql=>bB q K
  |some q,.neq=>bB (!q) K
  |_,_=>(none:Al))=K (Bo true):= λxs h K=>by rw[h];rfl
 exact e [.int .i64 x.op,.string ⟨⟨x.vn⟩⟩,.string ⟨⟨x.vd⟩⟩,.int .i64 x.u.p0,.int .i64 x.u.q0,.int .i64 x.u.p1,.int .i64 x.u.q1,.int .i64 x.u.p2,.int .i64 x.u.q2,.int .i64 x.u.p3,.int .i64 x.u.q3,.int .i64 x.u.p4,.int .i64 x.u.q4,.int .i64 x.u.p5,.int .i64 x.u.q5,.int .i64 x.u.p6,.int .i64 x.u.q6,
  .string ⟨⟨x.u.fn⟩⟩,.string ⟨⟨x.u.fd⟩⟩,.string ⟨⟨x.u.on⟩⟩,.string ⟨⟨x.u.od⟩⟩,.int .i64 x.u.kd,.int .i64 x.u.sc,.int .i64 x.n,.int .i64 x.l,.int .i64 x.r]
  (A71 _ (by simp[TA])) K
end
section
variable {L n:Nat}
def UP (i:Nat):Nd:=⟨2,[],[],u0,i,0,0⟩
abbrev Ju:List AV:=[zI,zS,zS,zI,zI,zI,zI,zI,zI,zI,zI,zI,zI,zI,zI,zI,zI,zS,zS,zS,zS,zI,zI,zI,zI,zI]
abbrev E9:List AV:=[zI,zI,zI,zI,zI,zI,zI,zI,zI,zI,zI,zI,zI,zI,zS,zS,zS,zS,zI,zI]
abbrev Tc (x:Nd):Row:= .cells true AF x.cs
section
variable {K:KV} {x:Al} {ks:List Nat} {xs:List Nd} {id:Int} {o:UD} {i:Nat}
theorem A8b {x:Nd}:x.cs.all AV.one=true:=rfl
theorem A3s {t:TI} {a:Int} {K:AV→Al}:Go.Abs.Ak t .eql (I a) (.v (.int .i64 a)) K=K (Bo true):=by rw[Dy,decide_eq_true rfl]
theorem A5S (hb:ks.length≤6) (hi:i<ks.length) {at_:Int}:CS (rt (L+20) (n+2)) DB [.agg (Bs id (BC ks) (BR xs) o),.agg (UP i).cs,I at_] (.tup [Bo true,Bo false]):=by
 intro K hK
 rw[Rh]
 unfold L2 AU Ar E4 CH
 rw[Fa (L0 (.inr ⟨_,_,rfl⟩) (.inr ⟨_,_,rfl⟩))]
 have hp0:=Ay (H:=[]) (x:=GL id (BC ks) (BR xs) o) (by simp)
 have w0:=B3 (x:=GL id (BC ks) (BR xs) o) F3
 generalize ((A3 [],GL id (BC ks) (BR xs) o)::([]:Hp))=H0 at hp0 w0
 generalize A3 []=p at hp0
 rw[Fa A8b]
 have hn1:=Ay (H:=H0) (x:=Tc (UP i)) (by simp)
 have hp1:Au ((A3 H0,Tc (UP i))::H0) p=some (GL id (BC ks) (BR xs) o):=Bh (w0.lt hp0) hp0
 have w1:=B3 (x:=Tc (UP i)) w0
 generalize ((A3 H0,Tc (UP i))::H0)=H1 at hn1 hp1 w1
 generalize A3 H0=r at hn1
 have f0:∀{s j:Nat} {K:AV→Al},AL j (.ptr s 0 0) K=K (.ptr s j 0):= λ{s j K}=>by rw[fA,K1]
 have l0:∀{K},Aq Ab (.ptr r 0 0) H1 K=K (I 2):= λ{K}=>AQ (p:=0) rfl hn1 (show 0<26 by decide)
 have b0:∀{K:AV→Al},Bi AE [(0,1,I 2)] K=K (.agg (I 2::Ju.tail)):= λ{K}=>_root_.id rfl
 rw[f0,l0,b0,Ba (cs:=Ju) rfl]
 have hm:=Ay (H:=H1) (x:= .cells true AF Ju) (by simp)
 rw[B0 (vs:=I 2::Ju.tail) hm rfl rfl rfl]
 have hm2:=A9 (q:=true) (e:=AF) (cs:=I 2::Ju.tail) hm
 have w2:=BL (r:=A3 H1) (y:= .cells true AF (I 2::Ju.tail)) (B3 (x:= .cells true AF Ju) w1)
 have rl:=w1.lt hn1
 have plt:=w1.lt hp1
 have hn2:Au (upd ((A3 H1,Row.cells true AF Ju)::H1) (A3 H1) (.cells true AF (I 2::Ju.tail))) r=some (Tc (UP i)):=by
  rw[Ap (by omega)];exact Bh rl hn1
 have hp2:Au (upd ((A3 H1,Row.cells true AF Ju)::H1) (A3 H1) (.cells true AF (I 2::Ju.tail))) p=some (GL id (BC ks) (BR xs) o):=by
  rw[Ap (by omega)];exact Bh plt hp1
 generalize upd ((A3 H1,Row.cells true AF Ju)::H1) (A3 H1) (.cells true AF (I 2::Ju.tail))=H2 at hm2 w2 hn2 hp2
 have hmr:A3 H1≠r:=by omega
 have hmp:A3 H1≠p:=by omega
 generalize A3 H1=m at hm2 hmr hmp
 simp only[Cl]
 have l2:∀{K},Aq Ab (.ptr r 0 0) H2 K=K (I 2):= λ{K}=>AQ (p:=0) rfl hn2 (show 0<26 by decide)
 have l23:∀{K},Aq Ab (.ptr r 23 0) H2 K=K (I i):= λ{K}=>AQ (p:=23) rfl hn2 (show 23<26 by decide)
 rw[f0,l2,Dy,decide_eq_false (by decide),B9,A3s,D3,f0,l23,f0]
 rw[E1 (v:=I i) hm2 (show 23<26 by decide) rfl rfl rfl]
 have hm3:=A9 (q:=true) (e:=AF) (cs:=(I 2::Ju.tail).set 23 (I i)) hm2
 have hn3:Au (upd H2 m (.cells true AF ((I 2::Ju.tail).set 23 (I i)))) r=some (Tc (UP i)):=by
  rw[Ap (Ne.symm hmr)];exact hn2
 have hp3:Au (upd H2 m (.cells true AF ((I 2::Ju.tail).set 23 (I i)))) p=some (GL id (BC ks) (BR xs) o):=by
  rw[Ap (Ne.symm hmp)];exact hp2
 generalize upd H2 m (.cells true AF ((I 2::Ju.tail).set 23 (I i)))=H3 at hm3 hn3 hp3
 have ly:∀{K},Aq AE (.ptr m 0 0) H3 K=K (.agg (UP i).cs):= λ{K}=>Bk rfl rfl hm3
 have lx:∀{K},Aq AE (.ptr r 0 0) H3 K=K (.agg (UP i).cs):= λ{K}=>Bk rfl rfl hn3
 have l23':∀{K},Aq Ab (.ptr r 23 0) H3 K=K (I i):= λ{K}=>AQ (p:=23) rfl hn3 (show 23<26 by decide)
 have l1:∀{K},Aq Am (.ptr p 1 0) H3 K=K (BC ks):= λ{K}=>AQ (p:=1) rfl hp3 (show 1<23 by decide)
 have sb:∀{K},Go.Abs.Ak Ab .sub (I (ks.length:Int)) (.v (.int .i64 1)) K=K (I ((ks.length:Int)-1)):= λ{K}=>by rw[GE,Ca (by omega) (by omega)]
 have wi:∀{K:AV→Al},Ah (rt (L+20) (n+1)) Cu [I (i:Int),.v (.int .i64 0),I ((ks.length:Int)-1)] H3 K=K (Bo true):= λ{K}=>Ut (n:=n) (by omega) (by omega) H3 K
 simp only[lx,ly,C4Y,gT,f0,Ci,l23',l1,NJ,sb,wi,Vu]
 exact hK _ _ (λb=>⟨false,λK=>by kernel_rfl⟩)
theorem Ed {H:Hp} {e:Nat} {zs vs:List AV} (w:Wf H) (hz:vs.length=zs.length):∃H',H'=upd ((A3 H,.cells true e zs)::H) (A3 H) (.cells true e vs)∧Au H' (A3 H)=some (.cells true e vs)∧Wf H'∧(∀s x,Au H s=some x→Au H' s=some x∧s≠A3 H):=by
 have hm:=Ay (H:=H) (x:= .cells true e zs) (by simp)
 refine⟨_,rfl,A9 hm,BL (B3 w),λs x h=> ?_⟩
 have:=w.lt h
 exact⟨by rw[Ap (by omega)];exact Bh this h,by omega⟩
theorem Us (hb:ks.length≤6) (hi:i<ks.length) {at_:Int} {w:AV}:CS (rt (L+20) (n+3)) BY [.agg (Bs id (BC ks) (BR xs) o),.agg (UP i).cs,I at_,w] (.tup [.agg (Cb (uu ks[i])),I 0]):=by
 intro K hK
 rw[F8]
 unfold Fy Ar
 rw[Fa (L0 (.inr ⟨_,_,rfl⟩) (.inr ⟨_,_,rfl⟩))]
 have hp0:=Ay (H:=[]) (x:=GL id (BC ks) (BR xs) o) (by simp)
 have w0:=B3 (x:=GL id (BC ks) (BR xs) o) F3
 generalize ((A3 [],GL id (BC ks) (BR xs) o)::([]:Hp))=H0 at hp0 w0
 generalize A3 []=p at hp0
 rw[Fa A8b]
 have hn1:=Ay (H:=H0) (x:=Tc (UP i)) (by simp)
 have hp1:Au ((A3 H0,Tc (UP i))::H0) p=some (GL id (BC ks) (BR xs) o):=Bh (w0.lt hp0) hp0
 have w1:=B3 (x:=Tc (UP i)) w0
 generalize ((A3 H0,Tc (UP i))::H0)=H1 at hn1 hp1 w1
 generalize A3 H0=r at hn1
 rw[Ba (cs:=E9) rfl]
 have hq2:=Ay (H:=H1) (x:= .cells true Aw E9) (by simp)
 have hn2:=Bh (x:= .cells true Aw E9) (w1.lt hn1) hn1
 have hp2:=Bh (x:= .cells true Aw E9) (w1.lt hp1) hp1
 have w2:=B3 (x:= .cells true Aw E9) w1
 generalize ((A3 H1,Row.cells true Aw E9)::H1)=H2 at hq2 hn2 hp2 w2
 generalize A3 H1=q at hq2
 have lp:∀{K},Aq A7 (.ptr p 0 0) H2 K=K (.agg (Bs id (BC ks) (BR xs) o)):= λ{K}=>Bk rfl rfl hp2
 have ln:∀{K},Aq AE (.ptr r 0 0) H2 K=K (.agg (UP i).cs):= λ{K}=>Bk rfl rfl hn2
 have fx:PH true depth [.agg (Bs id (BC ks) (BR xs) o),.agg (UP i).cs,I at_] [.agg (Bs id (BC ks) (BR xs) o),.agg (UP i).cs,I at_] H2 false:= λK=>by kernel_rfl
 have sh:∀{K:AV→Al},Ah (rt (L+20) (n+2)) DB [.agg (Bs id (BC ks) (BR xs) o),.agg (UP i).cs,I at_] H2 K=K (.tup [Bo true,Bo false]):= λ{K}=>Be (A5S hb hi) fx
 have bu:∀{K:AV→Al},Bi Ag [] K=K (.agg E9):= λ{K}=>_root_.id rfl
 rw[lp,ln,sh,CY,CX,ntT,B9,bu,Ba (cs:=E9) rfl]
 rw[B0 (vs:=E9) (Ay (by simp)) rfl rfl rfl]
 obtain⟨H3,e3, -,w3,h3⟩:=Ed (e:=Aw) (zs:=E9) (vs:=E9) w2 rfl
 rw[←e3,bu,Ba (cs:=E9) rfl,B0 (vs:=E9) (Ay (by simp)) rfl rfl rfl]
 obtain⟨H4,e4, -,w4,h4⟩:=Ed (e:=Aw) (zs:=E9) (vs:=E9) w3 rfl
 rw[←e4]
 simp only[Cl]
 have f0:∀{s j:Nat} {K:AV→Al},AL j (.ptr s 0 0) K=K (.ptr s j 0):= λ{s j K}=>by rw[fA,K1]
 have hn4:=(h4 _ _ (h3 _ _ hn2).1).1
 have hp4:=(h4 _ _ (h3 _ _ hp2).1).1
 have hq4:=(h4 _ _ (h3 _ _ hq2).1).1
 have lu:∀{K},Aq Ag (.ptr r 3 0) H4 K=K (.agg E9):= λ{K}=>EZ (p:=3) rfl hn4 (show 23≤26 by decide)
 rw[B9,f0,lu,Ba (cs:=E9) rfl,B0 (vs:=E9) (Ay (by simp)) rfl rfl rfl]
 obtain⟨H5,e5,hu5,w5,h5⟩:=Ed (e:=Aw) (zs:=E9) (vs:=E9) w4 rfl
 rw[←e5]
 obtain⟨hn5,nr⟩:=h5 _ _ hn4
 obtain⟨hp5,np⟩:=h5 _ _ hp4
 obtain⟨hq5,nq⟩:=h5 _ _ hq4
 generalize A3 H4=v at hu5 nr np nq
 have l0:∀{K},Aq Ab (.ptr r 0 0) H5 K=K (I 2):= λ{K}=>AQ (p:=0) rfl hn5 (show 0<26 by decide)
 have l23:∀{K},Aq Ab (.ptr r 23 0) H5 K=K (I i):= λ{K}=>AQ (p:=23) rfl hn5 (show 23<26 by decide)
 have l1:∀{K},Aq Am (.ptr p 1 0) H5 K=K (BC ks):= λ{K}=>AQ (p:=1) rfl hp5 (show 1<23 by decide)
 rw[f0,l0,A3s,D3,f0,l1,f0,l23,WU hi,WT,B0 (vs:=Cb (uu ks[i])) hu5 rfl rfl rfl]
 have hu6:=A9 (q:=true) (e:=Aw) (cs:=Cb (uu ks[i])) hu5
 have hq6:Au (upd H5 v (.cells true Aw (Cb (uu ks[i])))) q=some (.cells true Aw E9):=by rw[Ap nq];exact hq5
 generalize upd H5 v (.cells true Aw (Cb (uu ks[i])))=H6 at hu6 hq6
 rw[Hu]
 show As (.v (.bool false)) _ _=_
 rw[B9,Bk rfl rfl hu6,B0 (vs:=Cb (uu ks[i])) hq6 rfl rfl rfl,Bk rfl rfl (A9 hq6)]
 exact hK _ _ (λb=>⟨false,λK=>by kernel_rfl⟩)
end
end
section
variable {L n:Nat}
theorem B1B {k:Nat} {H:Hp} {K:KV}:Ft Aw 20 Ag 1 [(0,20,.agg (Cb (uu k)))] H K=K (.sl 20 (A3 H) 0 1) ((A3 H,.cells false Aw (Gg k))::H):=by
 have e:Ft Aw 20 Ag 1 [(0,20,.agg (Cb (uu k)))] H K=HM H (λs=>K (.sl 20 s 0 1) ((s,.cells false Aw (Gg k))::H)):=_root_.id rfl
 rw[e,BW]
theorem C5b {H:Hp} {v:AV} {l:List Nat} (k:Nat) (h:B1 H Aw 20 v l.length (l.flatMap Gg)) (w:Wf H) (hn:l.length<100):
 ∃v' H',(∀K:KV,(Ft Aw 20 Ag 1 [(0,20,.agg (Cb (uu k)))] H λv1 H1=>Ea Aw 20 Ag Am v v1 H1 K)=K v' H')∧B1 H' Aw 20 v' (l++[k]).length ((l++[k]).flatMap Gg)∧Wf H'∧A3 H≤A3 H'∧(∀s x,Au H s=some x→¬Bb v s→Au H' s=some x)∧(∀s,Bb v' s→A3 H≤s):=by
 have hv1:B1 ((A3 H,.cells false Aw (Gg k))::H) Aw 20 v l.length (l.flatMap Gg):=h.lat w (Lat.cons H _ (λ_=>False)) (λ_ _ h=>h)
 have hsrc:B1 ((A3 H,.cells false Aw (Gg k))::H) Aw 20 (.sl 20 (A3 H) 0 1) 1 (Gg k):= .inr ⟨A3 H,false,rfl,Ay (by simp),by show 20=_;rfl⟩
 obtain⟨v',H',h1,h2,h3,h4⟩:=apt (ie:=Ag) (i2:=Am) hv1 (λK=>SK (K:=K) hsrc) rfl rfl (by decide) rfl rfl (by show(l.length+1)*192≤_;omega) (by omega)
 have h5:=(Lat.cons H (.cells false Aw (Gg k)) (Bb v)).trans h4 (R:=Bb v) (λ_ _ h=>h) (λ_ _ h=>h)
 refine⟨v',H',λK=> ?_,by rw[FK,l2g];simpa using h2,h5.wf w,h5.nx,λs x hs hn=>h5.keep w s x hs hn,λs hs=> ?_⟩
 ·rw[B1B]
  exact h1 K
 ·rw[h3 s hs];exact l1p _
def C4k (k:Nat):List Value:=[.int .i64 (uu k).p0,.int .i64 (uu k).q0,.int .i64 (uu k).p1,.int .i64 (uu k).q1,.int .i64 (uu k).p2,.int .i64 (uu k).q2,.int .i64 (uu k).p3,.int .i64 (uu k).q3,.int .i64 (uu k).p4,.int .i64 (uu k).q4,.int .i64 (uu k).p5,.int .i64 (uu k).q5,.int .i64 (uu k).p6,.int .i64 (uu k).q6,
 .string ⟨⟨(uu k).fn⟩⟩,.string ⟨⟨(uu k).fd⟩⟩,.string ⟨⟨(uu k).on⟩⟩,.string ⟨⟨(uu k).od⟩⟩,.int .i64 (uu k).kd,.int .i64 (uu k).sc]
theorem C1A (k:Nat):Gg k=(C4k k).map λx=> .v x:=rfl
theorem C4j (l:List Nat):l.flatMap Gg=(l.flatMap C4k).map λx=> .v x:=by
 induction l with
 |nil=>rfl
 |cons k l ih=>rw[l00,l00,Zt,ih,C1A]
def OC (l:List Nat):AV:=match l with
 |[]=>AM
 |k::l=> .list (k::l).length ((k::l).flatMap Gg)
theorem XZ {D:Nat} {b:Bool} {H:Hp} {v:AV} {l:List Nat} (h:B1 H Aw 20 v l.length (l.flatMap Gg)) (h0:l=[]→v=AM):∃q,Fx b (D+1) v (OC l) H q:=by
 rcases h with⟨rfl,h2,_⟩|⟨r,q,rfl,h2,h3⟩
 ·cases l with
  |nil=>exact⟨false,E5⟩
  |cons a l=>simp at h2
 ·cases l with
  |nil=>have:=h0 rfl;cases this
  |cons a l=>
   refine⟨true,?_⟩
   show Fx b (D+1) _ (.list (a::l).length ((a::l).flatMap Gg)) H true
   rw[C4j] at h2 h3⊢
   exact UZ (q':=false) h2 h3 (Kb _root_.id _)
theorem B8n {b:Bool} {H:Hp} {v:AV} {l:List Nat} (h:B1 H Aw 20 v l.length (l.flatMap Gg)) (h0:l=[]→v=AM):∃q,Fx b depth v (OC l) H q:=XZ (D:=depth-1) h h0
end
section
variable {L n:Nat}
section
variable {K:KV} {x:Al} {ks ty:List Nat} {xs:List Nd} {id:Int} {o:UD}
def RTy (L n:Nat) (id:Int) (ks:List Nat) (xs:List Nd) (o:UD) (ty:List Nat):Prop:=
 ∀i (h:i<xs.length),CS (rt (L+20) (n+42)) BY [.agg (Bs id (BC ks) (BR xs) o),.agg xs[i].cs,I i,OC (ty.take i)] (.tup [.agg (Cb (uu (ty.getD i 0))),I 0])
theorem C1h {d:Nat}:∀l:List Nat,(l.flatMap Gg).all (pl d)=true:=by
 intro l
 induction l with
 |nil=>rfl
 |cons a l ih=>rw[l00,List.all_append,ih];cases d<;>rfl
theorem C1g {d:Nat}:∀l:List Nd,(l.flatMap ndC).all (pl d)=true:=by
 intro l
 induction l with
 |nil=>rfl
 |cons a l ih=>rw[l00,List.all_append,ih];cases d<;>rfl
theorem B6U {d:Nat} (l:List Nat):pl (d+1) (BC l)=true:=C1h l
theorem A9s {d:Nat} (l:List Nd):pl (d+1) (BR l)=true:=C1g l
theorem B6T:pl 6 (.agg (Bs id (BC ks) (BR xs) o))=true:=by
 show(pl 5 (I id)&&(pl 5 (BC ks)&&(pl 5 (BR xs)&&true)))=true
 rw[B6U,A9s];rfl
theorem C0Q {k22:AV→AV→Hp→Al} {p:Nat} (hT:RTy L n id ks xs o ty) (hlen:ty.length=xs.length) (hb:xs.length<100)
 (hx:∀v H,B1 H Aw 20 v ty.length (ty.flatMap Gg)→(ty=[]→v=AM)→Au H p=some (GL id (BC ks) (BR xs) o)→k22 (.ptr p 0 0) v H=x):
 ∀(f i:Nat) (v:AV) (H:Hp),i≤xs.length→xs.length-i<f→B1 H Aw 20 v (ty.take i).length ((ty.take i).flatMap Gg)→(ty.take i=[]→v=AM)→¬Bb v p→Au H p=some (GL id (BC ks) (BR xs) o)→Wf H→
 Lp (L+20) (rt (L+20) (n+42)) K k22 f (.ptr p 0 0) v (I i) H=x:=by
 intro f
 induction f with
 |zero=>intro i v H _ h;omega
 |succ f ih=>
  intro i v H hi hf hs h0 hr hp w
  rw[Xy]
  unfold OP Ar
  have f0:∀{s j:Nat} {K:AV→Al},AL j (.ptr s 0 0) K=K (.ptr s j 0):= λ{s j K}=>by rw[fA,K1]
  have l2:∀{K},Aq Ax (.ptr p 2 0) H K=K (BR xs):= λ{K}=>AQ (p:=2) rfl hp (show 2<23 by decide)
  have lp:∀{K},Aq A7 (.ptr p 0 0) H K=K (.agg (Bs id (BC ks) (BR xs) o)):= λ{K}=>Bk rfl rfl hp
  rw[f0,l2,R6]
  by_cases h:i<xs.length
  ·have tyc:∀{H:Hp} (_:B1 H Aw 20 v (ty.take i).length ((ty.take i).flatMap Gg)) {K:AV→Al},Ah (rt (L+20) (n+42)) BY [.agg (Bs id (BC ks) (BR xs) o),.agg xs[i].cs,I i,v] H K=K (.tup [.agg (Cb (uu (ty.getD i 0))),I 0]):= λ{H} hs {K}=>by
    obtain⟨q,hq⟩:=B8n (b:=true) hs h0
    have a1:Fx true depth (.agg (Bs id (BC ks) (BR xs) o)) (.agg (Bs id (BC ks) (BR xs) o)) H false:= λK=>by kernel_rfl
    have a2:Fx true depth (.agg xs[i].cs) (.agg xs[i].cs) H false:= λK=>by kernel_rfl
    exact Be (hT i h) (A0 a1 (A0 a2 (A0 (q:=false) E5 (A0 hq Bp))))
   rw[Ge (by omega),D3]
   simp only[lp,BH,f0,l2,ZS h,ZR,tyc hs,CY,CX]
   rw[Ba (cs:=E9) rfl,Ci]
   have hz:=Ay (H:=H) (x:= .cells true Aw E9) (by simp)
   rw[B0 (vs:=Cb (uu (ty.getD i 0))) hz rfl rfl rfl,Ci]
   have hp3:=Bh (x:= .cells true Aw E9) (w.lt hp) hp
   have hs3:B1 ((A3 H,.cells true Aw E9)::H) Aw 20 v (ty.take i).length ((ty.take i).flatMap Gg):=hs.lat w (Lat.cons H _ (λ_=>False)) (λ_ _ h=>h)
   obtain⟨H4,e4,hv4,w4,h4⟩:=Ed (e:=Aw) (zs:=E9) (vs:=Cb (uu (ty.getD i 0))) w rfl
   rw[←e4]
   have hp4:=(h4 _ _ hp).1
   have hs4:B1 H4 Aw 20 v (ty.take i).length ((ty.take i).flatMap Gg):=by
    rcases hs with hs|⟨r,q,h1,h2,h3⟩
    ·exact .inl hs
    ·exact .inr ⟨r,q,h1,(h4 _ _ h2).1,h3⟩
   have lp3:∀{K},Aq A7 (.ptr p 0 0) ((A3 H,.cells true Aw E9)::H) K=K (.agg (Bs id (BC ks) (BR xs) o)):= λ{K}=>Bk rfl rfl hp3
   have l23:∀{K},Aq Ax (.ptr p 2 0) ((A3 H,.cells true Aw E9)::H) K=K (BR xs):= λ{K}=>AQ (p:=2) rfl hp3 (show 2<23 by decide)
   rw[lp3,Rf B6T,l23,Rf (A9s xs),Rf (by rfl),tyc hs3,Rf (by rfl),Hu]
   show As (.v (.bool false)) _ _=_
   rw[B9,Bk rfl rfl hv4]
   have ht:ty.take i++[ty.getD i 0]=ty.take (i+1):=by
    have hl:i<ty.length:=by omega
    rw[l04 hl];simp[List.getD,Ka hl]
   obtain⟨v',H5,e5,hs5,w5, -,keep,new⟩:=C5b (ty.getD i 0) hs4 w4 (by rw[l0g];omega)
   rw[e5,DS (by omega)]
   rw[ht] at hs5
   exact ih (i+1) v' H5 (by omega) (by omega) hs5 (λe=>by rw[←ht] at e;simp at e) (λhr'=>by have:=new _ hr';have:=w4.lt hp4;omega) (keep _ _ hp4 hr) w5
  ·rw[Gf (by omega),B9]
   have:i=xs.length:=by omega
   subst this
   rw[←hlen,l06] at hs h0
   exact hx v H hs h0 hp
end
end
section
variable {L n:Nat}
theorem A9h {H:Hp} {v:AV} {l:List Nat} {i:Nat} (h:B1 H Aw 20 v l.length (l.flatMap Gg)) (hi:i<l.length):∃a,(∀K:AV→Al,Bv Am v (I i) K=K a)∧(∀K:AV→Al,Aq Ag a H K=K (.agg (Cb (uu l[i])))):=by
 rcases h with⟨_,h2,_⟩|⟨r,q,rfl,h2,h3⟩
 ·omega
 ·refine⟨.ptr r (i*20) 0,λK=> ?_,λK=> ?_⟩
  ·have e1:Bv Am (.sl 20 r 0 l.length) (I (i:Int)) K=iN (i:Int) λm=>ck (Nat.blt m l.length) (fN (Nat.add 0 (Nat.mul m 20)) λp=>K (.ptr r p 0)):=_root_.id rfl
   rw[e1,J6,DL]
   have h3:Nat.blt i l.length=true:=by rw[TU];exact hi
   rw[h3]
   show K (.ptr r (0+i*20) 0)=_
   rw[K1]
  ·rw[EZ rfl h2 (by rw[h3];show i*20+20≤_;omega)]
   have:((l.flatMap Gg).drop (i*20)).take 20=Gg l[i]:=A1B Gg 20 (λ_=>rfl) l i hi
   show K (.agg (((l.flatMap Gg).drop (i*20)).take 20))=_
   rw[this];rfl
theorem C4X {u:UD} {K:AV→Al}:Go.Abs.Uc Ii .neq (.agg (Cb u)) (.agg (Cb u)) K=K (Bo false):=by
 have e:∀(xs:List Value),Uj xs xs=some true→∀K:AV→Al,(match(generalizing:=false) Uj xs xs,BinOp.neq with
  |some q,.eql=>bB q K
  |some q,.neq=>bB (!q) K
  |_,_=>(none:Al))=K (Bo false):= λxs h K=>by rw[h];rfl
 exact e [.int .i64 u.p0,.int .i64 u.q0,.int .i64 u.p1,.int .i64 u.q1,.int .i64 u.p2,.int .i64 u.q2,.int .i64 u.p3,.int .i64 u.q3,.int .i64 u.p4,.int .i64 u.q4,.int .i64 u.p5,.int .i64 u.q5,.int .i64 u.p6,.int .i64 u.q6,
  .string ⟨⟨u.fn⟩⟩,.string ⟨⟨u.fd⟩⟩,.string ⟨⟨u.on⟩⟩,.string ⟨⟨u.od⟩⟩,.int .i64 u.kd,.int .i64 u.sc]
  (A71 _ (by simp[TA])) K
section
variable {ks ty:List Nat} {xs:List Nd} {id:Int}
theorem B6P (hL:100<L) (hT:RTy L n id ks xs (uu (ty.getD (xs.length-1) 0)) ty) (hlen:ty.length=xs.length) (hk:∀k∈ks,k<52) (hb:ks.length≤6) (hn:1≤xs.length) (hn':xs.length≤40) (h1:1≤id) (h2:id≤1000000):
 CS (rt (L+20) (n+43)) Nl [.agg (Bs id (BC ks) (BR xs) (uu (ty.getD (xs.length-1) 0)))] (.tup [OC ty,I 0,I 0]):=by
 intro K hK
 rw[Ze]
 unfold Qw Ar
 rw[Fa (L0 (.inr ⟨_,_,rfl⟩) (.inr ⟨_,_,rfl⟩))]
 have hp0:=Ay (H:=[]) (x:=GL id (BC ks) (BR xs) (uu (ty.getD (xs.length-1) 0))) (by simp)
 have w0:=B3 (x:=GL id (BC ks) (BR xs) (uu (ty.getD (xs.length-1) 0))) F3
 generalize ((A3 [],GL id (BC ks) (BR xs) (uu (ty.getD (xs.length-1) 0)))::([]:Hp))=H0 at hp0 w0
 generalize A3 []=p at hp0
 have bg:∀{K:AV→Al},Ah (rt (L+20) (n+42)) LM [.agg (Bs id (BC ks) (BR xs) (uu (ty.getD (xs.length-1) 0)))] H0 K=K (.tup [Bo true,Bo true]):= λ{K}=>Be (B3h (n:=n+1) hL hk hb hn hn' h1 h2) (RW (.inr ⟨_,_,rfl⟩) (.inr ⟨_,_,rfl⟩))
 rw[Bk rfl rfl hp0,bg,CY,CX,ntT,B9]
 simp only[Cl]
 refine C0Q hT hlen (by omega) ?_ (L+20) 0 _ H0 (by omega) (by omega) (.inl ⟨rfl,rfl,rfl⟩) (λ_=>rfl) (λ⟨_,_,_,h⟩=>by cases h) hp0 w0
 intro v H hs h0 hp
 have f0:∀{s j:Nat} {K:AV→Al},AL j (.ptr s 0 0) K=K (.ptr s j 0):= λ{s j K}=>by rw[fA,K1]
 have hlt:ty.length-1<ty.length:=by omega
 obtain⟨a,ha1,ha2⟩:=A9h hs hlt
 have ho:∀{K},Aq Ag (.ptr p 3 0) H K=K (.agg (Cb (uu (ty.getD (xs.length-1) 0)))):= λ{K}=>EZ (p:=3) rfl hp (show 23≤23 by decide)
 have eg:ty[ty.length-1]=ty.getD (xs.length-1) 0:=by rw[←hlen];simp[List.getD,Ka hlt]
 rw[eg] at ha2
 rw[I5 rfl hs,BH,A33 (by omega) (by omega),BH,ha1,BH,ha2,BH,f0,BH,ho,BH,C4X,BH,B9]
 exact hK _ _ (λb=>by
  obtain⟨q,hq⟩:=XZ (D:=depth-2) (b:=b) hs h0
  exact⟨_,Yb (D:=depth-1) (A0 hq (A0 (q:=false) E5 (A0 (q:=false) E5 Bp)))⟩)
theorem B33 (hL:100<L) (hT:RTy L n id ks xs (uu (ty.getD (xs.length-1) 0)) ty) (hlen:ty.length=xs.length) (hk:∀k∈ks,k<52) (hb:ks.length≤6) (hn:1≤xs.length) (hn':xs.length≤40) (h1:1≤id) (h2:id≤1000000):
 CS (rt (L+20) (n+44)) Ei [.agg (Bs id (BC ks) (BR xs) (uu (ty.getD (xs.length-1) 0)))] (Bo true):=by
 intro K hK
 rw[Zc]
 unfold Qu Ar
 rw[Fa (L0 (.inr ⟨_,_,rfl⟩) (.inr ⟨_,_,rfl⟩))]
 have hp0:=Ay (H:=[]) (x:=GL id (BC ks) (BR xs) (uu (ty.getD (xs.length-1) 0))) (by simp)
 generalize ((A3 [],GL id (BC ks) (BR xs) (uu (ty.getD (xs.length-1) 0)))::([]:Hp))=H0 at hp0
 have ck:∀{K:AV→Al},Ah (rt (L+20) (n+43)) Nl [.agg (Bs id (BC ks) (BR xs) (uu (ty.getD (xs.length-1) 0)))] H0 K=K (.tup [OC ty,I 0,I 0]):= λ{K}=>Be (B6P hL hT hlen hk hb hn hn' h1 h2) (RW (.inr ⟨_,_,rfl⟩) (.inr ⟨_,_,rfl⟩))
 have e2:∀{K:AV→Al},AA (.tup [OC ty,I 0,I 0]) 2 K=K (I 0):= λ{K}=>_root_.id rfl
 have e0:∀{K:AV→Al},AA (.tup [OC ty,I 0,I 0]) 0 K=K (OC ty):= λ{K}=>_root_.id rfl
 have e1:∀{K:AV→Al},AA (.tup [OC ty,I 0,I 0]) 1 K=K (I 0):= λ{K}=>_root_.id rfl
 rw[Bk rfl rfl hp0,ck,e0,e1,e2,A3s]
 exact hK _ _ (λb=>⟨false,λK=>by kernel_rfl⟩)
end
end
section
variable {L n:Nat}
section
variable {ks:List Nat} {xs:List Nd} {id:Int} {o:UD}
def Kr (ks:List Nat):List Nd:=(List.range ks.length).map UP
theorem DP:(Kr ks).length=ks.length:=by simp[Kr]
theorem WC {i:Nat} (h:i<(Kr ks).length):(Kr ks)[i]=UP i:=by simp[Kr]
theorem C0M (hb:ks.length≤6):RTy L n id ks (Kr ks) o ks:=by
 intro i h
 rw[WC h]
 have hi:i<ks.length:=by rw[DP] at h;exact h
 have e:ks.getD i 0=ks[i]:=by simp[List.getD,Ka hi]
 rw[e]
 exact Us (n:=n+39) hb hi
theorem ZG {y:Nd} {k:Nat} (hb:ks.length≤6) (hy:CS (rt (L+20) (n+42)) BY [.agg (Bs id (BC ks) (BR (Kr ks++[y])) o),.agg y.cs,I ks.length,OC ks] (.tup [.agg (Cb (uu k)),I 0])):
 RTy L n id ks (Kr ks++[y]) o (ks++[k]):=by
 intro i h
 rw[FK,DP] at h
 by_cases hi:i<ks.length
 ·have e:(Kr ks++[y])[i]'(by rw[FK,DP];exact h)=UP i:=by
   rw[List.getElem_append_left (by rw[DP];exact hi)];exact WC _
  rw[e]
  have e2:(ks++[k]).getD i 0=ks[i]:=by simp[List.getD,l0l hi,Ka hi]
  rw[e2]
  exact Us (n:=n+39) hb hi
 ·have hi':i=ks.length:=by simp at h;omega
  subst hi'
  have e:(Kr ks++[y])[ks.length]'(by rw[FK,DP];exact h)=y:=by
   rw[List.getElem_append_right (by rw[DP];omega)];simp
  rw[e]
  have e2:(ks++[k]).getD ks.length 0=k:=by simp[List.getD]
  rw[e2,List.take_left']
  ·exact hy
  ·rfl
end
end
section
def dg (k:Nat):List UInt8:=if k<10 then[UInt8.ofNat (48+k)] else if k<100 then[UInt8.ofNat (48+k/10),UInt8.ofNat (48+k%10)] else[UInt8.ofNat (48+k/100),UInt8.ofNat (48+k/10%10),UInt8.ofNat (48+k%10)]
variable (L n:Nat)
theorem C1a:((List.range 50).all λk=>(λi=>HN (AW (C4 (rt (L+20) (n+10)) Bg [I (i:Nat)]) (S (dg i)))) (k+0))=true:=by kernel_rfl
theorem C19:((List.range 50).all λk=>(λi=>HN (AW (C4 (rt (L+20) (n+10)) Bg [I (i:Nat)]) (S (dg i)))) (k+50))=true:=by kernel_rfl
theorem C18:((List.range 50).all λk=>(λi=>HN (AW (C4 (rt (L+20) (n+10)) Bg [I (i:Nat)]) (S (dg i)))) (k+100))=true:=by kernel_rfl
theorem C17:((List.range 50).all λk=>(λi=>HN (AW (C4 (rt (L+20) (n+10)) Bg [I (i:Nat)]) (S (dg i)))) (k+150))=true:=by kernel_rfl
theorem C16:((List.range 50).all λk=>(λi=>HN (AW (C4 (rt (L+20) (n+10)) Bg [I (i:Nat)]) (S (dg i)))) (k+200))=true:=by kernel_rfl
theorem C15:((List.range 50).all λk=>(λi=>HN (AW (C4 (rt (L+20) (n+10)) Bg [I (i:Nat)]) (S (dg i)))) (k+250))=true:=by kernel_rfl
theorem C14:((List.range 50).all λk=>(λi=>HN (AW (C4 (rt (L+20) (n+10)) Bg [I (i:Nat)]) (S (dg i)))) (k+300))=true:=by kernel_rfl
theorem C13:((List.range 50).all λk=>(λi=>HN (AW (C4 (rt (L+20) (n+10)) Bg [I (i:Nat)]) (S (dg i)))) (k+350))=true:=by kernel_rfl
theorem C12:((List.range 50).all λk=>(λi=>HN (AW (C4 (rt (L+20) (n+10)) Bg [I (i:Nat)]) (S (dg i)))) (k+400))=true:=by kernel_rfl
theorem C11:((List.range 50).all λk=>(λi=>HN (AW (C4 (rt (L+20) (n+10)) Bg [I (i:Nat)]) (S (dg i)))) (k+450))=true:=by kernel_rfl
theorem B6O:((List.range 50).all λk=>(λi=>HN (AW (C4 (rt (L+20) (n+10)) Bg [I (i:Nat)]) (S (dg i)))) (k+500))=true:=by kernel_rfl
theorem B6N:((List.range 50).all λk=>(λi=>HN (AW (C4 (rt (L+20) (n+10)) Bg [I (i:Nat)]) (S (dg i)))) (k+550))=true:=by kernel_rfl
theorem B6M:((List.range 50).all λk=>(λi=>HN (AW (C4 (rt (L+20) (n+10)) Bg [I (i:Nat)]) (S (dg i)))) (k+600))=true:=by kernel_rfl
theorem B6L:((List.range 50).all λk=>(λi=>HN (AW (C4 (rt (L+20) (n+10)) Bg [I (i:Nat)]) (S (dg i)))) (k+650))=true:=by kernel_rfl
theorem B6K:((List.range 50).all λk=>(λi=>HN (AW (C4 (rt (L+20) (n+10)) Bg [I (i:Nat)]) (S (dg i)))) (k+700))=true:=by kernel_rfl
theorem B6J:((List.range 50).all λk=>(λi=>HN (AW (C4 (rt (L+20) (n+10)) Bg [I (i:Nat)]) (S (dg i)))) (k+750))=true:=by kernel_rfl
theorem B6I:((List.range 50).all λk=>(λi=>HN (AW (C4 (rt (L+20) (n+10)) Bg [I (i:Nat)]) (S (dg i)))) (k+800))=true:=by kernel_rfl
theorem B6H:((List.range 50).all λk=>(λi=>HN (AW (C4 (rt (L+20) (n+10)) Bg [I (i:Nat)]) (S (dg i)))) (k+850))=true:=by kernel_rfl
theorem B6G:((List.range 50).all λk=>(λi=>HN (AW (C4 (rt (L+20) (n+10)) Bg [I (i:Nat)]) (S (dg i)))) (k+900))=true:=by kernel_rfl
theorem C5R (i:Nat) (h:i<950):PS (rt (L+20) (n+10)) Bg [I (i:Nat)] (S (dg i)):=by
 refine Bu (λH=>by first|exact λK=>by kernel_rfl) ?_
 by_cases h0:i<50
 ·have:=Hv.1 (C1a L n) (i-0) (IL.2 (by omega))
  have e:i-0+0=i:=by omega
  simp only[e] at this
  exact this
 by_cases h1:i<100
 ·have:=Hv.1 (C19 L n) (i-50) (IL.2 (by omega))
  have e:i-50+50=i:=by omega
  simp only[e] at this
  exact this
 by_cases h2:i<150
 ·have:=Hv.1 (C18 L n) (i-100) (IL.2 (by omega))
  have e:i-100+100=i:=by omega
  simp only[e] at this
  exact this
 by_cases h3:i<200
 ·have:=Hv.1 (C17 L n) (i-150) (IL.2 (by omega))
  have e:i-150+150=i:=by omega
  simp only[e] at this
  exact this
 by_cases h4:i<250
 ·have:=Hv.1 (C16 L n) (i-200) (IL.2 (by omega))
  have e:i-200+200=i:=by omega
  simp only[e] at this
  exact this
 by_cases h5:i<300
 ·have:=Hv.1 (C15 L n) (i-250) (IL.2 (by omega))
  have e:i-250+250=i:=by omega
  simp only[e] at this
  exact this
 by_cases h6:i<350
 ·have:=Hv.1 (C14 L n) (i-300) (IL.2 (by omega))
  have e:i-300+300=i:=by omega
  simp only[e] at this
  exact this
 by_cases h7:i<400
 ·have:=Hv.1 (C13 L n) (i-350) (IL.2 (by omega))
  have e:i-350+350=i:=by omega
  simp only[e] at this
  exact this
 by_cases h8:i<450
 ·have:=Hv.1 (C12 L n) (i-400) (IL.2 (by omega))
  have e:i-400+400=i:=by omega
  simp only[e] at this
  exact this
 by_cases h9:i<500
 ·have:=Hv.1 (C11 L n) (i-450) (IL.2 (by omega))
  have e:i-450+450=i:=by omega
  simp only[e] at this
  exact this
 by_cases h10:i<550
 ·have:=Hv.1 (B6O L n) (i-500) (IL.2 (by omega))
  have e:i-500+500=i:=by omega
  simp only[e] at this
  exact this
 by_cases h11:i<600
 ·have:=Hv.1 (B6N L n) (i-550) (IL.2 (by omega))
  have e:i-550+550=i:=by omega
  simp only[e] at this
  exact this
 by_cases h12:i<650
 ·have:=Hv.1 (B6M L n) (i-600) (IL.2 (by omega))
  have e:i-600+600=i:=by omega
  simp only[e] at this
  exact this
 by_cases h13:i<700
 ·have:=Hv.1 (B6L L n) (i-650) (IL.2 (by omega))
  have e:i-650+650=i:=by omega
  simp only[e] at this
  exact this
 by_cases h14:i<750
 ·have:=Hv.1 (B6K L n) (i-700) (IL.2 (by omega))
  have e:i-700+700=i:=by omega
  simp only[e] at this
  exact this
 by_cases h15:i<800
 ·have:=Hv.1 (B6J L n) (i-750) (IL.2 (by omega))
  have e:i-750+750=i:=by omega
  simp only[e] at this
  exact this
 by_cases h16:i<850
 ·have:=Hv.1 (B6I L n) (i-800) (IL.2 (by omega))
  have e:i-800+800=i:=by omega
  simp only[e] at this
  exact this
 by_cases h17:i<900
 ·have:=Hv.1 (B6H L n) (i-850) (IL.2 (by omega))
  have e:i-850+850=i:=by omega
  simp only[e] at this
  exact this
 by_cases h18:i<950
 ·have:=Hv.1 (B6G L n) (i-900) (IL.2 (by omega))
  have e:i-900+900=i:=by omega
  simp only[e] at this
  exact this
 omega
end
section
variable (L n:Nat)
theorem B90:((List.range 50).all λk=>(λi=>HN (AW (C4 (rt (L+20) (n+10)) Bt [I (i:Nat)]) (S (dg i)))) (k+0))=true:=by kernel_rfl
theorem B8Z:((List.range 50).all λk=>(λi=>HN (AW (C4 (rt (L+20) (n+10)) Bt [I (i:Nat)]) (S (dg i)))) (k+50))=true:=by kernel_rfl
theorem B8Y:((List.range 50).all λk=>(λi=>HN (AW (C4 (rt (L+20) (n+10)) Bt [I (i:Nat)]) (S (dg i)))) (k+100))=true:=by kernel_rfl
theorem B8X:((List.range 50).all λk=>(λi=>HN (AW (C4 (rt (L+20) (n+10)) Bt [I (i:Nat)]) (S (dg i)))) (k+150))=true:=by kernel_rfl
theorem B8W:((List.range 50).all λk=>(λi=>HN (AW (C4 (rt (L+20) (n+10)) Bt [I (i:Nat)]) (S (dg i)))) (k+200))=true:=by kernel_rfl
theorem B8V:((List.range 50).all λk=>(λi=>HN (AW (C4 (rt (L+20) (n+10)) Bt [I (i:Nat)]) (S (dg i)))) (k+250))=true:=by kernel_rfl
theorem B8U:((List.range 50).all λk=>(λi=>HN (AW (C4 (rt (L+20) (n+10)) Bt [I (i:Nat)]) (S (dg i)))) (k+300))=true:=by kernel_rfl
theorem B8T:((List.range 50).all λk=>(λi=>HN (AW (C4 (rt (L+20) (n+10)) Bt [I (i:Nat)]) (S (dg i)))) (k+350))=true:=by kernel_rfl
theorem B8S:((List.range 50).all λk=>(λi=>HN (AW (C4 (rt (L+20) (n+10)) Bt [I (i:Nat)]) (S (dg i)))) (k+400))=true:=by kernel_rfl
theorem B8R:((List.range 50).all λk=>(λi=>HN (AW (C4 (rt (L+20) (n+10)) Bt [I (i:Nat)]) (S (dg i)))) (k+450))=true:=by kernel_rfl
theorem B5I:((List.range 50).all λk=>(λi=>HN (AW (C4 (rt (L+20) (n+10)) Bt [I (i:Nat)]) (S (dg i)))) (k+500))=true:=by kernel_rfl
theorem B5H:((List.range 50).all λk=>(λi=>HN (AW (C4 (rt (L+20) (n+10)) Bt [I (i:Nat)]) (S (dg i)))) (k+550))=true:=by kernel_rfl
theorem B5G:((List.range 50).all λk=>(λi=>HN (AW (C4 (rt (L+20) (n+10)) Bt [I (i:Nat)]) (S (dg i)))) (k+600))=true:=by kernel_rfl
theorem B5F:((List.range 50).all λk=>(λi=>HN (AW (C4 (rt (L+20) (n+10)) Bt [I (i:Nat)]) (S (dg i)))) (k+650))=true:=by kernel_rfl
theorem B5E:((List.range 50).all λk=>(λi=>HN (AW (C4 (rt (L+20) (n+10)) Bt [I (i:Nat)]) (S (dg i)))) (k+700))=true:=by kernel_rfl
theorem B5D:((List.range 50).all λk=>(λi=>HN (AW (C4 (rt (L+20) (n+10)) Bt [I (i:Nat)]) (S (dg i)))) (k+750))=true:=by kernel_rfl
theorem B5C:((List.range 50).all λk=>(λi=>HN (AW (C4 (rt (L+20) (n+10)) Bt [I (i:Nat)]) (S (dg i)))) (k+800))=true:=by kernel_rfl
theorem B5B:((List.range 50).all λk=>(λi=>HN (AW (C4 (rt (L+20) (n+10)) Bt [I (i:Nat)]) (S (dg i)))) (k+850))=true:=by kernel_rfl
theorem B5A:((List.range 50).all λk=>(λi=>HN (AW (C4 (rt (L+20) (n+10)) Bt [I (i:Nat)]) (S (dg i)))) (k+900))=true:=by kernel_rfl
theorem C5M (i:Nat) (h:i<950):PS (rt (L+20) (n+10)) Bt [I (i:Nat)] (S (dg i)):=by
 refine Bu (λH=>by first|exact λK=>by kernel_rfl) ?_
 by_cases h0:i<50
 ·have:=Hv.1 (B90 L n) (i-0) (IL.2 (by omega))
  have e:i-0+0=i:=by omega
  simp only[e] at this
  exact this
 by_cases h1:i<100
 ·have:=Hv.1 (B8Z L n) (i-50) (IL.2 (by omega))
  have e:i-50+50=i:=by omega
  simp only[e] at this
  exact this
 by_cases h2:i<150
 ·have:=Hv.1 (B8Y L n) (i-100) (IL.2 (by omega))
  have e:i-100+100=i:=by omega
  simp only[e] at this
  exact this
 by_cases h3:i<200
 ·have:=Hv.1 (B8X L n) (i-150) (IL.2 (by omega))
  have e:i-150+150=i:=by omega
  simp only[e] at this
  exact this
 by_cases h4:i<250
 ·have:=Hv.1 (B8W L n) (i-200) (IL.2 (by omega))
  have e:i-200+200=i:=by omega
  simp only[e] at this
  exact this
 by_cases h5:i<300
 ·have:=Hv.1 (B8V L n) (i-250) (IL.2 (by omega))
  have e:i-250+250=i:=by omega
  simp only[e] at this
  exact this
 by_cases h6:i<350
 ·have:=Hv.1 (B8U L n) (i-300) (IL.2 (by omega))
  have e:i-300+300=i:=by omega
  simp only[e] at this
  exact this
 by_cases h7:i<400
 ·have:=Hv.1 (B8T L n) (i-350) (IL.2 (by omega))
  have e:i-350+350=i:=by omega
  simp only[e] at this
  exact this
 by_cases h8:i<450
 ·have:=Hv.1 (B8S L n) (i-400) (IL.2 (by omega))
  have e:i-400+400=i:=by omega
  simp only[e] at this
  exact this
 by_cases h9:i<500
 ·have:=Hv.1 (B8R L n) (i-450) (IL.2 (by omega))
  have e:i-450+450=i:=by omega
  simp only[e] at this
  exact this
 by_cases h10:i<550
 ·have:=Hv.1 (B5I L n) (i-500) (IL.2 (by omega))
  have e:i-500+500=i:=by omega
  simp only[e] at this
  exact this
 by_cases h11:i<600
 ·have:=Hv.1 (B5H L n) (i-550) (IL.2 (by omega))
  have e:i-550+550=i:=by omega
  simp only[e] at this
  exact this
 by_cases h12:i<650
 ·have:=Hv.1 (B5G L n) (i-600) (IL.2 (by omega))
  have e:i-600+600=i:=by omega
  simp only[e] at this
  exact this
 by_cases h13:i<700
 ·have:=Hv.1 (B5F L n) (i-650) (IL.2 (by omega))
  have e:i-650+650=i:=by omega
  simp only[e] at this
  exact this
 by_cases h14:i<750
 ·have:=Hv.1 (B5E L n) (i-700) (IL.2 (by omega))
  have e:i-700+700=i:=by omega
  simp only[e] at this
  exact this
 by_cases h15:i<800
 ·have:=Hv.1 (B5D L n) (i-750) (IL.2 (by omega))
  have e:i-750+750=i:=by omega
  simp only[e] at this
  exact this
 by_cases h16:i<850
 ·have:=Hv.1 (B5C L n) (i-800) (IL.2 (by omega))
  have e:i-800+800=i:=by omega
  simp only[e] at this
  exact this
 by_cases h17:i<900
 ·have:=Hv.1 (B5B L n) (i-850) (IL.2 (by omega))
  have e:i-850+850=i:=by omega
  simp only[e] at this
  exact this
 by_cases h18:i<950
 ·have:=Hv.1 (B5A L n) (i-900) (IL.2 (by omega))
  have e:i-900+900=i:=by omega
  simp only[e] at this
  exact this
 omega
end
end Go.Abs
end
