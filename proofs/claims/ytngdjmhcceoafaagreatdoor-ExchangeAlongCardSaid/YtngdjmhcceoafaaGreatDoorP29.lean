import Derived.Test.YtngdjmhcceoafaaGreatDoorP28
set_option linter.all false
set_option maxHeartbeats 100000000
noncomputable section
namespace Go.Abs
open Go.RowKit Go.Proofs
set_option maxRecDepth 100000
section
variable {L n:Nat}
def cE (c:Cd):Ce (List UInt8):=⟨decide (c.kd=1),c.ps⟩
def gr (gs:List Cd):List (List UInt8×Ce (List UInt8)):=gs.map λc=>(c.id,cE c)
def B9w {gs:List Cd} {s:List UInt8}:Mn (gr gs) s=(Mn (gE gs) s).map cE:=by
 unfold gr gE
 induction gs with
 |nil=>rfl
 |cons c gs ih=>
  simp only[WR];unfold Mn;by_cases h:c.id=s
  ·simp[h]
  ·simp[h,ih]
def gU {q:Bool} {y:Bool->Af}:gdV q (.v undef) y=y false:=by cases q<;>exact id rfl
section
variable {gs:List Cd} {y m x z:Nat} {b:List (List UInt8×Bool)} {H H':Hp} {K:KV}
def B1A {c:Cd} {r:Nat} (h:Aj H r=some (C33 c)) {K:AV->Af}:AF Ac (.ptr r 31 0) H K=K (DJ c.ps):=by
 match c with
 | .re b u=>exact AP (p:=31) rfl h (show 31<68 by decide)
 | .co b p ps none=>exact AP (p:=31) rfl h (show 31<68 by decide)
 | .co b p ps (some (k,vd))=>exact AP (p:=31) rfl h (show 31<68 by decide)
end
end
end Go.Abs
end
noncomputable section
end
noncomputable section
namespace Go.Abs
open Go.RowKit Go.Proofs
set_option maxRecDepth 100000
section
variable {L n:Nat}
def SA (l:List (List UInt8)) (a:AV):Prop:=a=Ls l\/(l=[]/\a=As)
def MK (l:List (List UInt8)):SA l (DJ l):=by cases l with|nil=>exact .inr ⟨rfl,rfl⟩|cons p l=>exact .inl rfl
section
variable {l:List (List UInt8)} {a:AV} {i:Nat} {K:AV->Af} {s:List UInt8}
def SA.len (h:SA l a):Bq Ac a K=K (I l.length):=by
 rcases h with rfl|⟨rfl,rfl⟩
 ·exact MG
 ·exact id rfl
def SA.ia (h:SA l a) (b:i<l.length):Dw Ac a (I i) K=K (.iptr [S l[i]]):=by
 rcases h with rfl|⟨rfl,rfl⟩
 ·exact SI b
 ·simp at b
def SA.fx (h:SA l a) (H:Hp):Fx true depth a a H false:=by
 rcases h with rfl|⟨rfl,rfl⟩<;>exact λK=>by kernel_rfl
def lC (s:List UInt8):List (List UInt8)->Nat->AV
 |[],_=> .tup [Bo false,I (-1)]
 |a::l,i=>if a=s then .tup [Bo true,I i] else lC s l (i+1)
def gI:∀(l:List (List UInt8)) (i:Nat),s∉l->lC s l i= .tup [Bo false,I (-1)]:=by
 intro l
 induction l with
 |nil=>intro i _;rfl
 |cons a l ih=>
  intro i h;simp only[Uf,not_or] at h;unfold lC;rw[C4 (Ne.symm h.1)];exact ih _ h.2
def gH:∀(l:List (List UInt8)) (i:Nat),s∈l->∃k,∃h:k<l.length,l[k]=s/\(∀m (hm:m<k),l[m]≠s)/\lC s l i= .tup [Bo true,I ((i+k:Nat):Int)]:=by
 intro l
 induction l with
 |nil=>intro i h;cases h
 |cons a l ih=>
  intro i h;unfold lC;by_cases e:a=s
  ·exact⟨0,by simp,e,λm hm=>by omega,by rw[Dj e];rfl⟩
  ·obtain⟨k,c,h1,h2,b⟩:=ih (i+1) ((Uf.1 h).resolve_left (Ne.symm e));refine⟨k+1,by simp;omega,by simpa using h1,λm hm=> ?_,by rw[C4 e,b];congr 4;omega⟩;cases m with
   |zero=>exact e
   |succ m=>exact h2 m (by omega)
end
section
variable {K:KV} {x:Af} {l:List (List UInt8)} {a:AV} {s:List UInt8} {gs:List Cd}
def B9j {k3:Hp->Af} {H:Hp} (c:SA l a) (hb:l.length<1000) {v:AV} (hv:K v H=x) (d:v= .tup [Bo false,I (-1)]->k3 H=x):∀(f i:Nat),i<=l.length->l.length-i<f->lC s (l.drop i) i=v->
 Vz (L+20) (r! L n) K k3 f a (S s) (I i) H=x:=by
 intro f
 induction f with
 |zero=>intro i _ h;omega
 |succ f ih=>
  intro i j g b;rw[rQ];unfold V0 Iv A0 LW;rw[c.len];by_cases h:i<l.length
  ·rw[vA h] at b;unfold lC at b;rw[FR (by omega),Cy,c.ia h,L5,LV];by_cases e:l[i]=s
   ·rw[Dj e] at b;rw[Iu e,Cy,b];exact hv
   ·rw[C4 e] at b;rw[IG e,Bj,Dg (by omega)];exact ih (i+1) (by omega) (by omega) b
  ·rw[FP (by omega),Bj];have:i=l.length:=by omega
   subst this;rw[List.drop_length] at b;exact d b.symm
def B5s (f:SA l a) (hb:l.length<1000) (g:2000<L):CS (r! L (n+1)) To [a,S s] (lC s l 0):=by
 intro K d;have fin:∀H,K (lC s l 0) H=some (lC s l 0,[]):= λH=>d _ _ (λb=>⟨false,by
  by_cases h:s∈l
  ·obtain⟨k,_,_,_,e⟩:=gH l 0 h;rw[e];exact λK=>by kernel_rfl
  ·rw[gI l 0 h];exact λK=>by kernel_rfl⟩)
 rw[wA];unfold XO A0 HQ;simp only[BK];have c:(AV.v (.int .i64 0))=I ((0:Nat):Int):=rfl;rw[c];refine B9j f hb (fin []) (λe=> ?_) (L+20) 0 (by omega) (by omega) (by rw[pM]);have:=fin [];rw[e] at this;rw[e];exact this
end
end
section
variable {L n:Nat}
def CT (R:Rt) (f:Nat) (args:List AV) (v:AV):Prop:=∀K:KV,(∀e d,(∃q,Fx true depth e v d q)->K e d=some (v,[]))->R.call f args [] K=some (v,[])
def CT.z {R:Rt} {f:Nat} {args args':List AV} {v:AV} {H:Hp} {K:AV->Af} (hc:CT R f args' v) (d:Rr true depth args args' H false):An R f args H K=K v:=Ky hc d
def pk (c n:Int):Int:=(if c<0 then-(c+1) else c)%n
def FY {c n:Int} (h:0<n):0<=pk c n/\pk c n<n:=⟨Int.emod_nonneg _ (by omega),Int.emod_lt_of_pos _ h⟩
section
variable {K:KV} {x:Af} {a b:AV} {s:List UInt8} {gs:List Cd} {H:Hp}
def LA.fx (h:LA gs a) (H:Hp):Fx true depth a a H false:=by rcases h with rfl|⟨_,rfl⟩<;>exact λK=>by kernel_rfl
def A5j:(∃h:s∈gs.map Cd.id,∃k,∃d:k<gs.length,Mn (gE gs) s=some gs[k]/\lC s (gs.map Cd.id) 0= .tup [Bo true,I (k:Int)])\/(s∉gs.map Cd.id/\Mn (gE gs) s=none/\lC s (gs.map Cd.id) 0= .tup [Bo false,I (-1)]):=by
 by_cases h:s∈gs.map Cd.id
 ·left;obtain⟨k,d,h1,h2,f⟩:=gH _ 0 h;refine⟨h,k,by simpa using d,?_,by rw[f,JQ]⟩;clear h f
  induction gs generalizing k with
  |nil=>simp at d
  |cons c gs ih=>
   show Mn ((c.id,c)::gE gs) s=_;unfold Mn;cases k with
   |zero=>simp at h1;rw[Dj h1];rfl
   |succ k=>
    have e:=h2 0 (by omega);simp at e;rw[C4 e];exact ih k (by simpa using d) (by simpa using h1) (λm hm=>by simpa using h2 (m+1) (by omega))
 ·exact .inr ⟨h,Yj (by rw[Wp];exact h),gI _ 0 h⟩
def A71 {z:Int} {K:AV->Af} (h1: -9223372036854775808<z) (h2:z<9223372036854775808):Mg .neg (I z) K=K (I (-z)):=by
 have e:Mg .neg (I z) K=Og .i64 (0-z) λz=>K (.v (.int .i64 z)):=rfl;rw[e,IQ,Int.zero_sub,CW (by omega) (by omega)]
end
def Le (z:Int):Prop:= -9223372036854775808<=z/\z<9223372036854775808
section
variable {c m:Int}
def sA {K:AV->Af} (hc:Le c) (hm:0<m) (e:m<9223372036854775808) {k1:AV->Af} (d:k1= λv=>Go.Abs.Ap Ab .rem v (I m) K):
 (Go.Abs.Ap Ab .lss (I c) (.v (.int .i64 0)) λf=>Az f (Go.Abs.Ap Ab .add (I c) (.v (.int .i64 1)) λg=>Mg .neg g λi=>k1 i) (k1 (I c)))=K (I (pk c m)):=by
 subst d;obtain⟨h1,h2⟩:=hc;rw[Ej];by_cases h:c<0
 ·rw[Iu h,Cy,Dm,CW (by omega) (by omega),A71 (by omega) (by omega)];show Go.Abs.Ap Ab .rem (I (-(c+1))) (I m) K=_;rw[Vd (by omega),Int.tmod_eq_emod_of_nonneg (by omega)];unfold pk;rw[Dj h]
 ·rw[IG h,Bj];show Go.Abs.Ap Ab .rem (I c) (I m) K=_;rw[Vd (by omega),Int.tmod_eq_emod_of_nonneg (by omega)];unfold pk;rw[C4 h]
def A9L (hc:Le c) (hm:0<m) (d:m<9223372036854775808):PS (r! L (n+1)) Rb [I c,I m] (I (pk c m)):=by
 refine CS.ps (λK e=> ?_) (λH=> λK=>by kernel_rfl);rw[sW];unfold VX A0;simp only[BK];exact(sA (K:= λv=>K v []) hc hm d rfl).trans (e _ _ (λb=>⟨false,λK=>by kernel_rfl⟩))
def A0P (hc:Le c) (hm:0<m) (d:m<9223372036854775808):PS (r! L (n+1)) XA5 [I c,I m] (I (pk c m)):=by
 refine CS.ps (λK e=> ?_) (λH=> λK=>by kernel_rfl);rw[sG];unfold VH A0;simp only[BK];exact(sA (K:= λv=>K v []) hc hm d rfl).trans (e _ _ (λb=>⟨false,λK=>by kernel_rfl⟩))
def Mw (hc:Le c) (hm:0<m) (d:m<9223372036854775808):PS (r! L (n+1)) BL [I c,I m] (I (pk c m)):=by
 refine CS.ps (λK e=> ?_) (λH=> λK=>by kernel_rfl);rw[sI];unfold VJ A0;simp only[BK];exact(sA (K:= λv=>K v []) hc hm d rfl).trans (e _ _ (λb=>⟨false,λK=>by kernel_rfl⟩))
def sB (hc:Le c) (hm:0<m) (d:m<9223372036854775808):PS (r! L (n+1)) Jx [I c,I m] (I (pk c m)):=by
 refine CS.ps (λK e=> ?_) (λH=> λK=>by kernel_rfl);rw[sO];unfold VS A0;simp only[BK];exact(sA (K:= λv=>K v []) hc hm d rfl).trans (e _ _ (λb=>⟨false,λK=>by kernel_rfl⟩))
def Mx (hc:Le c) (hm:0<m) (d:m<9223372036854775808):PS (r! L (n+1)) Cq [I c,I m] (I (pk c m)):=by
 refine CS.ps (λK e=> ?_) (λH=> λK=>by kernel_rfl);rw[sL];unfold VO A0;simp only[BK];exact(sA (K:= λv=>K v []) hc hm d rfl).trans (e _ _ (λb=>⟨false,λK=>by kernel_rfl⟩))
end
section
variable {K:KV} {x:Af} {a:AV} {s:List UInt8} {gs:List Cd} {H:Hp}
end
end
section
variable {L n:Nat}
section
variable {c:Int}
def B5w {k m:Int} (a:0<=k) (h1:k<m):pk k m=k:=by
 unfold pk;rw[C4 (by omega),Int.emod_eq_of_lt a h1]
def A98:((List.range 7).all λi=>JI (Ba (Dq (r! L (n+42)) Gq [I (i:Nat)]) (.agg (uu i).cs)))=true:=by kernel_rfl
def A31 (hc:Le c):PS (r! L (n+42)) Gq [I c] (.agg (CJ (uu (pk c 7).toNat))):=by
 have pr:=FY (c:=c) (n:=7) (by decide);obtain⟨k,b⟩:∃k:Nat,pk c 7=k:=⟨(pk c 7).toNat,by omega⟩
 have a:k<7:=by omega
 refine BJ (λH K=>by kernel_rfl) ?_;have e:Dq (r! L (n+42)) Gq [I c]=Dq (r! L (n+42)) Gq [I (k:Nat)]:=by
  unfold Dq;rw[XR,XR];unfold VP Ip;have h1:∀H K,An (r! L (n+41)) Cq [I c,.v (.int .i64 7)] H K=K (I (pk c 7)):=Mx (n:=n+40) hc (by decide) (by decide);have h2:∀H K,An (r! L (n+41)) Cq [I (k:Int),.v (.int .i64 7)] H K=K (I (pk k 7)):=Mx (n:=n+40) (by unfold Le;omega) (by decide) (by decide);simp only[h1,h2,b,B5w (k:=(k:Int)) (m:=7) (by omega) (by omega)]
 rw[e,b,kV];exact GH.1 A98 k (K8.2 a)
def A9l:((List.range 3).all λi=>JI (Ba (Dq (r! L (n+2)) Km [I (i:Nat)]) (.agg (rr (1+i)).cs)))=true:=by kernel_rfl
def B3G (hc:Le c):PS (r! L (n+2)) Km [I c] (.agg (rr (1+(pk c 3).toNat)).cs):=by
 have pr:=FY (c:=c) (n:=3) (by decide);obtain⟨k,b⟩:∃k:Nat,pk c 3=k:=⟨(pk c 3).toNat,by omega⟩
 have a:k<3:=by omega
 refine BJ (λH K=>by kernel_rfl) ?_;have e:Dq (r! L (n+2)) Km [I c]=Dq (r! L (n+2)) Km [I (k:Nat)]:=by
  unfold Dq;rw[XP,XP];unfold VL Eh A0;have h1:∀H K,An (r! L (n+1)) BL [I c,.v (.int .i64 3)] H K=K (I (pk c 3)):=Mw (n:=n) hc (by decide) (by decide);have h2:∀H K,An (r! L (n+1)) BL [I (k:Int),.v (.int .i64 3)] H K=K (I (pk k 3)):=Mw (n:=n) (by unfold Le;omega) (by decide) (by decide);simp only[h1,h2,b,B5w (k:=(k:Int)) (m:=3) (by omega) (by omega)]
 rw[e,b,kV];exact GH.1 A9l k (K8.2 a)
def G? (c:Int):List UInt8:=sha (Jk [c])
def A0G (e:40000<L) (h1: -10<=c) (h2:c<1090):PS (r! L (n+20)) JR [I c] (S (G? c)):=by
 refine CS.ps (λK d=> ?_) (λH=> λK=>by kernel_rfl);rw[kI];unfold Sa Ip;have a:=F1 [c];have fx:Rr true depth [.sl 1 (Ao []) 0 1] [.list 1 (Gz [c])] ((Ao [],.cells false GZ (Gz [c]))::[]) true:=
  Am (q:=true) (q':=false) (WU (D:=depth-1) (q':=false) (Aw (by simp)) rfl (KO (λz:Int=>Value.int .i64 z) [c])) AJ
 rw[YZ,AQ (xP (L:=L) (n:=n+14) (l:=[c]) (by simp) (by simp;omega) (by simp;omega)) fx,AQ (B5o (L:=L+20) (n:=n+16) (s:=Jk [c]) (by simp only[LP,QJ] at a;omega) (by simp only[LP,QJ] at a;omega)) (q:=false) (λK=>by kernel_rfl)];exact d _ _ (λb=>⟨false,λK=>by kernel_rfl⟩)
end
end
section
variable {v:AV} {H:Hp} {i2 ie:TI}
variable {L n:Nat}
def T? {e sz n:Nat} {cs ys:List AV} (h:B2 H e sz v n cs) (w:Wf H) (u:ys.length=sz) (h1:ys.all AV.one=true) (hsz:sz≠0) (hz:(Bv ie.zero).length=sz)
 (t:∀s,(Zz i2.d&&Tf sz (.sl sz s 0 1))=true) (hb:(n+1)*ie.bytes<=70368744177664) (j:n+1<=70368744177664):
 ∃g a,(∀K:KV,E9 e sz ie i2 v (.sl sz (Ao H) 0 1) ((Ao H,.cells false e ys)::H) K=K g a)/\B2 a e sz g (n+1) (cs++ys)/\Wf a/\Ao H<=Ao a/\(∀s x,Aj H s=some x->¬A8 v s->Aj a s=some x)/\(∀s,A8 g s->Ao H<=s):=by
 have m:B2 ((Ao H,.cells false e ys)::H) e sz v n cs:=h.lat w (Lat.cons H _ (λ_=>False)) (λ_ _ h=>h);have f:B2 ((Ao H,.cells false e ys)::H) e sz (.sl sz (Ao H) 0 1) 1 ys:= .inr ⟨Ao H,false,rfl,Aw (by simp),by omega⟩;obtain⟨g,a,h1,h2,p,q⟩:=apt (ie:=ie) (i2:=i2) m (λK=>Rg (K:=K) f) (by omega) h1 hsz hz (t _) hb j;have i:=(Lat.cons H (.cells false e ys) (A8 v)).trans q (R:=A8 v) (λ_ _ h=>h) (λ_ _ h=>h);refine⟨g,a,h1,h2,i.wf w,i.nx,λs x k hn=>i.keep w s x k hn,λs k=> ?_⟩;rw[p s k];exact l1u _
def C4Y {e sz n:Nat} {v x:AV} {cs ys:List AV} (i:∀K:KV,Hf e sz ie 1 [(0,sz,x)] H K=K (.sl sz (Ao H) 0 1) ((Ao H,.cells false e ys)::H)) (h:B2 H e sz v n cs) (w:Wf H) (k:ys.length=sz) (h1:ys.all AV.one=true) (hsz:sz≠0) (hz:(Bv ie.zero).length=sz)
 (m:∀s,(Zz i2.d&&Tf sz (.sl sz s 0 1))=true) (hb:(n+1)*ie.bytes<=70368744177664) (g:n+1<=70368744177664):
 ∃f a,(∀K:KV,(Hf e sz ie 1 [(0,sz,x)] H λv1 j=>E9 e sz ie i2 v v1 j K)=K f a)/\B2 a e sz f (n+1) (cs++ys)/\Wf a/\Ao H<=Ao a/\(∀s x,Aj H s=some x->¬A8 v s->Aj a s=some x)/\(∀s,A8 f s->Ao H<=s):=by
 obtain⟨f,a,a1,a2⟩:=T? (ie:=ie) (i2:=i2) h w k h1 hsz hz m hb g;exact⟨f,a,λK=>by rw[i];exact a1 K,a2⟩
def lO {i:TI} {s p e:Nat} {q:Bool} {cs vs:List AV} {K:Hp->Af} (f:Aj H s=some (.cells q e cs)) (g:p+vs.length<=cs.length) (hz:i.size=vs.length) (h1:vs.all AV.one=true):E0 i (.ptr s p 0) (.agg vs) H K=K (upd H s (.cells q e (splice cs p vs))):=by
 have d:E0 i (.ptr s p 0) (.agg vs) H K=IJ H s λx=>eS x λq e cs=>GW (.agg vs) λvs=>HI vs 0 λn=>ck (Nat.beq n i.size) (ck (Nu vs) (El (Nat.add p 0) vs cs λa=>LC H s (.cells q e a) K)):=rfl;rw[d,Bf f];show(GW (.agg vs) λvs=>HI vs 0 λn=>ck (Nat.beq n i.size) (ck (Nu vs) (El p vs cs λa=>LC H s (.cells q e a) K)))=_;have hc:Bv (.agg vs)=vs:=rfl;rw[CI,hc,Co,hz,FI,h1,JQ,mK];show El p vs cs _=_;rw[Il _ _ _ _ (by omega),Dh]
theorem B2.one {e sz n:Nat} {cs:List AV} (h:B2 H e sz v n cs):AV.one v=true:=by
 rcases h with⟨rfl,_⟩|⟨r,q,rfl,_⟩<;>rfl
def B2.cell {e sz n:Nat} {cs:List AV} (h:B2 H e sz v n cs):Bv v=[v]:=by
 rcases h with⟨rfl,_⟩|⟨r,q,rfl,_⟩<;>rfl
def tmV (t:Int×Int):List Value:=[.int .i64 t.1,.string ⟨⟨qn t.2⟩⟩,.string ⟨⟨qd t.2⟩⟩]
def C11 (l:iU):l.flatMap OD=(l.flatMap tmV).map λx=> .v x:=by
 induction l with
 |nil=>rfl
 |cons k l ih=>rw[pP,pP,YN,ih];rfl
def B9p {D:Nat} {b:Bool} {l:iU} (h:B2 H AY 3 v l.length (l.flatMap OD)) (f:l=[]->v=As):∃q,Fx b (D+1) v (FD l) H q:=by
 rcases h with⟨rfl,h2,_⟩|⟨r,q,rfl,h2,d⟩
 ·cases l with
  |nil=>exact⟨false,C7⟩
  |cons a l=>simp at h2
 ·cases l with
  |nil=>have:=f rfl;cases this
  |cons a l=>
   refine⟨true,?_⟩;show Fx b (D+1) _ (.list (a::l).length ((a::l).flatMap OD)) H true;rw[C11] at h2 d⊢;exact WU (q':=false) h2 d (KO _root_.id _)
def Ln (x:List Int):Nat->iU
 |0=>[]
 |i+1=>if pk (x.getD i 0) 17-8≠0/\(Ln x i).length<5 then Ln x i++[(1+(i:Int),pk (x.getD i 0) 17-8)] else Ln x i
def A4L (x:List Int):∀i,i<=6->TmsOk (Ln x i)/\(Ln x i).length<=5/\∀t∈Ln x i,t.1<=i:=by
 intro i
 induction i with
 |zero=>intro _;exact⟨⟨by simp[Ln],by simp[Ln],by simp[Ln]⟩,by simp[Ln],by simp[Ln]⟩
 |succ i ih=>
  intro j;obtain⟨h1,h2,f⟩:=ih (by omega);have pr:=FY (c:=x.getD i 0) (n:=17) (by decide);unfold Ln;by_cases h:pk (x.getD i 0) 17-8≠0/\(Ln x i).length<5
  ·rw[Dj h];refine⟨⟨by simp;omega,λt d=> ?_,?_⟩,by simp;omega,λt d=> ?_⟩
   ·rcases Zs.1 d with d|d
    ·exact h1.rng t d
    ·rw[Ur] at d;subst d;simp only;omega
   ·rw[List.pairwise_append];refine⟨h1.asc,by simp,λa g b hb=> ?_⟩;rw[Ur] at hb;subst hb;have:=f a g;simp only;omega
   ·rcases Zs.1 d with d|d
    ·have:=f t d;omega
    ·rw[Ur] at d;subst d;simp only;omega
  ·rw[C4 h];exact⟨h1,h2,λt d=>by have:=f t d;omega⟩
def C4X {t:Int×Int} {K:KV}:Hf AY 3 BS 1 [(0,3,.agg (OD t))] H K=K (.sl 3 (Ao H) 0 1) ((Ao H,.cells false AY (OD t))::H):=by
 have e:Hf AY 3 BS 1 [(0,3,.agg (OD t))] H K=Ig H (λs=>K (.sl 3 s 0 1) ((s,.cells false AY (OD t))::H)):=r_ rfl;rw[e,BV]
section
variable {K:KV} {x:Af} {xs:List Int} {ca cb ra rb:List UInt8} {b r z:Nat} {c e:Int}
abbrev C2Q (ca cb ra rb:List UInt8) (v:AV):Row:= .cells true ED [S ca,S cb,v,S ra,S rb]
structure FmH (b r z:Nat) (xs:List Int) (ca cb ra rb:List UInt8) (ts:iU) (v:AV) (H:Hp):Prop where
 hb:Aj H b=some (c_ Jm (Gz xs))
 hr:Aj H r=some (C2Q ca cb ra rb v)
 hz:∃cs,cs.length=5/\Aj H z=some (c_ ED cs)
 sl:B2 H AY 3 v ts.length (ts.flatMap OD)
 nl:ts=[]->v=As
 nb:¬A8 v b
 nr:¬A8 v r
 nz:¬A8 v z
 wf:Wf H
def B13 {t:TI} {e sz n:Nat} {cs:List AV} {K:AV->Af} (a:t.d= .slice e sz) (h:B2 H e sz v n cs):Bq t v K=K (I n):=Lb a h
def C2P {C:AV->AV->Hp->Af} (hL:100<L) (P:b≠r) (Z:z≠r) (hx:xs.length=6) (w:∀c∈xs,Le c) (u:∀v H,FmH b r z xs ca cb ra rb (Ln xs 6) v H->C (.ptr z 0 0) (.ptr r 0 0) H=x):
 ∀(f i:Nat) (v:AV) (H:Hp),i<=6->6-i<f->FmH b r z xs ca cb ra rb (Ln xs i) v H->
 TK (L+20) (r! L (n+40)) K C f (.ptr b 0 0) (.ptr z 0 0) (.ptr r 0 0) (I i) H=x:=by
 intro f
 induction f with
 |zero=>intro i v H _ h;omega
 |succ f ih=>
  intro i v H hi hf a;rw[nM];unfold TL Eh Xf Iv Df A0 HQ;have e6:(AV.v (.int .i64 6))=I ((6:Nat):Int):=rfl;rw[e6];by_cases h:i<6
  ·have g:i<xs.length:=by omega
   have R:(Gz xs).getD i .dk=I (xs.getD i 0):=by rw[Wl g];simp[List.getD,K9 g]
   have hc:Le (xs.getD i 0):=by simp only[List.getD,K9 g,l1q];exact w _ (Qe g)
   have pr:=FY (c:=xs.getD i 0) (n:=17) (by decide);have ld:∀{K},AF Ab (.ptr b i 0) H K=K (I (xs.getD i 0)):= λ{K}=>by rw[AP (p:=i) rfl a.hb (by simp[Gz];omega),R]
   have Y:∀H K,An (r! L (n+40)) Jx [I (xs.getD i 0),.v (.int .i64 17)] H K=K (I (pk (xs.getD i 0) 17)):=sB (n:=n+39) hc (by decide) (by decide);have ia:∀{K:AV->Af},Dw B6 (.ptr b 0 0) (I i) K=K (.ptr b i 0):= λ{K}=>EJ i rfl rfl h;rw[FR (by omega),Cy];simp only[BK];rw[ia,ld,Y,K7,CW (by omega) (by omega)];have V:∀{K:AV->Af},Go.Abs.Ap Ab .neq (I (pk (xs.getD i 0) 17-8)) (.v (.int .i64 0)) K=K (Bo (decide (pk (xs.getD i 0) 17-8≠0))):= λ{K}=>by rw[IS];simp
   rw[V];have d:Ln xs (i+1)=if pk (xs.getD i 0) 17-8≠0/\(Ln xs i).length<5 then Ln xs i++[(1+(i:Int),pk (xs.getD i 0) 17-8)] else Ln xs i:=rfl
   have add:∀{K:AV->Af},Go.Abs.Ap Ab .add (I i) (.v (.int .i64 1)) K=K (I ((i+1:Nat):Int)):= λ{K}=>Dg (by omega);by_cases F:pk (xs.getD i 0) 17-8=0
   ·rw[IG (by simpa using F)];simp only[dF,Cn,SS];rw[Bj,add];rw[C4 λa=>a.1 F] at d;exact ih (i+1) v H (by omega) (by omega) (by rw[d];exact a)
   ·have ab:=(A4L xs i (by omega)).2.1;have f2:∀K:AV->Af,CV 2 (.ptr r 0 0) K=K (.ptr r 2 0):= λK=>id rfl;have l2:∀K,AF AA (.ptr r 2 0) H K=K v:= λK=>AP (p:=2) rfl a.hr (by simp);rw[Iu (by simpa using F)];simp only[gT,Cn,UH,f2,l2,B13 (t:=AA) rfl a.sl];have e5:(AV.v (.int .i64 5))=I ((5:Nat):Int):=rfl;rw[e5];by_cases h5:(Ln xs i).length<5
    ·rw[FR (by omega),Cn,Cy];rw[Dj ⟨F,h5⟩] at d;have X:∀H K,An (r! L (n+40)) Gr [I (pk (xs.getD i 0) 17-8),.v (.int .i64 4)] H K=K (.tup [.agg (qa (pk (xs.getD i 0) 17-8)),I 0]):=A9p (by omega) (by omega);rw[X,F3,F2,B1 (cs:=[zS,zS]) rfl];have A:=Aw (H:=H) (x:= .cells true Bp [zS,zS]) (by simp);have w1:=AI (x:= .cells true Bp [zS,zS]) a.wf;rw[Cc (vs:=qa (pk (xs.getD i 0) 17-8)) A rfl rfl rfl];have k:=AC (q:=true) (e:=Bp) (cs:=qa (pk (xs.getD i 0) 17-8)) A;have kp:∀s x,Aj H s=some x->Aj (upd ((Ao H,c_ Bp [zS,zS])::H) (Ao H) (c_ Bp (qa (pk (xs.getD i 0) 17-8)))) s=some x:= λs x j=>by
      have:=a.wf.lt j;rw[Ag (by omega)];exact A4 this j
     have w2:=Bn (r:=Ao H) (y:= .cells true Bp (qa (pk (xs.getD i 0) 17-8))) w1;generalize upd ((Ao H,c_ Bp [zS,zS])::H) (Ao H) (c_ Bp (qa (pk (xs.getD i 0) 17-8)))=D at k kp w2;generalize Ao H=r1 at k;have l3:∀K,AF AA (.ptr r 2 0) D K=K v:= λK=>AP (p:=2) rfl (kp _ _ a.hr) (by simp);have l4:∀K,AF A3 (.ptr r1 0 0) D K=K (.agg (qa (pk (xs.getD i 0) 17-8))):= λK=>Bu rfl rfl k;have M:∀{K:AV->Af},Go.Abs.Ap Ab .add (.v (.int .i64 1)) (I i) K=K (I (1+(i:Int))):= λ{K}=>by rw[Dm,CW (by omega) (by omega)]
     have bd:∀{K:AV->Af},BZ BS [(0,1,I (1+(i:Int))),(1,2,.agg (qa (pk (xs.getD i 0) 17-8)))] K=K (.agg (OD (1+(i:Int),pk (xs.getD i 0) 17-8))):= λ{K}=>id rfl;rw[l3,M,l4,bd];have aa:B2 D AY 3 v (Ln xs i).length ((Ln xs i).flatMap OD):=by
      rcases a.sl with j|⟨r2,q,h2,N,O⟩
      ·exact .inl j
      ·exact .inr ⟨r2,q,h2,kp _ _ N,O⟩
     obtain⟨v',H',a1,a2,a3,a4,J,a6⟩:=C4Y (ie:=BS) (i2:=AA) (λK=>C4X (t:=(1+(i:Int),pk (xs.getD i 0) 17-8)) (H:=D) (K:=K)) aa w2 rfl rfl (by decide) rfl (λ_=>rfl) (by show _*40<=_;omega) (by omega);have B:Aj H' r=some (C2Q ca cb ra rb v):=J _ _ (kp _ _ a.hr) a.nr;rw[a1,Ed B (by simp) rfl (B2.cell a2) (B2.one a2),add];obtain⟨cs,Q,m⟩:=a.hz;have new:∀{s x},Aj H s=some x->¬A8 v' s:= λ{s x} j hv=>by
      have h1:=w2.lt (kp _ _ j);have h2:=a6 _ hv;omega
     refine ih (i+1) v' _ (by omega) (by omega) ⟨?_,AC B,⟨cs,Q,?_⟩,?_,?_,new a.hb,new a.hr,new m,Bn a3⟩
     ·rw[Ag P];exact J _ _ (kp _ _ a.hb) a.nb
     ·rw[Ag Z];exact J _ _ (kp _ _ m) a.nz
     ·rw[d,EY,l2m];have:(List.flatMap OD [(1+(i:Int),pk (xs.getD i 0) 17-8)])=OD (1+(i:Int),pk (xs.getD i 0) 17-8):=by simp
      rw[this];rcases a2 with j|⟨r2,q,h2,N,O⟩
      ·exact .inl j
      ·refine .inr ⟨r2,q,h2,?_,O⟩;rw[Ag (λe=>new a.hr (by rw[h2,<-e];exact⟨_,_,_,rfl⟩))];exact N
     ·rw[d];intro hc;simp at hc
    ·rw[FP (by omega),Cn,Bj,add];rw[C4 λa=>h5 a.2] at d;exact ih (i+1) v H (by omega) (by omega) (by rw[d];exact a)
  ·have:i=6:=by omega
   subst this;rw[FP (by omega),Bj];exact u v H a
def yE (l:List Int):(Gz l).all AV.one=true:=by
 rw[GH];intro a d;obtain⟨z,_,rfl⟩:=Ma.1 d;rfl
def A9t (N:100<L) (hc:Le c) (hr:Le e) (Q:xs.length=6) (O:∀c∈xs,Le c):CS (r! L (n+41)) QY [I c,I e,.agg (Gz xs)] (.agg [S (qn (pk c 161-80)),S (qd (pk c 161-80)),FD (Ln xs 6),S (qn (pk e 9)),S (qd (pk e 9))]):=by
 intro K M;rw[sP];unfold VT A0;have p1:=FY (c:=c) (n:=161) (by decide);have p2:=FY (c:=e) (n:=9) (by decide);have k1:∀H K,An (r! L (n+40)) Jx [I c,.v (.int .i64 161)] H K=K (I (pk c 161)):=sB (n:=n+39) hc (by decide) (by decide);have R:∀H K,An (r! L (n+40)) Jx [I e,.v (.int .i64 9)] H K=K (I (pk e 9)):=sB (n:=n+39) hr (by decide) (by decide);have V:∀H K,An (r! L (n+40)) Gr [I (pk c 161-80),.v (.int .i64 4)] H K=K (.tup [.agg (qa (pk c 161-80)),I 0]):=A9p (by omega) (by omega);have X:∀H K,An (r! L (n+40)) Gr [I (pk e 9),.v (.int .i64 4)] H K=K (.tup [.agg (qa (pk e 9)),I 0]):=A9p (by omega) (by omega);rw[Ei (yE xs)];have hb:=Aw (H:=[]) (x:= .cells true Jm (Gz xs)) (by simp);have w0:=AI (x:= .cells true Jm (Gz xs)) Fk;generalize ((Ao [],c_ Jm (Gz xs))::([]:Hp))=j at hb w0;generalize Ao []=b at hb;rw[B1 (cs:=[zS,zS,As,zS,zS]) rfl];have hz:=Aw (H:=j) (x:= .cells true ED [zS,zS,As,zS,zS]) (by simp);have b1:=A4 (x:= .cells true ED [zS,zS,As,zS,zS]) (w0.lt hb) hb;have nb:=w0.lt hb;have w1:=AI (x:= .cells true ED [zS,zS,As,zS,zS]) w0;generalize ((Ao j,c_ ED [zS,zS,As,zS,zS])::j)=w at hz w1 b1;generalize Ao j=z at hz nb;have A:∀{K:AV->Af},BZ Ff [] K=K (.agg [zS,zS,As,zS,zS]):= λ{K}=>id rfl;rw[A,B1 (cs:=[zS,zS,As,zS,zS]) rfl];obtain⟨k,B,r2,Y,kp⟩:=Ih (e:=ED) (zs:=[zS,zS,As,zS,zS]) (vs:=[zS,zS,As,zS,zS]) w1 rfl;rw[Cc (vs:=[zS,zS,As,zS,zS]) (Aw (by simp)) rfl rfl rfl,<-B];obtain⟨b2,a⟩:=kp _ _ b1;obtain⟨Z,d⟩:=kp _ _ hz;generalize Ao w=r at r2 a d;have C:∀K:AV->Af,CV 0 (.ptr r 0 0) K=K (.ptr r 0 0):= λK=>id rfl;have f3:∀K:AV->Af,CV 3 (.ptr r 0 0) K=K (.ptr r 3 0):= λK=>id rfl;rw[k1,K7,CW (by omega) (by omega),V,F3,F2,C,lO (vs:=qa (pk c 161-80)) r2 (show 0+2<=5 by decide) rfl rfl];have p:=AC (q:=true) (e:=ED) (cs:=splice [zS,zS,As,zS,zS] 0 (qa (pk c 161-80))) r2;have m:=b2;have t:=Z;rw[<-Ag (H:=k) (r:=r) (y:= .cells true ED (splice [zS,zS,As,zS,zS] 0 (qa (pk c 161-80)))) a] at m;rw[<-Ag (H:=k) (r:=r) (y:= .cells true ED (splice [zS,zS,As,zS,zS] 0 (qa (pk c 161-80)))) d] at t;have u:=Bn (r:=r) (y:= .cells true ED (splice [zS,zS,As,zS,zS] 0 (qa (pk c 161-80)))) Y;generalize upd k r (c_ ED (splice [zS,zS,As,zS,zS] 0 (qa (pk c 161-80))))=H3 at p m t u;rw[R,X,F3,F2,f3,lO (vs:=qa (pk e 9)) p (show 3+2<=5 by decide) rfl rfl];simp only[BK];refine C2P (n:=n) (b:=b) (r:=r) (z:=z) (ca:=qn (pk c 161-80)) (cb:=qd (pk c 161-80)) (ra:=qn (pk e 9)) (rb:=qd (pk e 9)) N a d Q O ?_ (L+20) 0 As _ (by omega) (by omega) ⟨?_,AC p,⟨[zS,zS,As,zS,zS],rfl,?_⟩,.inl ⟨rfl,rfl,rfl⟩,λ_=>rfl,?_,?_,?_,Bn u⟩
 ·intro v H f;obtain⟨cs,g,i⟩:=f.hz;have o:[S (qn (pk c 161-80)),S (qd (pk c 161-80)),v,S (qn (pk e 9)),S (qd (pk e 9))].all AV.one=true:=by
   show(true&&(true&&(AV.one v&&(true&&(true&&true)))))=true;rw[B2.one f.sl];rfl
  rw[Bu rfl rfl f.hr,Cc i (by exact g.symm) (by exact g.symm) o,Bu rfl rfl (AC i)];refine M _ _ (λq=> ?_);have s:B2 (upd H z (c_ ED [S (qn (pk c 161-80)),S (qd (pk c 161-80)),v,S (qn (pk e 9)),S (qd (pk e 9))])) AY 3 v (Ln xs 6).length ((Ln xs 6).flatMap OD):=by
   rcases f.sl with P|⟨r2,q,h2,F,J⟩
   ·exact .inl P
   ·refine .inr ⟨r2,q,h2,?_,J⟩;rw[Ag (λe=>f.nz (by rw[h2,<-e];exact⟨_,_,_,rfl⟩))];exact F
  obtain⟨q',hq⟩:=B9p (D:=depth-2) (b:=q) s f.nl;exact⟨_,Lx (D:=depth-1) (Am (q:=false) C7 (Am (q:=false) C7 (Am hq (Am (q:=false) C7 (Am (q:=false) C7 AJ)))))⟩
 ·rw[Ag a];exact m
 ·rw[Ag d];exact t
 all_goals (rintro⟨_,_,_,h⟩;cases h)
end
end
section
variable {α:Type}
variable {L n:Nat}
def Px {F:α} {G:α->Af} {x:Af} (h:∀k,k=F->G k=x):jn F G=x:=by rw[BK];exact h F rfl
def B2.kp {H H':Hp} {e sz n:Nat} {v:AV} {cs:List AV} (h:B2 H e sz v n cs) (k:∀s x,A8 v s->Aj H s=some x->Aj H' s=some x):B2 H' e sz v n cs:=by
 rcases h with h|⟨r,q,h1,h2,a⟩
 ·exact .inl h
 ·exact .inr ⟨r,q,h1,k r _ ⟨_,_,_,h1⟩ h2,a⟩
def C45 (l:List Nd):∃vs:List Value,l.flatMap H! =vs.map λx=> .v x:=by
 induction l with
 |nil=>exact⟨[],rfl⟩
 |cons x l ih=>
  obtain⟨vs,h⟩:=ih;refine⟨[.int .i64 x.op,.string ⟨⟨x.vn⟩⟩,.string ⟨⟨x.vd⟩⟩,.int .i64 x.u.p0,.int .i64 x.u.q0,.int .i64 x.u.p1,.int .i64 x.u.q1,.int .i64 x.u.p2,.int .i64 x.u.q2,.int .i64 x.u.p3,.int .i64 x.u.q3,.int .i64 x.u.p4,.int .i64 x.u.q4,.int .i64 x.u.p5,.int .i64 x.u.q5,.int .i64 x.u.p6,.int .i64 x.u.q6,
   .string ⟨⟨x.u.fn⟩⟩,.string ⟨⟨x.u.fd⟩⟩,.string ⟨⟨x.u.on⟩⟩,.string ⟨⟨x.u.od⟩⟩,.int .i64 x.u.kd,.int .i64 x.u.sc,.int .i64 x.n,.int .i64 x.l,.int .i64 x.r]++vs,?_⟩
  rw[pP,h,YN];rfl
def ndL (l:List Nd):AV:=match l with
 |[]=>As
 |x::l=> .list (x::l).length ((x::l).flatMap H!)
def B0w {D:Nat} {b:Bool} {H:Hp} {v:AV} {l:List Nd} (h:B2 H AT 26 v l.length (l.flatMap H!)) (d:l=[]->v=As):∃q,Fx b (D+1) v (ndL l) H q:=by
 rcases h with⟨rfl,h2,_⟩|⟨r,q,rfl,h2,c⟩
 ·cases l with
  |nil=>exact⟨false,C7⟩
  |cons a l=>simp at h2
 ·cases l with
  |nil=>have:=d rfl;cases this
  |cons a l=>
   refine⟨true,?_⟩;show Fx b (D+1) _ (.list (a::l).length ((a::l).flatMap H!)) H true;obtain⟨vs,e⟩:=C45 (a::l);rw[e] at h2 c⊢;exact WU (q':=false) h2 c (KO _root_.id _)
def C3h {y:Nd} {H:Hp} {K:KV}:Hf AT 26 AN 1 [(0,26,.agg y.cs)] H K=K (.sl 26 (Ao H) 0 1) ((Ao H,.cells false AT (H! y))::H):=by
 have e:Hf AT 26 AN 1 [(0,26,.agg y.cs)] H K=Ig H (λs=>K (.sl 26 s 0 1) ((s,.cells false AT (H! y))::H)):=r_ rfl;rw[e,BV]
structure Md (b r z:Nat) (ins:List Int) (id:Int) (ks:List Nat) (xs:List Nd) (us:List Nat) (v w u:AV) (H:Hp):Prop where
 hb:Aj H b=some (c_ UA (Gz ins))
 hr:Aj H r=some (IY id v w u0)
 hz:∃cs,cs.length=23/\Aj H z=some (c_ Cv cs)
 sv:B2 H A6 20 v ks.length (ks.flatMap HH)
 nv:ks=[]->v=As
 sw:B2 H AT 26 w xs.length (xs.flatMap H!)
 nw:xs=[]->w=As
 su:B2 H A6 20 u us.length (us.flatMap HH)
 nu:us=[]->u=As
 br:b≠r
 zr:z≠r
 av:∀s,A8 v s->s≠b/\s≠r/\s≠z/\¬A8 w s/\¬A8 u s
 aw:∀s,A8 w s->s≠b/\s≠r/\s≠z/\¬A8 v s/\¬A8 u s
 au:∀s,A8 u s->s≠b/\s≠r/\s≠z/\¬A8 v s/\¬A8 w s
 wf:Wf H
section
variable {K:KV} {x:Af} {ins:List Int} {id:Int} {ks us:List Nat} {xs:List Nd} {v w u:AV} {b r z m:Nat} {H H':Hp}
def Md.grow (h:Md b r z ins id ks xs us v w u H) (wf:Wf H') (kp:∀s x,Aj H s=some x->Aj H' s=some x):Md b r z ins id ks xs us v w u H':=by
 obtain⟨cs,c1,c2⟩:=h.hz;exact⟨kp _ _ h.hb,kp _ _ h.hr,⟨cs,c1,kp _ _ c2⟩,h.sv.kp λs x _=>kp s x,h.nv,h.sw.kp λs x _=>kp s x,h.nw,h.su.kp λs x _=>kp s x,h.nu,h.br,h.zr,h.av,h.aw,h.au,wf⟩
structure Oth (b r z:Nat) (v w u:AV) (m:Nat):Prop where
 b:m≠b
 r:m≠r
 z:m≠z
 v:¬A8 v m
 w:¬A8 w m
 u:¬A8 u m
def Md.oth (h:Md b r z ins id ks xs us v w u H):Oth b r z v w u (Ao H):=by
 obtain⟨cs,c1,c2⟩:=h.hz;have h1:=h.wf.lt h.hb;have h2:=h.wf.lt h.hr;have a:=h.wf.lt c2;exact⟨by omega,by omega,by omega,λe=>by have:=h.sv.lt h.wf e;omega,λe=>by have:=h.sw.lt h.wf e;omega,λe=>by have:=h.su.lt h.wf e;omega⟩
theorem Md.upd (h:Md b r z ins id ks xs us v w u H) (o:Oth b r z v w u m) (y:Row):Md b r z ins id ks xs us v w u (upd H m y):=by
 obtain⟨cs,c1,c2⟩:=h.hz;have kp:∀s x,s≠m->Aj H s=some x->Aj (Go.Abs.upd H m y) s=some x:= λs x a c=>by rw[Ag a];exact c
 exact⟨kp _ _ (Ne.symm o.b) h.hb,kp _ _ (Ne.symm o.r) h.hr,⟨cs,c1,kp _ _ (Ne.symm o.z) c2⟩,h.sv.kp λs x a=>kp s x (λe=>o.v (e▸a)),h.nv,h.sw.kp λs x a=>kp s x (λe=>o.w (e▸a)),h.nw,h.su.kp λs x a=>kp s x (λe=>o.u (e▸a)),h.nu,h.br,h.zr,h.av,h.aw,h.au,Bn h.wf⟩
def lJ {α β:Type} (f:α->List β) (l:List α) (a:α):(l++[a]).flatMap f=l.flatMap f++f a:=by simp
def Md.v1 (h:Md b r z ins id ks xs us v w u H) (k:Nat) (g:ks.length<100):∃c H',(∀K:KV,E9 A6 20 Ay Al v (.sl 20 (Ao H) 0 1) ((Ao H,.cells false A6 (HH k))::H) K=K c H')/\
 (∀K:Hp->Af,E0 Al (.ptr r 1 0) c H' K=K (Go.Abs.upd H' r (IY id c w u0)))/\Md b r z ins id (ks++[k]) xs us c w u (Go.Abs.upd H' r (IY id c w u0)):=by
 obtain⟨c,H',a1,a2,j,p,i,f⟩:=T? (ie:=Ay) (i2:=Al) (ys:=HH k) h.sv h.wf rfl rfl (by decide) rfl (λ_=>rfl) (by show(_+1)*192<=_;omega) (by omega);obtain⟨cs,c1,c2⟩:=h.hz;have h1:=h.wf.lt h.hb;have h2:=h.wf.lt h.hr;have q:=h.wf.lt c2;have d:=i _ _ h.hr λe=>(h.av _ e).2.1 rfl;have kp:∀s x,s≠r->¬A8 v s->Aj H s=some x->Aj (Go.Abs.upd H' r (IY id c w u0)) s=some x:= λs x a hn g=>by rw[Ag a];exact i s x g hn
 refine⟨c,H',a1,λK=>Ed d (show 1<23 by decide) rfl (B2.cell a2) (B2.one a2),kp _ _ h.br (λe=>(h.av _ e).1 rfl) h.hb,AC d,⟨cs,c1,kp _ _ h.zr (λe=>(h.av _ e).2.2.1 rfl) c2⟩,?_,λe=>by simp at e,
  h.sw.kp λs x a=>kp s x (h.aw s a).2.1 (h.aw s a).2.2.2.1,h.nw,h.su.kp λs x a=>kp s x (h.au s a).2.1 (h.au s a).2.2.2.1,h.nu,h.br,h.zr,λs a=> ?_,λs a=> ?_,λs a=> ?_,Bn j⟩
 ·rw[EY,lJ];refine B2.kp a2 λs x a g=> ?_;have:=f s a;rw[Ag (by omega)];exact g
 ·have:=f s a;exact⟨by omega,by omega,by omega,λe=>by have:=h.sw.lt h.wf e;omega,λe=>by have:=h.su.lt h.wf e;omega⟩
 ·obtain⟨q1,q2,q3,q4,q5⟩:=h.aw s a;exact⟨q1,q2,q3,λe=>by have:=f s e;have:=h.sw.lt h.wf a;omega,q5⟩
 ·obtain⟨q1,q2,q3,q4,q5⟩:=h.au s a;exact⟨q1,q2,q3,λe=>by have:=f s e;have:=h.su.lt h.wf a;omega,q5⟩
def Md.w1 (h:Md b r z ins id ks xs us v w u H) (y:Nd) (g:xs.length<100):∃c H',(∀K:KV,E9 AT 26 AN Ax w (.sl 26 (Ao H) 0 1) ((Ao H,.cells false AT (H! y))::H) K=K c H')/\
 (∀K:Hp->Af,E0 Ax (.ptr r 2 0) c H' K=K (Go.Abs.upd H' r (IY id v c u0)))/\Md b r z ins id ks (xs++[y]) us v c u (Go.Abs.upd H' r (IY id v c u0))/\(∀s x,s≠r->¬A8 w s->Aj H s=some x->Aj (Go.Abs.upd H' r (IY id v c u0)) s=some x):=by
 obtain⟨c,H',a1,a2,j,k,i,f⟩:=T? (ie:=AN) (i2:=Ax) (ys:=H! y) h.sw h.wf rfl rfl (by decide) rfl (λ_=>rfl) (by show(_+1)*256<=_;omega) (by omega);obtain⟨cs,c1,c2⟩:=h.hz;have h1:=h.wf.lt h.hb;have h2:=h.wf.lt h.hr;have p:=h.wf.lt c2;have d:=i _ _ h.hr λe=>(h.aw _ e).2.1 rfl;have kp:∀s x,s≠r->¬A8 w s->Aj H s=some x->Aj (Go.Abs.upd H' r (IY id v c u0)) s=some x:= λs x a hn g=>by rw[Ag a];exact i s x g hn
 refine⟨c,H',a1,λK=>Ed d (show 2<23 by decide) rfl (B2.cell a2) (B2.one a2),⟨kp _ _ h.br (λe=>(h.aw _ e).1 rfl) h.hb,AC d,⟨cs,c1,kp _ _ h.zr (λe=>(h.aw _ e).2.2.1 rfl) c2⟩,
  h.sv.kp λs x a=>kp s x (h.av s a).2.1 (h.av s a).2.2.2.1,h.nv,?_,λe=>by simp at e,h.su.kp λs x a=>kp s x (h.au s a).2.1 (h.au s a).2.2.2.2,h.nu,h.br,h.zr,λs a=> ?_,λs a=> ?_,λs a=> ?_,Bn j⟩,kp⟩
 ·rw[EY,lJ];refine B2.kp a2 λs x a g=> ?_;have:=f s a;rw[Ag (by omega)];exact g
 ·obtain⟨q1,q2,q3,q4,q5⟩:=h.av s a;exact⟨q1,q2,q3,λe=>by have:=f s e;have:=h.sv.lt h.wf a;omega,q5⟩
 ·have:=f s a;exact⟨by omega,by omega,by omega,λe=>by have:=h.sv.lt h.wf e;omega,λe=>by have:=h.su.lt h.wf e;omega⟩
 ·obtain⟨q1,q2,q3,q4,q5⟩:=h.au s a;exact⟨q1,q2,q3,q4,λe=>by have:=f s e;have:=h.su.lt h.wf a;omega⟩
def Md.u1 (h:Md b r z ins id ks xs us v w u H) (k:Nat) (d:us.length<100):∃f H',(∀K:KV,E9 A6 20 Ay Al u (.sl 20 (Ao H) 0 1) ((Ao H,.cells false A6 (HH k))::H) K=K f H')/\Md b r z ins id ks xs (us++[k]) v w f H':=by
 obtain⟨f,H',a1,a2,i,j,c,g⟩:=T? (ie:=Ay) (i2:=Al) (ys:=HH k) h.su h.wf rfl rfl (by decide) rfl (λ_=>rfl) (by show(_+1)*192<=_;omega) (by omega);obtain⟨cs,c1,c2⟩:=h.hz;have h1:=h.wf.lt h.hb;have h2:=h.wf.lt h.hr;have p:=h.wf.lt c2;refine⟨f,H',a1,c _ _ h.hb (λe=>(h.au _ e).1 rfl),c _ _ h.hr (λe=>(h.au _ e).2.1 rfl),⟨cs,c1,c _ _ c2 (λe=>(h.au _ e).2.2.1 rfl)⟩,
  h.sv.kp λs x a d=>c s x d (h.av s a).2.2.2.2,h.nv,h.sw.kp λs x a d=>c s x d (h.aw s a).2.2.2.2,h.nw,?_,λe=>by simp at e,h.br,h.zr,λs a=> ?_,λs a=> ?_,λs a=> ?_,i⟩
 ·rw[EY,lJ];exact a2
 ·obtain⟨q1,q2,q3,q4,q5⟩:=h.av s a;exact⟨q1,q2,q3,q4,λe=>by have:=g s e;have:=h.sv.lt h.wf a;omega⟩
 ·obtain⟨q1,q2,q3,q4,q5⟩:=h.aw s a;exact⟨q1,q2,q3,q4,λe=>by have:=g s e;have:=h.sw.lt h.wf a;omega⟩
 ·have:=g s a;exact⟨by omega,by omega,by omega,λe=>by have:=h.sv.lt h.wf e;omega,λe=>by have:=h.sw.lt h.wf e;omega⟩
def dK {s j:Nat} {K:AV->Af}:CV j (.ptr s 0 0) K=K (.ptr s j 0):=by rw[fA,JQ]
def Md.ld1 (h:Md b r z ins id ks xs us v w u H) {K:AV->Af}:AF Al (.ptr r 1 0) H K=K v:=AP (p:=1) rfl h.hr (show 1<23 by decide)
def Md.ld2 (h:Md b r z ins id ks xs us v w u H) {K:AV->Af}:AF Ax (.ptr r 2 0) H K=K w:=AP (p:=2) rfl h.hr (show 2<23 by decide)
def ksM (ins:List Int) (i:Nat):List Nat:=(ins.take i).map λc=>(pk c 7).toNat
def B4f {i:Nat} (h:i<ins.length):ksM ins (i+1)=ksM ins i++[(pk ins[i] 7).toNat]:=by
 unfold ksM;rw[kY h,YN];rfl
def C1M {count:Int} {t ex y d1 d2:AV} {d:AV->AV->AV->AV->AV->AV->AV->AV->Hp->Af} (D:100<L) (J:ins.length=3) (j:∀c∈ins,Le c) (hc:Le count)
 (g:∀v H,Md b r z ins id (ksM ins ((pk count 3).toNat+1)) [] [] v As As H->d (I count) t ex (.ptr b 0 0) (.ptr z 0 0) (.ptr r 0 0) (I (((pk count 3).toNat+1:Nat):Int)) d2 H=x):
 ∀(f i:Nat) (v:AV) (H:Hp),i<=(pk count 3).toNat+1->(pk count 3).toNat+1-i<f->Md b r z ins id (ksM ins i) [] [] v As As H->
 TF (L+20) (r! L (n+42)) K d f (I count) t ex (.ptr b 0 0) (.ptr z 0 0) (.ptr r 0 0) (I i) y d1 d2 H=x:=by
 have pr:=FY (c:=count) (n:=3) (by decide);intro f
 induction f with
 |zero=>intro i v H _ h;omega
 |succ f ih=>
  intro i v H A F a;rw[nJ];unfold TH OB A0;have q:∀H K,An (r! L (n+42)) Cq [I count,.v (.int .i64 3)] H K=K (I (pk count 3)):=Mx (n:=n+41) hc (by decide) (by decide);rw[q,iD];by_cases h:i<=(pk count 3).toNat
  ·have e:i<ins.length:=by omega
   have hb:=a.hb;have ld:∀{K},AF Ab (.ptr b i 0) H K=K (I ins[i]):= λ{K}=>by rw[AP (p:=i) rfl a.hb (by simp[Gz];omega),Wl e]
   have ia:∀{K:AV->Af},Dw R4 (.ptr b 0 0) (I i) K=K (.ptr b i 0):= λ{K}=>EJ i rfl rfl (by omega);have un:∀{H K},An (r! L (n+42)) Gq [I ins[i]] H K=K (.agg (CJ (uu (pk ins[i] 7).toNat))):= λ{H K}=>A31 (n:=n) (j _ (Qe e)) H K;have k:(ksM ins i).length<100:=by simp[ksM];omega
   obtain⟨C,H',a1,a2,s⟩:=a.v1 (pk ins[i] 7).toNat k;have ok:dP v v=true:=A0s a.sv;have B:∀{K},AF Al (.ptr r 1 0) ((Ao H,Row.cells false A6 (HH (pk ins[i] 7).toNat))::H) K=K v:= λ{K}=>AP (p:=1) rfl (A4 (a.wf.lt a.hr) a.hr) (show 1<23 by decide);rw[Iu (by omega),Cy];simp only[dK,B7,a.ld1,ia,ld,un,A7j,Cn,a1,a2,B];rw[A9W ok,Dg (by omega)];rw[<-B4f e] at s;exact ih (i+1) C _ (by omega) (by omega) s
  ·have:i=(pk count 3).toNat+1:=by omega
   subst this;rw[IG (by omega),Bj];exact g v H a
def C1N {a1 a2 i k s:AV} {c:AV->AV->AV->AV->AV->AV->AV->AV->AV->Hp->Af} (M:100<L) (hb:ks.length<=3)
 (e:∀w u H,Md b r z ins id ks (Li ks) ks v w u H->c a1 a2 i (.ptr b 0 0) (.ptr z 0 0) (.ptr r 0 0) k u (I ks.length) H=x):
 ∀(f j:Nat) (w u:AV) (H:Hp),j<=ks.length->ks.length-j<f->Md b r z ins id ks ((List.range j).map Zt) (ks.take j) v w u H->
 TG (L+20) (r! L (n+42)) K c f a1 a2 i (.ptr b 0 0) (.ptr z 0 0) (.ptr r 0 0) k u (I j) s H=x:=by
 intro f
 induction f with
 |zero=>intro j w u H _ h;omega
 |succ f ih=>
  intro j w u H D N d;rw[nL];unfold TJ Eh Iv A0;rw[dK,d.ld1,Lb (t:=Al) rfl d.sv];by_cases h:j<ks.length
  ·have q:∀{K:AV->Af},BZ AN [(0,1,.v (.int .i64 2)),(23,1,I j)] K=K (.agg (Zt j).cs):= λ{K}=>r_ rfl;obtain⟨J,H',b1,b2,g, -⟩:=d.w1 (Zt j) (by simp;omega);obtain⟨a,B,C⟩:=A4I g.sv h;obtain⟨F,p,y,A⟩:=g.u1 ks[j] (by simp;omega);rw[FR (by omega),Cy,dK,d.ld2,q,C3h,b1,dK,b2,dK,g.ld1,B,C,A7j,y,Dg (by omega)];refine ih (j+1) J F p (by omega) (by omega) ?_;rw[List.range_succ,YN,kY h];exact A
  ·have:j=ks.length:=by omega
   subst this;rw[FP (by omega),Bj];rw[vB] at d;exact e w u H d
end
end
section
variable {D:Nat} {y:Nd}
variable {L n:Nat}
def exO (ks:List Nat) (q a13 b4 k7 e5 l r:Nat):Ex:=match q with
 |0=> .cn (lH a13 b4) k7
 |1=> .inp l
 |6=>match Xt (ks.getD l 0) e5 with
  |some k=> .po l e5 k
  |none=> .no
 |7=> .no
 |q=>match Vi (q-2) (ks.getD l 0) (ks.getD r 0) with
  |some k=> .bi (q+1) l r k
  |none=> .no
def exM (ks:List Nat) (y0 y1 y2 y3:Int):Ex:=exO ks (pk y0 8).toNat (pk y1 13).toNat (pk y2 4).toNat (pk y3 7).toNat (pk y2 5).toNat (pk y1 ks.length).toNat (pk y2 ks.length).toNat
theorem B0N {ks:List Nat} {q a13 b4 k7 e5 l r:Nat} (h:2<=q) (a:q<6):exO ks q a13 b4 k7 e5 l r=match Vi (q-2) (ks.getD l 0) (ks.getD r 0) with
 |some k=> .bi (q+1) l r k
 |none=> .no:=by
 obtain rfl|rfl|rfl|rfl:q=2\/q=3\/q=4\/q=5:=by omega
 all_goals rfl
def A1j {a b:Nat} (c:a<13) (hb:b<4):lH a b<33:=by
 have:=GH.1 (show((List.range 52).all λi=>decide (lH (i/4) (i%4)<33))=true by kernel_rfl) (4*a+b) (K8.2 (by omega));rw[show(4*a+b)/4=a by omega,show(4*a+b)%4=b by omega] at this;simpa using this
def NL {c m:Int} (h:0<m):∃k:Nat,pk c m=k/\(k:Int)<m/\(pk c m).toNat=k:=by
 have:=FY (c:=c) h;exact⟨(pk c m).toNat,by omega,by omega,rfl⟩
def B9D {ks:List Nat} {y0 y1 y2 y3:Int} (h1:1<=ks.length):(exM ks y0 y1 y2 y3).Ok ks:=by
 obtain⟨q, -,h2,f⟩:=NL (c:=y0) (m:=8) (by decide);obtain⟨a, -,t,g⟩:=NL (c:=y1) (m:=13) (by decide);obtain⟨b, -,hb,h⟩:=NL (c:=y2) (m:=4) (by decide);obtain⟨k, -,A,j⟩:=NL (c:=y3) (m:=7) (by decide);obtain⟨e, -,he,i⟩:=NL (c:=y2) (m:=5) (by decide);obtain⟨l, -,B,p⟩:=NL (c:=y1) (m:=ks.length) (by omega);obtain⟨r, -,hr,s⟩:=NL (c:=y2) (m:=ks.length) (by omega);unfold exM;rw[f,g,h,j,i,p,s];by_cases hq:2<=q/\q<6
 ·rw[B0N hq.1 hq.2];cases d:Vi (q-2) (ks.getD l 0) (ks.getD r 0) with
  |none=>exact trivial
  |some k=>exact⟨by omega,by omega,by omega,by omega,d⟩
 ·obtain rfl|rfl|rfl|rfl:q=0\/q=1\/q=6\/q=7:=by omega
  ·exact⟨A1j (by omega) (by omega),by omega⟩
  ·show l<ks.length;omega
  ·show(match Xt (ks.getD l 0) e with
    |some k=>Ex.po l e k
    |none=> .no).Ok ks
   cases d:Xt (ks.getD l 0) e with
   |none=>exact trivial
   |some k=>exact⟨by omega,by omega,d⟩
  ·exact trivial
section
variable {K:KV} {x:Af} {ins:List Int} {id:Int} {ks us:List Nat} {xs:List Nd} {v w u:AV} {b r z m:Nat} {H H':Hp} {y0 y1 y2 y3:Int}
def A4J (h:1<=ks.length):Rx ks=BO ks:=by cases ks with|nil=>simp at h|cons _ _=>rfl
def A54 (h:1<=xs.length):ndL xs=Cs xs:=by cases xs with|nil=>simp at h|cons _ _=>rfl
def Md.proc (h:Md b r z ins id ks xs us v w u H) (h1:1<=ks.length) (h2:1<=xs.length) {bb:Bool}:∃q,Fx bb (D+2) (.agg (BI id v w u0)) (.agg (BI id (BO ks) (Cs xs) u0)) H q:=by
 obtain⟨q1,a⟩:=lG (D:=D) (b:=bb) h.sv h.nv;obtain⟨q2,c⟩:=B0w (D:=D) (b:=bb) h.sw h.nw;rw[A4J h1] at a;rw[A54 h2] at c;exact⟨_,Lx (D:=D+1) (Am (q:=false) C7 (Am a (Am c (KO (b:=bb) (D:=D+1) (H:=H) (λx:Value=>x) [.int .i64 u0.p0,.int .i64 u0.q0,.int .i64 u0.p1,.int .i64 u0.q1,.int .i64 u0.p2,.int .i64 u0.q2,.int .i64 u0.p3,.int .i64 u0.q3,.int .i64 u0.p4,.int .i64 u0.q4,.int .i64 u0.p5,.int .i64 u0.q5,.int .i64 u0.p6,.int .i64 u0.q6,
  .string ⟨⟨u0.fn⟩⟩,.string ⟨⟨u0.fd⟩⟩,.string ⟨⟨u0.on⟩⟩,.string ⟨⟨u0.od⟩⟩,.int .i64 u0.kd,.int .i64 u0.sc]))))⟩
def B8Y {b:Bool}:Fx b (D+1) (.agg y.cs) (.agg y.cs) H false:= λK=>by cases D<;>cases b<;>kernel_rfl
def Md.ty (h:Md b r z ins id ks (Li ks) ks v w u H) (h1:1<=ks.length) {t:AV} (d:CS (r! L (n+42)) CC [.agg (BI id (BO ks) (Cs (Li ks)) u0),.agg y.cs,I ks.length,Rx ks] t) {K:AV->Af}:
 An (r! L (n+42)) CC [.agg (BI id v w u0),.agg y.cs,I ks.length,u] H K=K t:=by
 obtain⟨q1,a⟩:=h.proc h1 (by rw[DR];exact h1) (D:=depth-2) (bb:=true);obtain⟨q2,c⟩:=B5O (b:=true) h.su h.nu;exact AQ d (Am a (Am (B8Y (D:=depth-1)) (Am (q:=false) C7 (Am c AJ))))
end
end
section
variable {L n:Nat}
section
variable {K:KV} {x:Af} {ins:List Int} {id:Int} {ks us:List Nat} {xs:List Nd} {v w u:AV} {b r z m:Nat} {H H':Hp} {y0 y1 y2 y3:Int}
def C1O {a1 i4 j5:AV} {ah:AV->AV->AV->Hp->Af} (h:Md b r z ins id ks (Li ks) ks v w u H) (k1:1<=ks.length) (k3:ks.length<=3) (k7:∀k∈ks,k<7) (i0:Le y0) (i1:Le y1) (i2:Le y2) (i3:Le y3)
 (ac:∀J F H',Md b r z ins id ks (Li ks++(exM ks y0 y1 y2 y3).nd) (ks++(exM ks y0 y1 y2 y3).ty ks) v J F H'->ah (.ptr z 0 0) (.ptr r 0 0) F H'=x) (f:Nat):
 Mu (L+20) (r! L (n+42)) K ah (f+2) a1 (.list 1 [I y0,I y1,I y2,I y3]) (Bo true) (.ptr b 0 0) (.ptr z 0 0) (.ptr r 0 0) i4 u j5 (I ((0:Nat):Int)) H=x:=by
 have ex:∀J F H',Md b r z ins id ks (Li ks++(exM ks y0 y1 y2 y3).nd) (ks++(exM ks y0 y1 y2 y3).ty ks) v J F H'->Mu (L+20) (r! L (n+42)) K ah (f+1) a1 (.list 1 [I y0,I y1,I y2,I y3]) (Bo true) (.ptr b 0 0) (.ptr z 0 0) (.ptr r 0 0) i4 F j5 (I ((0+1:Nat):Int)) H'=x:=by
  intro J F H' j;rw[Qq];unfold Mv Eh Xf dD Iv Df GT A0 LW HQ;have el:∀{K:AV->Af},Bq J2 (.list 1 [I y0,I y1,I y2,I y3]) K=K (I ((1:Nat):Int)):= λ{K}=>r_ rfl;rw[el,FP (by omega)];simp only[dF,Cn,SS];rw[Bj];exact ac J F H' j
 rw[Qq];unfold Mv Eh Xf dD Iv Df GT A0 LW HQ;have el:∀{K:AV->Af},Bq J2 (.list 1 [I y0,I y1,I y2,I y3]) K=K (I ((1:Nat):Int)):= λ{K}=>r_ rfl;have a9:(AV.v (.int .i64 14))=I ((14:Nat):Int):=rfl;have hw:=h.sw;rw[DR] at hw;rw[el,FR (by omega),a9];simp only[gT,Cn,dK,h.ld2,Lb (t:=Ax) rfl hw];rw[FR (by omega),Cn,UH,Cy];refine Px λbq ak=> ?_;refine Px λbj am=> ?_;have B:∀J F H',Md b r z ins id ks (Li ks++(exM ks y0 y1 y2 y3).nd) (ks++(exM ks y0 y1 y2 y3).ty ks) v J F H'->bj F H'=x:=by
  intro J F H' j;rw[am,ak];have ad:∀{K:AV->Af},Go.Abs.Ap Ab .add (I ((0:Nat):Int)) (.v (.int .i64 1)) K=K (I ((0+1:Nat):Int)):= λ{K}=>Dg (by omega);simp only[ad];exact ex J F H' j
 clear ak am ex ac;have be:∀{K:AV->Af},Dw J2 (.list 1 [I y0,I y1,I y2,I y3]) (I ((0:Nat):Int)) K=K (.iptr [I y0,I y1,I y2,I y3]):= λ{K}=>r_ rfl;have bk:∀{H} {K:AV->Af},AF CK (.iptr [I y0,I y1,I y2,I y3]) H K=K (.agg [I y0,I y1,I y2,I y3]):= λ{H K}=>r_ rfl;obtain⟨H1,e1,m1,w1,az⟩:=Ih (e:=HS) (zs:=[zI,zI,zI,zI]) (vs:=[I y0,I y1,I y2,I y3]) h.wf rfl;rw[be,bk,B1 (cs:=[zI,zI,zI,zI]) rfl,Cc (cs:=[zI,zI,zI,zI]) (vs:=[I y0,I y1,I y2,I y3]) (Aw (by simp)) rfl rfl rfl,<-e1];have o4:=h.oth;have h1:=h.grow w1 λs x hs=>(az s x hs).1;generalize Ao H=q4 at m1 o4;clear az e1;have ax:=h1.sw;rw[DR] at ax;rw[h1.ld2,Lb (t:=Ax) rfl ax];have y4:∀{A:Hp} {K:AV->Af},Aj A q4=some (c_ HS [I y0,I y1,I y2,I y3])->(Dw CK (.ptr q4 0 0) (.v (.int .i64 0)) λp=>AF Ab p A K)=K (I y0):= λ{A K} P=>by
  rw[EJ (z:=0) 0 rfl rfl (by decide),AP (p:=0) rfl P (by simp)];rfl
 have Y:∀{A:Hp} {K:AV->Af},Aj A q4=some (c_ HS [I y0,I y1,I y2,I y3])->(Dw CK (.ptr q4 0 0) (.v (.int .i64 1)) λp=>AF Ab p A K)=K (I y1):= λ{A K} P=>by
  rw[EJ (z:=1) 1 rfl rfl (by decide),AP (p:=1) rfl P (by simp)];rfl
 have a6:∀{A:Hp} {K:AV->Af},Aj A q4=some (c_ HS [I y0,I y1,I y2,I y3])->(Dw CK (.ptr q4 0 0) (.v (.int .i64 2)) λp=>AF Ab p A K)=K (I y2):= λ{A K} P=>by
  rw[EJ (z:=2) 2 rfl rfl (by decide),AP (p:=2) rfl P (by simp)];rfl
 have bp:∀{A:Hp} {K:AV->Af},Aj A q4=some (c_ HS [I y0,I y1,I y2,I y3])->(Dw CK (.ptr q4 0 0) (.v (.int .i64 3)) λp=>AF Ab p A K)=K (I y3):= λ{A K} P=>by
  rw[EJ (z:=3) 3 rfl rfl (by decide),AP (p:=3) rfl P (by simp)];rfl
 obtain⟨q,pq,hq,eq⟩:=NL (c:=y0) (m:=8) (by decide);obtain⟨a13,pa,ha,ea⟩:=NL (c:=y1) (m:=13) (by decide);obtain⟨b4,pb,hb,eb⟩:=NL (c:=y2) (m:=4) (by decide);obtain⟨d,bo,hk,ek⟩:=NL (c:=y3) (m:=7) (by decide);obtain⟨e5,pe,he,ee⟩:=NL (c:=y2) (m:=5) (by decide);obtain⟨l,pl,P,el⟩:=NL (c:=y1) (m:=ks.length) (by omega);obtain⟨rr,pr,hr,er⟩:=NL (c:=y2) (m:=ks.length) (by omega);have ao:∀H K,An (r! L (n+42)) Cq [I y0,.v (.int .i64 8)] H K=K (I (q:Int)):=by rw[<-pq];exact Mx (n:=n+41) i0 (by decide) (by decide)
 have ag:∀H K,An (r! L (n+42)) Cq [I y1,.v (.int .i64 13)] H K=K (I (a13:Int)):=by rw[<-pa];exact Mx (n:=n+41) i1 (by decide) (by decide)
 have ap:∀H K,An (r! L (n+42)) Cq [I y2,.v (.int .i64 4)] H K=K (I (b4:Int)):=by rw[<-pb];exact Mx (n:=n+41) i2 (by decide) (by decide)
 have aq:∀H K,An (r! L (n+42)) Cq [I y2,.v (.int .i64 5)] H K=K (I (e5:Int)):=by rw[<-pe];exact Mx (n:=n+41) i2 (by decide) (by decide)
 have D:∀H K,An (r! L (n+42)) Cq [I y1,I ks.length] H K=K (I (l:Int)):=by rw[<-pl];exact Mx (n:=n+41) i1 (by omega) (by omega)
 have ar:∀H K,An (r! L (n+42)) Cq [I y2,I ks.length] H K=K (I (rr:Int)):=by rw[<-pr];exact Mx (n:=n+41) i2 (by omega) (by omega)
 have bc:∀H K,An (r! L (n+42)) Gq [I y3] H K=K (.agg (CJ (uu d))):=by rw[<-ek];exact A31 (n:=n) i3
 have an:exM ks y0 y1 y2 y3=exO ks q a13 b4 d e5 l rr:=by unfold exM;rw[eq,ea,eb,ek,ee,el,er]
 rw[an] at B;clear an pq pa pb bo pe pl pr eq ea eb ek ee el er;have bd:∀{z:Int} {K:AV->Af},BZ AN [(0,1,I z)] K=K (.agg (Nd.mk z [] [] u0 0 0 0).cs):= λ{z K}=>r_ rfl;have ad:∀{K:AV->Af},Go.Abs.Ap Ab .add (.v (.int .i64 1)) (I (q:Int)) K=K (I ((q+1:Nat):Int)):= λ{K}=>by
  rw[Dm,CW (by omega) (by omega)];rw[show(1:Int)+(q:Int)=((q+1:Nat):Int) by omega]
 rw[y4 m1,ao,ad,bd];obtain⟨A,e2,C,w2,ai⟩:=Ih (e:=AT) (zs:=(Nd.mk 0 [] [] u0 0 0 0).cs) (vs:=(Nd.mk ((q+1:Nat):Int) [] [] u0 0 0 0).cs) h1.wf rfl;rw[B1 (cs:=(Nd.mk 0 [] [] u0 0 0 0).cs) rfl,Cc (cs:=(Nd.mk 0 [] [] u0 0 0 0).cs) (vs:=(Nd.mk ((q+1:Nat):Int) [] [] u0 0 0 0).cs) (Aw (by simp)) rfl rfl rfl,<-e2];have o:=h1.oth;have h2:=h1.grow w2 λs x hs=>(ai s x hs).1;obtain⟨V,a5⟩:=ai _ _ m1;generalize Ao H1=m at C o a5;clear ai e2;refine Px λaf Z=> ?_;have tail:∀(nd:Nd) (Hm:Hp) (U:UD) (e:Int),Md b r z ins id ks (Li ks) ks v w u Hm->Aj Hm m=some (c_ AT nd.cs)->
  CS (r! L (n+42)) CC [.agg (BI id (BO ks) (Cs (Li ks)) u0),.agg nd.cs,I ks.length,Rx ks] (.tup [.agg (CJ U),I e])->
  (e=0/\nd.op≠8->∃k,U=uu k/\(exO ks q a13 b4 d e5 l rr).nd=[nd]/\(exO ks q a13 b4 d e5 l rr).ty ks=[k])->(¬(e=0/\nd.op≠8)->(exO ks q a13 b4 d e5 l rr).nd=[]/\(exO ks q a13 b4 d e5 l rr).ty ks=[])->af Hm=x:=by
  intro nd Hm U e hm mm y hg ab;have lp:∀{K},AF AR (.ptr r 0 0) Hm K=K (.agg (BI id v w u0)):= λ{K}=>Bu rfl rfl hm.hr;have ln:∀{K},AF AN (.ptr m 0 0) Hm K=K (.agg nd.cs):= λ{K}=>Bu rfl rfl mm;rw[Z];simp only[lp,ln,hm.ty k1 y];obtain⟨M,e3,m3,w3,aj⟩:=Ih (e:=A6) (zs:=FW) (vs:=CJ U) hm.wf rfl;rw[F3,F2,B1 (cs:=FW) rfl,Cc (cs:=FW) (vs:=CJ U) (Aw (by simp)) rfl rfl rfl,<-e3];have o3:=hm.oth;have O:=hm.grow w3 λs x hs=>(aj s x hs).1;obtain⟨m5, -⟩:=aj _ _ mm;generalize Ao Hm=q3 at m3 o3;clear aj e3;have bm:∀{K},AF AN (.ptr m 0 0) M K=K (.agg nd.cs):= λ{K}=>Bu rfl rfl m5;have bn:∀{K},AF Ab (.ptr m 0 0) M K=K (I nd.op):= λ{K}=>AP (p:=0) rfl m5 (show 0<26 by decide);rw[CP];by_cases Q:e=0
  ·rw[Iu Q];simp only[gT,Cn,ntT,dK,bn,IS,UH,SS];by_cases h8:nd.op=8
   ·obtain⟨g1,g2⟩:=ab λj=>j.2 h8;rw[Iu h8];show Az (Bo false) _ _=_;rw[Bj];refine B w u M ?_;rw[g1,g2,Wi,Wi];exact O
   ·obtain⟨k,rfl,g1,g2⟩:=hg ⟨Q,h8⟩;rw[IG h8];show Az (Bo true) _ _=_;obtain⟨J,H4,a1,a2,a3,a4⟩:=O.w1 nd (by rw[DR];omega);obtain⟨F,H5,b1,b2⟩:=a3.u1 k (by omega);have lu:∀{K},AF Ay (.ptr q3 0 0) (Go.Abs.upd H4 r (IY id v J u0)) K=K (.agg (CJ (uu k))):= λ{K}=>Bu rfl rfl (a4 _ _ o3.r o3.w m3);rw[Cy,O.ld2,bm,C3h,a1,a2,lu,A7j,b1];refine B J F H5 ?_;rw[g1,g2];exact b2
  ·obtain⟨g1,g2⟩:=ab λj=>Q j.1;rw[IG Q];simp only[dF,Cn,gU,SS];rw[Bj];refine B w u M ?_;rw[g1,g2,Wi,Wi];exact O
 clear Z B;have lo:∀{K},AF Ab (.ptr m 0 0) A K=K (I ((q+1:Nat):Int)):= λ{K}=>AP (p:=0) rfl C (show 0<26 by decide);rw[dK,lo];refine Px λay aa=> ?_;have g:∀H,ay H=af H:= λH=>by rw[aa]
 clear aa;have sm:∀{cs:List AV} {N:Hp},Aj N q4=some (c_ HS [I y0,I y1,I y2,I y3])->Aj (Go.Abs.upd N m (c_ AT cs)) q4=some (c_ HS [I y0,I y1,I y2,I y3]):= λP=>by rw[Ag a5];exact P
 rw[CP];by_cases ae:2<=q/\q<6
 ·have y:=A4T (L:=L) (n:=n) (id:=id) (o:=u0) (xs:=Li ks) (op:=q+1) k1 k3 k7 (show l<ks.length by omega) (show rr<ks.length by omega) (by omega) (by omega);rw[show q+1-3=q-2 by omega] at y;rw[IG (by omega),Bj,CP,IG (by omega),Bj,CP,IG (by omega),Bj,CP,IG (by omega),Bj,
   Y V,D,dK,Ed C (show 24<26 by decide) rfl rfl rfl,a6 (sm V),ar,dK,Ed (AC C) (show 25<26 by decide) rfl rfl rfl,g]
  have R:=B0N (ks:=ks) (a13:=a13) (b4:=b4) (k7:=d) (e5:=e5) (l:=l) (r:=rr) ae.1 ae.2;have hm:=(h2.upd o (c_ AT ((Nd.mk ((q+1:Nat):Int) [] [] u0 0 0 0).cs.set 24 (I (l:Int))))).upd o (c_ AT (((Nd.mk ((q+1:Nat):Int) [] [] u0 0 0 0).cs.set 24 (I (l:Int))).set 25 (I (rr:Int))));cases hu:Vi (q-2) (ks.getD l 0) (ks.getD rr 0) with
  |none=>
   rw[hu] at y R;exact tail (vD (q+1) l rr) _ u0 90 hm (AC (AC C)) y (λj=>absurd j.1 (by decide)) (λ_=>by rw[R];exact⟨rfl,rfl⟩)
  |some k=>
   rw[hu] at y R;refine tail (vD (q+1) l rr) _ (uu k) 0 hm (AC (AC C)) y (λ_=>⟨k,rfl,by rw[R];exact⟨rfl,rfl⟩⟩) (λj=>absurd ⟨rfl,?_⟩ j);show((q+1:Nat):Int)≠8;omega
 ·obtain rfl|rfl|rfl|rfl:q=0\/q=1\/q=6\/q=7:=by omega
  ·have bf:∀{K:AV->Af},Dw CK (.ptr q4 0 0) (.v (.int .i64 1)) K=K (.ptr q4 1 0):= λ{K}=>EJ (z:=1) 1 rfl rfl (by decide);have bg:∀{K:AV->Af},Dw CK (.ptr q4 0 0) (.v (.int .i64 2)) K=K (.ptr q4 2 0):= λ{K}=>EJ (z:=2) 2 rfl rfl (by decide);have d1:∀{K:AV->Af},AF Ab (.ptr q4 1 0) A K=K (I y1):= λ{K}=>AP (p:=1) rfl V (by simp);have d2:∀{K:AV->Af},AF Ab (.ptr q4 2 0) A K=K (I y2):= λ{K}=>AP (p:=2) rfl V (by simp);have sb:∀{K:AV->Af},Go.Abs.Ap Ab .sub (I (a13:Int)) (.v (.int .i64 6)) K=K (I ((a13:Int)-6)):= λ{K}=>by rw[K7,CW (by omega) (by omega)]
   have a7:∀{K:AV->Af},Go.Abs.Ap Ab .add (.v (.int .i64 1)) (I (b4:Int)) K=K (I (1+(b4:Int))):= λ{K}=>by rw[Dm,CW (by omega) (by omega)]
   have ba:∀H K,An (r! L (n+42)) Gr [I ((a13:Int)-6),I (1+(b4:Int))] H K=K (.tup [.agg (dX (lH a13 b4)),I 0]):=by
    have:=B8w L (n+2) (4*a13+b4) (by omega);rw[show(4*a13+b4)/4=a13 by omega,show(4*a13+b4)%4=b4 by omega] at this;exact this
   have y:=A0C (L:=L) (n:=n) (id:=id) (o:=u0) (xs:=Li ks) (ks:=ks) (at_:=ks.length) (w:=Rx ks) (A1j (a:=a13) (b:=b4) (by omega) (by omega)) (show d<7 by omega);rw[Iu (by rfl),Cy];simp only[bf,bg,d1,d2,ag,ap,sb,a7,ba,F3,F2,dK,B7];rw[lO (vs:=dX (lH a13 b4)) C (show 1+2<=26 by decide) rfl rfl,Cn,bp (sm V),bc,lO (vs:=CJ (uu d)) (AC C) (show 3+20<=26 by decide) rfl rfl,g];have hm:=(h2.upd o (c_ AT (splice (Nd.mk ((0+1:Nat):Int) [] [] u0 0 0 0).cs 1 (dX (lH a13 b4))))).upd o (c_ AT (splice (splice (Nd.mk ((0+1:Nat):Int) [] [] u0 0 0 0).cs 1 (dX (lH a13 b4))) 3 (CJ (uu d))));exact tail (cnN (lH a13 b4) d) _ (uu d) 0 hm (AC (AC C)) y (λ_=>⟨d,rfl,rfl,rfl⟩) (λj=>absurd ⟨rfl,show(1:Int)≠8 by decide⟩ j)
  ·have y:=YE (L:=L) (n:=n+39) (id:=id) (o:=u0) (xs:=Li ks) (ks:=ks) (i:=l) (by omega) (by omega) (at_:=ks.length) (w:=Rx ks);have eg:ks[l]'(by omega)=ks.getD l 0:=by simp[List.getD,K9 (show l<ks.length by omega)]
   rw[eg] at y;rw[IG (by decide),Bj,CP,Iu (by rfl),Cy,Y V,h2.ld1,Lb (t:=Al) rfl h2.sv,D,dK,Ed C (show 23<26 by decide) rfl rfl rfl,g];have hm:=h2.upd o (c_ AT ((Nd.mk ((1+1:Nat):Int) [] [] u0 0 0 0).cs.set 23 (I (l:Int))));exact tail (Zt l) _ (uu (ks.getD l 0)) 0 hm (AC C) y (λ_=>⟨ks.getD l 0,rfl,rfl,rfl⟩) (λj=>absurd ⟨rfl,show(2:Int)≠8 by decide⟩ j)
  ·have y:=A4S (L:=L) (n:=n) (id:=id) (o:=u0) (xs:=Li ks) k1 k3 k7 (show l<ks.length by omega) (show e5<5 by omega);have a8:∀{N:Hp} {K:KV},Hf GZ 1 Ab 5 [(0,1,(AV.v (.int .i64 2))),(1,1,(AV.v (.int .i64 (-1)))),(2,1,(AV.v (.int .i64 3))),(3,1,(AV.v (.int .i64 (-2)))),(4,1,(AV.v (.int .i64 1)))] N K=K (.sl 1 (Ao N) 0 5) ((Ao N,.cells false GZ [I 2,I (-1),I 3,I (-2),I 1])::N):= λ{N K}=>by
    have e:Hf GZ 1 Ab 5 [(0,1,(AV.v (.int .i64 2))),(1,1,(AV.v (.int .i64 (-1)))),(2,1,(AV.v (.int .i64 3))),(3,1,(AV.v (.int .i64 (-2)))),(4,1,(AV.v (.int .i64 1)))] N K=Ig N (λs=>K (.sl 1 s 0 5) ((s,.cells false GZ [I 2,I (-1),I 3,I (-2),I 1])::N)):=r_ rfl;rw[e,BV]
   have bh:∀{s:Nat} {K:AV->Af},Dw B4 (.sl 1 s 0 5) (I (e5:Int)) K=K (.ptr s e5 0):= λ{s K}=>by
    have e1:Dw B4 (.sl 1 s 0 5) (I (e5:Int)) K=iN (e5:Int) λm=>ck (Nat.blt m 5) (fN (Nat.add 0 (Nat.mul m 1)) λp=>K (.ptr s p 0)):=r_ rfl;rw[e1,JW,DT];have O:Nat.blt e5 5=true:=by rw[Wj];omega
    rw[O];show K (.ptr s (0+e5*1) 0)=_;rw[JQ,pL]
   have gd:([I 2,I (-1),I 3,I (-2),I 1]:List AV).getD e5 .dk=I (lM e5):=by
    obtain rfl|rfl|rfl|rfl|rfl:e5=0\/e5=1\/e5=2\/e5=3\/e5=4:=by omega
    all_goals rfl
   rw[IG (by decide),Bj,CP,IG (by decide),Bj,CP,Iu (by rfl),Cy,Y V,D,dK,Ed C (show 24<26 by decide) rfl rfl rfl,a8];have m3:=AC (q:=true) (e:=AT) (cs:=(Nd.mk ((6+1:Nat):Int) [] [] u0 0 0 0).cs.set 24 (I (l:Int))) C;have O:=h2.upd o (c_ AT ((Nd.mk ((6+1:Nat):Int) [] [] u0 0 0 0).cs.set 24 (I (l:Int))));have s3:=sm (cs:=(Nd.mk ((6+1:Nat):Int) [] [] u0 0 0 0).cs.set 24 (I (l:Int))) V;generalize Go.Abs.upd A m (c_ AT ((Nd.mk ((6+1:Nat):Int) [] [] u0 0 0 0).cs.set 24 (I (l:Int))))=M at m3 O s3;have w4:=AI (x:= .cells false GZ [I 2,I (-1),I 3,I (-2),I 1]) O.wf;have k4:∀s x,Aj M s=some x->Aj ((Ao M,.cells false GZ [I 2,I (-1),I 3,I (-2),I 1])::M) s=some x:= λs x hs=>A4 (O.wf.lt hs) hs;have h4:=O.grow w4 k4;have X:=k4 _ _ m3;have s4:=k4 _ _ s3;have n4:=Aw (H:=M) (x:= .cells false GZ [I 2,I (-1),I 3,I (-2),I 1]) (by simp);generalize ((Ao M,Row.cells false GZ [I 2,I (-1),I 3,I (-2),I 1])::M)=H4 at h4 X s4 n4;rw[a6 s4,aq,bh,AP (p:=e5) rfl n4 (show e5<5 by omega),gd,dK,Ed X (show 23<26 by decide) rfl rfl rfl,g];have hm:=h4.upd o (c_ AT (((Nd.mk ((6+1:Nat):Int) [] [] u0 0 0 0).cs.set 24 (I (l:Int))).set 23 (I (lM e5))));have R:exO ks 6 a13 b4 d e5 l rr=match Xt (ks.getD l 0) e5 with
    |some k=> .po l e5 k
    |none=> .no:=rfl
   cases hu:Xt (ks.getD l 0) e5 with
   |none=>
    rw[hu] at y R;exact tail (poN l e5) _ u0 90 hm (AC X) y (λj=>absurd j.1 (by decide)) (λ_=>by rw[R];exact⟨rfl,rfl⟩)
   |some k=>
    rw[hu] at y R;exact tail (poN l e5) _ (uu k) 0 hm (AC X) y (λ_=>⟨k,rfl,by rw[R];exact⟨rfl,rfl⟩⟩) (λj=>absurd ⟨rfl,show(7:Int)≠8 by decide⟩ j)
  ·have g7:=MC k7 (show l<ks.length by omega);have he:=GH.1 (show((List.range 7).all λk=>decide ((usq k).2=0\/(usq k).2=70))=true by kernel_rfl) (ks.getD l 0) (K8.2 g7);have y:=B3A (L:=L) (n:=n) (id:=id) (o:=u0) (xs:=Li ks) (l2z he) k1 k3 (show l<ks.length by omega) (C1v L (n+1) _ g7).o;rw[IG (by decide),Bj,CP,IG (by decide),Bj,CP,IG (by decide),Bj,CP,Iu (by rfl),Cy,Y V,D,dK,Ed C (show 24<26 by decide) rfl rfl rfl,g];have hm:=h2.upd o (c_ AT ((Nd.mk ((7+1:Nat):Int) [] [] u0 0 0 0).cs.set 24 (I (l:Int))));by_cases h0:(usq (ks.getD l 0)).2=0
   ·rw[Dj h0] at y;exact tail (sqN l) _ _ 0 hm (AC C) y (λj=>absurd rfl j.2) (λ_=>⟨rfl,rfl⟩)
   ·rw[C4 h0] at y;exact tail (sqN l) _ u0 90 hm (AC C) y (λj=>absurd rfl j.2) (λ_=>⟨rfl,rfl⟩)
end
end
section
variable {L n:Nat}
abbrev Y4:=Option (Int×Int×Int×Int)
def exY (ks:List Nat):Y4->Ex
 |none=> .no
 |some (a,b,c,d)=>exM ks a b c d
def yA:Y4->AV
 |none=>As
 |some (a,b,c,d)=> .list 1 [I a,I b,I c,I d]
def yI:Y4->Prop
 |none=>True
 |some (a,b,c,d)=>Le a/\Le b/\Le c/\Le d
def pH (ins:List Int) (count:Int) (y:Y4):Pr:=⟨1+(pk count 900).toNat,ksM ins ((pk count 3).toNat+1),exY (ksM ins ((pk count 3).toNat+1)) y⟩
section
variable {K:KV} {x:Af} {ins:List Int} {id:Int} {ks us:List Nat} {xs:List Nd} {v w u:AV} {b r z m:Nat} {H H':Hp} {count:Int} {y:Y4}
def A5a (h:ins.length=3):(ksM ins ((pk count 3).toNat+1)).length=(pk count 3).toNat+1/\(pk count 3).toNat<3:=by
 have pr:=FY (c:=count) (n:=3) (by decide);unfold ksM;rw[QI,l0h];omega
def B5I {i:Nat}:∀k∈ksM ins i,k<7:=by
 intro k a;obtain⟨c,_,rfl⟩:=Ma.1 a;have pr:=FY (c:=c) (n:=7) (by decide);omega
def A3a (h:ins.length=3):(pH ins count y).Ok:=by
 have pr:=FY (c:=count) (n:=900) (by decide);obtain⟨h1,h2⟩:=A5a (count:=count) h;have e:(pH ins count y).ks.length=(pk count 3).toNat+1:=h1;refine⟨by show 1<=1+_;omega,by show 1+_<950;omega,by rw[e];omega,by rw[e];omega,B5I,?_⟩
 match y with
 |none=>exact trivial
 |some (a,b,c,d)=>exact B9D (by show 1<=(ksM ins ((pk count 3).toNat+1)).length;rw[h1];omega)
def A9E (sv:B2 H A6 20 v ks.length (ks.flatMap HH)) (nv:ks=[]->v=As) (sw:B2 H AT 26 w xs.length (xs.flatMap H!)) (nw:xs=[]->w=As) (h1:1<=ks.length) (h2:1<=xs.length) {D:Nat} {bb:Bool} {o:UD}:∃q,Fx bb (D+2) (.agg (BI id v w o)) (.agg (BI id (BO ks) (Cs xs) o)) H q:=by
 obtain⟨q1,a⟩:=lG (D:=D) (b:=bb) sv nv;obtain⟨q2,c⟩:=B0w (D:=D) (b:=bb) sw nw;rw[A4J h1] at a;rw[A54 h2] at c;exact⟨_,Lx (D:=D+1) (Am (q:=false) C7 (Am a (Am c (KO (b:=bb) (D:=D+1) (H:=H) (λx:Value=>x) [.int .i64 o.p0,.int .i64 o.q0,.int .i64 o.p1,.int .i64 o.q1,.int .i64 o.p2,.int .i64 o.q2,.int .i64 o.p3,.int .i64 o.q3,.int .i64 o.p4,.int .i64 o.q4,.int .i64 o.p5,.int .i64 o.q5,.int .i64 o.p6,.int .i64 o.q6,
  .string ⟨⟨o.fn⟩⟩,.string ⟨⟨o.fd⟩⟩,.string ⟨⟨o.on⟩⟩,.string ⟨⟨o.od⟩⟩,.int .i64 o.kd,.int .i64 o.sc]))))⟩
def xT {o:UD} (h1:AV.one v=true) (h2:AV.one w=true):(BI id v w o).all AV.one=true:=by
 show(true&&(AV.one v&&(AV.one w&&true)))=true;rw[h1,h2];rfl
def B8Z (h:Md b r z ins id ks xs us v w u H) (h1:1<=ks.length) (h2:1<=xs.length) (Y:us.length=xs.length) (Z:us.length<1000) (O:∀P N,(∀b,∃q,Fx b depth P (.agg (BI id (BO ks) (Cs xs) (uu (us.getD (xs.length-1) 0)))) N q)->K P N=x):
 (Bq Al u λp=>
  Go.Abs.Ap Ab .sub p (AV.v (.int .i64 1)) λA=>
  Dw Al u A λB=>
  AF Ay B H λC=>
  CV 3 (.ptr r 0 0) λF=>
  E0 Ay F C H λc=>
  AF AR (.ptr r 0 0) c λJ=>
  E0 AR (.ptr z 0 0) J c λd=>
  AF AR (.ptr z 0 0) d λM=>
  K M d)=x:=by
 have f:us.length-1<us.length:=by omega
 obtain⟨a,X,g⟩:=A4I h.su f;have R:us[us.length-1]=us.getD (xs.length-1) 0:=by rw[<-Y];simp[List.getD,K9 f]
 rw[R] at g;generalize us.getD (xs.length-1) 0=k at g O;obtain⟨cs,c1,c2⟩:=h.hz;rw[Lb (t:=Al) rfl h.su,eP (by omega) (by omega),X,g,dK,lO (vs:=CJ (uu k)) h.hr (show 3+20<=23 by decide) rfl rfl];have r1:=AC (q:=true) (e:=Cv) (cs:=BI id v w (uu k)) h.hr;have Q:Aj (Go.Abs.upd H r (IY id v w (uu k))) z=some (c_ Cv cs):=by rw[Ag h.zr];exact c2
 have V:splice (BI id v w u0) 3 (CJ (uu k))=BI id v w (uu k):=rfl;rw[V,Bu (cs:=BI id v w (uu k)) rfl rfl r1,Cc Q (by exact c1.symm) (by exact c1.symm) (xT (B2.one h.sv) (B2.one h.sw)),Bu (cs:=BI id v w (uu k)) rfl rfl (AC Q)];refine O _ _ λq=> ?_;refine A9E (D:=depth-2) (h.sv.kp λs x j i=> ?_) h.nv (h.sw.kp λs x j i=> ?_) h.nw h1 h2
 ·have:=h.av s j;rw[Ag this.2.2.1,Ag this.2.1];exact i
 ·have:=h.aw s j;rw[Ag this.2.2.1,Ag this.2.1];exact i
def A9s (F:100<L) (B:ins.length=3) (d:∀c∈ins,Le c) (hc:Le count) (p:yI y):
 CS (r! L (n+43)) QX [.agg (Gz ins),I count,yA y,Bo true] (.agg (BI (pH ins count y).id (BO (pH ins count y).ks) (Cs (pH ins count y).xs) (uu (pH ins count y).out))):=by
 intro K Y;have J:=A3a (count:=count) (y:=y) B;obtain⟨p1,p2,p3⟩:=kE J;obtain⟨C,l2⟩:=A5a (count:=count) B;have pr:=FY (c:=count) (n:=900) (by decide);rw[sM];unfold VQ Iv A0;have k1:∀H K,An (r! L (n+42)) Cq [I count,.v (.int .i64 900)] H K=K (I (pk count 900)):=Mx (n:=n+41) hc (by decide) (by decide);have A:((pH ins count y).id:Int)=1+pk count 900:=by show((1+(pk count 900).toNat:Nat):Int)=_;omega
 have N:∀{K:AV->Af},Go.Abs.Ap Ab .add (.v (.int .i64 1)) (I (pk count 900)) K=K (I ((pH ins count y).id:Int)):= λ{K}=>by rw[Dm,CW (by omega) (by omega),A]
 have O:∀{i:Int} {K:AV->Af},BZ AR [(0,1,I i)] K=K (.agg (BI i As As u0)):= λ{i K}=>r_ rfl;rw[Ei (yE ins)];have hb:=Aw (H:=[]) (x:= .cells true UA (Gz ins)) (by simp);have w0:=AI (x:= .cells true UA (Gz ins)) Fk;generalize ((Ao [],c_ UA (Gz ins))::([]:Hp))=j at hb w0;generalize Ao []=b at hb;rw[B1 (cs:=BI 0 As As u0) rfl];have hz:=Aw (H:=j) (x:= .cells true Cv (BI 0 As As u0)) (by simp);have b1:=A4 (x:= .cells true Cv (BI 0 As As u0)) (w0.lt hb) hb;have w1:=AI (x:= .cells true Cv (BI 0 As As u0)) w0;generalize ((Ao j,c_ Cv (BI 0 As As u0))::j)=M at hz w1 b1;generalize Ao j=z at hz;rw[k1,N,O,B1 (cs:=BI 0 As As u0) rfl];obtain⟨D,R,r2,Z,kp⟩:=Ih (e:=Cv) (zs:=BI 0 As As u0) (vs:=BI (pH ins count y).id As As u0) w1 rfl;rw[Cc (cs:=BI 0 As As u0) (vs:=BI (pH ins count y).id As As u0) (Aw (by simp)) rfl rfl rfl,<-R];obtain⟨b2,f⟩:=kp _ _ b1;obtain⟨z2,g⟩:=kp _ _ hz;generalize Ao M=r at r2 f g;have no:∀{s:Nat} {P:Prop},A8 As s->P:= λ⟨_,_,_,h⟩=>by cases h
 have X:Md b r z ins (pH ins count y).id (ksM ins 0) [] [] As As As D:=⟨b2,r2,⟨_,rfl,z2⟩,.inl ⟨rfl,rfl,rfl⟩,λ_=>rfl,.inl ⟨rfl,rfl,rfl⟩,λ_=>rfl,.inl ⟨rfl,rfl,rfl⟩,λ_=>rfl,f,g,λ_=>no,λ_=>no,λ_=>no,Z⟩
 simp only[BK];refine C1M F B d hc (λv H k=> ?_) (L+20) 0 As D (by omega) (by omega) X;refine C1N (n:=n) F (by rw[C];omega) (λw u H k=> ?_) (L+20) 0 As As H (by omega) (by omega) k;have fin:∀t q H',Md b r z ins (pH ins count y).id (pH ins count y).ks (pH ins count y).xs (pH ins count y).ty v t q H'->_:= λt q H' a=>B8Z (K:=K) a J.k1 p2 p1 (by omega) Y
 match y with
 |none=>
  show Mu (L+20) (r! L (n+42)) K _ ((L+19)+1) _ As _ _ _ _ _ _ _ _ H=_;rw[Qq];unfold Mv Eh Xf dD Iv Df GT A0 LW HQ;have V:∀{K:AV->Af},Bq J2 As K=K (I ((0:Nat):Int)):= λ{K}=>r_ rfl;have Q:(AV.v (.int .i64 0))=I ((0:Nat):Int):=rfl;rw[V,Q,FP (by omega)];simp only[dF,Cn,SS];rw[Bj];refine fin w u H ?_;show Md b r z ins _ _ (Li _++[]) (_++[]) v w u H;rw[Wi,Wi];exact k
 |some (y0,y1,y2,y3)=>
  exact C1O (n:=n) k (by rw[C];omega) (by rw[C];omega) B5I p.1 p.2.1 p.2.2.1 p.2.2.2 (λt q H' a=>fin t q H' a) (L+18)
end
end
section
variable {x1:Int} {ks:List Nat} {i:Nat}
variable {L n:Nat}
def PL (H:Hp) (l:List (List UInt8)) (a:AV):Prop:=SA l a\/B2 H Ar 1 a l.length (AG l)
section
variable {H H':Hp} {l:List (List UInt8)} {a:AV} {K:AV->Af}
theorem PL.len (h:PL H l a):Bq Ac a K=K (I l.length):=by
 rcases h with h|h
 ·exact h.len
 ·exact Lb (t:=Ac) rfl h
def B8c (h:B2 H Ar 1 a l.length (AG l)) (b:i<l.length):(Dw Ac a (I i) λp=>AF Ai p H K)=K (S l[i]):=by
 rcases h with⟨_,h2,_⟩|⟨r,q,rfl,h2,c⟩
 ·omega
 ·have d:∀K:AV->Af,Dw Ac (.sl 1 r 0 l.length) (I (i:Int)) K=iN (i:Int) λm=>ck (Nat.blt m l.length) (fN (Nat.add 0 (Nat.mul m 1)) λp=>K (.ptr r p 0)):= λK=>r_ rfl;rw[d,JW,DT];have c:Nat.blt i l.length=true:=by rw[Wj];exact b
  rw[c];show AF Ai (.ptr r (0+i*1) 0) H K=_;rw[JQ,pL,AP rfl h2 (by simp[AG];exact b),OX b]
def PL.at2 (h:PL H l a) (b:i<l.length):∃p,(∀K:AV->Af,Dw Ac a (I i) K=K p)/\∀K:AV->Af,AF Ai p H K=K (S l[i]):=by
 rcases h with h|h
 ·exact⟨_,λK=>h.ia b,λK=>L5⟩
 ·rcases h with⟨_,h2,_⟩|⟨r,q,rfl,h2,c⟩
  ·omega
  ·refine⟨.ptr r i 0,λK=> ?_,λK=>by rw[AP rfl h2 (by simp[AG];exact b),OX b]⟩;have d:∀K:AV->Af,Dw Ac (.sl 1 r 0 l.length) (I (i:Int)) K=iN (i:Int) λm=>ck (Nat.blt m l.length) (fN (Nat.add 0 (Nat.mul m 1)) λp=>K (.ptr r p 0)):= λK=>r_ rfl;rw[d,JW,DT];have c:Nat.blt i l.length=true:=by rw[Wj];exact b
   rw[c];show K (.ptr r (0+i*1) 0)=_;rw[JQ,pL]
theorem PL.kp (h:PL H l a) (k:∀s x,Aj H s=some x->Aj H' s=some x):PL H' l a:=by
 rcases h with h|h
 ·exact .inl h
 ·exact .inr (h.kp λs x _=>k s x)
end
def YA (H:Hp) (y:Y4) (a:AV):Prop:=∀H',(∀s x,Aj H s=some x->Aj H' s=some x)->∃q,Fx true depth a (yA y) H' q
def fB (i:Int) (p:List UInt8) (ps:List (List UInt8)):List UInt8:=ps.foldl (λp q=>if q=p then G? (-1-i) else p) p
def F? (x1:Int) (l:List (List UInt8)):Nat->List (List UInt8)
 |0=>[]
 |i+1=>F? x1 l i++[fB i (if h:i<l.length then l[i] else G? (pk (x1.tdiv 3) 1000+i)) (F? x1 l i)]
def eV {l:List (List UInt8)}:∀i,(F? x1 l i).length=i:=by
 intro i
 induction i with
 |zero=>rfl
 |succ i ih=>simp[F?,ih]
def A0R (c:Int):(G? c).length=32:=XI _ 8
def A6C {i:Int}:∀(ps:List (List UInt8)) (p:List UInt8),p.length=32->(fB i p ps).length=32:=by
 intro ps
 induction ps with
 |nil=>intro p h;exact h
 |cons q ps ih=>
  intro p h;show(fB i (if q=p then G? (-1-i) else p) ps).length=32;by_cases hq:q=p
  ·rw[Dj hq];exact ih _ (A0R _)
  ·rw[C4 hq];exact ih _ h
def B8I {l:List (List UInt8)} (c:∀s∈l,s.length=32):∀i,∀s∈F? x1 l i,s.length=32:=by
 intro i
 induction i with
 |zero=>intro s b;simp[F?] at b
 |succ i ih=>
  intro s b;rcases Zs.1 b with b|b
  ·exact ih s b
  ·rw[Ur] at b;subst b;apply A6C;by_cases h:i<l.length
   ·rw[dif_pos h];exact c _ (Qe h)
   ·rw[dif_neg h];exact A0R _
def N0 {a b:Int} (h:Le a) (hb:1<=b):Le (a.tdiv b):=by
 unfold Le at h⊢;by_cases c:0<=a
 ·have h1:=Int.tdiv_nonneg c (by omega:0<=b);have h2:a.tdiv b<=a:=Int.tdiv_le_self b c;omega
 ·have e:a.tdiv b= -((-a).tdiv b):=by rw[Int.neg_tdiv,Int.neg_neg]
  have h1:=Int.tdiv_nonneg (by omega:0<= -a) (by omega:0<=b);have h2:(-a).tdiv b<= -a:=Int.tdiv_le_self b (by omega);omega
def mG {a b:Int} {K:AV->Af} (h:Le a) (hb:1<=b):Go.Abs.Ap Ab .quo (I a) (.v (.int .i64 b)) K=K (I (a.tdiv b)):=by
 have h1:=N0 h hb;rw[B1j (by omega),CW h1.1 h1.2]
structure Mc (H0:Hp) (b1 b2 r z:Nat) (X F:List AV) (H:Hp):Prop where
 h1:Aj H b1=some (c_ Jm X)
 h2:Aj H b2=some (c_ Jm F)
 hz:∃cs,cs.length=68/\Aj H z=some (c_ Ad cs)
 wf:Wf H
 n1:b1≠r
 n2:b2≠r
 nz:z≠r
 f1:Ao H0<=b1
 f2:Ao H0<=b2
 f3:Ao H0<=r
 f4:Ao H0<=z
 w0:Wf H0
 kp:∀s x,Aj H0 s=some x->Aj H s=some x
section
variable {K:KV} {x:Af} {H0 H H':Hp} {b1 b2 r z:Nat} {X F:List AV} {ps l:List (List UInt8)} {v a3:AV} {cR:AV->List AV}
theorem Mc.upd (h:Mc H0 b1 b2 r z X F H) (y:Row):Mc H0 b1 b2 r z X F (upd H r y):=by
 obtain⟨cs,c1,c2⟩:=h.hz;exact⟨by rw[Ag h.n1];exact h.h1,by rw[Ag h.n2];exact h.h2,⟨cs,c1,by rw[Ag h.nz];exact c2⟩,Bn h.wf,h.n1,h.n2,h.nz,h.f1,h.f2,h.f3,h.f4,h.w0,λs x b=>by
  have:=h.w0.lt b;have:=h.f3;rw[Ag (by omega)];exact h.kp s x b⟩
structure Pl (H0:Hp) (b1 b2 r z:Nat) (X F:List AV) (cR:AV->List AV) (ps:List (List UInt8)) (v:AV) (H:Hp):Prop where
 mc:Mc H0 b1 b2 r z X F H
 hr:Aj H r=some (c_ Ad (cR v))
 sv:B2 H Ar 1 v ps.length (AG ps)
 nv:ps=[]->v=As
 fr:∀s,A8 v s->Ao H0<=s/\s≠b1/\s≠b2/\s≠r/\s≠z
structure CR (cR:AV->List AV) (ks:List Nat):Prop where
 len:∀v,(cR v).length=68
 set:∀v v',(cR v).set 31 v'=cR v'
 get:∀v,(cR v).getD 31 .dk=v
 ins:∀v,(cR v).getD 33 .dk=BO ks
def C1C {b:AV->AV->AV->AV->AV->AV->AV->Hp->Af} (q:40000<L) (hc:CR cR ks) (w:i<3) (g:Pl H0 b1 b2 r z X F cR ps v H) (hb:ps.length<=3):
 ∀(f k:Nat) (p:List UInt8),k<=ps.length->ps.length-k<f->b a3 (.ptr b1 0 0) (.ptr z 0 0) (.ptr r 0 0) (I i) (S (fB i p (ps.drop k))) (I ps.length) H=x->
 TA (L+20) (r! L (n+43)) K b f a3 (.ptr b1 0 0) (.ptr z 0 0) (.ptr r 0 0) (I i) (S p) (I k) H=x:=by
 intro f
 induction f with
 |zero=>intro k p _ h;omega
 |succ f ih=>
  intro k p y u e;rw[nH];unfold TC Eh Iv A0;have d:∀{K},AF Ac (.ptr r 31 0) H K=K v:= λ{K}=>by rw[AP (p:=31) rfl g.hr (by rw[hc.len];decide),hc.get]
  rw[dK,d,Lb (t:=Ac) rfl g.sv];by_cases h:k<ps.length
  ·rw[FR (by omega),Cy];simp only[BK];have j:∀{K:AV->Af},Go.Abs.Ap Ab .add (I k) (.v (.int .i64 1)) K=K (I ((k+1:Nat):Int)):= λ{K}=>Dg (by omega);have sb:∀{K:AV->Af},Go.Abs.Ap Ab .sub (.v (.int .i64 (-1))) (I (i:Int)) K=K (I (-1-(i:Int))):= λ{K}=>by rw[K7,CW (by omega) (by omega)]
   have s:∀{K:AV->Af},An (r! L (n+43)) JR [I (-1-(i:Int))] H K=K (S (G? (-1-(i:Int)))):= λ{K}=>A0G (n:=n+23) q (by omega) (by omega) H K;have m:ps.drop k=ps[k]::ps.drop (k+1):=vA h;rw[m] at e;have c:b a3 (.ptr b1 0 0) (.ptr z 0 0) (.ptr r 0 0) (I i) (S (fB i (if ps[k]=p then G? (-1-i) else p) (ps.drop (k+1)))) (I ps.length) H=x:=e;rw[dK,d,B8c g.sv h,LV];by_cases hq:ps[k]=p
   ·rw[Iu hq,Cy,sb,s,j];rw[Dj hq] at c;exact ih (k+1) _ (by omega) (by omega) c
   ·rw[IG hq,Bj,j];rw[C4 hq] at c;exact ih (k+1) _ (by omega) (by omega) c
  ·have:k=ps.length:=by omega
   subst this;rw[List.drop_length] at e;rw[FP (by omega),Bj];exact e
def C1D {g:AV->AV->AV->Hp->Af} {x0 x1 x2 x3 x4 x5:Int} (Y:40000<L) (hc:CR cR ks) (h1:Le x1) (aa:ks.length<=3) (M:PL H0 l a3) (hb:l.length<1000) (J:∀s∈l,s.length=32)
 (m:∀v H,Pl H0 b1 b2 r z [I x0,I x1,I x2,I x3,I x4,I x5] F cR (F? x1 l ks.length) v H->g (.ptr b1 0 0) (.ptr z 0 0) (.ptr r 0 0) H=x):
 ∀(f i:Nat) (v C d1:AV) (H:Hp),i<=ks.length->ks.length-i<f->Pl H0 b1 b2 r z [I x0,I x1,I x2,I x3,I x4,I x5] F cR (F? x1 l i) v H->
 TB (L+20) (r! L (n+43)) K g f a3 (.ptr b1 0 0) (.ptr z 0 0) (.ptr r 0 0) (I i) C d1 H=x:=by
 intro f
 induction f with
 |zero=>intro i v C d1 H _ h;omega
 |succ f ih=>
  intro i v C d1 H hi hf b;rw[nI];unfold TE Eh Iv Df A0 HQ;have O:∀{K},AF Al (.ptr r 33 0) H K=K (BO ks):= λ{K}=>by rw[AP (p:=33) rfl b.hr (by rw[hc.len];decide),hc.ins]
  have fa:∀{K:AV->Af},CV 1 (.ptr r 32 0) K=K (.ptr r 33 0):= λ{K}=>by rw[fA]
  rw[dK,fa,O,Ql];by_cases h:i<ks.length
  ·have pr:=FY (c:=x1.tdiv 3) (n:=1000) (by decide);have ia:∀{K:AV->Af},Dw B6 (.ptr b1 0 0) (.v (.int .i64 1)) K=K (.ptr b1 1 0):= λ{K}=>EJ (z:=1) 1 rfl rfl (by decide);have d1:∀{K:AV->Af},AF Ab (.ptr b1 1 0) H K=K (I x1):= λ{K}=>AP (p:=1) rfl b.mc.h1 (by simp);have P:∀{H K},An (r! L (n+43)) BL [I (x1.tdiv 3),.v (.int .i64 1000)] H K=K (I (pk (x1.tdiv 3) 1000)):= λ{H K}=>Mw (n:=n+42) (N0 h1 (by decide)) (by decide) (by decide) H K;have ad:∀{K:AV->Af},Go.Abs.Ap Ab .add (I (pk (x1.tdiv 3) 1000)) (I (i:Int)) K=K (I (pk (x1.tdiv 3) 1000+i)):= λ{K}=>by rw[Dm,CW (by omega) (by omega)]
   have pa:∀{K:AV->Af},An (r! L (n+43)) JR [I (pk (x1.tdiv 3) 1000+i)] H K=K (S (G? (pk (x1.tdiv 3) 1000+i))):= λ{K}=>A0G (n:=n+23) Y (by omega) (by omega) H K;rw[FR (by omega),Cy,ia,d1,mG h1 (by decide),P,ad,pa];refine Px λw d=> ?_;have Z:∀p:List UInt8,p=(if h:i<l.length then l[i] else G? (pk (x1.tdiv 3) 1000+i))->w (S p) H=x:=by
    intro p hp;rw[d];simp only[BK];refine C1C Y hc (by omega) b (by rw[eV];omega) (L+20) 0 p (by omega) (by rw[eV];omega) ?_;rw[pM];have N:∀{K},AF Ac (.ptr r 31 0) H K=K v:= λ{K}=>by rw[AP (p:=31) rfl b.hr (by rw[hc.len];decide),hc.get]
    obtain⟨v',H',a1,a2,B,a4,k,Q⟩:=T? (ie:=Ai) (i2:=Ac) (ys:=AG [fB i p (F? x1 l i)]) b.sv b.mc.wf rfl rfl (by decide) rfl (λ_=>rfl) (by rw[eV];show(i+1)*16<=_;omega) (by rw[eV];omega);obtain⟨cs,c1,c2⟩:=b.mc.hz;have u:=k _ _ b.hr λe=>(b.fr _ e).2.2.2.1 rfl;have q1:=b.mc.wf.lt b.mc.h1;have q2:=b.mc.wf.lt b.mc.h2;have q3:=b.mc.wf.lt b.hr;have q4:=b.mc.wf.lt c2;have q0:=b.mc.f1;rw[dK,N,iI,a1,dK,Ed u (by rw[hc.len];decide) rfl (B2.cell a2) (B2.one a2),hc.set,Dg (by omega)];have y:F? x1 l (i+1)=F? x1 l i++[fB i p (F? x1 l i)]:=by rw[hp];rfl
    refine ih (i+1) v' _ _ _ (by omega) (by omega) ⟨?_,AC u,?_,λe=> ?_,λs j=> ?_⟩
    ·refine⟨by rw[Ag b.mc.n1];exact k _ _ b.mc.h1 (λe=>(b.fr _ e).2.1 rfl),by rw[Ag b.mc.n2];exact k _ _ b.mc.h2 (λe=>(b.fr _ e).2.2.1 rfl),⟨cs,c1,by rw[Ag b.mc.nz];exact k _ _ c2 (λe=>(b.fr _ e).2.2.2.2 rfl)⟩,Bn B,b.mc.n1,b.mc.n2,b.mc.nz,b.mc.f1,b.mc.f2,b.mc.f3,b.mc.f4,b.mc.w0,λs x j=> ?_⟩;have R:=b.mc.w0.lt j;have V:=b.mc.f3;rw[Ag (by omega)];exact k _ _ (b.mc.kp s x j) (λe=>by have:=(b.fr _ e).1;omega)
    ·rw[y,EY];have:AG (F? x1 l i++[fB i p (F? x1 l i)])=AG (F? x1 l i)++AG [fB i p (F? x1 l i)]:=by simp[AG]
     rw[this];refine B2.kp a2 λs x j M=> ?_;have:=Q s j;rw[Ag (by omega)];exact M
    ·rw[y] at e;simp at e
    ·have:=Q s j;omega
   clear d;have q:=M.kp b.mc.kp;rw[q.len];by_cases A:i<l.length
   ·obtain⟨p,R,V⟩:=q.at2 A;have D:∀{K:AV->Af},Go.Abs.Ap Ab .eql (I ((l[i].length:Nat):Int)) (.v (.int .i64 32)) K=K (Bo true):= λ{K}=>by
     rw[CP,J _ (Qe A)];rfl
    rw[FR (by omega)];simp only[gT,Cn,R,V,PG (t:=Ai) rfl,D,UH];rw[Cy];exact Z _ (by rw[dif_pos A])
   ·rw[FP (by omega)];simp only[dF,Cn,SS];rw[Bj];exact Z _ (by rw[dif_neg A])
  ·have:i=ks.length:=by omega
   subst this;rw[FP (by omega),Bj];exact m v H b
end
end
section
variable {b:Nat}
variable {L n:Nat}
def Cd.csP (c:Cd) (P:AV):List AV:=match c with
 | .re b u=>Et 1 b.m (uu u) (qn b.c) (qd b.c) (FD b.ts) (qn b.r) (qd b.r) P 0 As As u0 r0 0
 | .co b p _ none=>Et 2 b.m (uu p.out) (qn b.c) (qd b.c) (FD b.ts) (qn b.r) (qd b.r) P p.id (BO p.ks) (Cs p.xs) (uu p.out) r0 0
 | .co b p _ (some (k,vd))=>Et 3 b.m (uu p.out) (qn b.c) (qd b.c) (FD b.ts) (qn b.r) (qd b.r) P p.id (BO p.ks) (Cs p.xs) (uu p.out) (rr k) vd
def A43 (c:Cd):c.csP (DJ c.ps)=c.cs:=by
 match c with
 | .re b u=>rfl
 | .co b p ps none=>rfl
 | .co b p ps (some (k,vd))=>rfl
def cbM (x1 x2 x3 x4 x5:Int) (a:List Int):CB:=⟨⟨1+pk x1 3,1+pk x2 9,1+pk x3 4,pk x4 50,pk x5 30⟩,pk (x3.tdiv 4) 161-80,pk (x4.tdiv 50) 9,Ln a 6⟩
def cdM (x0 x1 x2 x3 x4 x5 f0 f1 f2 f3 f4 f5:Int) (y:Y4) (l:List (List UInt8)):Cd:=
 if pk x0 3=0 then .re (cbM x1 x2 x3 x4 x5 [f0,f1,f2,f3,f4,f5]) (pk (x5.tdiv 30) 7).toNat
 else .co (cbM x1 x2 x3 x4 x5 [f0,f1,f2,f3,f4,f5]) (pH [f0,f1,f2] (x2.tdiv 9) y) (F? x1 l (pH [f0,f1,f2] (x2.tdiv 9) y).ks.length)
  (if pk x0 3=1 then none else some (1+(pk (x0.tdiv 3) 3).toNat,1+pk (x0.tdiv 9) 3))
def A49 {x0 x1 x2 x3 x4 x5 f0 f1 f2 f3 f4 f5:Int} {y:Y4} {l:List (List UInt8)} (a:∀s∈l,s.length=32):(cdM x0 x1 x2 x3 x4 x5 f0 f1 f2 f3 f4 f5 y l).Ok:=by
 have p1:=FY (c:=x1) (n:=3) (by decide);have p2:=FY (c:=x2) (n:=9) (by decide);have p3:=FY (c:=x3) (n:=4) (by decide);have p4:=FY (c:=x4) (n:=50) (by decide);have p5:=FY (c:=x5) (n:=30) (by decide);have p6:=FY (c:=x3.tdiv 4) (n:=161) (by decide);have d:=FY (c:=x4.tdiv 50) (n:=9) (by decide);have e:=FY (c:=x5.tdiv 30) (n:=7) (by decide);have f:=FY (c:=x0.tdiv 3) (n:=3) (by decide);have g:=FY (c:=x0.tdiv 9) (n:=3) (by decide);have hb:(cbM x1 x2 x3 x4 x5 [f0,f1,f2,f3,f4,f5]).Ok:=by
  refine⟨?_,?_,?_,?_,?_,(A4L _ 6 (by omega)).1⟩
  ·refine⟨?_,?_,?_,?_,?_,?_,?_,?_,?_,?_⟩
   all_goals (simp only[cbM];omega)
  all_goals (simp only[cbM];omega)
 unfold cdM;by_cases h:pk x0 3=0
 ·rw[Dj h];exact⟨hb,by omega⟩
 ·rw[C4 h];refine⟨hb,A3a rfl,eV _,B8I a _,?_⟩;by_cases h1:pk x0 3=1
  ·rw[Dj h1];exact trivial
  ·rw[C4 h1];exact⟨by omega,by omega,by omega⟩
def okI {z:Int} {H:Hp} {K:Af}:QQ (Ba (some (I z,H)) (I z)) K=K:=UM rfl
def C44 {k:IntKind} {z:Int}:AV.one (.v (.int k z))=true:=rfl
def C42 {l:List UInt8}:AV.one (S l)=true:=rfl
def C43:AV.one (.v (.slice none 0 0))=true:=rfl
def Vs (ts:iU):AV.one (FD ts)=true:=by cases ts<;>rfl
section
variable {K:KV} {x:Af} {H0 H H':Hp} {b1 b2 r z:Nat} {X F:List AV} {ps l:List (List UInt8)} {v a2 a3:AV} {cR:AV->List AV} {y:Y4} {x0 x1 x2 x3 x4 x5 f0 f1 f2 f3 f4 f5:Int}
def Rq {kd:Int} {m:ND} {u o:UD} {ca cb ra rb:List UInt8} {T P ins a:AV} {id vd:Int} {rd:RD} (h1:AV.one T=true) (h2:AV.one P=true) (c:AV.one ins=true) (d:AV.one a=true):(Et kd m u ca cb T ra rb P id ins a o rd vd).all AV.one=true:=by
 simp only[pK,l3c,C44,C42,C43,h1,h2,c,d,X',l1g]
def A0Z (h:Mc H0 b1 b2 r z X F H) {cs:List AV} (hr:Aj H r=some (c_ Ad cs)) (h1:cs.length=68) (h2:cs.all AV.one=true) (e:∀H',Wf H'->(∀s q,s≠z->Aj H s=some q->Aj H' s=some q)->K (.agg cs) H'=x):
 (AF Ae (.ptr r 0 0) H λc=>
  E0 Ae (.ptr z 0 0) c H λa=>
  AF Ae (.ptr z 0 0) a λd=>
  K d a)=x:=by
 obtain⟨i,c1,c2⟩:=h.hz;rw[Bu (cs:=cs) rfl (by exact h1.symm) hr,Cc c2 (by rw[c1,h1]) (by exact c1.symm) h2,Bu (cs:=cs) rfl (by exact h1.symm) (AC c2)];exact e _ (Bn h.wf) λs q g f=>by rw[Ag g];exact f
def push (w:Wf H) (x:Row) (a:x≠.gone):∃H' s,H'=(s,x)::H/\s=Ao H/\Aj H' s=some x/\Wf H'/\∀t q,Aj H t=some q->Aj H' t=some q/\t≠s:=
 ⟨_,_,rfl,rfl,Aw a,AI w,λt q h=>⟨A4 (w.lt h) h,by have:=w.lt h;omega⟩⟩
def B9i {K:AV->Af}:Dw B6 (.ptr b 0 0) (.v (.int .i64 0)) K=K (.ptr b 0 0):=EJ (z:=0) 0 rfl rfl (by decide)
def C4p {K:AV->Af}:Dw B6 (.ptr b 0 0) (.v (.int .i64 1)) K=K (.ptr b 1 0):=EJ (z:=1) 1 rfl rfl (by decide)
def C4o {K:AV->Af}:Dw B6 (.ptr b 0 0) (.v (.int .i64 2)) K=K (.ptr b 2 0):=EJ (z:=2) 2 rfl rfl (by decide)
def C4n {K:AV->Af}:Dw B6 (.ptr b 0 0) (.v (.int .i64 3)) K=K (.ptr b 3 0):=EJ (z:=3) 3 rfl rfl (by decide)
def C4m {K:AV->Af}:Dw B6 (.ptr b 0 0) (.v (.int .i64 4)) K=K (.ptr b 4 0):=EJ (z:=4) 4 rfl rfl (by decide)
def C4l {K:AV->Af}:Dw B6 (.ptr b 0 0) (.v (.int .i64 5)) K=K (.ptr b 5 0):=EJ (z:=5) 5 rfl rfl (by decide)
def rd6 {a0 a1 a2 a3 a c:Int} (h:Aj H b=some (c_ Jm [I a0,I a1,I a2,I a3,I a,I c])):
 (∀{K},AF Ab (.ptr b 0 0) H K=K (I a0))/\(∀{K},AF Ab (.ptr b 1 0) H K=K (I a1))/\(∀{K},AF Ab (.ptr b 2 0) H K=K (I a2))/\(∀{K},AF Ab (.ptr b 3 0) H K=K (I a3))/\(∀{K},AF Ab (.ptr b 4 0) H K=K (I a))/\(∀{K},AF Ab (.ptr b 5 0) H K=K (I c)):=
 ⟨λ{K}=>AP (p:=0) rfl h (by simp),λ{K}=>AP (p:=1) rfl h (by simp),λ{K}=>AP (p:=2) rfl h (by simp),λ{K}=>AP (p:=3) rfl h (by simp),λ{K}=>AP (p:=4) rfl h (by simp),λ{K}=>AP (p:=5) rfl h (by simp)⟩
def A8N (mc:Mc H0 b1 b2 r z X F H) {cs cs' vs:List AV} (hr:Aj H r=some (c_ Ad cs)) {i:TI} {p:Nat} (a:cs.length=68) (d:p+vs.length<=68) (hz:i.size=vs.length) (h1:vs.all AV.one=true) (es:splice cs p vs=cs'):
 ∃H',(∀K:Hp->Af,E0 i (.ptr r p 0) (.agg vs) H K=K H')/\Mc H0 b1 b2 r z X F H'/\Aj H' r=some (c_ Ad cs')/\(∀s q,s≠r->Aj H s=some q->Aj H' s=some q):=
 ⟨_,λK=>lO hr (by rw[a];exact d) hz h1,mc.upd _,by rw[es];exact AC hr,λs q e c=>by rw[Ag e];exact c⟩
def rW (hL:40000<L) (w:Wf H0) (i0:Le x0) (i1:Le x1) (i2:Le x2) (i3:Le x3) (i4:Le x4) (i5:Le x5) (j0:Le f0) (j1:Le f1) (j2:Le f2) (j3:Le f3) (j4:Le f4) (j5:Le f5)
 (hy:YA H0 y a2) (az:yI y) (hl:PL H0 l a3) (hb:l.length<1000) (ar:∀s∈l,s.length=32)
 (V:∀v H',B2 H' Ar 1 v (cdM x0 x1 x2 x3 x4 x5 f0 f1 f2 f3 f4 f5 y l).ps.length (AG (cdM x0 x1 x2 x3 x4 x5 f0 f1 f2 f3 f4 f5 y l).ps)->((cdM x0 x1 x2 x3 x4 x5 f0 f1 f2 f3 f4 f5 y l).ps=[]->v=As)->Wf H'->(∀s q,Aj H0 s=some q->Aj H' s=some q)->(∀s,A8 v s->Ao H0<=s)->
  K (.agg ((cdM x0 x1 x2 x3 x4 x5 f0 f1 f2 f3 f4 f5 y l).csP v)) H'=x):
 (r! L (n+44)).call I4 [.agg [I x0,I x1,I x2,I x3,I x4,I x5],.agg [I f0,I f1,I f2,I f3,I f4,I f5],a2,a3] H0 K=x:=by
 rw[sK];unfold VM Eh A0 LW;obtain⟨H1,b1,O,s1,l1,w1,k1⟩:=push w (c_ Jm [I x0,I x1,I x2,I x3,I x4,I x5]) (by simp);rw[Ei (cs:=[I x0,I x1,I x2,I x3,I x4,I x5]) rfl,<-s1,<-O];obtain⟨H2,b2,e2,s2,l2,w2,k2⟩:=push w1 (c_ Jm [I f0,I f1,I f2,I f3,I f4,I f5]) (by simp);rw[Ei (cs:=[I f0,I f1,I f2,I f3,I f4,I f5]) rfl,<-s2,<-e2];obtain⟨H3,z,P,s3,l3,w3,k3⟩:=push w2 (c_ Ad CH) (by simp);rw[B1 (cs:=CH) rfl,<-s3,<-P];obtain⟨H4,r,e4,s4,l4,w4,k4⟩:=push w3 (c_ Ad CH) (by simp);have m1:=k2 _ _ l1;have m2:=k3 _ _ m1.1;have m3:=k3 _ _ l2;have q1:=k4 _ _ m2.1;have q2:=k4 _ _ m3.1;have q3:=k4 _ _ l3;have g1:Ao H0<=b1:=by omega
 have g2:Ao H0<=b2:=by have:=w1.lt l1;omega
 have g3:Ao H0<=z:=by have:=w2.lt l2;omega
 have g4:Ao H0<=r:=by have:=w3.lt l3;omega
 have af:∀s q,Aj H0 s=some q->Aj H4 s=some q:= λs q j=>(k4 _ _ (k3 _ _ (k2 _ _ (k1 _ _ j).1).1).1).1;clear O e2 P s1 s2 s3 k1 k2 k3 m1 m3 l1 l2 w1 w2;have p0:=FY (c:=x0) (n:=3) (by decide);have p1:=FY (c:=x1) (n:=3) (by decide);have p2:=FY (c:=x2) (n:=9) (by decide);have p3:=FY (c:=x3) (n:=4) (by decide);have c0:∀{H K},An (r! L (n+43)) BL [I x0,.v (.int .i64 3)] H K=K (I (pk x0 3)):= λ{H K}=>Mw (n:=n+42) i0 (by decide) (by decide) H K;have c1:∀{H K},An (r! L (n+43)) BL [I x1,.v (.int .i64 3)] H K=K (I (pk x1 3)):= λ{H K}=>Mw (n:=n+42) i1 (by decide) (by decide) H K;have c2:∀{H K},An (r! L (n+43)) BL [I x2,.v (.int .i64 9)] H K=K (I (pk x2 9)):= λ{H K}=>Mw (n:=n+42) i2 (by decide) (by decide) H K;have c3:∀{H K},An (r! L (n+43)) BL [I x3,.v (.int .i64 4)] H K=K (I (pk x3 4)):= λ{H K}=>Mw (n:=n+42) i3 (by decide) (by decide) H K;have c4:∀{H K},An (r! L (n+43)) BL [I x4,.v (.int .i64 50)] H K=K (I (pk x4 50)):= λ{H K}=>Mw (n:=n+42) i4 (by decide) (by decide) H K;have c5:∀{H K},An (r! L (n+43)) BL [I x5,.v (.int .i64 30)] H K=K (I (pk x5 30)):= λ{H K}=>Mw (n:=n+42) i5 (by decide) (by decide) H K;have a0:∀{K:AV->Af},Go.Abs.Ap Ab .add (.v (.int .i64 1)) (I (pk x0 3)) K=K (I (1+pk x0 3)):= λ{K}=>by rw[Dm,CW (by omega) (by omega)]
 have a1:∀{K:AV->Af},Go.Abs.Ap Ab .add (.v (.int .i64 1)) (I (pk x1 3)) K=K (I (1+pk x1 3)):= λ{K}=>by rw[Dm,CW (by omega) (by omega)]
 have Z:∀{K:AV->Af},Go.Abs.Ap Ab .add (.v (.int .i64 1)) (I (pk x2 9)) K=K (I (1+pk x2 9)):= λ{K}=>by rw[Dm,CW (by omega) (by omega)]
 have aa:∀{K:AV->Af},Go.Abs.Ap Ab .add (.v (.int .i64 1)) (I (pk x3 4)) K=K (I (1+pk x3 4)):= λ{K}=>by rw[Dm,CW (by omega) (by omega)]
 obtain⟨m,d1,d2,A,B,C⟩:=rd6 m2.1;simp only[B9i,C4p,C4o,C4n,C4m,C4l,m,d1,d2,A,B,C,c0,c1,c2,c3,c4,c5,a0,a1,Z,aa,B7];clear m d1 d2 A B C;have bd:∀{a b c d e f:Int} {K:AV->Af},BZ Ae [(0,1,I a),(1,1,I b),(2,1,I c),(3,1,I d),(4,1,I e),(5,1,I f)] K=K (.agg (Et a ⟨b,c,d,e,f⟩ u0 [] [] As [] [] As 0 As As u0 r0 0)):= λ{a b c d e f K}=>r_ rfl;rw[bd,B7,B1 (cs:=CH) rfl,Cn,<-s4,<-e4,Cc (vs:=Et (1+pk x0 3) ⟨1+pk x1 3,1+pk x2 9,1+pk x3 4,pk x4 50,pk x5 30⟩ u0 [] [] As [] [] As 0 As As u0 r0 0) l4 rfl rfl rfl,Cn];clear e4 s4;obtain⟨m,d1,d2,A,B,C⟩:=rd6 q1.1;simp only[m,d1,d2,A,B,C,c0,c1,c2,c3,c4,c5,okI];clear m d1 d2 A B C c0 c1 c2 c3 c4 c5 a0 a1 Z aa bd;have mc:Mc H0 b1 b2 r z [I x0,I x1,I x2,I x3,I x4,I x5] [I f0,I f1,I f2,I f3,I f4,I f5] H4:=⟨q1.1,q2.1,⟨_,rfl,q3.1⟩,w4,q1.2,q2.2,q3.2,g1,g2,g4,g3,w,af⟩
 have u:=mc.upd (c_ Ad (Et (1+pk x0 3) ⟨1+pk x1 3,1+pk x2 9,1+pk x3 4,pk x4 50,pk x5 30⟩ u0 [] [] As [] [] As 0 As As u0 r0 0));have r5:=AC (q:=true) (e:=Ad) (cs:=Et (1+pk x0 3) ⟨1+pk x1 3,1+pk x2 9,1+pk x3 4,pk x4 50,pk x5 30⟩ u0 [] [] As [] [] As 0 As As u0 r0 0) l4;generalize Go.Abs.upd H4 r (c_ Ad (Et (1+pk x0 3) ⟨1+pk x1 3,1+pk x2 9,1+pk x3 4,pk x4 50,pk x5 30⟩ u0 [] [] As [] [] As 0 As As u0 r0 0))=H5 at u r5;clear mc af q1 q2 q3 k4 l4 w4 l3 w3 m2 g1 g2 g3 g4 H4 H3 H2 H1;have ag:∀{H K},An (r! L (n+43)) QY [I (x3.tdiv 4),I (x4.tdiv 50),.agg [I f0,I f1,I f2,I f3,I f4,I f5]] H K=K (.agg [S (qn (pk (x3.tdiv 4) 161-80)),S (qd (pk (x3.tdiv 4) 161-80)),FD (Ln [f0,f1,f2,f3,f4,f5] 6),S (qn (pk (x4.tdiv 50) 9)),S (qd (pk (x4.tdiv 50) 9))]):= λ{H K}=>
  AQ (A9t (n:=n+2) (xs:=[f0,f1,f2,f3,f4,f5]) (by omega) (N0 i3 (by decide)) (N0 i4 (by decide)) rfl (by simp[j0,j1,j2,j3,j4,j5]))
   (Am (q:=false) C7 (Am (q:=false) C7 (Am (Lx (D:=depth-1) (KO (λz:Int=>Value.int .i64 z) [f0,f1,f2,f3,f4,f5])) AJ)))
 have lF:∀{K},AF B6 (.ptr b2 0 0) H5 K=K (.agg [I f0,I f1,I f2,I f3,I f4,I f5]):= λ{K}=>Bu rfl rfl u.h2;obtain⟨m,d1,d2,A,B,C⟩:=rd6 u.h1;obtain⟨H6,ak,R,r6, -⟩:=A8N (i:=Ff) (p:=26) (vs:=[S (qn (pk (x3.tdiv 4) 161-80)),S (qd (pk (x3.tdiv 4) 161-80)),FD (Ln [f0,f1,f2,f3,f4,f5] 6),S (qn (pk (x4.tdiv 50) 9)),S (qd (pk (x4.tdiv 50) 9))]) u r5 rfl (by show 26+5<=68;decide) rfl (by show(true&&(true&&(AV.one (FD (Ln [f0,f1,f2,f3,f4,f5] 6))&&(true&&(true&&true)))))=true;rw[Vs];rfl)
  (cs':=Et (1+pk x0 3) ⟨1+pk x1 3,1+pk x2 9,1+pk x3 4,pk x4 50,pk x5 30⟩ u0 (qn (pk (x3.tdiv 4) 161-80)) (qd (pk (x3.tdiv 4) 161-80)) (FD (Ln [f0,f1,f2,f3,f4,f5] 6)) (qn (pk (x4.tdiv 50) 9)) (qd (pk (x4.tdiv 50) 9)) As 0 As As u0 r0 0) rfl
 rw[A,mG i3 (by decide),B,mG i4 (by decide),lF,ag,dK,ak];clear m d1 d2 A B C lF ak u r5 ag;have ae:∀{H K},An (r! L (n+43)) Gq [I (x5.tdiv 30)] H K=K (.agg (CJ (uu (pk (x5.tdiv 30) 7).toNat))):= λ{H K}=>A31 (n:=n+1) (N0 i5 (by decide)) H K;obtain⟨m,d1,d2,A,B,C⟩:=rd6 R.h1;obtain⟨H7,am,g,r7, -⟩:=A8N (i:=Ay) (p:=6) (vs:=CJ (uu (pk (x5.tdiv 30) 7).toNat)) R r6 rfl (by show 6+20<=68;decide) rfl rfl
  (cs':=Et (1+pk x0 3) ⟨1+pk x1 3,1+pk x2 9,1+pk x3 4,pk x4 50,pk x5 30⟩ (uu (pk (x5.tdiv 30) 7).toNat) (qn (pk (x3.tdiv 4) 161-80)) (qd (pk (x3.tdiv 4) 161-80)) (FD (Ln [f0,f1,f2,f3,f4,f5] 6)) (qn (pk (x4.tdiv 50) 9)) (qd (pk (x4.tdiv 50) 9)) As 0 As As u0 r0 0) rfl
 have lk:∀{K},AF Ab (.ptr r 0 0) H7 K=K (I (1+pk x0 3)):= λ{K}=>AP (p:=0) rfl r7 (show 0<68 by decide);rw[C,mG i5 (by decide),ae,dK,am,dK,lk,CP];clear m d1 d2 A B C am R r6 ae lk;by_cases h0:pk x0 3=0
 ·have J:cdM x0 x1 x2 x3 x4 x5 f0 f1 f2 f3 f4 f5 y l= .re (cbM x1 x2 x3 x4 x5 [f0,f1,f2,f3,f4,f5]) (pk (x5.tdiv 30) 7).toNat:=Dj h0;have O:1+pk x0 3=1:=by omega
  rw[Iu O,Cy];rw[J] at V;rw[O] at r7;refine A0Z g r7 rfl (Rq (Vs _) rfl rfl rfl) λH' w' kp=> ?_;exact V As H' (.inl ⟨rfl,rfl,rfl⟩) (λ_=>rfl) w' (λs q j=>kp s q (by have:=g.w0.lt j;have:=g.f4;omega) (g.kp s q j)) (λs ⟨_,_,_,h⟩=>by cases h)
 ·have J:cdM x0 x1 x2 x3 x4 x5 f0 f1 f2 f3 f4 f5 y l= .co (cbM x1 x2 x3 x4 x5 [f0,f1,f2,f3,f4,f5]) (pH [f0,f1,f2] (x2.tdiv 9) y) (F? x1 l (pH [f0,f1,f2] (x2.tdiv 9) y).ks.length) (if pk x0 3=1 then none else some (1+(pk (x0.tdiv 3) 3).toNat,1+pk (x0.tdiv 9) 3)):=C4 h0;rw[J] at V;clear J;have Q:∀{K},An (r! L (n+43)) QX [.agg [I f0,I f1,I f2],I (x2.tdiv 9),a2,.v (.bool true)] H7 K=K (.agg (BI (pH [f0,f1,f2] (x2.tdiv 9) y).id (BO (pH [f0,f1,f2] (x2.tdiv 9) y).ks) (Cs (pH [f0,f1,f2] (x2.tdiv 9) y).xs) (uu (pH [f0,f1,f2] (x2.tdiv 9) y).out))):= λ{K}=>by
   obtain⟨q,hq⟩:=hy H7 g.kp;exact AQ (A9s (n:=n) (ins:=[f0,f1,f2]) (by omega) rfl (by simp[j0,j1,j2]) (N0 i2 (by decide)) az) (Am (Lx (D:=depth-1) (KO (λz:Int=>Value.int .i64 z) [f0,f1,f2])) (Am (q:=false) C7 (Am hq (Am (q:=false) C7 AJ))))
  have hp:=A3a (ins:=[f0,f1,f2]) (count:=x2.tdiv 9) (y:=y) rfl;generalize pH [f0,f1,f2] (x2.tdiv 9) y=p at V Q hp;have O:¬(1+pk x0 3=1):=by omega
  rw[IG O,Bj];obtain⟨g0,g1,g2, -, -, -⟩:=rd6 g.h2;obtain⟨m,d1,d2, -, -, -⟩:=rd6 g.h1;have b3:∀{K:AV->Af},BZ R4 [(0,1,I f0),(1,1,I f1),(2,1,I f2)] K=K (.agg [I f0,I f1,I f2]):= λ{K}=>r_ rfl;obtain⟨H8,an,ah,r8, -⟩:=A8N (i:=AR) (p:=32) (vs:=BI p.id (BO p.ks) (Cs p.xs) (uu p.out)) g r7 rfl (by show 32+23<=68;decide) rfl (xT rfl rfl)
   (cs':=Et (1+pk x0 3) ⟨1+pk x1 3,1+pk x2 9,1+pk x3 4,pk x4 50,pk x5 30⟩ (uu (pk (x5.tdiv 30) 7).toNat) (qn (pk (x3.tdiv 4) 161-80)) (qd (pk (x3.tdiv 4) 161-80)) (FD (Ln [f0,f1,f2,f3,f4,f5] 6)) (qn (pk (x4.tdiv 50) 9)) (qd (pk (x4.tdiv 50) 9)) As p.id (BO p.ks) (Cs p.xs) (uu p.out) r0 0) rfl
  have lu:∀{K},AF Ay (.ptr r 35 0) H8 K=K (.agg (CJ (uu p.out))):= λ{K}=>GA (p:=35) rfl r8 (show 55<=68 by decide);obtain⟨H9,ao,ai,r9, -⟩:=A8N (i:=Ay) (p:=6) (vs:=CJ (uu p.out)) ah r8 rfl (by show 6+20<=68;decide) rfl rfl
   (cs':=Et (1+pk x0 3) ⟨1+pk x1 3,1+pk x2 9,1+pk x3 4,pk x4 50,pk x5 30⟩ (uu p.out) (qn (pk (x3.tdiv 4) 161-80)) (qd (pk (x3.tdiv 4) 161-80)) (FD (Ln [f0,f1,f2,f3,f4,f5] 6)) (qn (pk (x4.tdiv 50) 9)) (qd (pk (x4.tdiv 50) 9)) As p.id (BO p.ks) (Cs p.xs) (uu p.out) r0 0) rfl
  have f35:∀{K:AV->Af},CV 3 (.ptr r 32 0) K=K (.ptr r 35 0):= λ{K}=>by rw[fA]
  rw[g0,g1,g2,b3,d2,mG i2 (by decide),Q,dK,an,dK,f35,lu,dK,ao];clear g0 g1 g2 m d1 d2 b3 an ah r8 lu ao f35 Q g r7;refine Px λa7 ab=> ?_;refine Px λa6 N=> ?_;have hc:CR (λv=>Et (1+pk x0 3) ⟨1+pk x1 3,1+pk x2 9,1+pk x3 4,pk x4 50,pk x5 30⟩ (uu p.out) (qn (pk (x3.tdiv 4) 161-80)) (qd (pk (x3.tdiv 4) 161-80)) (FD (Ln [f0,f1,f2,f3,f4,f5] 6)) (qn (pk (x4.tdiv 50) 9)) (qd (pk (x4.tdiv 50) 9)) v p.id (BO p.ks) (Cs p.xs) (uu p.out) r0 0) p.ks:=⟨λ_=>rfl,λ_ _=>rfl,λ_=>rfl,λ_=>rfl⟩
  refine C1D (n:=n) (l:=l) hL hc i1 hp.k3 hl hb ar ?_ (L+20) 0 As _ _ H9 (by omega) (by have:=hp.k3;omega) ⟨ai,r9,.inl ⟨rfl,rfl,rfl⟩,λ_=>rfl,λs ⟨_,_,_,h⟩=>by cases h⟩;intro v H t;rw[N,ab];clear N ab ai r9;refine Px λa4 ac=> ?_;have k:∀(cs:List AV) (Y:Hp),Mc H0 b1 b2 r z [I x0,I x1,I x2,I x3,I x4,I x5] [I f0,I f1,I f2,I f3,I f4,I f5] Y->Aj Y r=some (c_ Ad cs)->cs.length=68->cs.all AV.one=true->cs=(Cd.co (cbM x1 x2 x3 x4 x5 [f0,f1,f2,f3,f4,f5]) p (F? x1 l p.ks.length) (if pk x0 3=1 then none else some (1+(pk (x0.tdiv 3) 3).toNat,1+pk (x0.tdiv 9) 3))).csP v->(∀s q,s≠r->Aj H s=some q->Aj Y s=some q)->a4 Y=x:=by
   intro cs Y M rx c1 c2 aq kx;rw[ac];refine A0Z M rx c1 c2 λH' w' kp=> ?_;rw[aq];refine V v H' ?_ t.nv w' (λs q j=>kp s q (by have:=M.w0.lt j;have:=M.f4;omega) (M.kp s q j)) (λs j=>(t.fr s j).1);exact t.sv.kp λs q j hl=>kp s q (t.fr s j).2.2.2.2 (kx s q (t.fr s j).2.2.2.1 hl)
  clear ac V;have lk:∀{K},AF Ab (.ptr r 0 0) H K=K (I (1+pk x0 3)):= λ{K}=>AP (p:=0) rfl t.hr (show 0<68 by decide);rw[dK,lk,CP];by_cases h1:pk x0 3=1
  ·have P:¬(1+pk x0 3=3):=by omega
   rw[IG P,Bj];rw[Dj h1] at k;have e2:1+pk x0 3=2:=by omega
   have hr:=t.hr;rw[e2] at hr;exact k _ H t.mc hr rfl (Rq (Vs _) (B2.one t.sv) rfl rfl) rfl (λs q _ h=>h)
  ·have P:1+pk x0 3=3:=by omega
   have pv:=FY (c:=x0.tdiv 9) (n:=3) (by decide);rw[Iu P,Cy];rw[C4 h1] at k;have hr:=t.hr;rw[P] at hr;have ay:∀{H K},An (r! L (n+43)) Km [I (x0.tdiv 3)] H K=K (.agg (rr (1+(pk (x0.tdiv 3) 3).toNat)).cs):= λ{H K}=>B3G (n:=n+41) (N0 i0 (by decide)) H K;have ax:∀{H K},An (r! L (n+43)) BL [I (x0.tdiv 9),.v (.int .i64 3)] H K=K (I (pk (x0.tdiv 9) 3)):= λ{H K}=>Mw (n:=n+42) (N0 i0 (by decide)) (by decide) (by decide) H K;have ad:∀{K:AV->Af},Go.Abs.Ap Ab .add (.v (.int .i64 1)) (I (pk (x0.tdiv 9) 3)) K=K (I (1+pk (x0.tdiv 9) 3)):= λ{K}=>by rw[Dm,CW (by omega) (by omega)]
   obtain⟨m, -⟩:=rd6 t.mc.h1;obtain⟨HA,a5,aj,rA,kA⟩:=A8N (i:=DP) (p:=55) (vs:=(rr (1+(pk (x0.tdiv 3) 3).toNat)).cs) t.mc hr rfl (by show 55+9<=68;decide) rfl rfl
    (cs':=Et 3 ⟨1+pk x1 3,1+pk x2 9,1+pk x3 4,pk x4 50,pk x5 30⟩ (uu p.out) (qn (pk (x3.tdiv 4) 161-80)) (qd (pk (x3.tdiv 4) 161-80)) (FD (Ln [f0,f1,f2,f3,f4,f5] 6)) (qn (pk (x4.tdiv 50) 9)) (qd (pk (x4.tdiv 50) 9)) v p.id (BO p.ks) (Cs p.xs) (uu p.out) (rr (1+(pk (x0.tdiv 3) 3).toNat)) 0) rfl
   obtain⟨ap, -⟩:=rd6 aj.h1;rw[B9i,m,mG i0 (by decide),ay,dK,a5,B9i,ap,mG i0 (by decide),ax,ad,dK,Ed rA (show 64<68 by decide) rfl rfl rfl];exact k _ _ (aj.upd _) (AC rA) rfl (Rq (Vs _) (B2.one t.sv) rfl rfl) rfl (λs q j h=>by rw[Ag j];exact kA s q j h)
end
end
end Go.Abs
end
