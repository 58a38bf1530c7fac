import Derived.Test.YtojijcneheboaaaGreatDoorP27
set_option linter.all false
set_option maxHeartbeats 0
noncomputable section
namespace Go.Abs
open Go.RowKit Go.Proofs
set_option maxRecDepth 100000
section
variable{L n:Nat}
section
variable{K:KV}{x:Af}{gs:dn}{a w o sm:AV}{H:Hp}{ws:List Int}
def xM{ps:List Ha}{K:K2}:Bh Ab (Dp ps) K=K (I ps.length):=(Ng ps).len
end
end
section
variable{L n:Nat}
section
variable{K:KV}{x:Af}{H:Hp}{l:List AQ}{p:AQ}{a:AV}
end
section
variable{K:KV}{x:Af}{H:Hp}{il al sl cp:List AQ}{idk:AQ}{k r rc:Nat}{less:dn}{v:AV}{R:Rt}
end
end
section
variable{L n:Nat}
section
variable{α:Type}{f:α->Is}{w:Nat}
def A3W(c:∀x,(f x).length=w):∀(l:List α)(m:Nat),(l.flatMap f).take (m*w)=(l.take m).flatMap f/\(l.flatMap f).drop (m*w)=(l.drop m).flatMap f:=by
 intro l
 induction l with
 |nil=>intro m;simp
 |cons a l ih=>
  intro m;cases m with
  |zero=>simp
  |succ m=>
   obtain⟨h1,h2⟩:=ih m;have e:(m+1)*w=(f a).length+m*w:=by rw[c,uY];omega
   rw[jH,e,List.take_length_add_append,List.drop_length_add_append,h1,h2];exact⟨rfl,rfl⟩
def mG(c:∀x,(f x).length=w):∀l:List α,(l.flatMap f).length=l.length*w:=by
 intro l
 induction l with
 |nil=>simp
 |cons a l ih=>rw[jH,EJ,c,ih,Kj,uY];omega
end
section
variable{gs less:dn}{H:Hp}{K:K2}{D:Nat}
def A5O:∀l:dn,(l.flatMap Cd.cs).all AV.one=true:=by
 intro l
 induction l with
 |nil=>rfl
 |cons c l ih=>rw[jH,List.all_append,Ic,ih];rfl
def A9q{r m i:Nat}(h:i<m):Dh A9 (.sl 68 r 0 m) (I (i:Int)) K=K (.ptr r (i*68) 0):=by
 have a:Dh A9 (.sl 68 r 0 m) (I (i:Int)) K=iN (i:Int) λn=>ck (Nat.blt n m) (fN (Nat.add 0 (Nat.mul n 68)) λp=>K (.ptr r p 0)):=rfl;rw[a,JH,D5];have h1:Nat.blt i m=true:=by rw[VD];exact h
 have c:Nat.add 0 (Nat.mul i 68)=i*68:=Kk _;rw[h1,c];rfl
def C3G{K:KV}:Gt Ad 68 Ae 0 [] H K=K (.sl 68 (Ax H) 0 0) ((Ax H,.cells false Ad [])::H):=by
 have e:Gt Ad 68 Ae 0 [] H K=HV H (λs=>K (.sl 68 s 0 0) ((s,.cells false Ad [])::H)):=r_ rfl;rw[e,BW]
end
section
variable{gs:dn}{k:Nat}
end
end
section
variable{L n:Nat}
section
variable{c m:Int}
def S_(hc:KO c)(hm:0<m)(d:m<9223372036854775808):PS (r! L (n+1)) Ll [I c,I m] (I (pk c m)):=by
 refine CS.ps (λK e=>?_) (λH=>λK=>by kernel_rfl);rw[pY];unfold Vd Az;simp only[BJ];exact(oW (K:=λv=>K v []) hc hm d rfl).trans (e _ _ (λb=>⟨false,λK=>by kernel_rfl⟩))
end
section
variable{K:KV}{x:Af}{H:Hp}{l:List AQ}{p:AQ}{a:AV}
end
end
section
variable{q:Bool}{K:Ru}{i r:Nat}
variable{L n:Nat}
section
variable{H:Hp}{ms gs:dn}{vm:AV}{x0:Af}
def B3g{i:TI}{s p e:Nat}{cs vs:Is}(d:Al H s=some (.cells q e cs))(f:p+vs.length<=cs.length)(hz:vs.length=i.size)(h1:vs.all AV.one=true):Dr i (.ptr s p 0) (.agg vs) H K=K (upd H s (.cells q e (splice cs p vs))):=by
 have c:Dr i (.ptr s p 0) (.agg vs) H K=IN H s λx=>fJ x λq e cs=>Hz (.agg vs) λvs=>HD vs 0 λn=>ck (Nat.beq n i.size) (ck (PI vs) (DN (Nat.add p 0) vs cs λa=>JI H s (.cells q e a) K)):=rfl;rw[c,Bq d];show(Hz (.agg vs) λvs=>HD vs 0 λn=>ck (Nat.beq n i.size) (ck (PI vs) (DN (Nat.add p 0) vs cs λa=>JI H s (.cells q e a) K)))=_;have hc:B2 (.agg vs)=vs:=rfl;rw[CQ,hc,Cs,Kk,hz,ZX,Gu,h1];show DN p vs cs _=_;rw[IP _ _ _ _ f,C5]
def A8M{α:Type}{f:α->Is}{w:Nat}(a:∀x,(f x).length=w):∀(l:List α)(i:Nat)(c:α),i<l.length->splice (l.flatMap f) (i*w) (f c)=(l.set i c).flatMap f:=by
 intro l i c d;obtain⟨g,j⟩:=A3W a l i;obtain⟨_,h⟩:=A3W a l (i+1);unfold splice;have e:i*w+(f c).length=(i+1)*w:=by rw[a,uY,Nat.one_mul]
 rw[e,g,h,List.set_eq_take_append_cons_drop,CZ d,l2g,jH,eU]
def A9n(c:Al H r=some (.cells q Ad (ms.flatMap Cd.cs)))(a:i<ms.length){K:K2}:A7 Ae (.ptr r (i*68) 0) H K=K (.agg ms[i].cs):=by
 rw[Dl rfl c (by rw[mG (λ_=>BC)];show i*68+68<=_;omega)];show K (.agg (((ms.flatMap Cd.cs).drop (i*68)).take 68))=_;rw[dJ Cd.cs 68 (λ_=>BC) ms i a]
def A9c(d:Al H r=some (.cells q Ad (ms.flatMap Cd.cs)))(a:i<ms.length){c:Cd}:Dr Ae (.ptr r (i*68) 0) (.agg c.cs) H K=K (upd H r (.cells q Ad ((ms.set i c).flatMap Cd.cs))):=by
 rw[B3g d (by rw[mG (λ_=>BC),BC];omega) BC Ic,A8M (λ_=>BC) _ _ _ a]
def C0Z{ws:List Int}{w b c:AV}{d:AV->AV->AV->KV}{K:KV}{a:AV}(u:NA ws w)(C:ms.length<=8)(N:∀(ms':dn)k,ms'.Perm ms->Wf k->(∃q,Al k r=some (.cells q Ad (ms'.flatMap Cd.cs)))->d a b c (.sl 68 r 0 ms.length) k=x0):
 ∀(F i:Nat)(ms':dn)(H:Hp),20-i<F->i<=20->ms'.Perm ms->Wf H->(∃q,Al H r=some (.cells q Ad (ms'.flatMap Cd.cs)))->
  KB (L+20) (r! L (n+1)) K d F w a b c (.sl 68 r 0 ms.length) (I (i:Int)) H=x0:=by
 intro F
 induction F with
 |zero=>intro i ms' H h;omega
 |succ F ih=>
  intro i ms' H P Q t wf hr;have M:ms'.length=ms.length:=t.length_eq;rw[Vl];unfold KC HN Lo BK Az Fk;rw[u.len];have y:∀{F:K2},Bh A9 (.sl 68 r 0 ms.length) F=F (I (ms.length:Int)):=λ{F}=>id rfl;by_cases h1:i<ws.length/\i<20/\0<ms.length
  ·obtain⟨h1,h2,O⟩:=h1;rw[Fo (by omega)];simp only[gT,Ck];rw[Fo (by omega)];simp only[Xu,gT,Ck,y];have gt:∀{F:K2},Ap Ac .gtr (I (ms.length:Int)) (.v (.int .i64 0)) F=F (Bo true):=λ{F}=>by rw[DB,Ki (by omega)]
   simp only[gt,Xu,gT,Ck,CA];have hz:=u.2.2 _ (Of h1);generalize x:ws[i]=z at hz;have ia:∀{F:K2},(Dh AO w (I (i:Int)) λp=>A7 Ac p H F)=F (I z):=λ{F}=>by rw[<-x];exact u.ia h1 (by omega)
   rw[ia];have g:∀{z:Int}{F:K2},KO z->Aj (r! L (n+1)) Ll [I z,I (ms.length:Int)] H F=F (I (pk z ms.length)):=λ{z F}hz=>S_ (n:=n) hz (by omega) (by omega) H F;rw[g hz,ia,ZC hz (by decide),g (L9 hz (by decide))];obtain⟨a1,a2⟩:=EM (c:=z) (n:=(ms.length:Int)) (by omega);obtain⟨b1,b2⟩:=EM (c:=z.tdiv 8) (n:=(ms.length:Int)) (by omega);generalize pk z ms.length=D at a1 a2;generalize pk (z.tdiv 8) ms.length=J at b1 b2;obtain⟨A,rfl⟩:∃A:Nat,D=(A:Int):=⟨D.toNat,by omega⟩
   obtain⟨B,rfl⟩:∃B:Nat,J=(B:Int):=⟨J.toNat,by omega⟩
   have m:A<ms'.length:=by omega
   have s:B<ms'.length:=by omega
   obtain⟨q,j⟩:=hr;simp only[A9q (show A<ms.length by omega),A9q (show B<ms.length by omega),BN,A9n j m,A9n j s,A9c j m,Ck];have f:=A5 (q:=q) (e:=Ad) (cs:=(ms'.set A ms'[B]).flatMap Cd.cs) j;rw[A9c f (by rw[List.length_set];exact s)];simp only[Ck];rw[Dg (by omega)];exact ih (i+1) ((ms'.set A ms'[B]).set B ms'[A]) _ (by omega) (by omega) ((List.set_set_perm m s).trans t) (Bs (Bs wf)) ⟨q,A5 f⟩
  ·have done:=N ms' H t wf hr;by_cases c1:i<ws.length
   ·rw[Fo (by omega)];simp only[gT,Ck];by_cases c2:i<20
    ·rw[Fo (by omega)];simp only[Xu,gT,Ck,y];have gt:∀{F:K2},Ap Ac .gtr (I (ms.length:Int)) (.v (.int .i64 0)) F=F (Bo false):=λ{F}=>by rw[DB,KD (by omega)]
     simp only[gt,Xu,Ck,Bm];exact done
    ·rw[XA2 (by omega)];simp only[Xu,Z_,Ck,ZG,Bm];exact done
   ·rw[XA2 (by omega)];simp only[Z_,ZG,Ck,Bm];exact done
end
end
end Go.Abs
end
noncomputable section
namespace Go.Proofs
open Go.Abs
set_option maxRecDepth 100000
def EE(L:Nat)(R:Rt)(K:KV)(k7:Ru)(ih:AV->AV->AV->KV):AV->AV->AV->KV:=λn d e c a=>
 Ap Ac .lss c e λf=>
 A2 f (Am (Dh Ay n c λv=>some (v,[])) λg=>
 Am (A7 B1 g a λv=>some (v,[])) λh=>
 Am (Dh Ay d c λv=>some (v,[])) λi=>
 Am (A7 B1 i a λv=>some (v,[])) λj=>
 Am (PW SD .neq h j λv=>some (v,[])) λk=>
 A2 k (K (AV.v (.bool false)) a) (Ap Ac .add c (AV.v (.int .i64 1)) λm=>
 ih n d e m a)) (k7 a)
def Dw(L:Nat)(R:Rt)(K:KV)(k7:Ru)(n:Nat):AV->AV->AV->KV:=@Nat.rec (λ_=>AV->AV->AV->KV) (λ_ _ _ _ _=>none) (λ_ ih=>EE L R K k7 ih) n
def K1(L:Nat)(R:Rt)(K:KV)(k7:Ru)(n:Nat):Dw L R K k7 (n+1)=EE L R K k7 (Dw L R K k7 n):=rfl
def EO(L:Nat)(R:Rt)(a0 a1:AV)(H:Hp)(K:KV):Af:=
 Bh Ay a0 λv1=>
 Bh Ay a1 λe=>
 Ap Ac .neq v1 e λf=>
 A2 f (K (AV.v (.bool false)) H) (jn (λa=>
 K (AV.v (.bool true)) a) λd=>
 Bh Ay a0 λg=>
 jn (λc=>
 d c) λk7=>
 Dw L R K k7 L a0 a1 g (AV.v (.int .i64 0)) H)
def La(L:Nat)(R:Rt)(a0 a1:AV)(H:Hp)(K:KV):eY (E L) (Jr (E L) R) Cg [a0,a1] H K=EO L R a0 a1 H K:=by kernel_rfl
def Lb(L n:Nat)(a b:AV)(H:Hp)(K:KV):(rt L (n+1)).call Cg [a,b] H K=EO L (rt L n) a b H K:=(show _=eY (E L) (Jr (E L) (rt L n)) Cg [a,b] H K from rfl).trans (La L (rt L n) a b H K)
def ED(L:Nat)(R:Rt)(K:KV)(k7:Ru)(ih:AV->AV->AV->KV):AV->AV->AV->KV:=λn d e c a=>
 Ap Ac .lss c e λf=>
 A2 f (Am (Dh Ai n c λv=>some (v,[])) λg=>
 Am (A7 Au g a λv=>some (v,[])) λh=>
 Am (Dh Ai d c λv=>some (v,[])) λi=>
 Am (A7 Au i a λv=>some (v,[])) λj=>
 Am (PW GT .neq h j λv=>some (v,[])) λk=>
 A2 k (K (AV.v (.bool false)) a) (Ap Ac .add c (AV.v (.int .i64 1)) λm=>
 ih n d e m a)) (k7 a)
def Dv(L:Nat)(R:Rt)(K:KV)(k7:Ru)(n:Nat):AV->AV->AV->KV:=@Nat.rec (λ_=>AV->AV->AV->KV) (λ_ _ _ _ _=>none) (λ_ ih=>ED L R K k7 ih) n
def K0(L:Nat)(R:Rt)(K:KV)(k7:Ru)(n:Nat):Dv L R K k7 (n+1)=ED L R K k7 (Dv L R K k7 n):=rfl
def EN(L:Nat)(R:Rt)(a0 a1:AV)(H:Hp)(K:KV):Af:=
 Bh Ai a0 λv1=>
 Bh Ai a1 λe=>
 Ap Ac .neq v1 e λf=>
 A2 f (K (AV.v (.bool false)) H) (jn (λa=>
 K (AV.v (.bool true)) a) λd=>
 Bh Ai a0 λg=>
 jn (λc=>
 d c) λk7=>
 Dv L R K k7 L a0 a1 g (AV.v (.int .i64 0)) H)
def KY(L:Nat)(R:Rt)(a0 a1:AV)(H:Hp)(K:KV):eY (E L) (Jr (E L) R) Cc [a0,a1] H K=EN L R a0 a1 H K:=by kernel_rfl
def KZ(L n:Nat)(a b:AV)(H:Hp)(K:KV):(rt L (n+1)).call Cc [a,b] H K=EN L (rt L n) a b H K:=(show _=eY (E L) (Jr (E L) (rt L n)) Cc [a,b] H K from rfl).trans (KY L (rt L n) a b H K)
def EF(L:Nat)(R:Rt)(K:KV)(k7:Ru)(ih:AV->AV->AV->KV):AV->AV->AV->KV:=λn d e c a=>
 Ap Ac .lss c e λf=>
 A2 f (Am (Dh Ar n c λv=>some (v,[])) λg=>
 Am (A7 AD g a λv=>some (v,[])) λh=>
 Am (Dh Ar d c λv=>some (v,[])) λi=>
 Am (A7 AD i a λv=>some (v,[])) λj=>
 Am (PW HQ .neq h j λv=>some (v,[])) λk=>
 A2 k (K (AV.v (.bool false)) a) (Ap Ac .add c (AV.v (.int .i64 1)) λm=>
 ih n d e m a)) (k7 a)
def Dx(L:Nat)(R:Rt)(K:KV)(k7:Ru)(n:Nat):AV->AV->AV->KV:=@Nat.rec (λ_=>AV->AV->AV->KV) (λ_ _ _ _ _=>none) (λ_ ih=>EF L R K k7 ih) n
def K3(L:Nat)(R:Rt)(K:KV)(k7:Ru)(n:Nat):Dx L R K k7 (n+1)=EF L R K k7 (Dx L R K k7 n):=rfl
def EP(L:Nat)(R:Rt)(a0 a1:AV)(H:Hp)(K:KV):Af:=
 Bh Ar a0 λv1=>
 Bh Ar a1 λe=>
 Ap Ac .neq v1 e λf=>
 A2 f (K (AV.v (.bool false)) H) (jn (λa=>
 K (AV.v (.bool true)) a) λd=>
 Bh Ar a0 λg=>
 jn (λc=>
 d c) λk7=>
 Dx L R K k7 L a0 a1 g (AV.v (.int .i64 0)) H)
def Lc(L:Nat)(R:Rt)(a0 a1:AV)(H:Hp)(K:KV):eY (E L) (Jr (E L) R) Ch [a0,a1] H K=EP L R a0 a1 H K:=by kernel_rfl
def Ld(L n:Nat)(a b:AV)(H:Hp)(K:KV):(rt L (n+1)).call Ch [a,b] H K=EP L (rt L n) a b H K:=(show _=eY (E L) (Jr (E L) (rt L n)) Ch [a,b] H K from rfl).trans (Lc L (rt L n) a b H K)
def Tn(L:Nat)(R:Rt)(a0 a1:AV)(H:Hp)(K:KV):Af:=
 Hd DF a0 H λv1 J=>
 Hd DF a1 J λD p=>
 Cl 0 v1 λM=>
 A7 Aw M p λN=>
 Cl 0 D λO=>
 A7 Aw O p λP=>
 PW IC .eql N P λi=>
 CP (VS true i λg=>@Bool.rec (λ_=>Af) (some (AV.v undef,p)) (Cl 3 v1 λv=>some (v,p)) g) λr c=>
 CP (VS true i λg=>@Bool.rec (λ_=>Af) (some (AV.v undef,c)) (A7 Aw r c λv=>some (v,c)) g) λs j=>
 CP (VS true i λg=>@Bool.rec (λ_=>Af) (some (AV.v undef,j)) (Cl 3 D λv=>some (v,j)) g) λt d=>
 CP (VS true i λg=>@Bool.rec (λ_=>Af) (some (AV.v undef,d)) (A7 Aw t d λv=>some (v,d)) g) λu k=>
 CP (VS true i λg=>@Bool.rec (λ_=>Af) (some (AV.v undef,k)) (PW IC .eql s u λv=>some (v,k)) g) λw m=>
 B8 i w (AV.v (.bool false)) λa=>
 CP (VS true a λg=>@Bool.rec (λ_=>Af) (some (AV.v undef,m)) (Cl 2 v1 λv=>some (v,m)) g) λx e=>
 CP (VS true a λg=>@Bool.rec (λ_=>Af) (some (AV.v undef,e)) (A7 Ay x e λv=>some (v,e)) g) λy n=>
 CP (VS true a λg=>@Bool.rec (λ_=>Af) (some (AV.v undef,n)) (Cl 2 D λv=>some (v,n)) g) λA f=>
 CP (VS true a λg=>@Bool.rec (λ_=>Af) (some (AV.v undef,f)) (A7 Ay A f λv=>some (v,f)) g) λB h=>
 CP (VS true a λg=>@Bool.rec (λ_=>Af) (some (AV.v undef,h)) (Aj R Cg [y,B] h λv=>some (v,h)) g) λC q=>
 B8 a C (AV.v (.bool false)) λF=>
 K F q
def kW(L:Nat)(R:Rt)(a0 a1:AV)(H:Hp)(K:KV):eY (E L) (Jr (E L) R) HP [a0,a1] H K=Tn L R a0 a1 H K:=by kernel_rfl
def kX(L n:Nat)(a b:AV)(H:Hp)(K:KV):(rt L (n+1)).call HP [a,b] H K=Tn L (rt L n) a b H K:=(show _=eY (E L) (Jr (E L) (rt L n)) HP [a,b] H K from rfl).trans (kW L (rt L n) a b H K)
def O8(L:Nat)(R:Rt)(a0 a1:AV)(H:Hp)(K:KV):Af:=
 Hd BO a0 H λv1 H2=>
 Hd BO a1 H2 λx w=>
 Cl 0 v1 λv5=>
 A7 Ac v5 w λv6=>
 Cl 0 x λv7=>
 A7 Ac v7 w λv8=>
 Ap Ac .eql v6 v8 λn=>
 CP (VS true n λg=>@Bool.rec (λ_=>Af) (some (AV.v undef,w)) (Cl 3 v1 λv=>some (v,w)) g) λA d=>
 CP (VS true n λg=>@Bool.rec (λ_=>Af) (some (AV.v undef,d)) (A7 Au A d λv=>some (v,d)) g) λB p=>
 CP (VS true n λg=>@Bool.rec (λ_=>Af) (some (AV.v undef,p)) (Cl 3 x λv=>some (v,p)) g) λC e=>
 CP (VS true n λg=>@Bool.rec (λ_=>Af) (some (AV.v undef,e)) (A7 Au C e λv=>some (v,e)) g) λD q=>
 CP (VS true n λg=>@Bool.rec (λ_=>Af) (some (AV.v undef,q)) (PW GT .eql B D λv=>some (v,q)) g) λF r=>
 B8 n F (AV.v (.bool false)) λa=>
 CP (VS true a λg=>@Bool.rec (λ_=>Af) (some (AV.v undef,r)) (Cl 1 v1 λv=>some (v,r)) g) λJ f=>
 CP (VS true a λg=>@Bool.rec (λ_=>Af) (some (AV.v undef,f)) (A7 Ai J f λv=>some (v,f)) g) λM s=>
 CP (VS true a λg=>@Bool.rec (λ_=>Af) (some (AV.v undef,s)) (Cl 1 x λv=>some (v,s)) g) λN h=>
 CP (VS true a λg=>@Bool.rec (λ_=>Af) (some (AV.v undef,h)) (A7 Ai N h λv=>some (v,h)) g) λO i=>
 CP (VS true a λg=>@Bool.rec (λ_=>Af) (some (AV.v undef,i)) (Aj R Cc [M,O] i λv=>some (v,i)) g) λP t=>
 B8 a P (AV.v (.bool false)) λc=>
 CP (VS true c λg=>@Bool.rec (λ_=>Af) (some (AV.v undef,t)) (Cl 2 v1 λv=>some (v,t)) g) λQ j=>
 CP (VS true c λg=>@Bool.rec (λ_=>Af) (some (AV.v undef,j)) (A7 Ar Q j λv=>some (v,j)) g) λV u=>
 CP (VS true c λg=>@Bool.rec (λ_=>Af) (some (AV.v undef,u)) (Cl 2 x λv=>some (v,u)) g) λX k=>
 CP (VS true c λg=>@Bool.rec (λ_=>Af) (some (AV.v undef,k)) (A7 Ar X k λv=>some (v,k)) g) λY m=>
 CP (VS true c λg=>@Bool.rec (λ_=>Af) (some (AV.v undef,m)) (Aj R Ch [V,Y] m λv=>some (v,m)) g) λZ y=>
 B8 c Z (AV.v (.bool false)) λaa=>
 K aa y
def YL(L:Nat)(R:Rt)(a0 a1:AV)(H:Hp)(K:KV):eY (E L) (Jr (E L) R) D1 [a0,a1] H K=O8 L R a0 a1 H K:=by kernel_rfl
def YM(L n:Nat)(a b:AV)(H:Hp)(K:KV):(rt L (n+1)).call D1 [a,b] H K=O8 L (rt L n) a b H K:=(show _=eY (E L) (Jr (E L) (rt L n)) D1 [a,b] H K from rfl).trans (YL L (rt L n) a b H K)
def GL(L:Nat)(R:Rt)(a0 a1:AV)(H:Hp)(K:KV):Af:=
 Aj R FX [a0,a1] H λv1=>
 K v1 H
def Oc(L:Nat)(R:Rt)(a0 a1:AV)(H:Hp)(K:KV):eY (E L) (Jr (E L) R) Bg [a0,a1] H K=GL L R a0 a1 H K:=by kernel_rfl
def Od(L n:Nat)(a b:AV)(H:Hp)(K:KV):(rt L (n+1)).call Bg [a,b] H K=GL L (rt L n) a b H K:=(show _=eY (E L) (Jr (E L) (rt L n)) Bg [a,b] H K from rfl).trans (Oc L (rt L n) a b H K)
def J1(L:Nat)(R:Rt)(a0:AV)(H:Hp)(K:KV):Af:=
 Hd Ad a0 H λv1 u=>
 Ba Xj On u λt a=>
 Cl 0 v1 λv=>
 A7 Ac v a λw=>
 Cl 1 v1 λx=>
 A7 Ac x a λy=>
 Cl 2 v1 λA=>
 A7 Ac A a λd=>
 Cl 3 v1 λe=>
 A7 Ac e a λf=>
 Cl 4 v1 λg=>
 A7 Ac g a λh=>
 Cl 5 v1 λi=>
 A7 Ac i a λj=>
 Cl 64 v1 λk=>
 A7 Ac k a λm=>
 Cl 65 v1 λn=>
 Cl 0 n λp=>
 A7 Ac p a λq=>
 BZ On [(0,1,w),(1,1,y),(2,1,d),(3,1,f),(4,1,h),(5,1,j),(6,1,m),(7,1,q)] λr=>
 Dr On t r a λc=>
 A7 On t c λs=>
 K s c
def Tk(L:Nat)(R:Rt)(a0:AV)(H:Hp)(K:KV):eY (E L) (Jr (E L) R) Bu [a0] H K=J1 L R a0 H K:=by kernel_rfl
def Tl(L n:Nat)(a:AV)(H:Hp)(K:KV):(rt L (n+1)).call Bu [a] H K=J1 L (rt L n) a H K:=(show _=eY (E L) (Jr (E L) (rt L n)) Bu [a] H K from rfl).trans (Tk L (rt L n) a H K)
end Go.Proofs
end
noncomputable section
namespace Go.Abs
open Go.RowKit Go.Proofs
set_option maxRecDepth 100000
def Lr(gs:dn)(s:AQ):List AQ:=match Jo (gE gs) s with
 |some c=>c.ps
 |none=>[]
inductive Anc(gs:dn)(s:AQ):AQ->Prop
 |one {x:AQ}:x∈gs.map Cd.id->x∈Lr gs s->Anc gs s x
 |more {x y:AQ}:Anc gs s y->x∈gs.map Cd.id->x∈Lr gs y->Anc gs s x
section
variable{gs:dn}{s x y p:AQ}
def Anc.ids(h:Anc gs s x):x∈gs.map Cd.id:=by
 cases h with
 |one h _=>exact h
 |more _ h _=>exact h
end
open Classical in
def iX(gs:dn)(s:AQ):List AQ:=FF ((gs.map Cd.id).filter λx=>decide (Anc gs s x))
section
variable{gs:dn}{s x p:AQ}
def eI:x∈iX gs s↔Anc gs s x:=by
 rw[iX,(BF _).mem_iff,l2u,@decide_eq_true_iff _ (_)];exact⟨λh=>h.2,λh=>⟨h.ids,h⟩⟩
def zX(h:(gs.map Cd.id).Nodup):(iX gs s).Nodup:=(BF _).symm.nodup (h.sublist List.filter_sublist)
def A2Y:(iX gs s).Pairwise (· <= ·):=DJ _
def A0K:(iX gs s).length<=gs.length:=by
 rw[iX,(BF _).length_eq];have:=l2v (λx=>@decide (Anc gs s x) (Classical.propDecidable _)) (gs.map Cd.id);rw[Ub]at this;exact this
structure An(gs:dn)(s:AQ)(b ns:List AQ):Prop where
 nd:b.Nodup
 an:∀q∈b,Anc gs s q
 nx:∀q∈ns,q∈Lr gs s\/∃y∈b,q∈Lr gs y
 cl:∀q∈gs.map Cd.id,(q∈Lr gs s\/∃y∈b,q∈Lr gs y)->q∈b\/q∈ns
def An.start:An gs s [] (Lr gs s):=⟨List.nodup_nil,by simp,λq h=>.inl h,λq _ h=>h.elim .inr λ⟨_,h,_⟩=>absurd h (by simp)⟩
def An.fin{b:List AQ}(hn:(gs.map Cd.id).Nodup)(h:An gs s b []):b.Perm (iX gs s):=by
 refine(l2x h.nd (zX hn)).2 λq=>⟨λhq=>eI.2 (h.an q hq),λhq=>?_⟩
 rw[eI]at hq
 induction hq with
 |one h1 h2=>exact(h.cl _ h1 (.inl h2)).elim id λh=>absurd h (by simp)
 |more _ h1 h2 ih=>exact(h.cl _ h1 (.inr ⟨_,ih,h2⟩)).elim id λh=>absurd h (by simp)
def An.skip{b nx:List AQ}(h:An gs s b (p::nx))(a:p∈b\/p∉gs.map Cd.id):An gs s b nx:=
 ⟨h.nd,h.an,λq hq=>h.nx q (by simp[hq]),λq hq hc=>by
  rcases h.cl q hq hc with h1|h1
  ·exact .inl h1
  ·rcases Qd.1 h1 with rfl|h1
   ·exact a.elim .inl λh2=>absurd hq h2
   ·exact .inr h1⟩
def An.step{b nx:List AQ}(h:An gs s b (p::nx))(hb:p∉b)(g:p∈gs.map Cd.id):An gs s (b++[p]) (nx++Lr gs p):=by
 refine⟨l2y.2 ⟨h.nd,by simp,λa i c hc=>by simp at hc;subst hc;exact λe=>hb (e▸i)⟩,λq hq=>?_,λq hq=>?_,λq hq hc=>?_⟩
 ·rcases Yp.1 hq with h1|h1
  ·exact h.an q h1
  ·rw[ZW]at h1;subst h1;rcases h.nx q (by simp) with h2|⟨y,h2,d⟩
   ·exact .one g h2
   ·exact .more (h.an y h2) g d
 ·rcases Yp.1 hq with h1|h1
  ·rcases h.nx q (by simp[h1]) with h2|⟨y,h2,d⟩
   ·exact .inl h2
   ·exact .inr ⟨y,by simp[h2],d⟩
  ·exact .inr ⟨p,by simp,h1⟩
 ·by_cases f:q=p
  ·exact .inl (by simp[f])
  ·have h1:(q∈Lr gs s\/∃y∈b,q∈Lr gs y)\/q∈Lr gs p:=by
    rcases hc with h1|⟨y,h1,h2⟩
    ·exact .inl (.inl h1)
    ·rcases Yp.1 h1 with d|d
     ·exact .inl (.inr ⟨y,d,h2⟩)
     ·rw[ZW]at d;exact .inr (d▸h2)
   rcases h1 with h1|h1
   ·rcases h.cl q hq h1 with h2|h2
    ·exact .inl (by simp[h2])
    ·rcases Qd.1 h2 with h2|h2
     ·exact absurd h2 f
     ·exact .inr (by simp[h2])
   ·exact .inr (by simp[h1])
def A6R(gs:dn)(b:List AQ):Nat:=((gs.map Cd.id).filter λq=>decide (q∉b)).length
def B10{b:List AQ}:A6R gs b<=gs.length:=by
 have:=l2v (λq=>decide (q∉b)) (gs.map Cd.id);rw[Ub]at this;exact this
def A4O{b:List AQ}(hb:p∉b)(c:p∈gs.map Cd.id):A6R gs (b++[p])<A6R gs b:=by
 refine iF (p:=λq=>decide (q∉b++[p])) (q:=λq=>decide (q∉b)) (λa _ h=>?_) c (by simp[hb]) (by simp);simp only[decide_eq_true_eq,Yp,not_or]at h⊢;exact h.1
def A3A(a:∀c∈gs,c.ps.length<100):(Lr gs p).length<100:=by
 unfold Lr;cases h:Jo (gE gs) p with
 |none=>simp
 |some c=>exact a c (A8K h).1
end
def MT(H:Hp)(v:AV)(l:List AQ):Prop:=(v=A1/\l=[])\/∃r o q cs,v=.sl 1 r o l.length/\Al H r=some (.cells q Ao cs)/\cs.drop o=AJ l/\o+l.length=cs.length
section
variable{H:Hp}{v:AV}{l ps:List AQ}{K:K2}{p:AQ}
def MT.len(h:MT H v l):Bh Ab v K=K (I l.length):=by
 rcases h with⟨rfl,rfl⟩|⟨r,o,q,cs,rfl,_⟩<;>exact r_ rfl
def B3k{r o m:Nat}(h:0<m):Dh Ab (.sl 1 r o m) (.v (.int .i64 0)) K=K (.ptr r o 0):=by
 have a:Dh Ab (.sl 1 r o m) (I ((0:Nat):Int)) K=iN ((0:Nat):Int) λn=>ck (Nat.blt n m) (fN (Nat.add o (Nat.mul n 1)) λp=>K (.ptr r p 0)):=rfl;show Dh Ab (.sl 1 r o m) (I ((0:Nat):Int)) K=_;rw[a,JH,D5];have h1:Nat.blt 0 m=true:=by rw[VD];exact h
 rw[h1];rfl
def B3h{r o m:Nat}(h:0<m):EI Ab (.sl 1 r o m) (some (.v (.int .i64 1))) none none K=K (.sl 1 r (o+1) (m-1)):=by
 have d:EI Ab (.sl 1 r o m) (some (I ((1:Nat):Int))) none none K=ck (Nat.beq 1 1) (iN ((1:Nat):Int) λl=>fN m λh=>fN m λx=>ck ((true||false)&&(Nat.ble l h&&(Nat.ble h x&&Nat.ble x m))) (fN (Nat.add o (Nat.mul l 1)) λa=>fN (Nat.sub h l) λn=>K (.sl 1 r a n))):=rfl;show EI Ab (.sl 1 r o m) (some (I ((1:Nat):Int))) none none K=_;rw[d,JH,D5,D5];have c:((true||false)&&(Nat.ble 1 m&&(Nat.ble m m&&Nat.ble m m)))=true:=by simp;omega
 rw[c];show fN (Nat.add o (Nat.mul 1 1)) (λa=>fN (Nat.sub m 1) λn=>K (.sl 1 r a n))=_;rw[D5,D5];rfl
def MT.front(h:MT H v (p::l)):∃r o v1,(∀K:K2,Dh Ab v (.v (.int .i64 0)) K=K (.ptr r o 0))/\(∀K:K2,A7 Ag (.ptr r o 0) H K=K (S p))/\
 (∀K:K2,EI Ab v (some (.v (.int .i64 1))) none none K=K v1)/\MT H v1 l/\∀u,A6 v1 u->A6 v u:=by
 rcases h with⟨_,h⟩|⟨r,o,q,cs,rfl,h1,h2,f⟩
 ·cases h
 ·rw[Kj]at f;have d:o<cs.length:=by omega
  rw[tK d]at h2;injection h2 with g i
  refine⟨r,o,.sl 1 r (o+1) l.length,λK=>B3k (by simp),λK=>?_,λK=>?_,.inr ⟨r,o+1,q,cs,rfl,h1,i,by omega⟩,λu ⟨a,b,c,e⟩=>?_⟩
  ·rw[AH (p:=o) rfl h1 d];rw[T9,JC d,l1l,g]
  ·rw[B3h (by simp)];rfl
  ·injection e with _ e;subst e;exact⟨1,o,_,rfl⟩
def MT.lat{a:Hp}{P:Nat->Prop}(h:MT H v l)(w:Wf H)(k:Lat H a P)(d:∀u,A6 v u->¬P u):MT a v l:=by
 rcases h with h|⟨r,o,q,cs,h1,h2,c⟩
 ·exact .inl h
 ·exact .inr ⟨r,o,q,cs,h1,k.keep w r _ h2 (d r ⟨1,o,_,h1⟩),c⟩
theorem MT.lt(h:MT H v l)(w:Wf H){u:Nat}(d:A6 v u):u<Ax H:=by
 obtain⟨a,b,c,rfl⟩:=d;rcases h with⟨h,_⟩|⟨r,o,q,cs,h1,h2,e⟩
 ·cases h
 ·injection h1 with _ h1;subst h1;exact w.lt h2
def A0i{K:Nat->Is->Af}:Ui H (Dp ps) K=K ps.length (AJ ps):=by
 cases ps with
 |nil=>exact A9e
 |cons a l=>exact Uh
def M?:(AJ ps).all AV.one=true:=by
 rw[G8];intro y a;obtain⟨s,_,rfl⟩:=Us.1 a;rfl
def uM:(jC Ab.d&&V3 1 (Dp ps))=true:=by
 cases ps<;>rfl
def MT.app(h:MT H v l)(hn:l.length+ps.length<1000000):∃k f,(∀K:KV,Ed Ao 1 Ag Ab v (Dp ps) H K=K k f)/\MT f k (l++ps)/\(∀u,A6 k u->u=Ax H)/\Lat H f (A6 v):=by
 have hb:(l.length+ps.length)*Ag.bytes<=70368744177664:=by
  have:Ag.bytes<=100000:=by decide
  exact gP (Nat.mul_le_mul (show l.length+ps.length<=1000000 by omega) this) (by decide)
 rcases h with⟨rfl,rfl⟩|⟨r,o,q,cs,rfl,h1,h2,O⟩
 ·obtain⟨k,f,J,L,M,N⟩:=apt (H:=H) (e:=Ao) (sz:=1) (n:=0) (m:=ps.length) (ie:=Ag) (i2:=Ab) (v:=A1) (src:=Dp ps) (cs:=[]) (ys:=AJ ps) (.inl ⟨rfl,rfl,rfl⟩) (λK=>A0i) (by rw[Cb];omega) M? (by decide) rfl uM (by simpa using hb) (by omega);refine⟨k,f,J,?_,M,N⟩;rcases L with⟨rfl,a,b⟩|⟨r,q,rfl,a,b⟩
  ·left;refine⟨rfl,?_⟩;have:ps.length=0:=by omega
   rw[l35];exact lX this
  ·exact .inr ⟨r,0,q,_,by simp,a,by simp,by simp[Cb]⟩
 ·have j:∀K:KV,Um Ao 1 Ag Ab (.sl 1 r o l.length) (Dp ps) H K=IN H r λx=>Ku x λE cs=>HD cs 0 λcl=>
   ck (Nat.beq E Ao&&(Nat.beq 1 1&&(Nat.beq (Nat.add o (Nat.mul l.length 1)) cl&&(Nat.ble (Nat.mul (Nat.add l.length ps.length) Ag.bytes) 70368744177664&&Nat.ble (Nat.add l.length ps.length) 70368744177664))))
    (WX (D0 o cs) (AJ ps) λg=>JI H r .gone λf=>HV H λr=>fN (Nat.add l.length ps.length) λnm=>K (.sl 1 r 0 nm) ((r,.cells false Ao g)::f)):=λK=>by
   unfold Um;rw[A0i,Cs,CQ,Cs];have c:(Nat.beq (0+(AJ ps).length) (Nat.mul ps.length 1)&&(PI (AJ ps)&&(!Nat.beq 1 0&&(Nat.beq (0+(B2 Ag.zero).length) 1&&(jC Ab.d&&V3 1 (Dp ps))))))=true:=by
    rw[Gu,M?,uM,Cb];have t:Nat.beq (0+ps.length) (Nat.mul ps.length 1)=true:=by
     rw[Kk];show Nat.beq ps.length (ps.length*1)=true;rw[D'];exact ZX _
    rw[t];rfl
   rw[c];rfl
  refine⟨.sl 1 (Ax H) 0 (l.length+ps.length),(Ax H,.cells false Ao (AJ (l++ps)))::upd H r .gone,λK=>?_,?_,λu ⟨a,b,c,w⟩=>by injection w with _ w;exact w.symm,?_⟩
  ·have t:Ed Ao 1 Ag Ab (.sl 1 r o l.length) (Dp ps) H K=IN H r λx=>Ku x λE cs=>HD cs 0 λcl=>@Bool.rec (λ_=>Af) (RK (Nat.add o (Nat.mul l.length 1)) cs λg=>JI H r (.cells false E g) λC=>Um Ao 1 Ag Ab (.sl 1 r o l.length) (Dp ps) C K) (Um Ao 1 Ag Ab (.sl 1 r o l.length) (Dp ps) H K) (Nat.beq (Nat.add o (Nat.mul l.length 1)) cl):=rfl;rw[t,Bq h1];have B:∀F:TypeId->Is->Af,Ku (.cells q Ao cs) F=F Ao cs:=λ_=>rfl;rw[B,Cs];have A:Nat.beq (Nat.add o (Nat.mul l.length 1)) (0+cs.length)=true:=by
    show Nat.beq (o+l.length*1) (0+cs.length)=true;rw[D',O,Kk];exact ZX _
   rw[A];show Um Ao 1 Ag Ab (.sl 1 r o l.length) (Dp ps) H K=_;rw[j K];rw[Bq h1,B,Cs];have c:(Nat.beq Ao Ao&&(Nat.beq 1 1&&(Nat.beq (Nat.add o (Nat.mul l.length 1)) (0+cs.length)&&(Nat.ble (Nat.mul (Nat.add l.length ps.length) Ag.bytes) 70368744177664&&Nat.ble (Nat.add l.length ps.length) 70368744177664))))=true:=by
    rw[A,ZX,ZX];simp only[D_,J2,eT];exact⟨hb,show l.length+ps.length<=_ by omega⟩
   rw[c];show WX (D0 o cs) (AJ ps) _=_;rw[LR,C5,BW,D5,C9,h2];have D:AJ l++AJ ps=AJ (l++ps):=by simp[AJ]
   rw[D];rfl
  ·have i:=Av (H:=upd H r .gone) (x:=.cells false Ao (AJ (l++ps))) (by simp);rw[BV]at i;exact .inr ⟨Ax H,0,false,_,by rw[EJ],i,rfl,by rw[Cb];omega⟩
  ·have P:Lat H (upd H r .gone) (A6 (.sl 1 r o l.length)):=Lat.upd H r .gone ⟨1,o,_,rfl⟩;have i:=Lat.cons (upd H r .gone) (.cells false Ao (AJ (l++ps))) (A6 (.sl 1 r o l.length));rw[BV]at i;exact P.trans i (λ_ _ h=>h) (λ_ _ h=>h)
end
section
variable{L n:Nat}
section
variable{gs:dn}{s p:AQ}{H:Hp}{K:KV}{x:Af}{ps:List AQ}
def C1i(c:Cd){K:K2}:iO 31 Ab (.agg c.cs) K=K (Dp c.ps):=by
 match c with
 |.re b u=>exact r_ rfl
 |.co b p ps none=>exact r_ rfl
 |.co b p ps (some (k,vd))=>exact r_ rfl
def A9j{K:K2}:(Tt Ae false (gV gs) (SV s) H λv=>iO 31 Ab v K)=K (Dp (Lr gs s)):=by
 rw[dT (f:=JA) (b:=gE gs) (λK=>id rfl)];unfold Lr;cases a:Jo (gE gs) s with
 |none=>exact r_ rfl
 |some c=>exact C1i c
def C1N:Gt Ao 1 Ag 0 [] H K=K (.sl 1 (Ax H) 0 0) ((Ax H,.cells false Ao [])::H):=by
 have e:Gt Ao 1 Ag 0 [] H K=HV H (λs=>K (.sl 1 s 0 0) ((s,.cells false Ao [])::H)):=r_ rfl;rw[e,BW]
def A3j(wf:Wf H)(hn:ps.length<100)(g:∀v c,MT c v ps->(∀u y,Al H u=some y->Al c u=some y)->(∀u,A6 v u->Ax H<=u)->Wf c->K v c=x):
 (r! L (n+1)).call B4 [Dp ps] H K=x:=by
 rw[Ik];unfold El XA3;cases ps with
 |nil=>
  have e:∀{K:K2},Ap Ab .eql (Dp []) (AV.v (.slice none 0 0)) K=K (Bo true):=λ{K}=>id rfl;rw[e,CA];exact g A1 H (.inl ⟨rfl,rfl⟩) (λu y h=>h) (λu ⟨_,_,_,h⟩=>by cases h) wf
 |cons a l=>
  have e:∀{K:K2},Ap Ab .eql (Dp (a::l)) (AV.v (.slice none 0 0)) K=K (Bo false):=λ{K}=>id rfl;rw[e,Bm,C1N];have hb:=Av (H:=H) (x:=.cells false Ao []) (by simp);have w1:=AM (x:=.cells false Ao []) wf;obtain⟨q,c,i,j,k,f⟩:=MT.app (H:=(Ax H,.cells false Ao [])::H) (v:=.sl 1 (Ax H) 0 0) (l:=[]) (ps:=a::l) (.inr ⟨Ax H,0,false,[],rfl,hb,rfl,rfl⟩) (by simp at hn⊢;omega);rw[i];refine g q c j (λu y d=>?_) (λu d=>?_) (f.wf w1)
  ·have m:=wf.lt d;refine f.keep w1 u y (AK m d) λ⟨_,_,_,h⟩=>?_;injection h with _ h;omega
  ·have:=k u d;have h2:Ax ((Ax H,Row.cells false Ao [])::H)=Ax H+1:=rfl;omega
structure As(m:Nat)(b:List (AQ×Unit))(v:AV)(nx:List AQ)(H:Hp):Prop where
 mm:Al H m=some (.map false (Fc uS b) none)
 sl:MT H v nx
 nm:¬A6 v m
 wf:Wf H
def B8H{m:Nat}{N:KV}(hg:GOk gs)(hp:∀c∈gs,c.ps.length<100)(hx:∀b v H,As m b v [] H->An gs s (b.map Prod.fst) []->N (.mp m) H=x):
 ∀(f:Nat)(b:List (AQ×Unit))(nx:List AQ)(v:AV)(H:Hp),A6R gs (b.map Prod.fst)*100+nx.length<f->A6R gs (b.map Prod.fst)*100+nx.length<2000->As m b v nx H->An gs s (b.map Prod.fst) nx->
 Mv (L+20) (r! L (n+1)) K N f (gV gs) (.mp m) v H=x:=by
 intro f
 induction f with
 |zero=>intro b nx v H h;omega
 |succ f ih=>
  intro b nx v H hf Q t hn;have g:∀{K:K2},Ap Ac .gtr (I (nx.length:Int)) (.v (.int .i64 0)) K=K (Bo (decide (0<nx.length))):=λ{K}=>by
   rw[DB]
   congr 3
   simp
  rw[WR];unfold Mw BK Az Fk;rw[t.sl.len,g];cases nx with
  |nil=>
   rw[KD (by simp),Bm];exact hx b v H t hn
  |cons p nx=>
   obtain⟨r,o,v1,e1,e2,e3,s1,r1⟩:=t.sl.front;have P:∀(F:Value->Af),It (S p) F=F (SV p):=λF=>id rfl;rw[Kj]at hf Q;rw[Ki (by simp),CA];simp only[BJ];rw[e1,e2,e3,P,RS (f:=uS) (b:=b) (λK=>Qt t.mm)];obtain⟨d,Z,aa,O,k2⟩:=DY (e:=MU) (zs:=[]) (vs:=[]) t.wf rfl;have B:=(k2 _ _ t.mm).1;have V:Lat H d (λ_=>False):=⟨λ_=>O,by rw[Z,BV];exact l1p _,λ_ u y M _=>(k2 u y M).1⟩
   have s2:MT d v1 nx:=s1.lat t.wf V (λ_ _ h=>h);have n1:¬A6 v1 m:=λh=>t.nm (r1 m h);have a2:As m b v1 nx d:=⟨B,s2,n1,O⟩
   have z0:(B9.zero:AV)=.agg []:=rfl;have Y:∀{F:KV},(Ba MU B9 H λq A=>Dr B9 q (.agg []) A λk=>F q k)=F (.ptr (Ax H) 0 0) d:=λ{F}=>by
    rw[AP (cs:=[]) rfl,Bv (cs:=[]) (vs:=[]) (Av (by simp)) rfl rfl rfl,<-Z]
   cases C:Jo b p with
   |some w=>
    have i:p∈b.map Prod.fst:=Us.2 ⟨_,dH C,rfl⟩;simp only[];rw[CI,CH];show(Ba MU B9 H λq A=>Dr B9 q (.agg []) A λk=>_)=_;rw[Y (F:=λ_ k=>_)];rw[Jm];simp only[Bool.not_true,Z_,gU,Ck,ZG];rw[Bm];exact ih b nx v1 d (by omega) (by omega) a2 (hn.skip (.inl i))
   |none=>
    have i:p∉b.map Prod.fst:=λh=>by
     obtain⟨e,he,rfl⟩:=Us.1 h;have:∀b:List (AQ×Unit),e∈b->Jo b e.1≠none:=by
      intro b
      induction b with
      |nil=>intro h;cases h
      |cons a b ih=>
       intro h;unfold Jo;split
       ·simp
       ·rcases Qd.1 h with h|h
        ·subst h;exact absurd rfl ‹_›
        ·exact ih h
     exact this b he C
    simp only[];rw[CI,CH]
    try rw[z0]
    rw[Y (F:=λ_ k=>_)];rw[Jm];by_cases j:p∈gs.map Cd.id
    ·simp only[Bool.not_false,gT,Ck,lO,Ki j,Xu];have eb:∀{K:K2},BZ B9 [] K=K (.agg []):=λ{K}=>id rfl;rw[CA,eb,P];show Oh (.mp m) (SV p) (uS ()) d _=_;rw[SF (f:=uS) (v:=()) B,P,A9j];have l3:Lat d (upd d m (.map false (Fc uS (F1 b p ())) none)) (λu=>u=m):=Lat.upd _ _ _ rfl;have s3:MT (upd d m (.map false (Fc uS (F1 b p ())) none)) v1 nx:=s2.lat O l3 (λu M e=>n1 (e▸M));have D:Al (upd d m (.map false (Fc uS (F1 b p ())) none)) m=some (.map false (Fc uS (F1 b p ())) none):=(Dk B).trans rfl;have X:=l3.wf O;have ab:=A3A (p:=p) hp;obtain⟨v',H',g1,g2,g3,g4⟩:=s3.app (ps:=Lr gs p) (by omega);rw[g1];have hk:(F1 b p ()).map Prod.fst=b.map Prod.fst++[p]:=by rw[fW,Cr i]
     have hl:=A4O i j;have J:=hn.step i j;rw[<-hk]at hl J;have R:=g4.keep X _ _ D n1;exact ih (F1 b p ()) (nx++Lr gs p) v' H' (by rw[EJ];omega) (by rw[EJ];omega) ⟨R,g2,λM=>by have a1:=g3 m M;have a2:=X.lt D;omega,g4.wf X⟩ J
    ·simp only[Bool.not_false,gT,Ck,lO,KD j,Xu];rw[Bm];exact ih b nx v1 d (by omega) (by omega) a2 (hn.skip (.inr j))
def jB{a:AV}(f:GOk gs)(u:40000<L)(m:∀c∈gs,c.ps.length<100)(d:LA gs a):CS (r! L (n+80)) CL [a,S s] (Dp (iX gs s)):=by
 intro K g;rw[Lz];unfold I4;have h:Py true depth [a] [a] [] false:=by rcases d with rfl|⟨_,rfl⟩<;>exact λK=>by kernel_rfl
 have of:∀{K:K2},Aj (r! L (n+79)) Eb [a] [] K=K (.tup [gV gs,Bo true]):=λ{K}=>En (λK g=>wX (n:=n+15) f u d K g) h;have em:∀{K:KV},JK B9 [] K=K (.mp 0) [(0,.map false [] none)]:=λ{K}=>id rfl;have t:∀(F:Value->Af),It (S s) F=F (SV s):=λF=>id rfl;rw[of,CI,CH,em,t,A9j];simp only[BJ];have w1:Wf [(0,Row.map false [] none)]:=AM (H:=[]) E1;have j:=A3A (p:=s) m;have C:=f.len;have y:=B10 (gs:=gs) (b:=[]);refine A3j (n:=n+78) w1 j λv r A hk hr wf=>?_;have i:=hk 0 (.map false [] none) rfl;refine B8H (n:=n+78) (s:=s) f m (λb v H d hn=>?_) (L+20) [] (Lr gs s) v r (by simp;omega) (by simp;omega) ⟨i,A,λB=>absurd (hr 0 B) (by decide),wf⟩ An.start;have e:=hn.fin f.ids;have w:b.length<1000:=by
  have h1:=e.length_eq;have h2:=A0K (gs:=gs) (s:=s);rw[Ub]at h1;omega
 refine Wh (n:=n+73) (Uq 6 _ (A1N _)) (by omega) (by omega) d.wf d.mm e A2Y λv H hv k=>?_;exact g _ _ λbb=>by
  obtain⟨q,hq⟩:=X0 (D:=depth-1) (b:=bb) hv k;exact⟨q,hq⟩
end
end
section
variable{L n:Nat}
section
variable{gs:dn}{s:Ha}
def B2V(h:(gs.map Cd.id).Nodup){i:Nat}(d:i<gs.length):Jo (gr gs) gs[i].id=some (cE gs[i]):=by
 induction gs generalizing i with
 |nil=>simp at d
 |cons c gs ih=>
  rw[VC,List.nodup_cons]at h;show Jo ((c.id,cE c)::gr gs) _=_;unfold Jo;cases i with
  |zero=>rw[List.getElem_cons_zero,CZ rfl]
  |succ i=>
   rw[List.getElem_cons_succ];have a:i<gs.length:=by simpa using d
   rw[Cr (λe=>h.1 (Us.2 ⟨_,Of a,e.symm⟩))];exact ih h.2 a
end
end
section
variable{L n:Nat}
section
variable{gs:dn}{f:AQ->Bool}{s x y:AQ}
def A3z(h:(gs.map Cd.id).Nodup){i:Nat}(e:i<gs.length):Lr gs gs[i].id=gs[i].ps:=by
 have h1:=B2V h e;rw[yT]at h1;unfold Lr;cases d:Jo (gE gs) gs[i].id with
 |none=>rw[d]at h1;cases h1
 |some c=>
  rw[d]at h1;simp only[rT,l0y]at h1;exact congrArg Ce.ps h1
end
section
variable{K:KV}{x:Af}{H:Hp}{gs:dn}{a w:AV}{i:Nat}{R:Rt}
end
section
variable{K:KV}{l:List AQ}
def B1o{c:Ru}{x:Af}(k:l.length<1000)(e:∀H,c H=x):∀(f i:Nat)(H:Hp),i<=l.length->l.length-i<f->K5 (L+20) (r! L n) K c f (Dp l) (Dp l) (I i) H=x:=by
 intro f
 induction f with
 |zero=>intro i H _ h;omega
 |succ f ih=>
  intro i H j g;rw[UE];unfold K6 Lo Az Fk;rw[xM];by_cases h:i<l.length
  ·have d:∀{K:K2},Ap Ac .add (I i) (.v (.int .i64 1)) K=K (I ((i+1:Nat):Int)):=λ{K}=>Dg (by omega);rw[Fo (by omega),CA];simp only[(Ng l).ia h,Hy,BN,Ul,decide_true,Bool.not_true];rw[Bm,d];exact ih (i+1) H (by omega) (by omega)
  ·rw[XA2 (by omega),Bm];exact e H
def B4H(e:l.length<1000)(g:1000<L):CS (r! L (n+1)) Bl [Dp l,Dp l] (Bo true):=by
 intro K d;rw[VL];unfold Lu Az MS Fk;have ne:∀{K:K2},Ap Ac .neq (I (l.length:Int)) (I (l.length:Int)) K=K (Bo false):=λ{K}=>by rw[HF,Ki rfl];rfl
 rw[xM,xM,ne,Bm];simp only[BJ];have c:(AV.v (.int .i64 0))=I ((0:Nat):Int):=rfl;rw[c];exact B1o (n:=n) e (λH=>d _ _ λb=>⟨false,CG⟩) (L+20) 0 [] (by omega) (by omega)
end
end
section
variable{gs:dn}{out l:List AQ}{x y p m:AQ}
def B8z(gs:dn)(out:List AQ)(x:AQ):Bool:=decide (x∉out)&&(Lr gs x).all λp=>decide (p∉gs.map Cd.id)||decide (p∈out)
def A9H:B8z gs out x=true↔x∉out/\∀p∈Lr gs x,p∈gs.map Cd.id->p∈out:=by
 unfold B8z;rw[J2,decide_eq_true_eq,G8];refine and_congr Iff.rfl ⟨λh p c a=>?_,λh p c=>?_⟩
 ·have:=h p c;rw[l1d,decide_eq_true_eq,decide_eq_true_eq]at this;exact this.resolve_left λh=>h a
 ·rw[l1d,decide_eq_true_eq,decide_eq_true_eq];by_cases a:p∈gs.map Cd.id
  ·exact .inr (h p c a)
  ·exact .inl a
def sM(gs:dn)(out:List AQ):List AQ:=(gs.map Cd.id).filter (B8z gs out)
def Xq:x∈sM gs out↔x∈gs.map Cd.id/\x∉out/\∀p∈Lr gs x,p∈gs.map Cd.id->p∈out:=by
 rw[sM,l2u,A9H]
def gC(gs:dn):Nat->List AQ->List AQ
 |0,out=>out
 |n+1,out=>match FF (sM gs out) with
  |[]=>out
  |m::_=>gC gs n (out++[m])
def YH(gs:dn):List AQ:=gC gs gs.length []
structure OrdK(gs:dn)(out:List AQ):Prop where
 nd:out.Nodup
 ids:∀x∈out,x∈gs.map Cd.id
 pr:∀a x b,out=a++x::b->∀p∈Lr gs x,p∈gs.map Cd.id->p∈a
def OrdK.nil:OrdK gs []:=⟨List.nodup_nil,by simp,λa x b h=>by cases a<;>cases h⟩
def OrdK.step(h:OrdK gs out)(hm:m∈sM gs out):OrdK gs (out++[m]):=by
 obtain⟨h1,h2,q⟩:=Xq.1 hm;refine⟨l2y.2 ⟨h.nd,by simp,λa r c hc=>by simp at hc;subst hc;exact λe=>h2 (e▸r)⟩,λx d=>?_,λa x b e p k j=>?_⟩
 ·rcases Yp.1 d with d|d
  ·exact h.ids x d
  ·rw[ZW]at d;subst d;exact h1
 ·rcases List.eq_nil_or_concat b with rfl|⟨g,z,rfl⟩
  ·have:=List.append_inj' e rfl;obtain⟨f,i⟩:=this;cases i
   subst f;exact q p k j
  ·have n:out++[m]=(a++x::g)++[z]:=by rw[e];simp
   obtain⟨f,i⟩:=List.append_inj' n rfl;exact h.pr a x g f p k j
def pF{α:Type}:∀{l1 l2:List α},l1.Nodup->(∀x∈l1,x∈l2)->l1.length<=l2.length:=by
 intro l1
 induction l1 with
 |nil=>intro _ _ _;exact D! _
 |cons a l ih=>
  intro l2 hn c;rw[List.nodup_cons]at hn;have e:a∈l2:=c a (by simp);obtain⟨u,v,rfl⟩:=List.append_of_mem e;have:=ih (l2:=u++v) hn.2 λx d=>by
   have h1:=c x (by simp[d]);rw[Yp,Qd]at h1;rw[Yp];rcases h1 with h1|h1|h1
   ·exact .inl h1
   ·subst h1;exact absurd d hn.1
   ·exact .inr h1
  simp at this⊢;omega
def OrdK.len(h:OrdK gs out):out.length<=gs.length:=by
 have:=pF h.nd h.ids;rw[Ub]at this;exact this
def OrdK.all(h:OrdK gs out)(d:gs.length<=out.length)(c:x∈gs.map Cd.id):x∈out:=by
 apply l2z;intro hn;have:=pF (l1:=x::out) (l2:=gs.map Cd.id) (List.nodup_cons.2 ⟨hn,h.nd⟩) λy a=>by
  rcases Qd.1 a with rfl|a
  ·exact c
  ·exact h.ids y a
 rw[Ub,Kj]at this;omega
def A7f(h:OrdK gs out)(a:gs.length<=out.length):sM gs out=[]:=by
 rw[List.eq_nil_iff_forall_not_mem];intro x c;obtain⟨h1,h2,_⟩:=Xq.1 c;exact h2 (h.all a h1)
def OrdK.before(h:OrdK gs out){a b:List AQ}(e:out=a++x::b)(c:Anc gs x y):y∈a:=by
 induction c with
 |one h1 h2=>exact h.pr a x b e _ h2 h1
 |more _ h1 h2 ih=>
  obtain⟨u,v,rfl⟩:=List.append_of_mem ih;have:=h.pr u _ (v++x::b) (by rw[e];simp) _ h2 h1;exact List.mem_append_left _ this
def Sx(gs:dn):List AQ:=FF ((gs.map Cd.id).filter λx=>decide (∀c∈gs,x∉c.ps))
def gX:x∈Sx gs↔x∈gs.map Cd.id/\∀c∈gs,x∉c.ps:=by
 rw[Sx,(BF _).mem_iff,l2u,decide_eq_true_eq]
def qJ(h:(gs.map Cd.id).Nodup):(Sx gs).Nodup:=(BF _).symm.nodup (h.sublist List.filter_sublist)
def vE:(Sx gs).length<=gs.length:=by
 rw[Sx,(BF _).length_eq];have:=l2v (λx=>decide (∀c∈gs,x∉Cd.ps c)) (gs.map Cd.id);rw[Ub]at this;exact this
end
section
variable{v:AV}{PP:Af->Prop}{q:Bool}{D i r:Nat}
variable{L n:Nat}
section
variable{l:List AQ}{m a b:AQ}{x:Af}{K:KV}{H:Hp}
def C1s{K:K2}:zF true (S a) (S b) K=K (S (if a<=b then a else b)):=by
 have e:zF true (S a) (S b) K=@Bool.rec (λ_=>Af) (K (S b)) (K (S a)) (ltB a b||F' a b):=rfl;rw[e,yE,PU,bytesLess_eq];by_cases h:a<=b
 ·have h1:(decide (a<b)||a==b)=true:=by
   by_cases h2:a<b
   ·simp[h2]
   ·have:=TM h h2;simp[this]
  rw[CZ h,h1]
 ·have h1:(decide (a<b)||a==b)=false:=by
   have h2:¬a<b:=λh2=>h ((Je a b).elim id λc=>absurd h2 c);have c:a≠b:=λe=>h (e▸((Je a a).elim id id));simp[h2,c]
  rw[Cr h,h1]
def B7s{g:KV}(hm:m∈l)(e:∀y∈l,m<=y)(hb:l.length<1000000)(j:g (S m) H=x):∀(f i:Nat)(cur:AQ),i<=l.length->l.length-i<f->cur∈l->(∀y∈l.take i,cur<=y)->
 Ge (L+20) (rt (L+20) n) K g f (Ls l) (S cur) (I i) H=x:=by
 intro f
 induction f with
 |zero=>intro i cur _ h;omega
 |succ f ih=>
  intro i cur p k hc d;rw[MV];unfold Gf HN Az;rw[LU];by_cases h:i<l.length
  ·rw[Fo (by omega),CA,OS h,Hy,C1s,Dg (by omega)];refine ih (i+1) _ (by omega) (by omega) ?_ λy c=>?_
   ·split
    ·exact hc
    ·exact Of h
   ·rw[tO h,Yp,ZW]at c;split
    ·rename_i h1;rcases c with c|rfl
     ·exact d y c
     ·exact h1
    ·rename_i h1;have h2:l[i]<=cur:=(Je cur l[i]).elim (λh=>absurd h h1) id;rcases c with c|rfl
     ·exact TL h2 (d y c)
     ·exact(Je _ _).elim id id
  ·have:i=l.length:=by omega
   subst this;rw[tN]at d;rw[XA2 (by omega),Bm];have:cur=m:=TM (d m hm) (e cur hc);rw[this];exact j
def B9i(hm:m∈l)(d:∀y∈l,m<=y)(hb:l.length<1000000)(j:l.length<L):CS (rt (L+20) (n+1)) GR [Ls l] (S m):=by
 intro K h;rw[NY];unfold GF Az;have c:0<l.length:=List.length_pos_of_mem hm;simp only[BJ];have ls:∀{K:K2},Ap Ac .lss (I (l.length:Int)) (AV.v (.int .i64 1)) K=K (Bo false):=λ{K}=>XA2 (by omega);have f:(AV.v (.int .i64 0))=I ((0:Nat):Int):=rfl;have g:(AV.v (.int .i64 1))=I ((1:Nat):Int):=rfl;rw[LU,ls,Bm,f,OS c,Hy,g];refine B7s (n:=n) hm d hb (h _ _ λb=>⟨false,CG⟩) (L+20) 1 _ (by omega) (by omega) (Of c) λy e=>?_;rw[show 1=0+1 from rfl,tO c,List.take_zero,l35,ZW]at e;subst e;exact(Je _ _).elim id id
end
section
variable{l:List AQ}{x:Af}{K:KV}{H:Hp}{fn:AV}{P:AQ->Bool}{R:Rt}
def fiN(P:AQ->Bool):List AQ->Nat->Int
 |[],_=> -1
 |a::l,i=>if P a=true then(i:Int) else fiN P l (i+1)
def A8S{a:AQ}:fiN P (a::l) i=if P a=true then(i:Int) else fiN P l (i+1):=rfl
def B7I{d:Ru}{a:AV}(e:SA l a)(g:∀(s:AQ)(K:KV),C7 (E (L+20)) R fn [S s] H K=K (Bo (P s)) H)(hb:l.length<1000000)(hk:∀v,v=fiN P l 0->K (I v) H=x)(k:fiN P l 0= -1->d H=x):
 ∀(f i:Nat),i<=l.length->l.length-i<f->fiN P (l.drop i) i=fiN P l 0->
 Dt (L+20) R K d f a fn (I l.length) (I i) H=x:=by
 intro f
 induction f with
 |zero=>intro i _ h;omega
 |succ f ih=>
  intro i p j he;rw[GB];unfold Du HN Az;by_cases h:i<l.length
  ·rw[Fo (by omega),CA,e.ia h,Hy,g];rw[tK h]at he;rw[A8S]at he;cases c:P l[i] with
   |true=>
    rw[c,CZ rfl]at he;rw[CA];exact hk _ he
   |false=>
    rw[c,Cr (by simp)]at he;rw[Bm,Dg (by omega)];exact ih (i+1) (by omega) (by omega) he
  ·have:i=l.length:=by omega
   subst this;rw[List.drop_length]at he;rw[XA2 (by omega),Bm];exact k he.symm
def B9l{a:AV}(c:SA l a)(g:∀(s:AQ)(K:KV),C7 (E (L+20)) (rt (L+20) n) fn [S s] [] K=K (Bo (P s)) [])(hb:l.length<1000000)(h:l.length<L):CS (rt (L+20) (n+1)) D7 [a,fn] (I (fiN P l 0)):=by
 intro K f;rw[Hh];unfold D6 Az;simp only[BJ];have d:(AV.v (.int .i64 0))=I ((0:Nat):Int):=rfl;rw[c.len,d];have fin:∀v H,v=fiN P l 0->K (I v) H=some (I (fiN P l 0),[]):=λv H e=>by
  rw[e];exact f _ _ λb=>⟨false,CG⟩
 refine B7I (R:=rt (L+20) n) c g hb (λv e=>fin v _ e) (λe=>fin (-1) _ e.symm) (L+20) 0 (by omega) (by omega) (by rw[tJ])
def T7(H:Hp)(v:AV)(l:List AQ):Prop:=(v=A1/\l=[])\/∃r q c,v=.sl 1 r 0 l.length/\Al H r=some (.cells q Ao (AJ l++c))
def T7.len(h:T7 H v l){K:K2}:Bh Ab v K=K (I l.length):=by
 rcases h with⟨rfl,rfl⟩|⟨r,q,c,rfl,_⟩<;>exact r_ rfl
def T7.kp{c:Hp}(h:T7 H v l)(k:∀u y,A6 v u->Al H u=some y->Al c u=some y):T7 c v l:=by
 rcases h with h|⟨r,q,d,h1,h2⟩
 ·exact .inl h
 ·exact .inr ⟨r,q,d,h1,k r _ ⟨1,0,_,h1⟩ h2⟩
theorem T7.lt(h:T7 H v l)(w:Wf H){u:Nat}(d:A6 v u):u<Ax H:=by
 obtain⟨a,b,c,rfl⟩:=d;rcases h with⟨h,_⟩|⟨r,q,e,h1,h2⟩
 ·cases h
 ·injection h1 with _ h1;subst h1;exact w.lt h2
def A01{b:Bool}:∀l:List AQ,Py b D (AJ l) (AJ l) H false:=by
 intro l
 induction l with
 |nil=>exact AG
 |cons s l ih=>exact Aq (q:=false) CG ih
def T7.fx(h:T7 H v l):∃a q,SA l a/\Fx true (D+1) v a H q:=by
 rcases h with⟨rfl,rfl⟩|⟨r,q,c,rfl,h2⟩
 ·exact⟨A1,false,.inr ⟨rfl,rfl⟩,CG⟩
 ·refine⟨Ls l,true,.inl rfl,A2h (q':=false) h2 (by rw[EJ,Cb];omega) ?_⟩;have:((AJ l++c).drop 0).take (l.length*1)=AJ l:=by
   rw[tJ,D'];have:=List.take_left (l₁:=AJ l) (l₂:=c);rw[Cb]at this;exact this
  rw[this];exact A01 l
def A5z{m i:Nat}(h:i<=m){K:K2}:EI Ab (.sl 1 r 0 m) (some (I (i:Int))) none none K=K (.sl 1 r i (m-i)):=by
 have e:EI Ab (.sl 1 r 0 m) (some (I (i:Int))) none none K=ck (Nat.beq 1 1) (iN (i:Int) λl=>fN m λh=>fN m λx=>ck ((true||false)&&(Nat.ble l h&&(Nat.ble h x&&Nat.ble x m))) (fN (Nat.add 0 (Nat.mul l 1)) λd=>fN (Nat.sub h l) λn=>K (.sl 1 r d n))):=rfl;rw[e,JH,D5,D5];have c:((true||false)&&(Nat.ble i m&&(Nat.ble m m&&Nat.ble m m)))=true:=by simp;omega
 rw[c];show fN (Nat.add 0 (Nat.mul i 1)) (λd=>fN (Nat.sub m i) λn=>K (.sl 1 r d n))=_;rw[D5,D5];have f:Nat.add 0 (Nat.mul i 1)=i:=by show 0+i*1=i;omega
 rw[f];rfl
def A5A{m i:Nat}(h:i<=m){K:K2}:EI Ab (.sl 1 r 0 m) none (some (I (i:Int))) none K=K (.sl 1 r 0 i):=by
 have e:EI Ab (.sl 1 r 0 m) none (some (I (i:Int))) none K=ck (Nat.beq 1 1) (fN 0 λl=>iN (i:Int) λh=>fN m λx=>ck ((true||true)&&(Nat.ble l h&&(Nat.ble h x&&Nat.ble x m))) (fN (Nat.add 0 (Nat.mul l 1)) λd=>fN (Nat.sub h l) λn=>K (.sl 1 r d n))):=rfl;rw[e,D5,JH,D5];have c:((true||true)&&(Nat.ble 0 i&&(Nat.ble i m&&Nat.ble m m)))=true:=by simp;omega
 rw[c];show fN (Nat.add 0 (Nat.mul 0 1)) (λd=>fN (Nat.sub i 0) λn=>K (.sl 1 r d n))=_;rw[D5,D5];rfl
def B8m{r i m:Nat}{cs:Is}(e:Al H r=some (.cells q Ao cs))(h:i+m<=cs.length):∃c d,(∀K:Ru,tT 1 Ag (.sl 1 r i m) H K=K d)/\Al d r=some (.cells q Ao c)/\c.take i=cs.take i/\Lat H d (λu=>u=r):=by
 cases m with
 |zero=>exact⟨cs,H,λK=>rfl,e,rfl,Lat.refl _ _⟩
 |succ m=>
  refine⟨splice cs i (List.replicate (m+1) (S [])),upd H r (.cells q Ao (splice cs i (List.replicate (m+1) (S [])))),λK=>?_,A5 e,?_,Lat.upd _ _ _ rfl⟩
  ·have f:tT 1 Ag (.sl 1 r i (m+1)) H K=Hz Ag.zero λz=>HD z 0 λk=>ck (Nat.beq k 1&&(Nat.beq 1 1&&PI z)) (WU (m+1) z λg=>IN H r λx=>fJ x λq E cs=>DN i g cs λc=>JI H r (.cells q E c) K):=rfl;have hz:B2 Ag.zero=[S []]:=rfl;rw[f,CQ,hz,Cs];show WU (m+1) [S []] _=_;rw[vF,Bq e];show DN i (List.replicate (m+1) (S [])) cs _=_;rw[IP _ _ _ _ (by rw[List.length_replicate];omega),C5]
  ·unfold splice;rw[eU,l2w (by rw[E'];omega),List.take_take,Nat.min_self]
def A8R(P:AQ->Bool):∀(l:List AQ)(k:Nat),(fiN P l k= -1/\∀a∈l,P a=false)\/∃(i:Nat)(h:i<l.length),fiN P l k=((k+i:Nat):Int)/\P l[i]=true/\∀a∈l.take i,P a=false:=by
 intro l
 induction l with
 |nil=>intro k;exact .inl ⟨rfl,by simp⟩
 |cons a l ih=>
  intro k;unfold fiN;cases c:P a with
  |true=>
   rw[CZ rfl];exact .inr ⟨0,by simp,by simp,c,by simp⟩
  |false=>
   rw[Cr (by simp)];rcases ih (k+1) with⟨h1,h2⟩|⟨i,h,h1,h2,d⟩
   ·refine .inl ⟨h1,λb hb=>?_⟩;rcases Qd.1 hb with rfl|hb
    ·exact c
    ·exact h2 b hb
   ·refine .inr ⟨i+1,by simp;omega,by rw[h1];congr 1;omega,h2,λb hb=>?_⟩;rw[List.take_succ_cons]at hb;rcases Qd.1 hb with rfl|hb
    ·exact c
    ·exact d b hb
def B8t{k12:AV->KV}{H0:Hp}{tl:Is}(hb:l.length<1000000)(w0:Wf H0)(O:∀c,Lat H0 c (λu=>u=r)->∀(s:AQ)(K:KV),C7 (E (L+20)) R fn [S s] c K=K (Bo (P s)) c)(g:∀cs c,Al c r=some (.cells q Ao cs)->cs.length=l.length+tl.length->cs.take (l.filter λs=>!P s).length=AJ (l.filter λs=>!P s)->Lat H0 c (λu=>u=r)->PP (k12 (.sl 1 r 0 l.length) (I (l.filter λs=>!P s).length) c)):
 ∀(f j:Nat)(cs:Is)(c:Hp),j<=l.length->l.length-j<f->Al c r=some (.cells q Ao cs)->cs.length=l.length+tl.length->cs.take ((l.take j).filter λs=>!P s).length=AJ ((l.take j).filter λs=>!P s)->cs.drop j=AJ (l.drop j)++tl->Lat H0 c (λu=>u=r)->((l.take j).filter λs=>!P s).length<j->
 PP (E3 (L+20) R K k12 f (.sl 1 r 0 l.length) fn (I ((l.take j).filter λs=>!P s).length) (I j) c):=by
 intro f
 induction f with
 |zero=>intro j cs c _ h;omega
 |succ f ih=>
  intro j cs c Y Q k d w N hk X;rw[Kt];unfold E4 HN Az;have M:∀K,Bh Ab (.sl 1 r 0 l.length) K=K (I l.length):=λK=>id rfl;rw[M];by_cases h:j<l.length
  ·have hc:j<cs.length:=by omega
   have t:=N;rw[tK hc,tK h]at t;injection t with t B
   have y:∀{K:K2},A7 Ag (.ptr r j 0) c K=K (S l[j]):=λ{K}=>by
    rw[AH (p:=j) rfl k hc,T9,JC hc,l1l,t]
   rw[Fo (by omega),CA];simp only[BJ];rw[XG h,y,O c hk,Jm];have F:(l.take (j+1)).filter (λs=>!P s)=(l.take j).filter (λs=>!P s)++[l[j]].filter (λs=>!P s):=by
    rw[tO h,List.filter_append]
   cases J:P l[j] with
   |true=>
    have e:(l.take (j+1)).filter (λs=>!P s)=(l.take j).filter (λs=>!P s):=by rw[F];simp[J]
    show PP (A2 (.v (.bool false)) _ _);rw[Bm,Dg (by omega)];have:=ih (j+1) cs c (by omega) (by omega) k d (by rw[e];exact w) B hk (by rw[e];omega);rw[e]at this;exact this
   |false=>
    have e:(l.take (j+1)).filter (λs=>!P s)=(l.take j).filter (λs=>!P s)++[l[j]]:=by rw[F];simp[J]
    have V:((l.take j).filter λs=>!P s).length<l.length:=by omega
    show PP (A2 (.v (.bool true)) _ _);rw[CA,XG V,Em k (by omega) rfl rfl rfl,Dg (by omega),Dg (by omega)];have C:((l.take (j+1)).filter λs=>!P s).length=((l.take j).filter λs=>!P s).length+1:=by rw[e,EJ];rfl
    rw[<-C];refine ih (j+1) (cs.set ((l.take j).filter λs=>!P s).length (S l[j])) _ (by omega) (by omega) (A5 k) (by rw[List.length_set];exact d) ?_ ?_ (hk.trans (Lat.upd _ _ _ (P:=λu=>u=r) rfl) (λ_ _ h=>h) (λ_ _ h=>h)) (by omega)
    ·have A:((l.take j).filter λs=>!P s).length<(cs.set ((l.take j).filter λs=>!P s).length (S l[j])).length:=by rw[List.length_set];omega
     rw[C,tO A,List.getElem_set_self,e,List.take_set_of_le (Oj _),w];simp[AJ]
    ·rw[List.drop_set_of_lt (by omega)];exact B
  ·have:j=l.length:=by omega
   subst this;rw[tN]at w⊢;rw[XA2 (by omega),Bm];exact g cs c k d w hk
def B4U(wf:Wf H)(h:T7 H v l)(hb:l.length<100000)(hL:200000<L)(F:∃d q,Fx true depth fn d H q/\∀(s:AQ)(K:KV),C7 (E (L+20)) (rt (L+20) n) d [S s] [] K=K (Bo (P s)) [])(hf:∀c,Lat H c (A6 v)->∀(s:AQ)(K:KV),C7 (E (L+20)) (rt (L+20) (n+1)) fn [S s] c K=K (Bo (P s)) c)(M:∀N c,T7 c N (l.filter λs=>!P s)->(∀u,A6 N u↔A6 v u)->Lat H c (A6 v)->PP (K N c)):PP ((rt (L+20) (n+2)).call BG [v,fn] H K):=by
 rw[K8];unfold EG Az;obtain⟨a,q,f,hq⟩:=h.fx (D:=depth-1);obtain⟨d,q',J,C⟩:=F;rw[AE (B9l (n:=n) f C (by omega) (by omega)) (Aq hq (Aq J AG))];rcases A8R P l 0 with⟨h1,h2⟩|⟨i,X,h1,h2,h3⟩
 ·have e:∀{K:K2},Ap Ac .eql (I (-1)) (AV.v (.int .i64 (-1))) K=K (Bo true):=λ{K}=>by rw[Dn,Ki rfl]
  rw[h1,e,CA];have e2:l.filter (λs=>!P s)=l:=List.filter_eq_self.2 λa f=>by rw[h2 a f];rfl
  rw[e2]at M;exact M v H h (λ_=>Iff.rfl) (Lat.refl _ _)
 ·rw[Kk]at h1;have e:∀{K:K2},Ap Ac .eql (I (i:Int)) (AV.v (.int .i64 (-1))) K=K (Bo false):=λ{K}=>by rw[Dn,KD (by omega)]
  rw[h1,e,Bm];simp only[BJ];rcases h with⟨_,rfl⟩|⟨r,q0,tl,rfl,hl⟩
  ·simp at X
  have j:∀u,A6 (.sl 1 r 0 l.length) u↔u=r:=λu=>⟨λ⟨_,_,_,h⟩=>by injection h with _ h;exact h.symm,λh=>h▸⟨1,0,_,rfl⟩⟩
  have lat:∀{c},Lat H c (λu=>u=r)->Lat H c (A6 (.sl 1 r 0 l.length)):=λk=>⟨k.wf,k.nx,λw u y hu hn=>k.keep w u y hu λe=>hn ((j u).2 e)⟩
  have Q:(l.take (i+1)).filter (λs=>!P s)=l.take i:=by
   rw[tO X,List.filter_append];have a1:(l.take i).filter (λs=>!P s)=l.take i:=List.filter_eq_self.2 λa f=>by rw[h3 a f];rfl
   rw[a1];simp[h2]
  have V:((l.take (i+1)).filter λs=>!P s).length=i:=by rw[Q,E'];omega
  have ht:AJ (l.take i)=(AJ l).take i:=by simp[AJ,List.map_take]
  have hd:AJ (l.drop (i+1))=(AJ l).drop (i+1):=by simp[AJ,List.map_drop]
  rw[Dg (by omega)];have main:=B8t (L:=L) (R:=rt (L+20) (n+1)) (K:=K) (fn:=fn) (P:=P) (l:=l) (H0:=H) (r:=r) (q:=q0) (tl:=tl) (PP:=PP)
   (k12:=λp t A=>EI Ab p (some t) none none λv7=>tT 1 Ag v7 A λZ=>EI Ab p none (some t) none λO=>K O Z)
   (by omega) wf (λc k=>hf c (lat k)) (λcs c g1 g2 g3 g4=>?_) (L+20) (i+1) (AJ l++tl) H (by omega) (by omega) hl (by rw[EJ,Cb]) (by rw[V,Q,ht,l2w (by rw[Cb];omega)]) (by rw[hd,List.drop_append_of_le_length (by rw[Cb];omega)]) (Lat.refl _ _) (by omega)
  ·rw[V]at main;exact main
  ·have g:(l.filter λs=>!P s).length<=l.length:=l2v _ _;obtain⟨B,Y,c1,c2,c3,c4⟩:=B8m (H:=c) (r:=r) (i:=(l.filter λs=>!P s).length) (m:=l.length-(l.filter λs=>!P s).length) g1 (by omega);show PP (EI Ab (.sl 1 r 0 l.length) (some (I ((l.filter λs=>!P s).length:Nat))) none none _);rw[A5z g,c1,A5A g];refine M _ Y (.inr ⟨r,q0,B.drop (l.filter λs=>!P s).length,rfl,?_⟩) (λu=>⟨λ⟨_,_,_,h⟩=>?_,λ⟨_,_,_,h⟩=>?_⟩) (lat (g4.trans c4 (λ_ _ h=>h) (λ_ _ h=>h)))
   ·rw[c2,<-g3,<-c3,l30]
   ·injection h with _ h
    exact⟨1,0,_,by rw[h]⟩
   ·injection h with _ h
    exact⟨1,0,_,by rw[h]⟩
def B4V(wf:Wf H)(h:T7 H v l)(hb:l.length<100000)(g:200000<L)(e:∃d q,Fx true depth fn d H q/\∀(s:AQ)(K:KV),C7 (E (L+20)) (rt (L+20) n) d [S s] [] K=K (Bo (P s)) [])(j:∀c,Lat H c (A6 v)->∀(s:AQ)(K:KV),C7 (E (L+20)) (rt (L+20) (n+1)) fn [S s] c K=K (Bo (P s)) c)(k:∀f c,T7 c f (l.filter λs=>!P s)->(∀u,A6 f u↔A6 v u)->Lat H c (A6 v)->K f c=x):(rt (L+20) (n+2)).call BG [v,fn] H K=x:=
 B4U (PP:=λa=>a=x) wf h hb g e j k
def B3G(wf:Wf H)(h:T7 H v l)(hb:l.length<100000)(j:200000<L)(g:∃e q,Fx true depth fn e H q/\∀(s:AQ)(K:KV),C7 (E (L+20)) (rt (L+20) n) e [S s] [] K=K (Bo (P s)) [])(k:∀d,Lat H d (A6 v)->∀(s:AQ)(K:KV),C7 (E (L+20)) (rt (L+20) (n+1)) fn [S s] d K=K (Bo (P s)) d)(p:∀f d,T7 d f (l.filter λs=>!P s)->(∀u,A6 f u->A6 v u)->Lat H d (A6 v)->K f d=x):(rt (L+20) (n+2)).call BG [v,fn] H K=x:=
 B4V wf h hb j g k λf d a b c=>p f d a (λu h=>(b u).1 h) c
end
end
section
variable{w:AV}{H H0:Hp}{k4:Ru}
variable{L n:Nat}
abbrev rW:=AQ×AQ
def Og(gs:dn):List rW:=gs.flatMap λc=>c.ps.map λp=>(c.id,p)
def rL(R:Rt)(L s0 it:Nat)(I:List rW->Hp->Prop):Prop:=∀(c:List rW)(s p:AQ)(H:Hp)(K:KV)(x:Af),c.length<1000->I c H->(∀a,I (c++[(s,p)]) a->(∀y,Al H it=some y->Al a it=some y)->K (Bo true) a=x)->C7 (E (L+20)) R (.yl s0) [S s,S p] H K=x
def A00{rem:dn}{a c:List (AQ×Cd)}{e:AQ×Cd}(h:gE rem=a++e::c):∃d cd rc,rem=d++cd::rc/\a=gE d/\e=(cd.id,cd)/\c=gE rc:=by
 obtain⟨d,k,h1,h2,f⟩:=List.map_eq_append_iff.1 h;obtain⟨cd,rc,g,i,j⟩:=List.map_eq_cons_iff.1 f;subst g;exact⟨d,cd,rc,h1,h2.symm,i.symm,j.symm⟩
section
variable{gs:dn}{K:KV}{x:Af}{s0 it:Nat}{Q:List rW->Hp->Prop}
def A0g:∀gs:dn,(∀c∈gs,c.ps.length<100)->(Og gs).length<=gs.length*100:=by
 intro gs
 induction gs with
 |nil=>intro _;simp[Og]
 |cons c gs ih=>
  intro h;have h1:=h c (by simp);have h2:=ih λd a=>h d (by simp[a]);have e:Og (c::gs)=c.ps.map (λp=>(c.id,p))++Og gs:=rfl;rw[e,EJ,Ub,Kj,uY];omega
def B3e{c:AV->AV->AV->AV->AV->KV}{k:AV}{s:AQ}{ps:List AQ}(hb:ps.length<100)(hr:rL (r! L (n+2)) L s0 it Q):∀(f i:Nat)(es:List rW)(H:Hp)(y:Row),i<=ps.length->ps.length-i<f->es.length+(ps.length-i)<1000->Q es H->Al H it=some y->
 (∀d a,Q (es++(ps.drop i).map λp=>(s,p)) a->Al a it=some y->c (.yl s0) (S s) k (Dp ps) (I ps.length) d a=x)->
 FG (L+20) (r! L (n+2)) K c f (.yl s0) (S s) k (Dp ps) (I ps.length) (I i) H=x:=by
 intro f
 induction f with
 |zero=>intro i es H y _ h;omega
 |succ f ih=>
  intro i es H y t r hn hm m e;rw[JJ];unfold FH HN Az;by_cases h:i<ps.length
  ·rw[Fo (by omega),CA,(Ng ps).ia h,Hy];rw[tK h]at e;refine hr es s ps[i] H _ x (by omega) hm λa g hk=>?_;rw[Jm];show A2 (.v (.bool false)) _ _=_;rw[Bm,Dg (by omega)];refine ih (i+1) (es++[(s,ps[i])]) a y (by omega) (by omega) (by rw[EJ,List.length_singleton];omega) g (hk y m) λd q h2 j=>e d q ?_ j;rw[VC];rw[eU]at h2;exact h2
  ·rw[XA2 (by omega),Bm];have:i=ps.length:=by omega
   subst this;rw[List.drop_length,List.map_nil,YV]at e;exact e _ H hm m
def B3f(hw:Ze 6 w w=true)(hg:gs.length<=8)(V:∀c∈gs,c.ps.length<100)(hL:100<L)(hr:rL (r! L (n+2)) L s0 it Q)(s:∀es H q,Q es H->Wf q->(∀u y,u≠it->Al H u=some y->Al q u=some y)->Q es q)(B:∀es H,Q es H->Wf H)(r:∀done H,done.Perm gs->Q (Og done) H->k4 H=some (w,[])):
 ∀(f:Nat)(rem done:dn)(H:Hp)(o:Option (Value×AV))(C d1 d2 d3:AV),rem.length<f->(done++rem).Perm gs->Q (Og done) H->Al H it=some (.iter (Fc JA (gE rem)) o)->
 Es (L+20) (r! L (n+2)) K k4 f (.yl s0) C (.it it) d1 d2 d3 H=some (w,[]):=by
 intro f
 induction f with
 |zero=>intro rem done H o C d1 d2 d3 h;omega
 |succ f ih=>
  intro rem done H o C d1 d2 d3 hf g hm R;rw[Ht];unfold Et E0 Az;refine pE (f:=JA) hw R (λe=>?_) (λa e c J=>?_)
  ·have Z:rem=[]:=by
    cases rem with
    |nil=>rfl
    |cons _ _=>cases e
   subst Z;rw[My,Bm];rw[YV]at g;exact r done H g hm
  ·obtain⟨i,cd,rc,rfl,rfl,rfl,rfl⟩:=A00 J;have F:cd∈gs:=g.mem_iff.1 (by simp);have O:=V cd F;have e9:gE i++gE rc=gE (i++rc):=by simp[gE]
   have j:=R7 (es:=Fc JA (gE i++gE rc)) (o:=some (.string ⟨⟨cd.id⟩⟩,JA cd)) R;have m:Q (Og done) (upd H it (.iter (Fc JA (gE i++gE rc)) (some (.string ⟨⟨cd.id⟩⟩,JA cd)))):=s _ _ _ hm (Bs (B _ _ hm)) λu y hu P=>by rw[Ah hu];exact P
   show Ci (.tup [.v (.bool true),S cd.id,JA cd]) 0 _=_;rw[My,CA];simp only[BJ];show iP (.it it) (upd H it (.iter (Fc JA (gE i++gE rc)) (some (.string ⟨⟨cd.id⟩⟩,JA cd)))) _=_;rw[Uj j,My,A9s];generalize upd H it (.iter (Fc JA (gE i++gE rc)) (some (.string ⟨⟨cd.id⟩⟩,JA cd)))=H1 at j m;obtain⟨Y,e2,D,w2,X⟩:=DY (e:=Ad) (zs:=Bi) (vs:=cd.cs) (B _ _ m) BC;rw[AP (cs:=Bi) rfl,Bv (cs:=Bi) (vs:=cd.cs) (Av (by simp)) BC rfl Ic,<-e2,fA,Kk,A9J D,RU];have N:=s _ _ _ m w2 λu y _ P=>(X u y P).1;have M:=(X _ _ j).1;have e0:(AV.v (.int .i64 0))=I ((0:Nat):Int):=rfl;have A:=g.length_eq;rw[EJ,EJ,Kj]at A;have aa:=A0g done λc hc=>V c (g.mem_iff.1 (by simp[hc]));rw[e0];refine B3e (n:=n) O hr (L+20) 0 (Og done) Y _ (by omega) (by omega) (by omega) N M λd q k t=>?_;rw[tJ]at k;have e8:Og done++cd.ps.map (λp=>(cd.id,p))=Og (done++[cd]):=by simp[Og]
   rw[e8]at k;rw[e9]at t;refine ih (i++rc) (done++[cd]) q _ _ _ _ _ (by simp at hf⊢;omega) ?_ k t;refine List.Perm.trans ?_ g;rw[eU];refine List.Perm.append_left done ?_;show(cd::(i++rc)).Perm _;exact List.perm_middle.symm
def A3i(r:Ze 6 w w=true)(p:gs.length<=8)(q:∀c∈gs,c.ps.length<100)(k:100<L)(hr:rL (r! L (n+2)) L s0 (Ax H) Q)(f:∀d h e,Q d h->Wf e->(∀u y,u≠Ax H->Al h u=some y->Al e u=some y)->Q d e)(g:∀d H,Q d H->Wf H)(j:Q [] ((Ax H,.iter (Fc JA (gE gs)) none)::H))(a:∀done H,done.Perm gs->Q (Og done) H->K (.tup []) H=some (w,[])):
 (r! L (n+3)).call CX [.yl s0,.iptr [gV gs]] H K=some (w,[]):=by
 rw[HI];unfold EA;have i:∀{H:Hp}{K:K2},A7 AC (.iptr [gV gs]) H K=K (gV gs):=λ{H K}=>OQ rfl;rw[i,dO];simp only[BJ];exact B3f (n:=n) (it:=Ax H) r p q k hr f g (λdone H m hq=>a done H m hq) (L+20) gs [] _ none _ _ _ _ (by omega) (List.Perm.refl _) j (Av (by simp))
def A6M{K:K2}:Aj (r! L (n+1)) Dq [gV gs] H K=K (A98 gs):=by
 refine En (λK a=>?_) (Aq (q:=false) dG AG);rw[MF];unfold Ie XA3;rw[A2I];exact a _ _ ⟨true,λK=>by kernel_rfl⟩
abbrev ZY(gs:dn):AV:=.fn (.func DT) [] [.iptr [gV gs]]
def A8y{r0 s e0 it:Nat}{q0:Bool}{c6 w:AV}{ks:List AQ}(D:Ze 6 w w=true)(q:ks.length<1000000)(i:∀l v H,l.Perm ks->(l=[]->v=A1)->Coll H0 r0 s q0 e0 c6 l v H->k4 H=some (w,[]))(c:it≠r0/\it≠s/\Ax H0<=it):
 ∀(f:Nat)(es:List (AQ×Cd))(l:List AQ)(v:AV)(H:Hp)(o:Option (Value×AV)),es.length<f->(l++es.map Prod.fst).Perm ks->(l=[]->v=A1)->Coll H0 r0 s q0 e0 c6 l v H->¬A6 v it->Al H it=some (.iter (Fc JA es) o)->
 BP (L+20) (r! L (n+1)) K k4 f (.yl s) (.it it) H=some (w,[]):=by
 intro f
 induction f with
 |zero=>intro es l v H o h;omega
 |succ f ih=>
  intro es l v H o B m A hc hv p;rw[GN];unfold C4;refine pE (f:=JA) D p (λe=>?_) (λa e b he=>?_)
  ·subst e;rw[My,Bm];exact i l v H (by simpa using m) A hc
  ·subst he;have g:=hc.it (.iter (Fc JA (a++b)) (some (.string ⟨⟨e.1⟩⟩,JA e.2))) c hv;have d:=R7 (es:=Fc JA (a++b)) (o:=some (.string ⟨⟨e.1⟩⟩,JA e.2)) p;have k:(l++(a++e::b).map Prod.fst).length=ks.length:=m.length_eq;simp at k;have t:rR (.string ⟨⟨e.1⟩⟩)=S e.1:=rfl;rw[My,CA,Uj d,My,t];refine A3t g (by omega) λF r j hk hr=>?_;rw[Jm];show A2 (.v (.bool false)) _ _=_;rw[Bm];refine ih (a++b) (l++[e.1]) F r _ (by simp at B⊢;omega) ?_ (by simp) j (λC=>?_) (hk it _ c.1 c.2.1 hv d)
   ·refine List.Perm.trans ?_ m;simp only[Yr,VC,eU];refine List.Perm.append_left l ?_;show(e.1::(a.map Prod.fst++b.map Prod.fst)).Perm _;exact List.perm_middle.symm
   ·have u:=hr it C;have y:=g.wf.lt d;rw[BV]at u y;omega
def A1h(C:Ze 6 w w=true)(M:gs.length<=8)(J:100<L)(wf:Wf H0)(D:∀l v H,l.Perm (gs.map Cd.id)->(l=[]->v=A1)->NewSl H0 l v H->K v H=some (w,[])):
 (r! L (n+4)).call Fs [ZY gs] H0 K=some (w,[]):=by
 rw[Io];unfold Fq;rw[E8];unfold CF;simp only[BJ];rw[zJ (by rfl),Xp,GZ];unfold C8;simp only[BJ];have w1:=AM (x:=.cells true Bc [A1]) wf;have d:=Av (H:=H0) (x:=.cells true Bc [A1]) (by simp);have A:Ax ((Ax H0,c_ Bc [A1])::H0)=Ax H0+1:=rfl;have j:Wf ((Ax H0+1,Q7 (.ptr (Ax H0) 0 0) (ZY gs) (some none))::(Ax H0,c_ Bc [A1])::H0):=AM (x:=Q7 (.ptr (Ax H0) 0 0) (ZY gs) (some none)) w1;have f:Al ((Ax H0+1,Q7 (.ptr (Ax H0) 0 0) (ZY gs) (some none))::(Ax H0,c_ Bc [A1])::H0) (Ax H0+1)=some (Q7 (.ptr (Ax H0) 0 0) (ZY gs) (some none)):=Av (H:=((Ax H0,c_ Bc [A1])::H0)) (x:=Q7 (.ptr (Ax H0) 0 0) (ZY gs) (some none)) (by simp[Q7]);have ol:∀u y,Al H0 u=some y->Al ((Ax H0+1,Q7 (.ptr (Ax H0) 0 0) (ZY gs) (some none))::(Ax H0,c_ Bc [A1])::H0) u=some y:=λu y a=>by
  have a1:=AK (x:=.cells true Bc [A1]) (wf.lt a) a;exact AK (w1.lt a1) a1
 have m:∀{H:Hp}{K:K2},A7 AC (.iptr [gV gs]) H K=K (gV gs):=λ{H K}=>OQ rfl;rw[m,dO];have e:Al ((Ax H0+1,Q7 (.ptr (Ax H0) 0 0) (ZY gs) (some none))::(Ax H0,c_ Bc [A1])::H0) (Ax H0)=some (c_ Bc [A1]):=AK (w1.lt d) d;show BP (L+20) (r! L (n+1)) _ _ (L+20) (.yl (Ax H0+1)) (.it (Ax ((Ax H0+1,Q7 (.ptr (Ax H0) 0 0) (ZY gs) (some none))::(Ax H0,c_ Bc [A1])::H0))) ((Ax ((Ax H0+1,Q7 (.ptr (Ax H0) 0 0) (ZY gs) (some none))::(Ax H0,c_ Bc [A1])::H0),.iter (Fc JA (gE gs)) none)::((Ax H0+1,Q7 (.ptr (Ax H0) 0 0) (ZY gs) (some none))::(Ax H0,c_ Bc [A1])::H0))=_;generalize g:((Ax H0+1,Q7 (.ptr (Ax H0) 0 0) (ZY gs) (some none))::(Ax H0,c_ Bc [A1])::H0:Hp)=c at j f ol e;have t:Ax c=Ax H0+2:=by rw[<-g];rfl
 have F:=AM (x:=.iter (Fc JA (gE gs)) none) j;have up:∀u y,Al c u=some y->Al ((Ax c,Row.iter (Fc JA (gE gs)) none)::c) u=some y:=λu y k=>AK (j.lt k) k;have i:Al ((Ax c,Row.iter (Fc JA (gE gs)) none)::c) (Ax c)=some (.iter (Fc JA (gE gs)) none):=Av (by simp);have r:(gE gs).length=gs.length:=by simp[gE]
 refine A8y (n:=n) (H0:=H0) (r0:=Ax H0) (s:=Ax H0+1) (it:=Ax c) (q0:=true) (e0:=Bc) (c6:=ZY gs) (ks:=gs.map Cd.id) C (by rw[Ub];omega) ?_ (by omega) (L+20) (gE gs) [] A1 _ none (by omega) (by rw[l35,Vp]) (λ_=>rfl)
  ⟨up _ _ e,.inl ⟨rfl,rfl,rfl⟩,up _ _ f,λu ⟨_,_,_,h⟩=>(by cases h),F,λu y a=>up u y (ol u y a),by omega,by omega,by omega,wf⟩ (λ⟨_,_,_,h⟩=>(by cases h)) i
 intro l v H B q hc;show IN H (Ax H0+1) _=_;rw[Bq hc.lp];show JI H (Ax H0+1) .gone _=_;rw[C5];have hr:Al (upd H (Ax H0+1) .gone) (Ax H0)=some (c_ Bc [v]):=by rw[Ah (by omega)];exact hc.at_
 show A7 Ab (.ptr (Ax H0) 0 0) (upd H (Ax H0+1) .gone) _=_;rw[AH (p:=0) rfl hr (by simp)];refine D _ _ _ B q ⟨?_,λu a=>(hc.new u a).2.2,Bs hc.wf,λu y a=>?_,?_⟩
 ·exact hc.sl.lat hc.wf (Lat.upd H _ _ (P:=λu=>u=Ax H0+1) rfl) (λu a=>(hc.new u a).2.1)
 ·have:=wf.lt a;rw[Ah (by omega)];exact hc.keep u y a
 ·rw[BV];have:=hc.wf.lt hc.at_;omega
def J?(m:Ze 6 w w=true)(k:gs.length<=8)(j:100<L)(wf:Wf H0)(p:∀v H,NewSl H0 (FF (gs.map Cd.id)) v H->(gs=[]->v=A1)->K v H=some (w,[])):(r! L (n+6)).call Jd [gV gs] H0 K=some (w,[]):=by
 rw[VR];unfold Ly;have ky:∀{K:K2},Aj (r! L (n+5)) CW [gV gs] H0 K=K (ZY gs):=λ{K}=>by
  refine En (λK i=>?_) (Aq (q:=false) dG AG);rw[show n+5=(n+4)+1 from rfl,HY];unfold CV XA3;have g:∀{H:Hp}{K:KV},Hd Bx (gV gs) H K=K (.ptr (Ax H) 0 0) ((Ax H,c_ Bx [gV gs])::H):=λ{H K}=>A2I;rw[g];exact i _ _ ⟨true,λK=>by kernel_rfl⟩
 rw[ky,IG];unfold FA;refine A1h (n:=n) m k j wf λl v H c d hc=>?_;refine A6C (n:=n) wf (by rw[c.length_eq,Ub];omega) d hc λf a=>?_;have e:FF l=FF (gs.map Cd.id):=HM ((BF l).trans (c.trans (BF _).symm)) (DJ l) (DJ _);rw[e]at a;refine p v f a λh=>d ?_;subst h;exact lX (by rw[c.length_eq];rfl)
end
end
section
variable{L n:Nat}
section
variable{α:Type}{f:α->AV}{b:List (AQ×α)}{x:AQ}{H:Hp}
def qZ(b:List (AQ×α))(x:AQ):List (AQ×α):=match b with
 |[]=>[]
 |e::b=>if e.1=x then b else e::qZ b x
def A8P:∀(b:List (AQ×α))(i:Nat),(match WW x b i with|none=>b|some (j,_)=>b.eraseIdx (j-i))=qZ b x/\(∀j w,WW x b i=some (j,w)->i<=j):=by
 intro b
 induction b with
 |nil=>intro i;exact⟨rfl,λj w h=>by cases h⟩
 |cons e b ih=>
  intro i;rw[XB];unfold qZ;by_cases h:e.1=x
  ·refine⟨?_,λj w a=>?_⟩
   ·simp[h]
   ·simp[h]at a;omega
  ·obtain⟨h1,h2⟩:=ih (i+1);refine⟨?_,λj w a=>?_⟩
   ·rw[Cr h,Cr h,<-h1];cases d:WW x b (i+1) with
    |none=>rfl
    |some p=>
     obtain⟨j,w⟩:=p;have:=h2 j w d;have c:j-i=(j-(i+1))+1:=by omega
     simp only[c,List.eraseIdx_cons_succ]
   ·rw[Cr h]at a;have:=h2 j w a;omega
def A5K:∀b:List (AQ×α),(b.map Prod.fst).Nodup->((qZ b x).map Prod.fst).Nodup/\∀y,y∈(qZ b x).map Prod.fst↔y∈b.map Prod.fst/\y≠x:=by
 intro b
 induction b with
 |nil=>intro _;exact⟨by simp[qZ],λy=>by simp[qZ]⟩
 |cons e b ih=>
  intro h;rw[VC,List.nodup_cons]at h;obtain⟨h1,h2⟩:=ih h.2;unfold qZ;by_cases he:e.1=x
  ·rw[CZ he];subst he;refine⟨h.2,λy=>?_⟩;rw[VC,Qd];constructor
   ·intro a;exact⟨.inr a,λe=>h.1 (e▸a)⟩
   ·rintro⟨a|a,hn⟩
    ·exact absurd a hn
    ·exact a
  ·rw[Cr he];refine⟨?_,λy=>?_⟩
   ·rw[VC,List.nodup_cons];exact⟨λhm=>h.1 ((h2 _).1 hm).1,h1⟩
   ·rw[VC,Qd,h2,VC,Qd];constructor
    ·rintro(rfl|⟨a,hn⟩)
     ·exact⟨.inl rfl,he⟩
     ·exact⟨.inr a,hn⟩
    ·rintro⟨a|a,hn⟩
     ·exact .inl a
     ·exact .inr ⟨a,hn⟩
def B84{β:Type}(g:α->β):∀(l:List α)(i:Nat),(l.map g).eraseIdx i=(l.eraseIdx i).map g:=by
 intro l
 induction l with
 |nil=>intro i;rfl
 |cons a l ih=>
  intro i;cases i with
  |zero=>rfl
  |succ i=>show g a::(l.map g).eraseIdx i=g a::(l.eraseIdx i).map g;rw[ih]
def A9i{r:Nat}(h:Al H r=some (.map false (Fc f b) none)):∃c,(∀K:Ru,dS (.mp r) (SV x) H K=K c)/\Al c r=some (.map false (Fc f (qZ b x)) none)/\Lat H c (λu=>u=r):=by
 have e:∀K:Ru,dS (.mp r) (SV x) H K=IN H r λy=>WN y λd g=>GO (SV x) d λq=>match q with
  |none=>K H
  |some (i,_)=>JI H r (.map false (d.eraseIdx i) (B8F g i)) K:=λK=>rfl
 obtain⟨h1,h2⟩:=A8P (x:=x) b 0;cases a:WW x b 0 with
 |none=>
  rw[a]at h1;refine⟨H,λK=>?_,by rw[<-h1];exact h,Lat.refl _ _⟩;rw[e,Bq h];show GO (SV x) (Fc f b) _=_;rw[kfK,a];rfl
 |some p=>
  obtain⟨j,w⟩:=p;rw[a]at h1;refine⟨upd H r (.map false (Fc f (qZ b x)) none),λK=>?_,(Dk h).trans rfl,Lat.upd _ _ _ rfl⟩;rw[e,Bq h];show GO (SV x) (Fc f b) _=_;rw[kfK,a];show JI H r (.map false ((Fc f b).eraseIdx j) none) K=_;rw[C5,<-h1,Fc,Fc,B84];rfl
end
def zD{gs:dn}{e:rW}:e∈Og gs↔∃c∈gs,e.1=c.id/\e.2∈c.ps:=by
 unfold Og;rw[l32];constructor
 ·rintro⟨c,hc,he⟩;obtain⟨p,a,rfl⟩:=Us.1 he;exact⟨c,hc,rfl,a⟩
 ·rintro⟨c,hc,h1,h2⟩;exact⟨c,hc,Us.2 ⟨e.2,h2,by rw[<-h1]⟩⟩
def qE(gs:dn)(p:Option (Option Code)):Row:=.loop 32 [(2,A1),(3,gV gs),(5,.ptr 1 0 0),(8,.dk),(16,.it 2),(25,A98 gs),(27,.dk),(28,.dk),(29,.dk)] (E6).2.1 (E6).2.2.1 (E6).2.2.2 p
structure Hs(gs:dn)(es:List rW)(b:List (AQ×Unit))(H:Hp):Prop where
 mm:Al H 0=some (.map false (Fc uS b) none)
 st:Al H 1=some (c_ Cv [.mp 0])
 lp:Al H 3=some (qE gs (some none))
 wf:Wf H
 nd:(b.map Prod.fst).Nodup
 ky:∀x,x∈b.map Prod.fst↔x∈gs.map Cd.id/\∀e∈es,e.2≠x
section
variable{gs:dn}{K:KV}{x:Af}
def C0q{a:Hp}{K:Ru}(h:Al a 3=some (qE gs none)):Ek a 3 false (some none) K=K (upd a 3 (qE gs (some none))):=Qy h
def B1G:rL (r! L (n+2)) L 3 4 (λm H=>∃b,Hs gs m b H):=by
 intro m s p H K x _ ⟨b,h⟩ v;show Ol (r! L (n+2)) 3 [S s,S p] H K=x;rw[Qw h.lp (by kernel_rfl)];have c:(r! L (n+2)).run= λr=>Jr (E (L+20)) (r! L (n+1)) r:=rfl;rw[c,fV,Qz h.lp];have i:Al (upd H 3 (qE gs none)) 0=some (.map false (Fc uS b) none):=by rw[Ah (by decide)];exact h.mm
 have d:Al (upd H 3 (qE gs none)) 1=some (c_ Cv [.mp 0]):=by rw[Ah (by decide)];exact h.st
 have g:Al (upd H 3 (qE gs none)) 3=some (qE gs none):=FE h.lp;have w1:Wf (upd H 3 (qE gs none)):=Bs h.wf;have k1:∀y,Al H 4=some y->Al (upd H 3 (qE gs none)) 4=some y:=λy k=>by rw[Ah (by decide)];exact k
 show A7 Co (.ptr 1 0 0) (upd H 3 (qE gs none)) _=_;rw[AH (p:=0) rfl d (by simp)];have t:∀(F:Value->Af),It (S p) F=F (SV p):=λF=>id rfl;rw[t];obtain⟨q,d1,d2,d3⟩:=A9i (f:=uS) (x:=p) i;show dS (.mp 0) (SV p) (upd H 3 (qE gs none)) _=_;rw[d1];have j:=d3.keep w1 _ _ d (by decide);have a:=d3.keep w1 _ _ g (by decide);show Ek q 3 false (some none) _=_;rw[C0q a];obtain⟨n1,n2⟩:=A5K (x:=p) b h.nd;refine v _ ⟨qZ b p,?_,?_,FE a,Bs (d3.wf w1),n1,λz=>?_⟩ λy k=>?_
 ·rw[Ah (by decide)];exact d2
 ·rw[Ah (by decide)];exact j
 ·rw[n2,h.ky];constructor
  ·rintro⟨⟨h1,h2⟩,u⟩;refine⟨h1,λe he=>?_⟩;rcases Yp.1 he with he|he
   ·exact h2 e he
   ·rw[ZW]at he;subst he;exact Ne.symm u
  ·rintro⟨h1,h2⟩;exact⟨⟨h1,λe he=>h2 e (List.mem_append_left _ he)⟩,Ne.symm (h2 (s,p) (by simp))⟩
 ·rw[Ah (by decide)];exact d3.keep w1 _ _ (k1 y k) (by decide)
def A8D{s:AV->AV->AV->AV->AV->AV->AV->KV}{w a0 a1 u d2 d3 y:AV}(Q:Ze 6 w w=true)(hn:(gs.map Cd.id).Nodup)(m:∀b H,Al H 0=some (.map false (Fc uS b) none)->Al H 1=some (c_ Cv [.mp 0])->Wf H->Ax H=3->(b.map Prod.fst).Perm (gs.map Cd.id)->s a0 a1 (.ptr 1 0 0) u (.it 2) d2 d3 y H=some (w,[])):
 ∀(f:Nat)(rem:dn)(b:List (AQ×Unit))(H:Hp)(o:Option (Value×AV))(d1:AV),rem.length<f->(b.map Prod.fst++rem.map Cd.id).Perm (gs.map Cd.id)->Al H 0=some (.map false (Fc uS b) none)->Al H 1=some (c_ Cv [.mp 0])->Wf H->Ax H=3->Al H 2=some (.iter (Fc JA (gE rem)) o)->
 RE (L+20) (r! L n) K s f a0 a1 (.ptr 1 0 0) u (.it 2) d1 d2 d3 y H=some (w,[]):=by
 intro f
 induction f with
 |zero=>intro rem b H o d1 h;omega
 |succ f ih=>
  intro rem b H o d1 P i hm B wf r A;rw[hC];unfold RF;refine pE (f:=JA) Q A (λe=>?_) (λa e c t=>?_)
  ·have D:rem=[]:=by
    cases rem with
    |nil=>rfl
    |cons _ _=>cases e
   subst D;rw[My,Bm];rw[List.map_nil,YV]at i;exact m b H hm B wf r i
  ·obtain⟨d,cd,rc,rfl,rfl,rfl,rfl⟩:=A00 t;have J:gE d++gE rc=gE (d++rc):=by simp[gE]
   have g:=R7 (es:=Fc JA (gE d++gE rc)) (o:=some (.string ⟨⟨cd.id⟩⟩,JA cd)) A;have j:Al (upd H 2 (.iter (Fc JA (gE d++gE rc)) (some (.string ⟨⟨cd.id⟩⟩,JA cd)))) 0=some (.map false (Fc uS b) none):=by rw[Ah (by decide)];exact hm
   have k:Al (upd H 2 (.iter (Fc JA (gE d++gE rc)) (some (.string ⟨⟨cd.id⟩⟩,JA cd)))) 1=some (c_ Cv [.mp 0]):=by rw[Ah (by decide)];exact B
   have w1:Wf (upd H 2 (.iter (Fc JA (gE d++gE rc)) (some (.string ⟨⟨cd.id⟩⟩,JA cd)))):=Bs wf;have n1:Ax (upd H 2 (.iter (Fc JA (gE d++gE rc)) (some (.string ⟨⟨cd.id⟩⟩,JA cd))))=3:=by rw[BV];exact r
   show Ci (.tup [.v (.bool true),S cd.id,JA cd]) 0 _=_;rw[My,CA];show iP (.it 2) (upd H 2 (.iter (Fc JA (gE d++gE rc)) (some (.string ⟨⟨cd.id⟩⟩,JA cd)))) _=_;rw[Uj g,My];generalize upd H 2 (.iter (Fc JA (gE d++gE rc)) (some (.string ⟨⟨cd.id⟩⟩,JA cd)))=C at g j k w1 n1;have O:rR (.string ⟨⟨cd.id⟩⟩)=S cd.id:=rfl;have M:∀{K:K2},BZ B9 [] K=K (.agg []):=λ{K}=>id rfl;have N:∀(F:Value->Af),It (S cd.id) F=F (SV cd.id):=λF=>id rfl;rw[AH (p:=0) rfl k (by simp),M,O,N];show Oh (.mp 0) (SV cd.id) (uS ()) C _=_;rw[SF (f:=uS) (v:=()) j];have q:cd.id∉b.map Prod.fst:=λhc=>by
    have h2:=(i.nodup_iff).2 hn;rw[l2y]at h2;exact h2.2.2 _ hc cd.id (by simp) rfl
   rw[uQ q];rw[J]at g;refine ih (d++rc) (b++[(cd.id,())]) _ (some (.string ⟨⟨cd.id⟩⟩,JA cd)) _ (by simp at P⊢;omega) ?_ ((Dk j).trans rfl) ?_ (Bs w1) (by rw[BV];exact n1) ?_
   ·refine List.Perm.trans ?_ i;simp only[Yr,VC,List.map_nil,eU];refine List.Perm.append_left _ ?_;show(cd.id::(d.map Cd.id++rc.map Cd.id)).Perm _;exact List.perm_middle.symm
   ·rw[Ah (by decide)];exact k
   ·rw[Ah (by decide)];exact g
def A3g{a:AV}(r:GOk gs)(hL:40000<L)(hp:∀c∈gs,c.ps.length<100)(R:LA gs a):CS (r! L (n+80)) Gz [a] (Dp (Sx gs)):=by
 intro K B;rw[V9];unfold OZ;have C:Py true depth [a] [a] [] false:=by rcases R with rfl|⟨_,rfl⟩<;>exact λK=>by kernel_rfl
 have of:∀{K:K2},Aj (r! L (n+79)) Eb [a] [] K=K (.tup [gV gs,Bo true]):=λ{K}=>En (λK B=>wX (n:=n+15) r hL R K B) C;have w0:Ze 6 (Dp (Sx gs)) (Dp (Sx gs))=true:=Uq 6 _ (A1N _);have h8:=r.len;rw[of,CI,CH];have e0:∀{F:KV},(JK B9 [] λv4 Z=>Ba Cv Co Z λX H7=>Dr Co X v4 H7 λH8=>F X H8)=F (.ptr 1 0 0) [(1,c_ Cv [.mp 0]),(0,.map false [] none)]:=λ{F}=>by kernel_rfl
 rw[e0];simp only[BJ];rw[dO];refine A8D (n:=n+79) w0 r.ids (λb H hm N wf d s=>?_) (L+20) gs [] _ none _ (by omega) (List.Perm.refl _) rfl rfl (AM (AM (AM E1))) rfl rfl;rw[A6M (n:=n+78),Xp,d];have ab:Ax ((3,qE gs (some none))::H)=4:=rfl;have Y:Wf ((3,qE gs (some none))::H):=by
  have:=AM (x:=qE gs (some none)) wf;rw[d]at this;exact this
 have M:Al ((3,qE gs (some none))::H) 3=some (qE gs (some none)):=by
  have:=Av (H:=H) (x:=qE gs (some none)) (by simp[qE]);rw[d]at this;exact this
 have ol:∀u y,Al H u=some y->Al ((3,qE gs (some none))::H) u=some y:=λu y t=>by
  have:=AK (x:=qE gs (some none)) (wf.lt t) t;rw[d]at this;exact this
 have i:∀u y,Al ((3,qE gs (some none))::H) u=some y->Al ((4,.iter (Fc JA (gE gs)) none)::(3,qE gs (some none))::H) u=some y:=λu y t=>AK (x:=.iter (Fc JA (gE gs)) none) (Y.lt t) t;show(r! L (n+79)).call CX [.yl 3,.iptr [gV gs]] ((3,qE gs (some none))::H) _=_;refine A3i (n:=n+76) (s0:=3) (Q:=λA H=>∃b,Hs gs A b H) w0 h8 hp (by omega) B1G (λA H1 j ⟨b,h⟩ P k=>⟨b,k _ _ (show 0≠4 by decide) h.mm,k _ _ (show 1≠4 by decide) h.st,k _ _ (show 3≠4 by decide) h.lp,P,h.nd,h.ky⟩) (λA H ⟨b,h⟩=>h.wf) ?_ (λdone j V ⟨w,m⟩=>?_)
 ·refine⟨b,i _ _ (ol _ _ hm),i _ _ (ol _ _ N),i _ _ M,AM Y,s.symm.nodup r.ids,λz=>?_⟩;rw[s.mem_iff];exact⟨λh=>⟨h,by simp⟩,λh=>h.1⟩
 ·show IN j 3 _=_;rw[Bq m.lp];show JI j 3 .gone _=_;rw[C5];have N:Al (upd j 3 .gone) 1=some (c_ Cv [.mp 0]):=by rw[Ah (by decide)];exact m.st
  have J:Al (upd j 3 .gone) 0=some (.map false (Fc uS w) none):=by rw[Ah (by decide)];exact m.mm
  show A7 Co (.ptr 1 0 0) (upd j 3 .gone) _=_;rw[AH (p:=0) rfl N (by simp)];have g:(w.map Prod.fst).Perm (Sx gs):=by
   refine(l2x m.nd (qJ r.ids)).2 λz=>?_;rw[m.ky,gX];refine and_congr Iff.rfl ⟨λh c hc hz=>?_,λh e he=>?_⟩
   ·exact h (c.id,z) (zD.2 ⟨c,V.mem_iff.2 hc,rfl,hz⟩) rfl
   ·obtain⟨c,hc,h1,h2⟩:=zD.1 he;exact λe'=>h c (V.mem_iff.1 hc) (e'▸h2)
  have aa:w.length<1000:=by
   have h1:=g.length_eq;have h2:=vE (gs:=gs);rw[Ub]at h1;omega
  refine Wh (n:=n+73) w0 (by omega) (by omega) (Bs m.wf) J g (DJ _) λv H hv O=>?_;exact B _ _ λbb=>by
   obtain⟨q,hq⟩:=X0 (D:=depth-1) (b:=bb) hv O;exact⟨q,hq⟩
end
end
section
variable{q:Bool}{H1:Hp}{es:List rW}{f r u:Nat}{bo:Option (Hb×Nat)}
variable{L n:Nat}
abbrev iV:Nat->AV:=λk=>I (k:Int)
abbrev aV:AV->AV:=λa=>a
section
variable{H H':Hp}{K:KV}{x:Af}{v:AV}{l:List AQ}
def A44{α:Type}{f:α->AV}{b:List (AQ×α)}{x:AQ}{v:α}(h:Al H r=some (.map false (Fc f b) bo)):∃c,∀K:Ru,Oh (.mp r) (SV x) (f v) H K=K (upd H r (.map false (Fc f (F1 b x v)) c)):=by
 have e:∀K:Ru,Oh (.mp r) (SV x) (f v) H K=IN H r λy=>WN y λes bo=>GO (SV x) es λq=>match q with
  |none=>JI H r (.map false (es++[(SV x,f v)]) (wC bo)) K
  |some (i,_)=>JI H r (.map false (es.set i (SV x,f v)) bo) K:=λK=>rfl
 obtain⟨h1,h2⟩:=A09 (x:=x) v b 0;cases a:WW x b 0 with
 |none=>
  rw[a]at h1;refine⟨wC bo,λK=>?_⟩;rw[e,Bq h];show GO (SV x) (Fc f b) _=_;rw[kfK,a];show JI H r (.map false (Fc f b++[(SV x,f v)]) (wC bo)) K=_;rw[C5,<-h1,Fc,Fc,Yr];rfl
 |some p=>
  obtain⟨j,w⟩:=p;rw[a]at h1;refine⟨bo,λK=>?_⟩;rw[e,Bq h];show GO (SV x) (Fc f b) _=_;rw[kfK,a];show JI H r (.map false ((Fc f b).set j (SV x,f v)) bo) K=_;rw[C5,<-h1,Fc,Fc,List.map_set,Nat.sub_zero]
def R6{x:Row}{es:IH}(h:Al H r=some x):Al (upd H r (.map false es bo)) r=some (.map false es bo):=(Dk h).trans rfl
def MD:¬A6 A1 u:=λ⟨_,_,_,h⟩=>by cases h
def AZ.rq(h:AZ H Ao 1 v l.length (AJ l)):T7 H v l:=by
 rcases h with⟨h1,h2,_⟩|⟨r,q,h1,h2,_⟩
 ·exact .inl ⟨h1,lX h2⟩
 ·exact .inr ⟨r,q,[],h1,by rw[YV];exact h2⟩
def B3z{e sz m:Nat}{cs:Is}(h:AZ H e sz v m cs):Zd v v=true:=by
 rcases h with⟨rfl,_⟩|⟨r,q,rfl,_⟩
 ·rfl
 ·show(Nat.beq sz sz&&(Nat.beq r r&&(Nat.beq 0 0&&Nat.beq m m)))=true;rw[ZX,ZX,ZX,ZX];rfl
def okS{a:AV}{K:Af}(h:Zd a a=true):Qb (AS (some (a,H)) a) K=K:=by
 show Qb (some (.v (.bool (Zd a a)),[])) K=K;rw[h];rfl
def C1S(b:AQ)(h:T7 H v l)(w:Wf H)(hn:l.length<1000000):∃A H',(∀K:KV,(Gt Ao 1 Ag 1 [(0,1,S b)] H λv1 H1=>Ed Ao 1 Ag Ab v v1 H1 K)=K A H')/\T7 H' A (l++[b])/\Lat H H' (A6 v)/\(∀u,A6 A u->Ax H<=u):=by
 have main:∃H1,(∀K:KV,Ed Ao 1 Ag Ab v (.sl 1 (Ax H) 0 1) ((Ax H,.cells false Ao [S b])::H) K=Ed Ao 1 Ag Ab v (.sl 1 (Ax H) 0 1) H1 K)/\AZ H1 Ao 1 v l.length (AJ l)/\Lat ((Ax H,.cells false Ao [S b])::H) H1 (A6 v)/\Ax H1=Ax H+1:=by
  rcases h with⟨rfl,rfl⟩|⟨r,q,d,rfl,J⟩
  ·exact⟨_,λK=>rfl,.inl ⟨rfl,rfl,rfl⟩,Lat.refl _ _,rfl⟩
  ·have B:=w.lt J;have a:=AK (x:=.cells false Ao [S b]) B J;cases d with
   |nil=>
    rw[YV]at a;exact⟨_,λK=>rfl,.inr ⟨r,q,rfl,a,by rw[Cb];omega⟩,Lat.refl _ _,rfl⟩
   |cons t d=>
    have g:=A5 (q:=false) (e:=Ao) (cs:=AJ l) a;refine⟨upd ((Ax H,.cells false Ao [S b])::H) r (.cells false Ao (AJ l)),λK=>?_,.inr ⟨r,false,rfl,g,by rw[Cb];omega⟩,Lat.upd _ _ _ ⟨1,0,_,rfl⟩,by rw[BV];rfl⟩;have e:∀H,Ed Ao 1 Ag Ab (.sl 1 r 0 l.length) (.sl 1 (Ax H) 0 1) H K=Ed Ao 1 Ag Ab (.sl 1 r 0 l.length) (.sl 1 (Ax H) 0 1) H K:=λ_=>rfl;have F:∀(k:Hp)(c:AV),Ed Ao 1 Ag Ab (.sl 1 r 0 l.length) c k K=IN k r λx=>Ku x λE cs=>HD cs 0 λcl=>@Bool.rec (λ_=>Af) (RK (Nat.add 0 (Nat.mul l.length 1)) cs λi=>JI k r (.cells false E i) λH1=>Um Ao 1 Ag Ab (.sl 1 r 0 l.length) c H1 K) (Um Ao 1 Ag Ab (.sl 1 r 0 l.length) c k K) (Nat.beq (Nat.add 0 (Nat.mul l.length 1)) cl):=λk c=>rfl;have M:Nat.add 0 (Nat.mul l.length 1)=l.length:=by show 0+l.length*1=l.length;omega
    rw[F,F,Bq a,Bq g,M];show(HD (AJ l++t::d) 0 λcl=>@Bool.rec (λ_=>Af) (RK l.length (AJ l++t::d) λi=>JI _ r (.cells false Ao i) λH1=>Um Ao 1 Ag Ab (.sl 1 r 0 l.length) _ H1 K) _ (Nat.beq l.length cl))=(HD (AJ l) 0 λcl=>@Bool.rec (λ_=>Af) _ (Um Ao 1 Ag Ab (.sl 1 r 0 l.length) _ _ K) (Nat.beq l.length cl))
    rw[Cs,Cs,Kk,Kk,Cb,ZX,EJ,Cb,Kj];have hb:Nat.beq l.length (l.length+(d.length+1))=false:=by
     cases hc:Nat.beq l.length (l.length+(d.length+1)) with
     |false=>rfl
     |true=>have:=Xz hc;omega
    rw[hb];show RK l.length (AJ l++t::d) _=_;rw[NB];have N:(AJ l++t::d).take l.length=AJ l:=by
     have:=List.take_left (l₁:=AJ l) (l₂:=t::d);rw[Cb]at this;exact this
    rw[N,C5]
 obtain⟨H1,m1,V,m3,X⟩:=main;have j:=LC (H:=H) (e:=Ao) (n:=1) (cs:=[S b]) rfl;have C:∀u,A6 (.sl 1 (Ax H) 0 1) u->¬A6 v u:=λu ⟨_,_,_,h1⟩ g=>by
  injection h1 with _ h1
  have:=h.lt w g;omega
 have m:AZ H1 Ao 1 (.sl 1 (Ax H) 0 1) 1 [S b]:=j.kp λu y g Q=>m3.keep (AM w) u y Q (C u g);obtain⟨A,H',h1,h2,O,P⟩:=apt (ie:=Ag) (i2:=Ab) V (λK=>NQ (K:=K) m) rfl rfl (by decide) rfl rfl (by show(l.length+1)*16<=_;omega) (by omega);refine⟨A,H',λK=>?_,?_,((Lat.cons H _ (A6 v)).trans m3 (R:=A6 v) (λ_ _ h=>h) (λ_ _ h=>h)).trans P (λ_ _ h=>h) (λ_ _ h=>h),λu g=>?_⟩
 ·rw[YZ (z:=S []) (λ_=>rfl) (λ_=>rfl) rfl,m1];exact h1 K
 ·refine AZ.rq ?_;rw[EJ,<-Xl];exact h2
 ·rw[O u g,X];omega
end
section
variable{H:Hp}{K:KV}{D:Nat}{b:Bool}
def yR{c:Nat}{q q':Bool}{e:TypeId}{cs cs':Is}(d:Al H c=some (.cells q e cs))(h:Py b D cs cs' H q'):Fx b (D+1) (.ptr c 0 0) (.iptr cs') H true:=λK=>by
 show IN H c (λx=>Ku x λ_ cs=>Il (I5 b H D) (D0 (Nat.add 0 0) cs) λ_ a=>K true (.iptr a))=_;rw[Bq d];show Il (I5 b H D) cs _=_;rw[h]
def B4a{cs cs':Is}(h:Py b D cs cs' H q):Fx b (D+1) (.fn (.func f) [] cs) (.fn (.func f) [] cs') H q:=λK=>h _
def B7S{ws:List (AQ×Nat)}(h:Al H r=some (.map false (Fc iV ws) bo)):Fx true (D+1) (.mp r) (.imap (Fc iV ws)) H true:=λK=>by
 show IN H r (λx=>A22 x λes=>VB (I5 true H D) es λ_ c=>K true (.imap c))=_;rw[Bq h];show VB (I5 true H D) (Fc iV ws) _=_;have e:∀(es:List (AQ×Nat))(F:Bool->IH->Af),VB (I5 true H D) (Fc iV es) F=F false (Fc iV es):=by
  intro es
  induction es with
  |nil=>intro F;rfl
  |cons a es ih=>
   intro F;show I5 true H D (.v (.int .i64 (a.2:Int))) (λq d=>VB (I5 true H D) (Fc iV es) λi g=>F (@Bool.rec (λ_=>Bool) i true q) ((SV a.1,d)::g))=_;rw[CG,ih];rfl
 rw[e]
def B0v{f N:Nat}{c:AV}{s:AQ}(h1:(E (L+20)).ne f=false)(h2:(E (L+20)).imp f=false):C7 (E (L+20)) (rt (L+20) N) (.fn (.func f) [] [c]) [S s] H K=Aj (rt (L+20) N) f [S s,c] H λv=>K v H:=by
 show RM [S s] [c] (λa=>RM [] a λall=>A0f ((E (L+20)).ne f) all H K (@Bool.rec (λ_=>Af) (zpm (E (L+20)) f (rt (L+20) N) all H λv=>K v H) ((rt (L+20) N).call f all H K) ((E (L+20)).imp f)))=_;rw[I6,I6,h1,h2];show zpm (E (L+20)) f (rt (L+20) N) [S s,c] H (λv=>K v H)=_;rw[A6p (by simp)]
def B9k{m s:AQ}:CS (r! L (n+1)) IB [S s,.iptr [S m]] (Bo (decide (s=m))):=by
 intro K a;rw[Ye];unfold Nw NW;rw[Hy,MK];exact a _ _ λb=>⟨false,CG⟩
def A3e{ws:List (AQ×Nat)}{s:AQ}:CS (r! L (n+1)) Kq [S s,.iptr [.imap (Fc iV ws)]] (Bo (decide (0<(Jo ws s).getD 0))):=by
 intro K a;rw[Yf];unfold Nx NW;have h:∀{K:K2},A7 CK (.iptr [.imap (Fc iV ws)]) [] K=K (.imap (Fc iV ws)):=λ{K}=>OQ rfl;have g:∀(F:Value->Af),It (S s) F=F (SV s):=λF=>id rfl;rw[h,g,dT (f:=iV) (b:=ws) (λK=>id rfl)];have c:∀(k:Nat)(K:K2),Ap Ac .gtr (iV k) (AV.v (.int .i64 0)) K=K (Bo (decide (0<k))):=λk K=>by
  have e:decide ((0:Int)<(k:Int))=decide (0<k):=decide_eq_decide.2 (by omega);rw[DB,e]
 cases d:Jo ws s with
 |none=>
  rw[d]at a;show Ap Ac .gtr (iV 0) (AV.v (.int .i64 0)) _=_;rw[c];exact a _ _ λb=>⟨false,CG⟩
 |some k=>
  rw[d]at a;show Ap Ac .gtr (iV k) (AV.v (.int .i64 0)) _=_;rw[c];exact a _ _ λb=>⟨false,CG⟩
end
structure OsK(gs:dn)(ws:List (AQ×Nat))(ch:List (AQ×AV))(b1 b3:Option (Hb×Nat))(wt:AQ->Nat)(ct:AQ->List AQ)(H:Hp):Prop where
 net:Al H 0=some (c_ Bx [gV gs])
 m1:Al H 1=some (.map false (Fc iV ws) b1)
 p1:Al H 2=some (c_ Fp [.mp 1])
 m3:Al H 3=some (.map false (Fc aV ch) b3)
 p3:Al H 4=some (c_ Db [.mp 3])
 wf:Wf H
 wv:∀x,(Jo ws x).getD 0=wt x
 cv:∀p,AZ H Ao 1 ((Jo ch p).getD A1) (ct p).length (AJ (ct p))
 cr:∀p u,A6 ((Jo ch p).getD A1) u->6<u
 cd:∀p p' u,A6 ((Jo ch p).getD A1) u->A6 ((Jo ch p').getD A1) u->p=p'
section
variable{gs:dn}{ws:List (AQ×Nat)}{ch:List (AQ×AV)}{b1 b3:Option (Hb×Nat)}{wt:AQ->Nat}{ct:AQ->List AQ}{H H':Hp}{s p:AQ}
theorem OsK.kp(h:OsK gs ws ch b1 b3 wt ct H)(w:Wf H')(k:∀u y,(u<5\/∃p,A6 ((Jo ch p).getD A1) u)->Al H u=some y->Al H' u=some y):OsK gs ws ch b1 b3 wt ct H':=
 ⟨k _ _ (.inl (by decide)) h.net,k _ _ (.inl (by decide)) h.m1,k _ _ (.inl (by decide)) h.p1,k _ _ (.inl (by decide)) h.m3,k _ _ (.inl (by decide)) h.p3,w,h.wv,λp=>(h.cv p).kp λu y a c=>k u y (.inr ⟨p,a⟩) c,h.cr,h.cd⟩
def OsK.ne(h:OsK gs ws ch b1 b3 wt ct H)(a:u<5\/∃p,A6 ((Jo ch p).getD A1) u):u≠5/\u≠6:=by
 rcases a with a|⟨q,a⟩
 ·omega
 ·have:=h.cr q u a;omega
def OsK.lw(h:OsK gs ws ch b1 b3 wt ct H){K:K2}:Tt Ac false (.mp 1) (SV s) H K=K (I (wt s:Int)):=by
 rw[dT (f:=iV) (b:=ws) (λK=>Qt h.m1),<-h.wv s];cases Jo ws s<;>rfl
def OsK.lc(h:OsK gs ws ch b1 b3 wt ct H){K:K2}:Tt Ab false (.mp 3) (SV p) H K=K ((Jo ch p).getD A1):=by
 rw[dT (f:=aV) (b:=ch) (λK=>Qt h.m3)];cases Jo ch p<;>rfl
def OsK.put(h:OsK gs ws ch b1 b3 wt ct H)(k:Nat):∃a H',(∀K:Ru,Oh (.mp 1) (SV s) (I (k:Int)) H K=K H')/\OsK gs (F1 ws s k) ch a b3 (λx=>if s=x then k else wt x) ct H'/\H'=upd H 1 (.map false (Fc iV (F1 ws s k)) a):=by
 obtain⟨a,e⟩:=A44 (f:=iV) (x:=s) (v:=k) h.m1;have n1:∀u,u≠1->Al (upd H 1 (.map false (Fc iV (F1 ws s k)) a)) u=Al H u:=λu d=>Ah d;refine⟨a,_,e,⟨by rw[n1 _ (by decide)];exact h.net,R6 h.m1,by rw[n1 _ (by decide)];exact h.p1,by rw[n1 _ (by decide)];exact h.m3,by rw[n1 _ (by decide)];exact h.p3,Bs h.wf,λx=>?_,λp=>?_,h.cr,h.cd⟩,rfl⟩
 ·rw[GQ];by_cases c:s=x
  ·rw[CZ c,CZ c];rfl
  ·rw[Cr c,Cr c];exact h.wv x
 ·exact(h.cv p).kp λu y d g=>by rw[n1 _ (by have:=h.cr p u d;omega)];exact g
end
def fC(gs:dn)(es:List rW)(x:AQ):Nat:=(es.filter λe=>decide (e.1=x)&&decide (e.2∈gs.map Cd.id)).length
def eC(gs:dn)(es:List rW)(p:AQ):List AQ:=(es.filter λe=>decide (e.2=p)&&decide (p∈gs.map Cd.id)).map Prod.fst
def A3c{gs:dn}{s p x:AQ}:fC gs (es++[(s,p)]) x=if p∈gs.map Cd.id then(if s=x then fC gs es s+1 else fC gs es x) else fC gs es x:=by
 unfold fC;rw[List.filter_append,EJ];by_cases h1:p∈gs.map Cd.id
 ·rw[CZ h1];by_cases h2:s=x
  ·subst h2;rw[CZ rfl,List.filter_cons_of_pos (by simp only[Ki h1,decide_true,Bool.and_self])];rfl
  ·rw[Cr h2,List.filter_cons_of_neg (by simp only[KD h2,Bool.false_and];simp)];rfl
 ·rw[Cr h1,List.filter_cons_of_neg (by simp only[KD h1,Bool.and_false];simp)];rfl
def A49{gs:dn}{s p q:AQ}:eC gs (es++[(s,p)]) q=if p∈gs.map Cd.id then(if p=q then eC gs es p++[s] else eC gs es q) else eC gs es q:=by
 unfold eC;rw[List.filter_append,Yr];by_cases h1:p∈gs.map Cd.id
 ·rw[CZ h1];by_cases h2:p=q
  ·subst h2;rw[CZ rfl,List.filter_cons_of_pos (by simp only[Ki h1,decide_true,Bool.and_self])];rfl
  ·rw[Cr h2,List.filter_cons_of_neg (by simp only[KD h2,Bool.false_and];simp)];exact YV _
 ·rw[Cr h1,List.filter_cons_of_neg (by
   by_cases h2:p=q
   ·subst h2;simp only[KD h1,Bool.and_false];simp
   ·simp only[KD h2,Bool.false_and];simp)]
  exact YV _
def B4v{gs:dn}{x:AQ}:fC gs es x<=es.length:=l2v _ _
def zN{gs:dn}{p:AQ}:(eC gs es p).length<=es.length:=by
 unfold eC;rw[Ub];exact l2v _ _
def lW(gs:dn)(p:Option (Option Code)):Row:=.loop 86 [(2,A1),(3,.v (.int .i64 0)),(4,.ptr 0 0 0),(6,.ptr 2 0 0),(7,.ptr 4 0 0),(8,.dk),(9,.dk),(10,.dk),(11,.dk),(25,A98 gs),(26,.dk),(27,.dk),(28,.dk),(29,.dk),(30,.dk),(31,.dk),(32,.dk),(33,.dk),(34,.dk),(35,.dk),(36,.dk),(37,.dk),(38,.dk),(39,.dk),(40,.dk),(41,.dk),(42,.dk),(61,.dk),(62,.dk),(63,.dk)] (E5).2.1 (E5).2.2.1 (E5).2.2.2 p
def C1X(gs:dn)(es:List rW)(H:Hp):Prop:=Al H 5=some (lW gs (some none))/\∃ws ch b1 b3,OsK gs ws ch b1 b3 (fC gs es) (eC gs es) H
section
variable{gs:dn}
def B3V{K:Ru}(h:Al H1 5=some (lW gs none)):Ek H1 5 false (some none) K=K (upd H1 5 (lW gs (some none))):=Qy h
def C0p{K:Ru}(h:Al H1 5=some (lW gs (some none))):Ek H1 5 true none K=K (upd H1 5 (lW gs none)):=Qz h
def B1E:rL (r! L (n+2)) L 5 6 (C1X gs):=by
 intro es s p H K x ak ⟨J,ws,ch,b1,b3,h⟩ hx;show Ol (r! L (n+2)) 5 [S s,S p] H K=x;rw[Qw J (by kernel_rfl)];have aa:(r! L (n+2)).run= λcf=>Jr (E (L+20)) (r! L (n+1)) cf:=rfl;rw[aa,fU,C0p J];simp only[BJ];have h1:OsK gs ws ch b1 b3 (fC gs es) (eC gs es) (upd H 5 (lW gs none)):=h.kp (Bs h.wf) λu y c g=>by
  rw[Ah (h.ne c).1];exact g
 have A:Al (upd H 5 (lW gs none)) 5=some (lW gs none):=FE J;have k1:∀y,Al H 6=some y->Al (upd H 5 (lW gs none)) 6=some y:=λy g=>by rw[Ah (by decide)];exact g
 generalize upd H 5 (lW gs none)=H1 at h1 A k1;show A7 AC (.ptr 0 0 0) H1 _=_;rw[AH (p:=0) rfl h1.net (by simp)];show Aj (r! L (n+1)) Ec [gV gs,S p] H1 _=_;rw[lO];by_cases Q:p∈gs.map Cd.id
 ·rw[Ki Q];show A2 (.v (.bool true)) _ _=_;rw[CA];show A7 CK (.ptr 2 0 0) H1 _=_;have R:∀(s:AQ)(F:Value->Af),It (S s) F=F (SV s):=λs F=>id rfl;rw[AH (p:=0) rfl h1.p1 (by simp),R];show Tt Ac false (.mp 1) (SV s) H1 _=_;rw[h1.lw,Dg (by have:=B4v (gs:=gs) (es:=es) (x:=s);omega),R];obtain⟨j,w,P,h2,C⟩:=h1.put (s:=s) (fC gs es s+1);show Oh (.mp 1) (SV s) (I ((fC gs es s+1:Nat):Int)) H1 _=_;rw[P];have Y:Al w 5=some (lW gs none):=by rw[C,Ah (by decide)];exact A
  have k2:∀y,Al H 6=some y->Al w 6=some y:=λy g=>by rw[C,Ah (by decide)];exact k1 y g
  clear C P;have V:∀{H:Hp}{wt:AQ->Nat}{j:Option (Hb×Nat)}{ac:List (AQ×Nat)}{K:K2},OsK gs ac ch j b3 wt (eC gs es) H->A7 Bn (.ptr 4 0 0) H K=K (.mp 3):=λ{H wt j ac K}h=>by
   rw[AH (p:=0) rfl h.p3 (by simp)];rfl
  rw[V h2,BN,BN,R];have aj:=h2.cv p;have ai:∀u,A6 ((Jo ch p).getD A1) u->6<u:=h2.cr p;rw[h2.lc,BN,YZ (z:=S []) (λ_=>rfl) (λ_=>rfl) rfl,RY];have d:OsK gs (F1 ws s (fC gs es s+1)) ch j b3 (λx=>if s=x then fC gs es s+1 else fC gs es x) (eC gs es) ((Ax w,.cells false Ao [S s])::w):=h2.kp (AM h2.wf) λu y _ g=>AK (h2.wf.lt g) g;have am:Ax ((Ax w,Row.cells false Ao [S s])::w)=Ax w+1:=rfl;have ah:=h2.wf.lt Y;have ab:=LC (H:=w) (e:=Ao) (n:=1) (cs:=[S s]) rfl;obtain⟨N,B,a1,a2,a3,O⟩:=apt (ie:=Ag) (i2:=Ab) (d.cv p) (λK=>NQ (K:=K) ab) rfl rfl (by decide) rfl rfl (by have:=zN (gs:=gs) (es:=es) (p:=p);show((eC gs es p).length+1)*16<=_;omega) (by have:=zN (gs:=gs) (es:=es) (p:=p);omega);rw[a1,RY,R];have nr:∀{u:Nat},u<7->¬A6 ((Jo ch p).getD A1) u:=λc h=>by have:=ai _ h;omega
  have X:=O.keep d.wf 3 _ d.m3 (nr (by decide));obtain⟨k,e5⟩:=A44 (f:=aV) (x:=p) (v:=N) X;show CP (Oh (.mp 3) (SV p) (aV N) B λH=>some (AV.v undef,H)) _=_;rw[e5,RY,V d];have M:∀{K:Af},Qb (AS (some (AV.mp 3,[])) (.mp 3)) K=K:=λ{K}=>okS rfl;have ae:Al B 4=some (c_ Db [.mp 3]):=O.keep d.wf 4 _ d.p3 (nr (by decide));have ad:∀{K:K2},A7 Bn (.ptr 4 0 0) B K=K (.mp 3):=λ{K}=>by
   rw[AH (p:=0) rfl ae (by simp)];rfl
  rw[M,ad,M,M,R,d.lc,okS (B3z aj)];have w4:=O.wf d.wf;have af:=AK (x:=.cells false Ao [S s]) ah Y;have ag:=O.keep d.wf 5 _ af (nr (by decide));have Z:Al (upd B 3 (.map false (Fc aV (F1 ch p N)) k)) 5=some (lW gs none):=by rw[Ah (by decide)];exact ag
  show Ek (upd B 3 (.map false (Fc aV (F1 ch p N)) k)) 5 false (some none) _=_;rw[B3V Z];have k6:∀u y,(u≠3/\u≠5)->Al B u=some y->Al (upd (upd B 3 (.map false (Fc aV (F1 ch p N)) k)) 5 (lW gs (some none))) u=some y:=λu y c g=>by
   rw[Ah c.2,Ah c.1];exact g
  have t:∀u y,u≠3/\u≠5->u<7->Al ((Ax w,Row.cells false Ao [S s])::w) u=some y->Al (upd (upd B 3 (.map false (Fc aV (F1 ch p N)) k)) 5 (lW gs (some none))) u=some y:=λu y c h7 g=>k6 u y c (O.keep d.wf u y g (nr h7));refine hx _ ⟨FE Z,F1 ws s (fC gs es s+1),F1 ch p N,j,k,⟨t 0 _ (by decide) (by decide) d.net,t 1 _ (by decide) (by decide) d.m1,t 2 _ (by decide) (by decide) d.p1,?_,t 4 _ (by decide) (by decide) d.p3,Bs (Bs w4),λy=>?_,λq=>?_,λq u c=>?_,λq q' u c i=>?_⟩⟩ λy g=>?_
  ·rw[Ah (by decide)];exact R6 X
  ·rw[d.wv,A3c,CZ Q]
  ·rw[GQ,A49,CZ Q];by_cases hq:p=q
   ·subst hq;rw[CZ rfl,CZ rfl,l1l,EJ,<-Xl];refine a2.kp λu y c g=>k6 u y ?_ g;have:=a3 u c;omega
   ·rw[Cr hq,Cr hq];refine(d.cv q).kp λu y c g=>k6 u y (by have:=d.cr q u c;omega) (O.keep d.wf u y g λhc=>hq (d.cd p q u hc c))
  ·rw[GQ]at c;by_cases hq:p=q
   ·rw[CZ hq,l1l]at c;have:=a3 u c;omega
   ·rw[Cr hq]at c;exact d.cr q u c
  ·rw[GQ]at c i;by_cases hq:p=q
   ·by_cases m:p=q'
    ·exact hq.symm.trans m
    ·rw[CZ hq,l1l]at c;rw[Cr m]at i;have e1:=a3 u c;have P:=(d.cv q').lt d.wf i;omega
   ·rw[Cr hq]at c;by_cases m:p=q'
    ·rw[CZ m,l1l]at i;have e1:=a3 u i;have P:=(d.cv q).lt d.wf c;omega
    ·rw[Cr m]at i;exact d.cd q q' u c i
  ·have a:=k2 y g;exact t 6 _ (by decide) (by decide) (AK (h2.wf.lt a) a)
 ·rw[KD Q];show A2 (.v (.bool false)) _ _=_;rw[Bm];show Ek H1 5 false (some none) _=_;rw[B3V A];have e1:fC gs (es++[(s,p)])=fC gs es:=funext λy=>by rw[A3c,Cr Q]
  have P:eC gs (es++[(s,p)])=eC gs es:=funext λy=>by rw[A49,Cr Q]
  refine hx _ ⟨FE A,ws,ch,b1,b3,?_⟩ λy g=>?_
  ·rw[e1,P];refine h1.kp (Bs h1.wf) λu y c g=>?_;rw[Ah (h1.ne c).1];exact g
  ·rw[Ah (by decide)];exact k1 y g
end
end
section
variable{a0 a1 d5 d6 e0 e1 e2 e3 e4 e5 e6 e7 e8 e9 f0 f1 f2 f3 f4 f5 f6 f7:AV}
variable{L n:Nat}
def Uw(gs:dn)(es:List rW)(out rem:List AQ)(x:AQ):Nat:=(es.filter λe=>decide (e.1=x)&&(decide (e.2∈gs.map Cd.id)&&decide (e.2∉out))).length+rem.count x
section
variable{gs:dn}{es:List rW}{out rem l:List AQ}{x c m:AQ}
def We:Uw gs es out (c::rem) x=Uw gs es out rem x+if c=x then 1 else 0:=by
 unfold Uw;rw[List.count_cons,Yq]
 congr 2
 by_cases h:c=x<;>simp[h]
def A3b:Uw gs es [] []=fC gs es:=by
 funext x
 unfold Uw fC;simp
def B4u:Uw gs es out rem x<=es.length+rem.length:=by
 have h1:=l2v (λe:rW=>decide (e.1=x)&&(decide (e.2∈gs.map Cd.id)&&decide (e.2∉out))) es;have h2:=List.count_le_length (a:=x) (l:=rem);unfold Uw;omega
def A3a(h1:m∈gs.map Cd.id)(h2:m∉out):Uw gs es (out++[m]) (eC gs es m)=Uw gs es out []:=by
 funext x
 unfold Uw eC;rw[List.count_nil,Nat.add_zero]
 induction es with
 |nil=>rfl
 |cons e es ih=>
  rw[l2h,l2h,l2h];by_cases hm:e.2=m
  ·have e1:(decide (e.1=x)&&(decide (e.2∈gs.map Cd.id)&&decide (e.2∉out++[m])))=false:=by simp[hm]
   have e2:(decide (e.2=m)&&decide (m∈gs.map Cd.id))=true:=by rw[Ki hm,Ki h1];rfl
   by_cases a:e.1=x
   ·have e3:(decide (e.1=x)&&(decide (e.2∈gs.map Cd.id)&&decide (e.2∉out)))=true:=by rw[Ki a,hm,Ki h1,Ki h2];rfl
    have e4:(e.1==x)=true:=by simp[a]
    simp only[e1,e2,e3,e4,tL,if_false,if_true,VC,Kj,List.count_cons];omega
   ·have e3:(decide (e.1=x)&&(decide (e.2∈gs.map Cd.id)&&decide (e.2∉out)))=false:=by rw[KD a];rfl
    have e4:(e.1==x)=false:=by simp[a]
    simp only[e1,e2,e3,e4,tL,if_false,if_true,VC,List.count_cons];omega
  ·have e2:(decide (e.2=m)&&decide (m∈gs.map Cd.id))=false:=by rw[KD hm];rfl
   have e1:decide (e.2∉out++[m])=decide (e.2∉out):=by simp[hm]
   cases hb:(decide (e.1=x)&&(decide (e.2∈gs.map Cd.id)&&decide (e.2∉out))) with
   |true=>
    simp only[e1,e2,hb,tL,if_false,if_true,Kj];omega
   |false=>
    simp only[e1,e2,hb,tL,if_false];exact ih
structure Ri(gs:dn)(es:List rW)(out rem l:List AQ):Prop where
 nd:l.Nodup
 mem:∀x,x∈l↔x∈gs.map Cd.id/\x∉out/\Uw gs es out rem x=0
 jz:∀x∈out,Uw gs es out rem x=0
 rid:∀x∈rem,x∈gs.map Cd.id
def Ri.len(h:Ri gs es out rem l):l.length<=gs.length:=by
 have:=pF h.nd λx a=>((h.mem x).1 a).1;rw[Ub]at this;exact this
def Ri.pos:1<=Uw gs es out (c::rem) c:=by rw[We,CZ rfl];omega
def Ri.dec:(λx=>if c=x then Uw gs es out (c::rem) c-1 else Uw gs es out (c::rem) x)=Uw gs es out rem:=by
 funext x
 by_cases h:c=x
 ·subst h;rw[CZ rfl,We,CZ rfl];omega
 ·rw[Cr h,We,Cr h];rfl
def Ri.step(h:Ri gs es out (c::rem) l):(Uw gs es out rem c=0->Ri gs es out rem (l++[c]))/\(Uw gs es out rem c≠0->Ri gs es out rem l):=by
 have s:1<=Uw gs es out (c::rem) c:=Ri.pos;have f:c∉l:=λhc=>by have:=((h.mem c).1 hc).2.2;omega
 have q:c∉out:=λhc=>by have:=h.jz c hc;omega
 have p:=h.rid c (by simp);have i:∀x∈out,Uw gs es out rem x=0:=λx d=>by
  have:=h.jz x d;rw[We]at this;omega
 have j:∀x,c≠x->Uw gs es out (c::rem) x=Uw gs es out rem x:=λx d=>by rw[We,Cr d];rfl
 refine⟨λk=>⟨l2y.2 ⟨h.nd,by simp,λa r b hb=>by simp at hb;subst hb;exact λe=>f (e▸r)⟩,λx=>?_,i,λx d=>h.rid x (by simp[d])⟩,λk=>⟨h.nd,λx=>?_,i,λx d=>h.rid x (by simp[d])⟩⟩
 ·rw[Yp,ZW];by_cases d:c=x
  ·subst d;exact⟨λ_=>⟨p,q,k⟩,λ_=>.inr rfl⟩
  ·rw[h.mem,j x d];exact⟨λg=>g.elim id λe=>absurd e.symm d,.inl⟩
 ·by_cases d:c=x
  ·subst d;exact⟨λg=>absurd g f,λg=>absurd g.2.2 k⟩
  ·rw[h.mem,j x d]
def Ri.take(h:Ri gs es out [] l)(i:∀e∈es,e.1∈gs.map Cd.id)(hm:m∈l):Ri gs es (out++[m]) (eC gs es m) (l.filter λs=>!decide (s=m)):=by
 obtain⟨h1,h2,p⟩:=(h.mem m).1 hm;have j:Uw gs es (out++[m]) (eC gs es m)=Uw gs es out []:=A3a h1 h2;refine⟨h.nd.sublist List.filter_sublist,λx=>?_,λx a=>?_,λx a=>?_⟩
 ·rw[j,l2u,h.mem,Yp,ZW];constructor
  ·rintro⟨⟨a1,a2,f⟩,k⟩;have g:x≠m:=by simpa using k
   exact⟨a1,λd=>d.elim a2 g,f⟩
  ·rintro⟨a1,a2,f⟩;refine⟨⟨a1,λd=>a2 (.inl d),f⟩,?_⟩;have:x≠m:=λd=>a2 (.inr d);simp[this]
 ·rw[j];rcases Yp.1 a with a|a
  ·exact h.jz x a
  ·rw[ZW]at a;subst a;exact p
 ·obtain⟨e,he,rfl⟩:=Us.1 a;exact i e (l2u.1 he).1
def Ri.perm(h:Ri gs es out [] l)(d:∀e:rW,e∈es↔e.1∈gs.map Cd.id/\e.2∈Lr gs e.1)(hn:(gs.map Cd.id).Nodup):l.Perm (sM gs out):=by
 refine(l2x h.nd (hn.sublist List.filter_sublist)).2 λx=>?_;rw[h.mem];show _↔x∈sM gs out;rw[Xq];refine and_congr_right λi=>and_congr_right λ_=>?_;unfold Uw;rw[List.count_nil,Nat.add_zero,List.length_eq_zero_iff,List.filter_eq_nil_iff];constructor
 ·intro a p g f;have:=a (x,p) ((d _).2 ⟨i,g⟩);apply l2z;intro hc;exact this (by rw[Ki rfl,Ki f,Ki hc];rfl)
 ·intro a e he;obtain⟨h1,h2⟩:=(d e).1 he;intro hc;simp only[J2,decide_eq_true_eq]at hc;obtain⟨c1,c2,c3⟩:=hc;rw[c1]at h2;exact c3 (a _ h2 c2)
end
structure Mo(gs:dn)(out l:List AQ)(wt:AQ->Nat)(ct:AQ->List AQ)(ws:List (AQ×Nat))(ch:List (AQ×AV))(b1 b3:Option (Hb×Nat))(rv ov:AV)(H:Hp):Prop where
 os:OsK gs ws ch b1 b3 wt ct H
 rd:T7 H rv l
 ot:AZ H Ao 1 ov out.length (AJ out)
 rr:∀u,A6 rv u->4<u/\¬A6 ov u/\∀p,¬A6 ((Jo ch p).getD A1) u
 oo:∀u,A6 ov u->4<u/\∀p,¬A6 ((Jo ch p).getD A1) u
section
variable{H:Hp}{v:AV}{l:List AQ}
def AZ.ia(h:AZ H Ao 1 v l.length (AJ l)){i:Nat}(d:i<l.length):∃a,(∀K:K2,Dh Ab v (I (i:Int)) K=K a)/\∀K:K2,A7 Ag a H K=K (S l[i]):=by
 rcases h with⟨_,h2,_⟩|⟨r,q,rfl,h2,_⟩
 ·omega
 ·exact⟨.ptr r i 0,λK=>XG d,λK=>zG h2 d⟩
end
section
variable{gs:dn}{es:List rW}{out l:List AQ}{ws:List (AQ×Nat)}{ch:List (AQ×AV)}{b1 b3:Option (Hb×Nat)}{rv ov:AV}{K:KV}{x:Af}{ct:AQ->List AQ}
def B7k{R:Rt}{r:AV->AV->AV->AV->AV->AV->AV->AV->AV->AV->AV->AV->AV->AV->AV->AV->AV->AV->AV->AV->AV->AV->AV->AV->AV->AV->AV->AV->AV->KV}{a0 a1 a2 d5 d6 e0 e1 e2 e3 e4 e5 e6 e7 e8 e9 f0 f1 f2 f3 f4 f5 f6 f7:AV}{m:AQ}(hb:es.length<1000)(hg:gs.length<=8)(aa:(ct m).length<1000)(hx:∀V O j B P,Mo gs out V (Uw gs es out []) ct O ch j b3 B ov P->Ri gs es out [] V->r a0 a1 a2 (.ptr 2 0 0) (.ptr 4 0 0) d5 d6 B ov e0 e1 e2 e3 e4 e5 e6 e7 e8 e9 f0 f1 f2 f3 f4 f5 f6 f7 ((Jo ch m).getD A1) (I (ct m).length) (I (ct m).length) P=x):
 ∀(f i:Nat)(l:List AQ)(ws:List (AQ×Nat))(b1:Option (Hb×Nat))(rv:AV)(H:Hp),i<=(ct m).length->(ct m).length-i<f->Mo gs out l (Uw gs es out ((ct m).drop i)) ct ws ch b1 b3 rv ov H->Ri gs es out ((ct m).drop i) l->
 RA (L+20) R K r f a0 a1 a2 (.ptr 2 0 0) (.ptr 4 0 0) d5 d6 rv ov e0 e1 e2 e3 e4 e5 e6 e7 e8 e9 f0 f1 f2 f3 f4 f5 f6 f7 ((Jo ch m).getD A1) (I (ct m).length) (I i) H=x:=by
 intro f
 induction f with
 |zero=>intro i l ws b1 rv H _ h;omega
 |succ f ih=>
  intro i l ws b1 rv H hi hf h hr;rw[gZ];unfold RC HN Az;by_cases A:i<(ct m).length
  ·obtain⟨a,Y,el⟩:=(h.os.cv m).ia A;rw[tK A]at h hr;have ad:=B4u (gs:=gs) (es:=es) (out:=out) (rem:=(ct m)[i]::(ct m).drop (i+1)) (x:=(ct m)[i]);have Q:1<=Uw gs es out ((ct m)[i]::(ct m).drop (i+1)) (ct m)[i]:=Ri.pos;have ab:((ct m)[i]::(ct m).drop (i+1)).length<=(ct m).length:=by rw[Kj,l0t];omega
   rw[Fo (by omega),CA];simp only[BJ];have N:∀(s:AQ)(F:Value->Af),It (S s) F=F (SV s):=λs F=>id rfl;rw[Y,el];rw[AH (p:=0) rfl h.os.p1 (by simp),N];show Tt Ac false (.mp 1) (SV (ct m)[i]) H _=_;rw[h.os.lw,nY (by omega) (by omega),N];obtain⟨j,C,t,h2,w⟩:=h.os.put (s:=(ct m)[i]) (Uw gs es out ((ct m)[i]::(ct m).drop (i+1)) (ct m)[i]-1);show Oh (.mp 1) (SV (ct m)[i]) (I ((Uw gs es out ((ct m)[i]::(ct m).drop (i+1)) (ct m)[i]-1:Nat):Int)) H _=_;rw[t];rw[Ri.dec]at h2;have n1:∀u y,u≠1->Al H u=some y->Al C u=some y:=λu y g q=>by rw[w,Ah g];exact q
   rw[AH (p:=0) rfl h2.p1 (by simp),N];show Tt Ac false (.mp 1) (SV (ct m)[i]) C _=_;rw[h2.lw];have d:Mo gs out l (Uw gs es out ((ct m).drop (i+1))) ct (F1 ws (ct m)[i] (Uw gs es out ((ct m)[i]::(ct m).drop (i+1)) (ct m)[i]-1)) ch j b3 rv ov C:=
    ⟨h2,h.rd.kp λu y g q=>n1 u y (by have:=(h.rr u g).1;omega) q,h.ot.kp λu y g q=>n1 u y (by have:=(h.oo u g).1;omega) q,h.rr,h.oo⟩
   have Z:∀(k:Nat)(K:K2),Ap Ac .eql (I (k:Int)) (AV.v (.int .i64 0)) K=K (Bo (decide (k=0))):=λk K=>by
    have e:decide ((k:Int)=0)=decide (k=0):=decide_eq_decide.2 (by omega);rw[Dn,e]
   rw[Z];clear t w;by_cases D:Uw gs es out ((ct m).drop (i+1)) (ct m)[i]=0
   ·rw[Ki D,CA];have ac:=hr.len;obtain⟨v',X,a1,a2,J,M⟩:=C1S (ct m)[i] d.rd d.os.wf (by omega);rw[a1,Dg (by omega)];have h4:=d.os.wf.lt d.os.p3;refine ih (i+1) (l++[(ct m)[i]]) _ j v' X (by omega) (by omega) ⟨d.os.kp (J.wf d.os.wf) λu y g q=>J.keep d.os.wf u y q λhc=>?_,a2,d.ot.kp λu y g q=>J.keep d.os.wf u y q λhc=>(d.rr u hc).2.1 g,λu g=>⟨?_,λhc=>?_,λp hc=>?_⟩,d.oo⟩ (hr.step.1 D)
    ·rcases g with g|⟨p,hp⟩
     ·have:=(d.rr u hc).1;omega
     ·exact(d.rr u hc).2.2 p hp
    ·have:=M u g;omega
    ·have g1:=M u g;have g2:=d.ot.lt d.os.wf hc;omega
    ·have g1:=M u g;have g2:=(d.os.cv p).lt d.os.wf hc;omega
   ·rw[KD D,Bm,Dg (by omega)];exact ih (i+1) l _ j rv C (by omega) (by omega) d (hr.step.2 D)
  ·rw[XA2 (by omega),Bm];have:i=(ct m).length:=by omega
   subst this;rw[List.drop_length]at h hr;exact hx l ws b1 rv H h hr
def A9y{H:Hp}:Ba Ao Ag H K=K (.ptr (Ax H) 0 0) ((Ax H,c_ Ao [S []])::H):=by
 unfold Ba;rw[CQ,BW];rfl
def A89(h:sM gs out=[]):∀N,gC gs N out=out:=by
 intro N;cases N with
 |zero=>rfl
 |succ N=>
  unfold gC;rw[h];rfl
def B7l{ab:AV->KV}(hb:es.length<1000)(hg:gs.length<=8)(hL:200000<L)(hn:(gs.map Cd.id).Nodup)(hE:∀e:rW,e∈es↔e.1∈gs.map Cd.id/\e.2∈Lr gs e.1){r:List AQ}(hx:∀ov H,AZ H Ao 1 ov r.length (AJ r)->(r=[]->ov=A1)->Al H 0=some (c_ Bx [gV gs])->ab (.ptr 0 0 0) ov H=x):
 ∀(N f:Nat)(out l:List AQ)(ws:List (AQ×Nat))(b1:Option (Hb×Nat))(rv ov:AV)(H:Hp)(z0 z1 z2:AV),N<f->gs.length<=out.length+N->OrdK gs out->Mo gs out l (Uw gs es out []) (eC gs es) ws ch b1 b3 rv ov H->Ri gs es out [] l->(out=[]->ov=A1)->gC gs N out=r->
 RB (L+20) (r! L (n+4)) K ab f a0 a1 (.ptr 0 0 0) (.ptr 2 0 0) (.ptr 4 0 0) d5 d6 rv ov e0 e1 e2 e3 e4 e5 e6 e7 e8 e9 f0 f1 f2 f3 f4 f5 f6 f7 z0 z1 z2 H=x:=by
 intro N
 induction N with
 |zero=>
  intro f out l ws b1 rv ov H z0 z1 z2 hf V ho h hr h0 d;cases f with
  |zero=>omega
  |succ f=>
   have hl:l=[]:=by
    have j:=hr.perm hE hn;rw[A7f ho (by omega)]at j;exact j.eq_nil
   subst hl;rw[Ue];unfold N8 Az;have el:∀{K:K2},Bh Ab rv K=K (I ((0:Nat):Int)):=λ{K}=>h.rd.len;have Q:∀{K:K2},Ap Ac .gtr (I ((0:Nat):Int)) (AV.v (.int .i64 0)) K=K (Bo false):=λ{K}=>by rw[DB];rfl
   rw[el,Q,Bm];rw[<-d]at hx;exact hx ov H h.ot h0 h.os.net
 |succ N ih=>
  intro f out l ws b1 rv ov H z0 z1 z2 hf V ho h hr h0 d;cases f with
  |zero=>omega
  |succ f=>
   have j:=hr.perm hE hn;rw[Ue];unfold N8 Az;rw[h.rd.len];cases Z:FF (sM gs out) with
   |nil=>
    have Y:sM gs out=[]:=by
     have:=(BF (sM gs out)).length_eq;rw[Z]at this;exact lX this.symm
    have hl:l=[]:=by rw[Y]at j;exact j.eq_nil
    subst hl;have Q:∀{K:K2},Ap Ac .gtr (I (([]:List AQ).length:Int)) (AV.v (.int .i64 0)) K=K (Bo false):=λ{K}=>by rw[DB];rfl
    rw[Q,Bm];rw[A89 Y]at d;subst d;exact hx ov H h.ot h0 h.os.net
   |cons m t=>
    have J:gC gs N (out++[m])=r:=by
     unfold gC at d;rw[Z]at d;exact d
    have C:m∈sM gs out:=(BF _).mem_iff.1 (by rw[Z];simp);have hm:m∈l:=j.mem_iff.2 C;have X:∀y∈l,m<=y:=λy i=>by
     have h1:y∈m::t:=by rw[<-Z];exact(BF _).mem_iff.2 (j.mem_iff.1 i)
     have h2:=DJ (sM gs out);rw[Z,l2k]at h2;rcases Qd.1 h1 with rfl|h1
     ·exact(Je _ _).elim id id
     ·exact h2.1 y h1
    have ay:=hr.len;have az:0<l.length:=List.length_pos_of_mem hm;have Q:∀{K:K2},Ap Ac .gtr (I (l.length:Int)) (AV.v (.int .i64 0)) K=K (Bo true):=λ{K}=>by rw[DB,Ki (by omega)]
    rw[Q,CA];simp only[BJ];obtain⟨a,q,ha,hq⟩:=h.rd.fx (D:=depth-1);have af:a=Ls l:=by
     rcases ha with rfl|⟨rfl,_⟩
     ·rfl
     ·simp at hm
    subst af;rw[AE (B9i (n:=n+3) hm X (by omega) (by omega)) (Aq hq AG)];obtain⟨O,A,B,w1,k1⟩:=DY (e:=Ao) (zs:=[S []]) (vs:=[S m]) h.os.wf rfl;rw[A9y,Em (cs:=[S []]) (Av (by simp)) (by simp) rfl rfl rfl];show(r! L (n+4)).call BG [rv,.fn (.func IB) [] [.ptr (Ax H) 0 0]] (upd ((Ax H,c_ Ao [S []])::H) (Ax H) (c_ Ao [S m])) _=_;rw[<-A];have ar:Ax O=Ax H+1:=by rw[A,BV];rfl
    have ai:OsK gs ws ch b1 b3 (Uw gs es out []) (eC gs es) O:=h.os.kp w1 λu y _ i=>(k1 u y i).1;have ao:T7 O rv l:=h.rd.kp λu y _ i=>(k1 u y i).1;have ak:AZ O Ao 1 ov out.length (AJ out):=h.ot.kp λu y _ i=>(k1 u y i).1;have M:∀u,A6 rv u->u<Ax H:=λu g=>h.rd.lt h.os.wf g;clear A;refine B3G (n:=n+2) (P:=λs=>decide (s=m)) w1 ao (by omega) hL ⟨.fn (.func IB) [] [.iptr [S m]],_,B4a (D:=depth-1) (Aq (yR (D:=depth-2) B (Aq (q:=false) CG AG)) AG),λs K=>?_⟩ (λH' hk s K=>?_) λv' H2 g1 g2 R=>?_
    ·rw[B0v rfl rfl];exact AE (B9k (n:=n+1)) (Aq (q:=false) CG (Aq (q:=false) A3U AG))
    ·rw[B0v rfl rfl];have k:=hk.keep w1 _ _ B λhc=>by have:=M _ hc;omega
     exact AE (B9k (n:=n+2)) (Aq (q:=false) CG (Aq (yR (D:=depth-1) k (Aq (q:=false) CG AG)) AG))
    ·have w2:=R.wf w1;have k:=R.keep w1 _ _ B λhc=>by have:=M _ hc;omega
     have aj:OsK gs ws ch b1 b3 (Uw gs es out []) (eC gs es) H2:=ai.kp w2 λu y g i=>R.keep w1 u y i λhc=>by
      rcases g with g|⟨p,j⟩
      ·have:=(h.rr u hc).1;omega
      ·exact(h.rr u hc).2.2 p j
     have am:AZ H2 Ao 1 ov out.length (AJ out):=ak.kp λu y g i=>R.keep w1 u y i λhc=>(h.rr u hc).2.1 g;have a3:=ho.len;rw[AH (p:=0) rfl k (by simp)];show(Gt Ao 1 Ag 1 [(0,1,S m)] H2 λv1 O=>Ed Ao 1 Ag Ab ov v1 O _)=_;obtain⟨ac,H3,j1,j2,j3,j4,j5,j6⟩:=A4g m am w2 (by omega);rw[j1];have ax:=R.nx;have ah:∀u,(u<5\/∃p,A6 ((Jo ch p).getD A1) u)->¬A6 ov u:=λu g hc=>by
      rcases g with g|⟨p,j⟩
      ·have:=(h.oo u hc).1;omega
      ·exact(h.oo u hc).2 p j
     have w:OsK gs ws ch b1 b3 (Uw gs es out []) (eC gs es) H3:=aj.kp j3 λu y g i=>j5 u y i (ah u g);have ag:=j5 _ _ k λhc=>by have:=h.ot.lt h.os.wf hc;omega
     have ek:∀(s:AQ)(F:Value->Af),It (S s) F=F (SV s):=λs F=>id rfl;rw[AH (p:=0) rfl w.p3 (by simp),AH (p:=0) rfl ag (by simp)];show It (S m) (λq=>Tt Ab false (.mp 3) q H3 _)=_;rw[ek,w.lc,(w.cv m).rq.len];have aa:=(Xq.1 C)
     have hw:Uw gs es out []=Uw gs es (out++[m]) ((eC gs es m).drop 0):=by rw[tJ,A3a aa.1 aa.2.1]
     have h4:=h.os.wf.lt h.os.p3;have ae:(AV.v (.int .i64 0))=I ((0:Nat):Int):=rfl;rw[ae];refine B7k (L:=L) (es:=es) (out:=out++[m]) (ch:=ch) (b3:=b3) (ov:=ac) (ct:=eC gs es) (m:=m) hb hg (by have:=zN (gs:=gs) (es:=es) (p:=m);omega) (λl' aq ad ap H' hM hR=>?_) (L+20) 0 (l.filter λs=>!decide (s=m)) ws b1 v' H3 (by omega) (by have:=zN (gs:=gs) (es:=es) (p:=m);omega) ?_ ?_
     ·exact ih f (out++[m]) l' aq ad ap ac H' _ _ _ (by omega) (by rw[EJ,List.length_singleton];omega) (ho.step C) hM hR (by simp) J
     ·rw[<-hw];refine⟨w,g1.kp λu y g i=>j5 u y i λhc=>(h.rr u (g2 u g)).2.1 hc,j2,λu g=>⟨(h.rr u (g2 u g)).1,λhc=>?_,(h.rr u (g2 u g)).2.2⟩,λu g=>⟨?_,λp hc=>?_⟩⟩
      ·have b1:=j6 u hc;have b2:=M u (g2 u g);omega
      ·have b1:=j6 u g;omega
      ·have b1:=j6 u g;have b2:=(h.os.cv p).lt h.os.wf hc;omega
     ·rw[tJ];exact hr.take (λe he=>((hE e).1 he).1) hm
end
end
end Go.Abs
end
