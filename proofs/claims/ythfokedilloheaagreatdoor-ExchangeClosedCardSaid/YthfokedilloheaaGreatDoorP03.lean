import Derived.Lib.UnsafeStr
import Derived.Lib.Builder
import Derived.ScopeJumps
import Derived.Test.YthfokedilloheaaGreatDoorP02
set_option linter.all false
set_option maxHeartbeats 100000000
noncomputable section
namespace Go.Abs
open Go.RowKit
section
variable{dst:AV}{K:K2}{op:BinOp}{q:Bool}{b base esz n s:Nat}{fz:Nat×Nat}{i ie:TI}{y:Value}
section
variable{P:Program}{G:Gl}{w0:Base}{C:Ctx}{H:Hp}{w:World}{r:AV×Hp}
def Rel.set_row(h:Rel G w0 C H w){x y:Row}(p:Ai H s=some x)(B:Ts C w s y):Rel G w0 C (upd H s y) w:=by
 have key:∀t z,Ai (upd H s y) t=some z->(t=s/\z=y)\/(t≠s/\Ai H t=some z):=λt z hz=>by
  by_cases d:t=s
  ·subst d;rw[BF p]at hz;exact .inl ⟨rfl,(iF hz).1.symm⟩
  ·rw[Ag d]at hz;exact .inr ⟨d,hz⟩
 have c:∀t z,Ai (upd H s y) t=some z->∃e,Ai H t=some e:=λt z hz=>by
  rcases key t z hz with⟨rfl,_⟩|⟨_,h⟩
  ·exact⟨x,p⟩
  ·exact⟨z,h⟩
 refine⟨h.glob,h.below,?_,?_,?_,?_,h.fin,h.finB,λk f=>h.nx k (by rw[B1]at f;exact f)⟩
 ·intro t z hz;obtain⟨e,a⟩:=c t z hz;exact h.lt t e a
 ·intro t z hz;rcases key t z hz with⟨rfl,rfl⟩|⟨_,hz⟩
  ·exact B
  ·exact h.rows t z hz
 ·intro t z k m hz f;obtain⟨e,a⟩:=c t z hz;exact h.own t e k m a f
 ·intro t v z e k m D hz a f g;obtain⟨u,A⟩:=c t z hz;obtain⟨F,j⟩:=c v e a;exact h.sep t v u F k m D A j f g
theorem Laid.take{T:TypeId}{cs:Is}{arr:Array Value}(h:Laid C w s q T cs b base arr fz)(n:Nat):Laid C w s false T (cs.take n) b base arr fz:=
 ⟨h.at_,h.block,h.free,by have:=h.fits;rw[zF];omega,by
  have:=h.vals.unsel.take n;rw[List.take_take]at this;rw[zF];exact this,λh=>by cases h⟩
theorem Ts.take{T:TypeId}{cs:Is}(h:Ts C w s (.cells q T cs))(n:Nat):Ts C w s (.cells false T (cs.take n)):=by
 rcases h with⟨rfl,h⟩|⟨b,base,arr,fz,h⟩
 ·exact .inl ⟨by simp,h⟩
 ·exact .inr ⟨b,base,arr,fz,h.take n⟩
def A5k(s:AV)(H:Hp)(K:Ru):Af:=
 match s with
 |.sl sz r o n=>IQ H r λx=>Kq x λE cs=>HQ cs 0 λcl=>@Bool.rec (λ_=>Af) (SY (Nat.add o (Nat.mul n sz)) cs λa=>LJ H r (.cells false E a) K) (K H) (Nat.beq (Nat.add o (Nat.mul n sz)) cl)
 |_=>K H
def sS{s:AV}{K:Ru}(h:A5k s H K=some r):∃a,K a=some r/\Ar a=Ar H/\∀{G:Gl}{w0:Base}{C:Ctx}{w:World},Rel G w0 C H w->Rel G w0 C a w:=by
 unfold A5k at h;split at h
 ·rename_i sz r1 o n;obtain⟨q,E,cs,c,h1⟩:=JU h;rw[Cs,Kk]at h1;cases hb:Nat.beq (Nat.add o (Nat.mul n sz)) cs.length
  ·rw[hb]at h1;simp only[OE,Dg]at h1;exact⟨_,h1,B1 _ _ _,λhr=>hr.set_row c ((hr.rows _ _ c).take _)⟩
  ·rw[hb]at h1;exact⟨H,h1,rfl,λhr=>hr⟩
 ·exact⟨H,h,rfl,λhr=>hr⟩
def Dy(e:TypeId)(esz:Nat)(ie i2:TI)(s x:AV)(H:Hp)(K:KV):Af:=A5k s H λa=>VH e esz ie i2 s x a K
def B?(e:TypeId)(esz:Nat)(ie i2:TI)(s x:AV)(H:Hp)(K:KV):Af:=match x with
 |.sl sz r o n=>T7 H (.sl sz r o n) λm c=>A5k s H λa=>VH e esz ie i2 s (.list m c) a K
 |x=>Dy e esz ie i2 s x H K
def A28(esz:Nat)(dst src:AV)(H:Hp)(K:KV):Af:=
 T7 H src λm c=>HQ c 0 λk=>match dst with
  |.sl sz r o n=>ck (Nat.beq k (Nat.mul m esz)&&(Nat.beq sz esz&&(Nat.blt 0 n&&(Nat.ble m n&&(NQ c&&RW esz src))))) (IQ H r λx=>gH x λq E cs=>Ey o c cs λa=>LJ H r (.cells q E a) λd=>K (.v (.int .i64 (.ofNat m))) d)
  |_=>none
def vJ(esz:Nat)(ie:TI)(dst:AV)(H:Hp)(K:Ru):Af:=
 match dst with
 |.v (.slice none 0 0)=>K H
 |.sl _ _ _ 0=>K H
 |.sl sz r o n=>He ie.zero λz=>HQ z 0 λk=>ck (Nat.beq k esz&&(Nat.beq sz esz&&NQ z)) (YT n z λc=>IQ H r λx=>gH x λq E cs=>Ey o c cs λa=>LJ H r (.cells q E a) K)
 |_=>none
def xZ(n esz:Nat)(x:AV)(a hi:Option AV)(H:Hp)(K:K2):Af:=
 match x with
 |.ptr s p k=>IQ H s λy=>Kq y λ_ cs=>HQ cs 0 λcl=>ck (Nat.ble (Nat.add (Nat.add p k) (Nat.mul n esz)) cl)
  (XV a 0 λl=>XV hi n λh=>ck (Nat.ble l h&&Nat.ble h n) (fN (Nat.add (Nat.add p k) (Nat.mul l esz)) λc=>fN (Nat.sub h l) λm=>K (.sl esz s c m)))
 |_=>none
def XU(ks:List LK)(op:BinOp)(a b:AV)(K:K2):Af:=
 match a,b with
 |.agg c,.agg d=>oL c λxs=>oL d λe=>ck (fits ks xs) (match Zi xs e,op with
  |some q,.eql=>bB q K
  |some q,.neq=>bB (!q) K
  |_,_=>none)
 |_,_=>none
def Rb(i ie:TI)(op:BinOp)(a b:AV)(K:K2):Af:=
 match a,b with
 |.ptr r p k,.ptr e d c=>ck (Nat.beq r e&&(Nat.beq (Nat.add p k) (Nat.add d c)&& !Nat.beq ie.size 0)) (match op with|.eql=>K (.v (.bool true))|.neq=>K (.v (.bool false))|_=>none)
 |a,b=>As i op a b K
def yQ{s o:Nat}{E:TypeId}{cs ys:Is}{arr:Array Value}{vs:Hx}(hr:Rel G w0 C H w)(h:Ai H s=some (.cells q E cs))(f:Laid C w s q E cs b base arr fz)(a:o+ys.length<=cs.length)(hv:CF C w ys vs)(c:ys.all AV.one=true):
 ∃e,(storeCells ⟨b,base+o,none⟩ vs 0).run P w=.ok () e/\Rel G w0 C (upd H s (.cells q E (splice cs o ys))) e/\Ext w0.own C w C e:=by
 have k:=f.fits;have g:vs.length=ys.length:=hv.1;obtain⟨e,d,j⟩:=Nh (P:=P) vs w arr (base+o) 0 f.block f.free (by omega) (A1r hv c);have:=hr.store (O:=w0.own) h f a hv (by simpa using j);exact⟨e,d,this.1,this.2⟩
def A3p{sz s o n:Nat}{E:TypeId}{cs:Is}(hr:Rel G w0 C H w)(A:Ai H s=some (.cells q E cs))(hv:VRel C w (.sl sz s o n) y)(hn:n≠0):∃b base arr fz cap,y=.slice (some ⟨b,base+o,none⟩) n cap/\n<=cap/\Laid C w s q E cs b base arr fz/\base+o+cap*sz<=arr.size:=by
 cases hv with
 |slz=>exact absurd rfl hn
 |@sl _ _ _ _ _ _ b base cap arr T fz j e hb hsz=>
  rcases hr.rows s _ A with⟨_,x⟩|⟨k,a,c,g,h⟩
  ·rw[x]at j;cases j
  ·have d:=h.at_.symm.trans j;injection d with d;injection d with d;injection d with m p;subst m p
   have f:=h.block.symm.trans hb;injection f with f;injection f with t u v
   subst t u v;exact⟨k,a,c,g,cap,rfl,e,h,hsz⟩
def A4v{T:Ty}(X:jX P T){B ty e:TypeId}{ts:Array TypeId}{dst src:AV}{y z:Value}{K:KV}(L:ts[0]?=some B)(hi:T B=some i)(Y:i.d=.slice e esz)(J:esz≠0)(hr:Rel G w0 C H w)(hv:VRel C w dst y)(Z:VRel C w src z)(h:A28 esz dst src H K=some r):
 ∃v N u A,K v N=some r/\(Builtin.copy_ ts ty #[y,z]).run P w=.ok u A/\KJ G w0 C w v N u C A:=by
 unfold A28 at h;obtain⟨m,ys,q0,x,h1⟩:=Z9 h;rw[Cs,Kk]at h1;split at h1
 ·rename_i sz s o n;obtain⟨hc,h2⟩:=B4 h1;simp only[KK,rE,Xe,kD,FN]at hc;obtain⟨c1,c2,c3,c4,c5,c6⟩:=hc;obtain⟨q,E,cs,R,V⟩:=Vi h2;obtain⟨g,O⟩:=OG _ _ _ _ _ V;rw[Dg]at O;obtain⟨b,base,arr,fz,cap,rfl,Q,D,hsz⟩:=A3p hr R hv (by omega);obtain⟨j,vs,M,a⟩:=Xy (P:=P) (esz:=esz) hr Z x c1 (λq hq=>by subst hq;exact Zy c6);obtain⟨A,t,p,F⟩:=yQ (P:=P) hr R D g M c5;obtain⟨hu,f⟩:=(X B i hi).elem_slice Y;have c:(sizeOf e).run P w=.ok esz w:=by rw[<-f];exact BZ w (by rw[f];exact J)
  refine⟨_,_,goInt m,A,O,?_,.v _,p,F⟩;unfold Builtin.copy_;simp only[L,l15,l21,l0r];rw[Dn,run_underlying hu w];simp only[FY];rw[Dn,j];simp only[FY];rw[Dn,c];simp only[FY];have k:Nat.min m n=m:=l22 c4;rw[Dn,k,a w (λ_ _=>rfl)];simp only[FY];rw[Dn,t];rfl
 ·cases h1
def A4x{T:Ty}(Q:jX P T){v ty e:TypeId}{ts:Array TypeId}{K:Ru}(p:ts[0]?=some v)(hi:T v=some i)(hd:i.d=.slice e esz)(B:T e=some ie)(hr:Rel G w0 C H w)(hv:VRel C w dst y)(h:vJ esz ie dst H K=some r):
 ∃N u,K N=some r/\(Builtin.clear_ ts ty #[y]).run P w=.ok (.tuple #[]) u/\Rel G w0 C N u/\Ext w0.own C w C u:=by
 obtain⟨X,aa⟩:=(Q v i hi).elem_slice hd;have hz:∀{a:Option Addr}{c:Nat},(Builtin.clear_ ts ty #[.slice a 0 c]).run P w=.ok (.tuple #[]) w:=by
  intro a c;unfold Builtin.clear_;simp only[p,l15,l21];rw[Dn,run_underlying X w];simp only[FY];cases a<;>rfl
 unfold vJ at h;split at h
 ·obtain rfl:=AM.1 hv;exact⟨H,w,h,hz,hr,.refl _ _ _⟩
 ·cases hv with
  |slz=>exact⟨H,w,h,hz,hr,.refl _ _ _⟩
  |sl=>exact⟨H,w,h,hz,hr,.refl _ _ _⟩
 ·rename_i sz s o n D;rw[CM,Cs,Kk]at h;obtain⟨hc,h2⟩:=B4 h;simp only[KK,rE,FN]at hc;obtain⟨c1,c2,c3⟩:=hc;rw[YS]at h2;obtain⟨q,E,cs,V,Z⟩:=Vi h2;obtain⟨f,O⟩:=OG _ _ _ _ _ Z;rw[Dg]at O;have hn:n≠0:=λe=>D e;obtain⟨b,base,arr,fz,cap,rfl,R,x,hsz⟩:=A3p hr V hv hn;obtain⟨z,L,Y⟩:=(Q e ie B).run_zero w;have F:CF C w (B0 ie.zero) z.cells.toList:=Pu (t:=e) Y;have M:CF C w (Yo n (B0 ie.zero)) ((List.range n).flatMap λ_=>z.cells.toList):=by rw[gI];exact Zw F n
  have g:(Yo n (B0 ie.zero)).all AV.one=true:=by
   rw[gI,List.all_flatMap];simp[c3]
  obtain⟨u,m,j,A⟩:=yQ (P:=P) hr V x f M g;refine⟨_,u,O,?_,j,A⟩;obtain⟨n,rfl⟩:∃k,n=k+1:=⟨n-1,by omega⟩
  unfold Builtin.clear_;simp only[p,l15,l21];rw[Dn,run_underlying X w];simp only[FY];have J:(Builtin.zeroCells z.cells (n+1)).toList=(List.range (n+1)).flatMap λ_=>z.cells.toList:=congrArg Array.toList (fL z.cells (n+1));rw[Dn,L];simp only[FY,J];rw[Dn,m];rfl
 ·cases h
def A4j{T:Ty}(hT:jX P T){ty e:TypeId}{x:AV}{lo hi:Option AV}{yl Y:Option Value}(R:T ty=some i)(hd:i.d=.array n e esz)(X:esz≠0)(hr:Rel G w0 C H w)(hv:VRel C w x y)(V:A02 C w lo yl)(Q:A02 C w hi Y)(h:xZ n esz x lo hi H K=some r):
 ∃v u,K v=some r/\(Instr.sliceAt ty y yl Y none).run P w=.ok u w/\VRel C w v u:=by
 unfold xZ at h;split at h
 ·rename_i s p k;obtain⟨q,E,cs,hl,h1⟩:=JU h;rw[Cs,Kk]at h1;obtain⟨hc,h2⟩:=B4 h1;obtain⟨l,M,h3⟩:=Jt h2;obtain⟨m,N,h4⟩:=Jt h3;obtain⟨hb,Z⟩:=B4 h4;rw[Ef,Ef]at Z;simp only[KK,kD]at hb;rw[kD]at hc;have hc:p+k+n*esz<=cs.length:=hc;obtain⟨hu,t⟩:=(hT ty i R).elem_array hd;have f:(sizeOf e).run P w=.ok esz w:=by rw[<-t];exact BZ w (by rw[t];exact X)
  have O:=Tn (P:=P) (isS:=false) V Q (mx:=none) (ym:=none) trivial (LH n) M N (x:=n) (by simp[ZG]) (by omega) (by simp);cases hv with
  |@ptr _ _ _ _ _ b base J=>
   rcases hr.rows s _ hl with⟨_,h6⟩|⟨L,a,g,aa,c⟩
   ·have:=h6.symm.trans J;cases this
   ·have j:=c.at_.symm.trans J;injection j with j;injection j with j;injection j with e1 e2;subst e1 e2
    have hf:=c.fits;have F:(Instr.sliceAt ty (.pointer (some ⟨L,a+(p+k),none⟩)) yl Y none).run P w=.ok (.slice (some (if n=l then⟨L,a+(p+k),none⟩ else⟨L,a+(p+k)+l*esz,none⟩)) (m-l) (n-l)) w:=by
     unfold Instr.sliceAt;rw[Dn,run_underlying hu w];simp only[FY,Instr.sureAddr];rw[Dn,mJ];simp only[FY];rw[Dn,O];simp only[FY,mI];rw[Dn,f];simp only[FY,mJ,Kl]
    refine⟨_,_,Z,F,?_⟩;by_cases B:n=l
    ·have A:m-l=0:=by omega
     have D:n-l=0:=by omega
     rw[Dr B,A,D];have:Nat.sub m l=0:=A;rw[this];exact .slz (by rw[J];simp)
    ·rw[CD B];have e4:a+(p+k)+l*esz=a+(Nat.add (Nat.add p k) (Nat.mul l esz)):=by show _=a+(p+k+l*esz);omega
     rw[e4];refine .sl J (Nat.sub_le_sub_right hb.2 l) c.block ?_;show a+(p+k+l*esz)+(n-l)*esz<=g.size;have:l*esz+(n-l)*esz=n*esz:=by rw[<-l1e];congr 1;omega
     omega
 ·cases h
def A4t{t:TypeId}{ks:List LK}{a b:AV}{y z:Value}(x A:Operand)(m:EqFlat P t ks)(B:VRel C w a y)(hb:VRel C w b z)(h:XU ks op a b K=some r):
 ∃v u,K v=some r/\(do eqGuard op t x A y z;binOp op t y z).run P w=.ok u w/\VRel C w v u:=by
 unfold XU at h;split at h
 ·rename_i F J;obtain⟨xs,rfl,h1⟩:=eS _ _ h;obtain⟨d,rfl,h2⟩:=eS _ _ h1;obtain⟨e,c⟩:=B4 h2;have D:=sM B;have hz:=sM hb;subst D hz;have p:=run_eqGuard_agg (P:=P) w op t x A xs.toArray d.toArray m.guard;split at c
  ·rename_i q hq;rw[OX]at c;obtain⟨f,g⟩:=VL hq;refine⟨_,.bool q,c,?_,.v _⟩;rw[Dn,p];simp only[FY];rw[run_eql_struct];have:=m.equal e (g ks e) w;have j:decide (xs=d)=q:=by rw[uQ,f];simp
   rw[j]at this;have k:(Op.equalIn 10000 t (.agg xs.toArray) (.agg d.toArray)).run P w=.ok q w:=this;rw[k];rfl
  ·rename_i q hq;rw[OX]at c;obtain⟨f,g⟩:=VL hq;refine⟨_,.bool (!q),c,?_,.v _⟩;rw[Dn,p];simp only[FY];rw[run_neq_struct];have:=m.equal e (g ks e) w;have j:decide (xs=d)=q:=by rw[uQ,f];simp
   rw[j]at this;have k:(Op.equalIn 10000 t (.agg xs.toArray) (.agg d.toArray)).run P w=.ok q w:=this;rw[k];rfl
  ·cases c
 ·cases h
def A4s{T:Ty}(j:jX P T){ty e:TypeId}{a b:AV}{y z:Value}(D F:Operand)(hi:T ty=some i)(Q:i.d=.pointer e)(m:T e=some ie)(J:VRel C w a y)(hb:VRel C w b z)(h:Rb i ie op a b K=some r):
 ∃v u,K v=some r/\(do eqGuard op ty D F y z;binOp op ty y z).run P w=.ok u w/\VRel C w v u:=by
 unfold Rb at h;split at h
 ·rename_i s p k s' Z Y;obtain⟨hc,h1⟩:=B4 h;simp only[KK,rE,l19]at hc;obtain⟨c1,c2,c3⟩:=hc;subst c1;have c2:p+k=Z+Y:=c2;have B:y=z/\∃c,y=.pointer (some c):=by
   cases J with
   |ptr R=>
    cases hb with
    |ptr t=>
     have f:=R.symm.trans t;injection f with f;injection f with f;injection f with g M;subst g M
     exact⟨by rw[c2],_,rfl⟩
  obtain⟨rfl,c,rfl⟩:=B;obtain⟨u,V,g⟩:=(j ty i hi).under;rw[Q]at g;have A:u=.pointer e:=by cases u<;>simp[td]at g;rw[g]
  subst A;obtain⟨x,z0,X,hs,_⟩:=(j e ie m).info;have heq:(Op.equal ty (.pointer (some c)) (.pointer (some c))).run P w=.ok true w:=by
   show(Op.equalIn (9999+1) ty _ _).run P w=_;unfold Op.equalIn;rw[Dn,run_underlying V w];simp[sizeOf,typeInfo,X,sameAddr]
  have L:=oO (P:=P) (op:=op) (ty:=ty) (x:=D) (y:=F) (a:=.pointer (some c)) (b:=.pointer (some c)) w ⟨by simp,by simp⟩;split at h1
  ·exact⟨_,.bool true,h1,by rw[Dn,L];simp[binOp,heq],.v _⟩
  ·exact⟨_,.bool false,h1,by rw[Dn,L];simp[binOp,heq],.v _⟩
  ·cases h1
 ·obtain⟨v,h1,h2⟩:=B! (T:=T) (ty:=ty) hi h;obtain⟨v',u,N,O,rfl⟩:=sE j D F J hb h2;exact⟨v',u,h1,N,O⟩
end
end
section
variable{v:AV}{K:K2}{d e s:TypeId}{y:Value}
def B4S(l:List Lie)(e n o u:Nat):Bool:=@List.rec Lie (λ_=>Bool) false (λp _ ih=>@Bool.rec (λ_=>Bool) ih true (Nat.beq p.1 e&&(Nat.beq p.2.1 n&&(Nat.beq p.2.2.1 o&&Nat.beq p.2.2.2 u)))) l
def A1Z(ie:TI)(v:AV)(H:Hp)(K:K2):Af:=
 match v with
 |.ptr s p k=>IQ H s λx=>Kq x λ_ cs=>HQ cs 0 λcl=>ck (Nat.blt (Nat.add p k) cl&& !Nat.beq ie.size 0) (K (.ptr s p k))
 |_=>none
def A1U(l:List Lie)(u:TypeId)(v:AV)(H:Hp)(K:K2):Af:=
 match v with
 |.ptr s p k=>IQ H s λx=>gH x λq E cs=>HQ cs 0 λcl=>ck (q&&B4S l E cl (Nat.add p k) u) (K (.ptr s p k))
 |_=>none
def A7K(s:AV)(K:K2):Af:=
 match s with
 |.sl sz r o n=>ck (Nat.beq sz 1&&Nat.blt 0 n) (K (.ptr r o 0))
 |_=>none
def A4g(e:TypeId)(p n:AV)(H:Hp)(K:KV):Af:=
 match p with
 |.ptr s o k=>R? n λz=>iN z λn=>IQ H s λx=>Kq x λE cs=>ck (Nat.beq E e&&(Nat.blt 0 n&&Nat.blt n 9223372036854775807)) (EL n (Do (Nat.add o k) cs) λb=>fu8 b λl=>LJ H s .gone λa=>K (.v (.string ⟨⟨l⟩⟩)) a)
 |_=>none
def B0M{l:List Lie}{e n o u:Nat}(h:B4S l e n o u=true):(e,n,o,u)∈l:=by
 induction l with
 |nil=>cases h
 |cons p l ih=>
  have h:@Bool.rec (λ_=>Bool) (B4S l e n o u) true (Nat.beq p.1 e&&(Nat.beq p.2.1 n&&(Nat.beq p.2.2.1 o&&Nat.beq p.2.2.2 u)))=true:=h;cases hq:(Nat.beq p.1 e&&(Nat.beq p.2.1 n&&(Nat.beq p.2.2.1 o&&Nat.beq p.2.2.2 u)))
  ·rw[hq]at h;exact List.mem_cons_of_mem _ (ih h)
  ·simp only[KK,rE]at hq;obtain⟨h1,h2,f,g⟩:=hq;obtain⟨a,b,c,d⟩:=p;simp only at h1 h2 f g;subst h1 h2 f g;exact List.mem_cons_self
section
variable{P:Program}{G:Gl}{w0:Base}{C:Ctx}{H:Hp}{w w':World}{r:AV×Hp}
def A4n{T:Ty}(F:jX P T){i ie:TI}(hi:T s=some i)(R:i.d=.pointer e)(m:T e=some ie)(A:P.underlying d=some .unsafePointer)(hr:Rel G w0 C H w)(hv:VRel C w v y)(h:A1Z ie v H K=some r):
 K v=some r/\(convert s d y).run P w=.ok y w:=by
 unfold A1Z at h;split at h
 ·rename_i t p k;obtain⟨q,E,cs,V,h1⟩:=JU h;rw[Cs,Kk]at h1;obtain⟨hc,h2⟩:=B4 h1;simp only[KK,Xe,l19]at hc;obtain⟨c1,c2⟩:=hc;have c1:p+k<cs.length:=c1;refine⟨h2,?_⟩;cases hv with
  |@ptr _ _ _ _ _ b B J=>
   rcases hr.rows t _ V with⟨_,Q⟩|⟨L,a,c,O,f⟩
   ·have:=Q.symm.trans J;cases this
   ·have g:=f.at_.symm.trans J;injection g with g;injection g with g;injection g with M N;subst M N
    have hf:=f.fits;obtain⟨u,Y,j⟩:=(F s i hi).under;rw[R]at j;have n:u=.pointer e:=by cases u<;>simp[td]at j;rw[j]
    subst n;obtain⟨x,z0,Z,X,_⟩:=(F e ie m).info;have hsz:x.size≠0:=λD=>by rw[X]at D;rw[D]at c2;simp at c2
    exact Lib.run_to_unsafe w ⟨L,a+(p+k),none⟩ Y A Z hsz (e:=E) (cells:=c.size) (by simp[World.shape?,f.block]) (by show a+(p+k)<c.size;omega)
 ·cases h
def A4h{l:List Lie}(m:∀e n o u,(e,n,o,u)∈l->liesAt P P.depth e (n/P.cellsOf e) o u 1=true/\(P.info? u).isSome=true){s d u:TypeId}(A:P.underlying s=some .unsafePointer)(O:P.underlying d=some (.pointer u))(hr:Rel G w0 C H w)(hv:VRel C w v y)(h:A1U l u v H K=some r):
 K v=some r/\(convert s d y).run P w=.ok y w:=by
 unfold A1U at h;split at h
 ·rename_i t p k;obtain⟨q,E,cs,R,h1⟩:=Vi h;rw[Cs,Kk]at h1;obtain⟨hc,h2⟩:=B4 h1;simp only[KK]at hc;obtain⟨c1,c2⟩:=hc;obtain⟨c,f⟩:=m _ _ _ _ (B0M c2);refine⟨h2,?_⟩;cases hv with
  |@ptr _ _ _ _ _ b B D=>
   rcases hr.rows t _ R with⟨_,N⟩|⟨F,x,g,M,a⟩
   ·have:=N.symm.trans D;cases this
   ·have i:=a.at_.symm.trans D;injection i with i;injection i with i;injection i with J L;subst J L
    obtain⟨V,X⟩:=a.exact c1;subst V;obtain⟨j,Q⟩:=Option.isSome_iff_exists.1 f;refine Lib.run_from_unsafe w ⟨F,0+(p+k),none⟩ A O Q (e:=E) (cells:=g.size) (by simp[World.shape?,a.block]) ?_;rw[X,Kk];exact c
 ·cases h
def Rel.change(h:Rel G w0 C H w){s b base:Nat}{x:Row}(L:Ai H s=some x)(M:C.π s=some (some (b,base)))(q:w'.os=w.os)(X:w'.tape=w.tape)(B:w'.output=w.output)(hsz:w'.heap.size=w.heap.size)(g:∀k,k≠b->w'.heap[k]?=w.heap[k]?)(hb:∀arr T fz,w.heap[b]?=some (.cells arr T fz)->∃m A,w'.heap[b]?=some (.cells m T A)/\m.size=arr.size):Rel G w0 C (cut H s) w'/\Ext w0.own C w C w':=by
 have j:=h.own s x b base L M;have e:Ext w0.own C w C w':=by
  refine⟨λ_ _=>rfl,λ_ _ h=>h,λk i h=>?_,λ_ h=>h,λk h=>g k (λe=>j.2.2 (e▸h)),λk a t f h=>?_,λ_ _ h=>.inl h,λ_ h=>.inl h,Nat.le_of_eq hsz.symm⟩
  ·exact l0t (g k (λe=>j.2.1 i (e▸h)))
  ·by_cases n:k=b
   ·subst n;exact hb a t f h
   ·exact⟨a,f,(g k n).trans h,rfl⟩
 have c:∀t z,Ai (cut H s) t=some z->t≠s/\Ai H t=some z:=λt z hz=>by
  by_cases p:t=s
  ·subst p;rw[MP]at hz;cases hz
  ·rw[Qw p]at hz;exact⟨p,hz⟩
 refine⟨⟨h.glob.mono e,⟨q.trans h.below.os,X.trans h.below.tape,B.trans h.below.output,by rw[hsz];exact h.below.size,λk n J=>(g k (λe=>?_)).trans (h.below.block k n J)⟩,λt z hz=>h.lt t z (c t z hz).2,λt z hz=>(h.rows t z (c t z hz).2).mono e (λk u D=>g k (λQ=>?_)),
  λt z k o hz=>h.own t z k o (c t z hz).2,λt N z O k Y Z hz F=>h.sep t N z O k Y Z (c t z hz).2 (c N O F).2,λk i V=>hsz▸h.fin k i V,λk R=>hsz▸h.finB k R,λk n=>h.nx k (by rw[cut,B1]at n;exact n)⟩,e⟩
 ·subst e;rcases j.1 with q|q
  ·omega
  ·exact J q
 ·subst Q;exact(c t z hz).1 (h.sep t s z x _ _ _ (c t z hz).2 L D M)
def xS(hc:P.cellsOf e=1)(count off n:Nat)(hn:off+n<=count):liesAt P P.depth e count off e n=true:=by
 have a:P.depth=(2*(P.types.size+Made.depth)+1)+1:=rfl;rw[a];simp only[liesAt,l1i];left;rw[a];simp[rowAt,hc,hn,sameLayout,Nat.mod_one]
def A4f{T:Ty}(hT:jX P T){e J it ty:TypeId}{F ie:TI}{p n:AV}{y z:Value}{K:KV}(ak:T J=some F)(hd:F.d=.pointer e)(ah:T e=some ie)(ad:ie.size=1)(hr:Rel G w0 C H w)(hv:VRel C w p y)(hn:VRel C w n z)(h:A4g e p n H K=some r):
 ∃v H' u w',K v H'=some r/\(Builtin.unsafeString_ #[J,it] ty #[y,z]).run P w=.ok u w'/\KJ G w0 C w v H' u C w':=by
 unfold A4g at h;split at h
 ·rename_i s o k;obtain⟨kk,zz,rfl,h1⟩:=Qa h;obtain⟨m,rfl,h2⟩:=Xh h1;obtain⟨q,E,cs,hl,h3⟩:=JU h2;obtain⟨hc,h4⟩:=B4 h3;simp only[KK,rE,Xe]at hc;obtain⟨c1,c2,c3⟩:=hc;subst c1;obtain⟨x,h5⟩:=LM _ _ _ _ h4;rw[C9]at x h5;obtain⟨f,Z,h6⟩:=A1H _ _ h5;rw[Dg]at h6;obtain rfl:=AM.1 hn;have ay:o+k+m<=cs.length:=by
   have:m<=(cs.drop (o+k)).length:=x;simp at this;omega
  cases hv with
  |@ptr _ _ _ _ _ b aq hp=>
   rcases hr.rows s _ hl with⟨_,h7⟩|⟨g,c,t,ar,i⟩
   ·have:=h7.symm.trans hp;cases this
   ·have L:=i.at_.symm.trans hp;injection L with L;injection L with L;injection L with e1 e2;subst e1 e2
    have hf:=i.fits;have aj:f.length=m:=by
     have:=congrArg List.length Z;simp at this;have:(cs.drop (o+k)).length=cs.length-(o+k):=by simp
     simp_all
    have A:∀j(R:j<f.length),w.cell? ⟨g,c+(o+k)+j,none⟩=some (.int .u8 (f[j]:Int)):=λj R=>by
     have ag:cs[o+k+j]?=some (.v (.int .u8 (f[j]:Int))):=by
      have:=congrArg (λl=>l[j]?) Z;simp only[zD,qJ,xU]at this;rw[Dr (by omega),KL R]at this;simpa using this
     obtain⟨hi,af⟩:=zE.1 ag;obtain⟨y,hy,aa⟩:=i.get _ hi;rw[af]at aa;rw[<-AM.1 aa];rw[<-hy]
     congr 2
     omega
    obtain⟨hu,N⟩:P.underlying J=some (.pointer E)/\P.cellsOf E=1:=by
     obtain⟨u,hu,eu⟩:=(hT J F ak).under;rw[hd]at eu;have ao:u=.pointer E:=by cases u<;>simp[td]at eu;rw[eu]
     subst ao;exact⟨hu,by rw[(hT E ie ah).cellsOf,ad]⟩
    have D:∀(f:Hb)(off:Nat)(acc:ByteArray),(∀j(R:j<f.length),w.cell? ⟨g,off+j,none⟩=some (.int .u8 (f[j]:Int)))->
     (loadBytes ⟨g,off,none⟩ acc f.length).run P w=.ok ⟨acc.data++(f.map UInt8.ofNat).toArray⟩ w:=by
     intro f
     induction f with
     |nil=>intro off acc _;simp[loadBytes]
     |cons n f ih=>
      intro off acc hc;have h0:w.cell? ⟨g,off,none⟩=some (.int .u8 (n:Int)):=hc 0 (by simp);have ap:=ih (off+1) (acc.push (UInt8.ofNat n)) (λj R=>by
       have:=hc (j+1) (by simpa using R);simpa [kE,Nat.add_comm 1 j] using this)
      have hx:((n:Int).toNat).toUInt8=UInt8.ofNat n:=by simp
      simp only[Mr,loadBytes,Dn,run_load,h0,Result.andThen,hx,Kl];rw[ap]
      congr 1
      apply ByteArray.ext;simp[ByteArray.push]
    have V:=D f (c+(o+k)) .empty A;rw[aj]at V;have B:liesAt P P.depth E (t.size/P.cellsOf E) (c+(o+k)) E m=true:=xS N _ _ _ (by rw[N,Nat.div_one];omega);have O:=hr.change (w':=w.freeze ⟨g,c+(o+k),none⟩ m) hl hp (by unfold World.freeze;split<;>rfl) (by unfold World.freeze;split<;>rfl) (by unfold World.freeze;split<;>rfl) (by unfold World.freeze;split<;>simp) (λk' ai=>by
     unfold World.freeze;split
     ·rfl
     ·simp only[l0s];rw[CD (λe=>ai e.symm)]) (λarr T0 ax ae=>by
     unfold World.freeze;rw[CD (by omega)];simp only[l0s,if_true,ae,zC];exact⟨arr,_,rfl,rfl⟩)
    refine⟨_,_,.string ⟨⟨f.map UInt8.ofNat⟩⟩,_,h6,?_,.v _,O.1,O.2⟩;have X:IntKind.i64.max=9223372036854775807:=rfl;have Q:Builtin.unsafeString_ #[J,it] ty #[.pointer (some ⟨g,c+(o+k),none⟩),.int kk m]=
     (do
      let n<-asInt (.int kk m)
      if n<0 then runtimePanic (.error "unsafe.String: len out of range")
      if n>IntKind.i64.max then unsupported (.unsafePointer "String: a length above the largest int")
      if n=0 then pure (.string .empty)
      else if<-variablesAt ⟨g,c+(o+k),none⟩ (<-elemOf J) n.toNat then do
       let s<-loadBytes ⟨g,c+(o+k),none⟩ .empty n.toNat
       freeze ⟨g,c+(o+k),none⟩ n.toNat
       pure (.string s)
      else unsupported (.unsafePointer "String: not so many bytes at ptr")):=rfl
    rw[Q];have Y:¬(m:Int)<0:=by omega
    have M:¬(9223372036854775807:Int)<(m:Int):=by omega
    have hz:¬m=0:=by omega
    have am:w.shape? g=some (E,t.size):=by simp[World.shape?,i.block]
    simp[asInt,asIntOf,X,Y,M,hz,variablesAt,am,elemOf,run_underlying hu,B,V]
 ·cases h
def A6i{t:Tm}{N:Nat}{ro:Option Nat}{o:Oper}{c:Call}{f:FuncId}{h:Operand}{first cap:Is}{K:AV->Hp->Prop}(B:kB P f)(p:o.op=.call c)(g:c.callee=.value h)(i:JP G t h=.fn (.func f) first cap)(A:first++c.args.toList.map (JP G t)++cap=[v])(x:K v H):TR P G ro N o t H K:=by
 refine UQ (λc hc=>by rw[p]at hc;cases hc) λw0 L C N a w s=>?_;have hv:=Bb s h;rw[i]at hv;obtain⟨D,J,he,m,n⟩:=Ju.1 hv;have b:=(m.append (vT s c.args.toList)).append n;rw[A]at b;obtain⟨y,F,q,k,j⟩:=b.cons_inv;have u:=j.nil_inv;subst u;refine⟨v,H,y,C,w,x,.inl ?_,k,s.rel,.refl _ _ _⟩;have:(D++c.args.toList.map a.eval++J).toArray= #[y]:=by rw[q]
 have hr:=B y w;simp only[execOp,p,resolve,g,he,Deferred.ofValue,Dn,mJ,FY,invoke];rw[<-hr]
 congr 2
 rw[<-this];apply qK;simp
end
end
section
variable{a:Act}{c rest:Code}{w:World}
def rQ(P:Program)(c rest:Code)(Q:Exit->Act->World->Prop)(a:Act)(w:World):Prop:=
 ∀(b:Frame)(k:List Item)(cs:List Frame),∃e d f,Q e d f/\Arrives P (lone (b.at a (.code rest:: .inScope c::k)) cs w) b k cs e d f
def A45{P:Program}{Q s:Exit->Act->World->Prop}(x:∀l a w,s (.goto l) a w->∃i,findLabel c l=some i/\rQ P c i Q a w)(hq:∀e a w,(∀l,e≠.goto l)->s e a w->Q e a w)(h:rest.wp P s a w):rQ P c rest Q a w:=by
 intro b k cs;obtain⟨e,d,g,h1,f⟩:=h b (.inScope c::k) cs;cases e with
 |normal=>exact⟨.normal,d,g,hq _ _ _ (by simp) h1,Steps.trans f (.one step_inScope)⟩
 |exit id=>exact⟨.exit id,d,g,hq _ _ _ (by simp) h1,λB y=>f B (by simp[exitTo,y])⟩
 |goto l=>
  obtain⟨i,v,A⟩:=x l d g h1;have u:gotoIn l (.inScope c::k)=some (.code i:: .inScope c::k):=by simp[gotoIn,v]
  obtain⟨q,p,r,n,j⟩:=A b k cs;exact⟨q,p,r,n,.of_steps (f _ u) j⟩
 |ret=>exact⟨_,d,g,hq _ _ _ (by simp) h1,f⟩
 |panic C=>exact⟨_,d,g,hq _ _ _ (by simp) h1,f⟩
 |outgrown=>exact⟨_,d,g,hq _ _ _ (by simp) h1,f⟩
def A0w{P:Program}{Q:Exit->Act->World->Prop}(h:rQ P c c Q a w):(Code.scope c).wp P Q a w:=by
 intro b k cs;obtain⟨e,d,g,hq,f⟩:=h b k cs;exact⟨e,d,g,hq,.of_steps (.one step_scope) f⟩
section
variable{P:Program}{G:Gl}{m N:Nat}{t:Tm}{H:Hp}{Q:Exit->Tm->Hp->Prop}
def A04(P:Program)(G:Gl)(m N:Nat)(c rest:Code)(Q:Exit->Tm->Hp->Prop)(t:Tm)(H:Hp):Prop:=
 ∀w0 b C a w,St G w0 b C N t H a w->rQ P c rest (MT G w0 b m C N w Q) a w
def A83(h:A04 P G m N c c Q t H):QA P G none m N (.scope c) Q t H:=λw0 b C a w s=>wpIn_wide.2 (A0w (h w0 b C a w s))
def D'{n:Exit->Tm->Hp->Prop}(F:∀l t H,n (.goto l) t H->∃d,findLabel c l=some d/\A04 P G m N c d Q t H)(hq:∀e t H,(∀l,e≠.goto l)->n e t H->Q e t H)(h:QA P G none m N rest n t H):A04 P G m N c rest Q t H:=by
 intro w0 y C a w s;refine A45 ?_ ?_ (wpIn_wide.1 (h w0 y C a w s))
 ·rintro l x A ⟨j,i,g,v,u,p⟩;obtain⟨d,D,J⟩:=F l i g p;refine⟨d,D,?_⟩;intro b k cs;obtain⟨B,a2,K,r,f⟩:=J w0 y j x A v b k cs;exact⟨B,a2,K,r.later u,f⟩
 ·rintro e x A q ⟨j,i,g,v,u,p⟩;exact⟨j,i,g,v,u,hq e i g q p⟩
end
end
section
variable{K:K2}
def SZ(a:AV):Bool:=match a with
 |.v (.map _)=>false
 |.v _=>true
 |_=>false
def SR(f:AV->K2->Af)(l:Is):(Is->Af)->Af:=
 @List.rec AV (λ_=>(Is->Af)->Af) (λK=>K []) (λa _ ih K=>f a λb=>ih λc=>K (b::c)) l
def A41(a:AV)(K:K2):Af:=
 match a with
 |.v x=>K (.v x)
 |.list n cs=>ck (cs.all SZ) (K (.list n cs))
 |_=>none
def A40(H:Hp)(ih:AV->K2->Af)(a:AV)(K:K2):Af:=
 match a with
 |.v x=>K (.v x)
 |.list n cs=>ck (cs.all SZ) (K (.list n cs))
 |.agg cs=>SR ih cs λb=>K (.agg b)
 |.tup cs=>SR ih cs λb=>K (.tup b)
 |.sl sz r o n=>IQ H r λx=>Kq x λ_ cs=>EL (Nat.mul n sz) (Do o cs) λc=>SR ih c λd=>K (.list n d)
 |_=>none
def NH(H:Hp)(D:Nat):AV->K2->Af:=@Nat.rec (λ_=>AV->K2->Af) A41 (λ_ ih=>A40 H ih) D
def Lc(R:Rt)(f:Nat)(args:Is)(H:Hp)(K:K2):Af:=
 match args with
 |[.ptr s 0 0]=>IQ H s λx=>gH x λq _ cs=>match q,cs with
  |true,[.mp m]=>IQ H m λy=>qI y λa=>ck (a.all λp=>eW 3 p.2) (Au (R.call f [.iptr [.imap a]] [] λv b=>NH b depth v λc=>some (c,[])) K)
  |_,_=>none
 |_=>Aq R f args H K
section
variable{G:Gl}{w0:Base}{C C2:Ctx}{H:Hp}{w:World}{r:AV×Hp}
def Q!{f:AV->K2->Af}(m:∀a y K,VRel C w a y->f a K=some r->∃b,VRel C2 w b y/\K b=some r):
 ∀(l:Is)(ys:Hx)(K:Is->Af),CF C w l ys->SR f l K=some r->∃c,CF C2 w c ys/\K c=some r:=by
 intro l
 induction l with
 |nil=>intro ys K d h;exact⟨[],by rw[d.nil_inv];exact .nil,h⟩
 |cons a l ih=>
  intro ys K d h;obtain⟨y,e,rfl,h1,h2⟩:=d.cons_inv;have h:(f a λb=>SR f l λc=>K (b::c))=some r:=h;obtain⟨b,g,i⟩:=m a y _ h1 h;obtain⟨c,j,k⟩:=ih e _ h2 i;exact⟨_,.cons g j,k⟩
def A1s(hr:Rel G w0 C H w)(h2:C2.bare=C2)(u:∀s x k o,Ai H s=some x->C.π s=some (some (k,o))->∀i,C2.F k i)(q:∀n cs y,cs.all SZ=true->VRel C w (.list n cs) y->VRel C2 w (.list n cs) y):∀(D:Nat)(a:AV)(y:Value)(K:K2),VRel C w a y->NH H D a K=some r->∃V,VRel C2 w V y/\K V=some r:=by
 intro D
 induction D with
 |zero=>
  intro a y K hv h;change A41 a K=some r at h;unfold A41 at h;split at h
  ·exact⟨_,by rw[AM.1 hv];exact .v _,h⟩
  ·obtain⟨h1,h⟩:=B4 h;exact⟨_,q _ _ _ h1 hv,h⟩
  ·cases h
 |succ D ih=>
  intro a y K hv h;have L:=λl A K=>Q! (f:=NH H D) (C:=C) (C2:=C2) (w:=w) (r:=r) ih l A K;change A40 H (NH H D) a K=some r at h;unfold A40 at h;split at h
  ·exact⟨_,by rw[AM.1 hv];exact .v _,h⟩
  ·obtain⟨h1,h⟩:=B4 h;exact⟨_,q _ _ _ h1 hv,h⟩
  ·obtain⟨A,rfl,O⟩:=XA0.1 hv;obtain⟨Q,h1,h2⟩:=L _ _ _ O h;exact⟨_,XA0.2 ⟨A,rfl,h1⟩,h2⟩
  ·obtain⟨A,rfl,O⟩:=DJ.1 hv;obtain⟨Q,h1,h2⟩:=L _ _ _ O h;exact⟨_,DJ.2 ⟨A,rfl,h1⟩,h2⟩
  ·rename_i sz s o n;obtain⟨q0,e,cs,t,h1⟩:=JU h;obtain⟨c,g⟩:=LM _ _ _ _ h1;rw[C9]at c g;cases hv with
   |slz ad=>
    have g:SR (NH H D) ((cs.drop o).take (0*sz)) (λZ=>K (.list 0 Z))=some r:=g;rw[Nat.zero_mul,List.take_zero]at g;exact⟨_,.list0,g⟩
   |@sl _ _ _ _ _ _ bk X cap arr T fz J p ab Y=>
    rcases hr.rows s _ t with⟨_,h6⟩|⟨b',b,j,aa,B⟩
    ·rw[h6]at J;cases J
    ·have m:=B.at_.symm.trans J;injection m with m;injection m with m;injection m with e1 e2;subst e1 e2
     have d:CF C w ((cs.drop o).take (n*sz)) ((((j.toList.drop b).take cs.length).drop o).take (n*sz)):=(B.vals.unsel.drop o).take _;obtain⟨Q,g,h4⟩:=L _ _ _ d g;have ac:Q.length=n*sz:=by
      rw[<-g.1,d.1,zF];have:n*sz<=(cs.drop o).length:=c;omega
     refine⟨_,.list p (λi=>((((j.toList.drop b).take cs.length).drop o).take (n*sz)).getD i undef) (λi hi=>u s _ _ _ t J _) (λi hi=>?_) (λi hi=>?_),h4⟩
     ·have M:i<n*sz:=by omega
      have N:o+i<cs.length:=by have:n*sz<=(cs.drop o).length:=c;simp at this;omega
      rw[kE,B.cell];rw[UT,zD,Dr M,qJ,zD,Dr N,qJ,l27];have hf:=B.fits;rw[l1p (by omega)];rfl
     ·have:=g.get i hi;rw[h2,UT,KL (by rw[g.1];exact hi)];exact this
  ·cases h
variable{D:XE->Cf->Nat->List Oper->Bool}{E:XE}{P:Program}{R:Rt}{f:Nat}{args:Is}
def A00(hR:RSound D E P R)(h:Lc R f args H K=some r):dC P f/\Rh P E.G f args H (λv H'=>H'=H/\K v=some r):=by
 unfold Lc at h;split at h
 rotate_left
 ·exact Zj hR h
 rename_i s;obtain⟨q,T,cs,a3,h⟩:=Vi h;split at h
 rotate_left
 ·cases h
 rename_i _ _ m;obtain⟨x,az,h⟩:=I4 rfl h;unfold qI at h;split at h
 rotate_left
 ·cases h
 rename_i _ es bo;obtain⟨ar,h⟩:=B4 h;obtain⟨v0,H0,Q,ak⟩:=RJ h;have hc:=(hR.call _ _ _ _ _ Q).2;refine⟨(hR.call _ _ _ _ _ Q).1,?_⟩;intro w0 C w ys hr ha;obtain⟨y,ba,rfl,ao,ap⟩:=ha.cons_inv;have:=ap.nil_inv;subst this;cases ao with
 |@ptr _ _ _ _ _ b ab J=>
 rcases hr.rows s _ a3 with⟨h1,_⟩|⟨b',aj,arr,fz,hd⟩
 ·cases h1
 have e':=hd.at_.symm.trans J;injection e' with e';injection e' with e';injection e' with e1 e2;subst e1 e2
 obtain⟨aq,hsz⟩:=hd.exact rfl;subst aq;have hsz:arr.size=1:=hsz;obtain⟨vm,aa,Y⟩:=hd.vals.2 0 _ (by rfl:([AV.mp m])[0]?=some (.mp m));have Y:VRel C w (.mp m) vm:=Y;have aa:arr[0]?=some vm:=by simpa using aa
 obtain⟨bm,ms,clock,rfl,a9,ac,ag,he, -⟩:=eG hr az Y;have u:w.cell? ⟨b',0,none⟩=some (.map (some bm)):=by rw[hd.cell];exact aa
 have Z:∀i,i≠0->w.cell? ⟨b',i,none⟩=none:=λi hi=>by rw[hd.cell];exact Array.getElem?_eq_none (by omega)
 let V:Ctx:={π:=λ_=>none,F:=λk i=>C.F k i\/k=b',B:=λk=>C.B k\/k=bm}
 have af:bm<w.heap.size:=(l1v.1 ac).1;have A:(∀k i,V.F k i->k<w.heap.size)/\∀k,V.B k->k<w.heap.size:=
  ⟨λk i c=>c.elim (hr.fin k i) λe=>e▸hd.lt,λk hB=>hB.elim (hr.finB k) λe=>e▸af⟩
 have eb:Ext (λ_=>True) C.bare w V.bare w:=⟨λ_ h=>absurd rfl h,λ_ _ h=>.inl h,λ_ _ _=>rfl,λ_ h=>.inl h,λ_ _=>rfl,λ_ a _ f h=>⟨a,f,h,rfl⟩,λ_ _ _=>.inr trivial,λ_ _=>.inr trivial,LH _⟩
 have a5:VRel V w (.imap es) (.map (some bm)):=by
  refine .imap ms (.inr rfl) ac (by rw[<-he.1];simp) (λi hi=>?_) (λi j ay hj=>?_) (λi hi=>?_) (λi hi=>?_)
  ·obtain⟨mm,t,M, -⟩:=he.2 i _ (KL hi);have X:ms[i]?=some mm:=by simpa using t
   simp[fJ,X,M]
  ·have ae:j<ms.size:=by have:=he.1;simp at this;omega
   have N:i<ms.size:=by omega
   have:=(l26.1 ag.born) i j (by simpa using N) (by simpa using ae) ay;simpa [fJ,N,ae] using this
  ·have N:i<ms.size:=by have:=he.1;simp at this;omega
   have:=ag.lt ms[i] (by simp);simpa [fJ,N] using this
  ·obtain⟨mm,t, -,h6⟩:=he.2 i _ (KL hi);have X:ms[i]?=some mm:=by simpa using t
   have h7:(ms.getD i default)=mm:=by simp[fJ,X]
   rw[h7];have h8:=VRel.down (C:=C) (C':=C.bare) rfl rfl 3 _ _ (G9.1 ar _ (NT hi)) h6;exact h8.mono eb
 have a6:VRel V w (.iptr [.imap es]) (.pointer (some ⟨b',0+(0+0),none⟩)):=
  .iptr (λ_=>.map (some bm)) (λ_ _=>.inr rfl) (λi hi=>by
   have:i=0:=by simpa using hi
   subst this;exact u) (λi hi=>by
   have:i=0:=by simpa using hi
   subst this;exact a5)
 have am:Rel E.G ⟨w,λ_=>False⟩ V [] w:=
  ⟨λg cs hg i v hv=>⟨.inl (hr.glob g cs hg i v hv).1,(hr.glob g cs hg i v hv).2⟩,.refl _ _,λ_ _ h=>by simp[Ai]at h,λ_ _ h=>by simp[Ai]at h,λ_ _ _ _ h=>by simp[Ai]at h,λ_ _ _ _ _ _ _ h=>by simp[Ai]at h,A.1,A.2,λ_ _=>rfl⟩
 refine(hc _ V w _ am (.cons a6 .nil)).mono ?_;rintro e w' ⟨v,y,C',H',rfl,L,hv,hx,d⟩;have hb:Below w.heap.size w w':=L.below.toBelow;have O:∀k,Base.own ⟨w,λ_=>False⟩ k->w.heap.size<=k:=λk h=>h.elim id (λh=>h.elim)
 let C2:Ctx:={π:=C.π,F:=λk i=>C.F k i\/(w.heap.size<=k/\(C'.F k i\/∃s x o,Ai H' s=some x/\C'.π s=some (some (k,o)))),B:=C.B}
 have e:Ext w0.own C w C2 w':=⟨λ_ _=>rfl,λ_ _ h=>.inl h,λk i h=>hb.cell (p:=⟨k,i,none⟩) (hr.fin k i h),λ_ h=>h,λk h=>hb.block k (hr.finB k h),
  λk arr T fz h=>⟨arr,fz,(hb.block k (l1v.1 h).1).trans h,rfl⟩,λk i h=>h.imp id (λh=>.inl (fG hr.below.size h.1)),λk h=>.inl h,hb.size⟩
 have ah:Rel E.G w0 C2 H w':=by
  refine⟨hr.glob.mono e,hr.below.below hb,hr.lt,λs x d=>(hr.rows s x d).mono e (λk ab J=>hb.block k ((hr.rows s x d).block (EC d) J)),λs x k o d J=>?_,hr.sep,λk i c=>?_,λk hB=>l2r (hr.finB k hB) hb.size,hr.nx⟩
  ·have h1:=hr.own s x k o d J;have h2:=(hr.rows s x d).block (EC d) J;refine⟨h1.1,λi c=>?_,h1.2.2⟩;rcases c with c|c
   ·exact h1.2.1 i c
   ·have:=c.1;omega
  ·rcases c with c|⟨_,c|⟨s,x,o,d,J⟩⟩
   ·exact l2r (hr.fin k i c) hb.size
   ·exact L.fin k i c
   ·exact(L.rows s x d).block (EC d) J
 obtain⟨v',a4,hK⟩:=A1s (C2:=C2.bare) L rfl (λs x k o d J i=>.inr ⟨O k (L.own s x k o d J).1,.inr ⟨s,x,o,d,J⟩⟩) (λn cs y ax hy=>by
  cases hy with
  |list0=>exact .list0
  |@list _ _ _ cap _ bb o h vs c ad a7=>
   have ai:∀i(hi:i<cs.length),∃z:Value,cs[i]=.v z/\vs i=z/\∀k,z≠.map k:=λi hi=>by
    have h1:=G9.1 ax _ (NT hi);have h2:=a7 i hi;cases hq:cs[i] with
    |v z=>
     rw[hq]at h1 h2;refine⟨z,rfl,AM.1 h2,λk e=>?_⟩;subst e;simp[SZ]at h1
    |_=>rw[hq]at h1;simp[SZ]at h1
   refine .list h vs (λi hi=>?_) ad (λi hi=>?_)
   ·obtain⟨z,_,h2,h3⟩:=ai i hi;rcases hx.new _ _ (c i hi) with t|t
    ·rcases t with t|t
     ·exact .inl t
     ·exfalso;have M:=hx.keep bb (o+i) (.inr t);rw[ad i hi]at M;subst t;by_cases ho:o+i=0
      ·rw[ho,u]at M;injection M with M
       exact h3 _ (h2.symm.trans M)
      ·rw[Z _ ho]at M;cases M
    ·exact .inr ⟨O _ t,.inl (c i hi)⟩
   ·obtain⟨z,h1,h2,_⟩:=ai i hi;rw[h1,<-h2];exact .v _) depth v y _ hv d
 injection hK with hK
 injection hK with hK a8
 subst hK;exact⟨v',y,C2,H,rfl,ah,a4.up rfl rfl,e.frm,rfl,ak⟩
def zpm(E:XE)(g:Nat)(R:Rt)(all:Is)(H:Hp)(K:K2):Af:=(λ(_:Unit)=>@Bool.rec (λ_=>Af) (Aq R g all H K) (Lc R g all H K) (E.lm g)) Ic
def fC{X:XE}(a:RSound D E P R)(h:zpm X f R args H K=some r):dC P f/\Rh P E.G f args H (λv b=>b=H/\K v=some r):=by
 change @Bool.rec (λ_=>Af) (Aq R f args H K) (Lc R f args H K) (X.lm f)=some r at h;cases hq:X.lm f
 ·rw[hq]at h;exact Zj a h
 ·rw[hq]at h;exact A00 a h
end
end
section
variable{K:K2}{x:Operand}{i:TI}{kt:TypeId}
def Ku(E:XE)(t:Tm)(x:Operand)(K:K2):Af:=
 match x with
 |.tmp i=>gtm t i K
 |.const v=>K (tQ v)
 |.global g=>E.gl.getK g λcs=>K (.iptr cs)
 |.func f=>K (.fn (.func f) [] [])
def rV(E:XE)(t:Tm)(l:List Operand):(Is->Af)->Af:=
 @List.rec Operand (λ_=>(Is->Af)->Af) (λK=>K []) (λx _ ih K=>Ku E t x λv=>ih λvs=>K (v::vs)) l
def rS(E:XE)(t:Tm)(x:Option Operand)(K:Option AV->Af):Af:=
 match x with
 |none=>K none
 |some x=>Ku E t x λv=>K (some v)
def plK(i:TI)(j:Nat)(K:Nat->Nat->Af):Af:=(λ(_:Unit)=>match Rp i j with|some (o,s)=>fNS o λo=>K o s|none=>none) Ic
def kH(E:XE)(t:Tm)(i:TI)(l:List (Nat×Operand)):(List (Nat×Nat×AV)->Af)->Af:=
 @List.rec (Nat×Operand) (λ_=>(List (Nat×Nat×AV)->Af)->Af) (λK=>K []) (λp _ ih K=>plK i p.1 λo s=>Ku E t p.2 λv=>ih λa=>K ((o,s,v)::a)) l
def B5n(i:TI)(f:Nat)(K:Nat->Nat->TypeId->Af):Af:=(λ(_:Unit)=>match i.d with|.struct a=>(match a[f]? with|some (o,s,ft)=>K o s ft|none=>none)|_=>none) Ic
def K!(i:TI)(K:TypeId->Nat->Af):Af:=(λ(_:Unit)=>match i.d with|.slice e a=>K e a|_=>none) Ic
def A65(i:TI):TypeId:=match i.d with|.slice e _=>e|_=>0
def elK(E:XE)(i:TI)(K:TI->Af):Af:=(λ(_:Unit)=>match jD i with|some e=>E.ty.getK e K|none=>K i) Ic
def L0(v:AV)(K:K2):Af:=match v with|.ptr r p k=>K (.ptr r p k)|.iptr cs=>K (.iptr cs)|.fn (.func f) a b=>K (.fn (.func f) a b)|_=>none
def Cn(q a b:AV)(K:K2):Af:=match q with|.v (.bool true)=>K a|.v (.bool false)=>K b|_=>none
def A43:TD->Bool
 |.int .u8=>true
 |_=>false
def cvK(E:XE)(s d:TypeId)(i j:TI)(a:AV)(H:Hp)(K:K2):Af:=
 (λ(_:Unit)=>match i.d with
  |.slice e _=>(match j.d with
   |.string=>E.ty.getK e λb=>ckS (A43 b.d) (vM a H K)
   |_=>none)
  |.pointer e=>ckS (Nat.beq d E.up&& !E.lie.isEmpty) (E.ty.getK e λb=>A1Z b a H K)
  |.other=>(match j.d with
   |.pointer u=>ckS (Nat.beq s E.up&& !E.lie.isEmpty) (A1U E.lie u a H K)
   |_=>none)
  |_=>Hj i j a K) Ic
def P?(i:TI)(K:TypeId->TypeId->Af):Af:=(λ(_:Unit)=>match i.d with|.map k e=>K k e|_=>none) Ic
def A7u(E:XE)(kt:TypeId)(a:AV)(K:Value->Af):Af:=
 E.ty.getK kt λb=>(λ(_:Unit)=>match b.d with
  |.string=>Mt a K
  |.int q=>Xf q a K
  |.struct _=>E.eqt.getK kt λks=>B50 ks a K
  |.array .. =>E.eqt.getK kt λks=>B50 ks a K
  |_=>none) Ic
def A44:Operand->Bool
 |.const .nilIface=>true
 |_=>false
def B6F(op:BinOp)(a:AV)(K:K2):Af:=
 match a,op with
 |.v .nilIface,.eql=>K (.v (.bool true))
 |.v .nilIface,.neq=>K (.v (.bool false))
 |_,_=>none
def C1x(E:XE)(op:BinOp)(ty:TypeId)(f:Bool)(a b:AV)(K:K2):Af:=
 E.ty.getK ty λi=>(λ(_:Unit)=>match i.d with
  |.struct _=>E.eqt.getK ty λks=>XU ks op a b K
  |.array .. =>E.eqt.getK ty λks=>XU ks op a b K
  |.pointer e=>E.ty.getK e λc=>Rb i c op a b K
  |.iface=>ckS f (B6F op a K)
  |_=>As i op a b K) Ic
def A2I(i:TI)(v:AV)(l h m:Option AV)(H:Hp)(K:K2):Af:=
 (λ(_:Unit)=>match i.d with
  |.array n _ a=>(match m with|none=>xZ n a v l h H K|some _=>none)
  |_=>DS i v l h m K) Ic
def B2W(i:TI)(v:AV)(H:Hp)(K:K2):Af:=
 (λ(_:Unit)=>match i.d with
  |.map .. =>Zb v H K
  |_=>Bp i v K) Ic
def A8z(E:XE)(R:Rt)(f:AV)(b:Is)(H:Hp)(K:K2):Af:=
 match f with
 |.fn (.func g) first cap=>ckS (!E.imp g) (Ta b cap λa=>Ta first a λall=>zpm E g R all H K)
 |_=>none
def F?(E:XE)(R:Rt)(t:Tm)(H:Hp)(c:Call)(K:K2):Af:=
 match c.callee with
 |.value e=>Ku E t e λf=>rV E t c.args.toList λd=>A8z E R f d H K
 |.builtin .len=>match c.args.toList,c.argTypes.toList with
  |[x],[ty]=>Ku E t x λv=>E.ty.getK ty λi=>B2W i v H K
  |_,_=>none
 |.builtin .unsafeSliceData=>match c.args.toList with
  |[x]=>Ku E t x λv=>A7K v K
  |_=>none
 |.builtin .min=>match c.args.toList with
  |[x,y]=>Ku E t x λa=>Ku E t y λb=>eMM true a b K
  |_=>none
 |.builtin .max=>match c.args.toList with
  |[x,y]=>Ku E t x λa=>Ku E t y λb=>eMM false a b K
  |_=>none
 |_=>none
def RL(E:XE)(R:Rt)(t:Tm)(H:Hp)(o:Op)(K:K2):Af:=
 match o with
 |.move x=>Ku E t x K
 |.assign x=>Ku E t x K
 |.pick c a b=>Ku E t c λq=>Ku E t a λa=>Ku E t b λb=>Cn q a b K
 |.load ty x=>Ku E t x λv=>E.ty.getK ty λi=>AE i v H K
 |.nilCheck x=>Ku E t x λv=>L0 v K
 |.binOp op ty x y _=>Ku E t x λa=>Ku E t y λb=>C1x E op ty (A44 y) a b K
 |.unOp op _ x=>Ku E t x λa=>MB op a K
 |.convert s d x=>Ku E t x λa=>E.ty.getK s λi=>E.ty.getK d λj=>cvK E s d i j a H K
 |.makeFunc fn first cap=>rV E t first.toList λw=>rV E t cap.toList λcs=>K (.fn fn w cs)
 |.fieldAddr ty x f=>Ku E t x λv=>E.ty.getK ty λi=>B5n i f λoff sz _=>ckS (!Nat.beq sz 0) (CL off v K)
 |.field ty x f=>Ku E t x λv=>E.ty.getK ty λi=>B5n i f λoff _ ft=>E.ty.getK ft λj=>B1L off j v K
 |.indexAddr ty x e=>Ku E t x λv=>Ku E t e λn=>E.ty.getK ty λi=>D1 i v n K
 |.index ty x e=>Ku E t x λv=>Ku E t e λn=>E.ty.getK ty λi=>elK E i λj=>jI i j v n K
 |.slice ty x B hi mx=>Ku E t x λv=>rS E t B λl=>rS E t hi λh=>rS E t mx λm=>E.ty.getK ty λi=>A2I i v l h m H K
 |.extract x k=>Ku E t x λv=>CV v k K
 |.build ty parts=>E.ty.getK ty λi=>ckS (Y! i) (kH E t i parts.toList λl=>BR i l K)
 |.call c=>F? E R t H c K
 |.buildSlice ty n parts=>E.ty.getK ty λi=>K! i λ_ g=>E.ty.getK (A65 i) λp=>kH E t i parts.toList λl=>Zc g p n l K
 |.lookup ty x e ok=>Ku E t x λm=>Ku E t e λk=>E.ty.getK ty λi=>P? i λkt u=>A7u E kt k λA=>E.ty.getK u λp=>ZB p ok m A H K
 |.entry it=>Ku E t it λv=>dB v H K
 |_=>none
section
variable{D:XE->Cf->Nat->List Oper->Bool}{E:XE}{P:Program}{R:Rt}{t:Tm}{H:Hp}{r:AV×Hp}{ro:Option Nat}{N:Nat}
def A6j{cs:Is}(h:cs.all isV=true):(cs.map unV).map AV.v=cs:=by
 induction cs with
 |nil=>rfl
 |cons c cs ih=>
  simp only[oG,KK]at h;simp only[XC,ih h.2];cases c<;>simp[isV]at h
  rfl
def Bg(a:XE.Ok D E P)(h:Ku E t x K=some r):K (JP E.G t x)=some r:=by
 unfold Ku at h;split at h
 ·rwa[UE]at h
 ·exact h
 ·obtain⟨cs,h1,h2⟩:=Bh h;have:=a.gl _ _ h1;simp only[JP,XE.G,h1,zC,A6j this];exact h2
 ·exact h
def RN(a:XE.Ok D E P):∀(l:List Operand)(K:Is->Af),rV E t l K=some r->K (l.map (JP E.G t))=some r:=by
 intro l
 induction l with
 |nil=>intro K h;exact h
 |cons x l ih=>
  intro K h;have h:(Ku E t x λv=>rV E t l λvs=>K (v::vs))=some r:=h;exact ih _ (Bg a h)
def kI(a:XE.Ok D E P){x:Option Operand}{K:Option AV->Af}(h:rS E t x K=some r):K (x.map (JP E.G t))=some r:=by
 unfold rS at h;split at h
 ·exact h
 ·exact Bg a h
def XZ(b:XE.Ok D E P):∀(l:List (Nat×Operand))(K:List (Nat×Nat×AV)->Af),kH E t i l K=some r->
 ∃a,K a=some r/\((l.map λp=>(p.1,JP E.G t p.2)).map λp=>(Rp i p.1).map λq=>(q.1,q.2,p.2))=a.map some:=by
 intro l
 induction l with
 |nil=>intro K h;exact⟨[],h,rfl⟩
 |cons p l ih=>
  intro K h;have h:(plK i p.1 λo s=>Ku E t p.2 λv=>kH E t i l λa=>K ((o,s,v)::a))=some r:=h;unfold plK at h;split at h
  ·rename_i o s c;simp only[B1o]at h;obtain⟨a,h1,h2⟩:=ih _ (Bg b h);refine⟨_,h1,?_⟩;simp only[XC,c,zC,h2]
  ·cases h
def rd(b:XE.Ok D E P){o:Oper}{v:AV}{K:K2}(e:∀c,o.op≠.defer c)(f:rZ (E.env P) o.op t H (λg a=>g=v/\a=H))(d:K v=some r):TR P E.G ro N o t H (λv a=>a=H/\K v=some r):=
 TR.mono (UQ e (yF (E:=E.env P) b.env f)) (by rintro _ _ ⟨rfl,rfl⟩;exact⟨rfl,d⟩)
def PU{K:TypeId->TypeId->Af}(h:P? i K=some r):∃k e,i.d=.map k e/\K k e=some r:=by
 unfold P? at h;split at h
 ·rename_i a;exact⟨_,_,a,h⟩
 ·cases h
def PT(b:XE.Ok D E P){mt kt a:TypeId}(hi:E.ty.get mt=some i)(c:i.d=.map kt a):P.underlying mt=some (.map kt a):=by
 obtain⟨u,f,e⟩:=(b.ty mt i hi).under;rw[c]at e;cases u<;>simp[td]at e
 rw[f,e.1,e.2]
def Vx(j:XE.Ok D E P){a:AV}{K:Value->Af}(h:A7u E kt a K=some r):∃k,Rg P kt k/\K k=some r/\∀{C:Ctx}{w:World}{y:Value},VRel C w a y->y=k:=by
 obtain⟨p,f,h⟩:=Bh h;obtain⟨u,m,e⟩:=(j.ty kt p f).under;have g:∀ks,E.eqt.get kt=some ks->B50 ks a K=some r->∃k,Rg P kt k/\K k=some r/\∀{C:Ctx}{w:World}{y:Value},VRel C w a y->y=k:=λks b h=>by
  unfold B50 at h;split at h
  ·obtain⟨vs,rfl,h1⟩:=eS _ _ h;obtain⟨h2,n⟩:=LZ h1;exact⟨_,.inr (.inr ⟨ks,vs,j.eq kt ks b,h2,rfl⟩),n,λhv=>sM hv⟩
  ·cases h
 simp only at h;split at h
 ·rename_i d;rw[d]at e;have c:u=.string:=by cases u<;>simp[td]at e;rfl
  subst c;unfold Mt at h;split at h
  ·exact⟨_,.inl ⟨m,_,rfl⟩,h,λhv=>AM.1 hv⟩
  ·cases h
 ·rename_i q d;rw[d]at e;have c:u=.int q:=by cases u<;>simp[td]at e;rw[e]
  subst c;unfold Xf at h;split at h
  ·obtain⟨h1,h2⟩:=LZ h;have h1:_=q:=l2y h1;subst h1;exact⟨_,.inr (.inl ⟨_,_,m,rfl⟩),h2,λhv=>AM.1 hv⟩
  ·cases h
 ·obtain⟨ks,b,h⟩:=Bh h;exact g ks b h
 ·obtain⟨ks,b,h⟩:=Bh h;exact g ks b h
 ·cases h
def Qi{o:Oper}(e:∀c,o.op≠.defer c)(h:∀(w0:Base)(s0:Nat)(C:Ctx)(N:Nat)(a:Act)(w:World),St E.G w0 s0 C N t H a w->∃v y,K v=some r/\(execOp a.eval o).run P w=.ok (.value y) w/\VRel C w v y):TR P E.G ro N o t H (λv b=>b=H/\K v=some r):=
 UQ e λw0 s0 C N a w s=>let⟨v,y,h1,h2,d⟩:=h w0 s0 C N a w s;⟨v,H,y,C,w,⟨rfl,h1⟩,.inl h2,d,s.rel,.refl _ _ _⟩
def A2T(f:XE.Ok D E P){o:Oper}{op:BinOp}{ty J:TypeId}{x y:Operand}(d:o.op=.binOp op ty x y J)(h:C1x E op ty (A44 y) (JP E.G t x) (JP E.G t y) K=some r):TR P E.G ro N o t H (λv g=>g=H/\K v=some r):=by
 obtain⟨i,hi,h⟩:=Bh h;have nd:∀c,o.op≠.defer c:=λc hc=>by rw[d]at hc;cases hc
 have p:∀ks,E.eqt.get ty=some ks->XU ks op (JP E.G t x) (JP E.G t y) K=some r->TR P E.G ro N o t H (λv g=>g=H/\K v=some r):=λks b h=>by
  refine Qi nd λw0 A C N a w s=>?_;obtain⟨v,u,h1,h2,j⟩:=A4t (P:=P) x y (f.eq ty ks b) (Bb s x) (Bb s y) h;refine⟨v,u,h1,?_,j⟩;simp only[execOp,d];rw[Dn,h2];rfl
 simp only at h;split at h
 ·obtain⟨ks,b,h⟩:=Bh h;exact p ks b h
 ·obtain⟨ks,b,h⟩:=Bh h;exact p ks b h
 ·rename_i e k;obtain⟨L,m,h⟩:=Bh h;refine Qi nd λw0 A C N a w s=>?_;obtain⟨v,u,h1,h2,j⟩:=A4s (P:=P) (T:=E.T) f.ty x y hi k m (Bb s x) (Bb s y) h;refine⟨v,u,h1,?_,j⟩;simp only[execOp,d];rw[Dn,h2];rfl
 ·rename_i k;obtain⟨hc,h⟩:=LZ h;have F:y=.const .nilIface:=by
   unfold A44 at hc;split at hc
   ·rfl
   ·cases hc
  subst F;obtain⟨u,n,e⟩:=(f.ty ty i hi).under;rw[k]at e;obtain⟨ms,rfl⟩:∃ms,u=.interface ms:=by cases u<;>simp[td]at e;exact⟨_,rfl⟩
  have he:∀w,(Op.equal ty .nilIface .nilIface).run P w=.ok true w:=λw=>by
   show(Op.equalIn (9999+1) ty _ _).run P w=_;unfold Op.equalIn;rw[Dn,run_underlying n w];rfl
  have q:∀(op:BinOp)(z:Operand)(w:World),(eqGuard op ty z (.const .nilIface) .nilIface .nilIface).run P w=.ok () w:=λop z w=>by
   unfold eqGuard;rw[Sem.run_ite];refine B11 (by simp) ?_;simp
  refine Qi nd λw0 A C N a w s=>?_;have hv:=Bb s x;have hz:a.eval (.const .nilIface)=.nilIface:=rfl;unfold B6F at h;split at h
  ·rename_i hq _ _;rw[hq]at hv;have hv:=AM.1 hv;refine⟨_,.bool true,h,?_,.v _⟩;simp only[execOp,d];rw[hv,hz,Dn,Dn,q];simp[binOp,he]
  ·rename_i hq _ _;rw[hq]at hv;have hv:=AM.1 hv;refine⟨_,.bool false,h,?_,.v _⟩;simp only[execOp,d];rw[hv,hz,Dn,Dn,q];simp[binOp,he]
  ·cases h
 ·obtain⟨u,n,B⟩:=B! (T:=E.T) (ty:=ty) hi h;exact rd f nd (by rw[d];simpa [rZ,XE.env] using B) n
def RE{K:TypeId->Nat->Af}(h:K! i K=some r):∃e a,i.d=.slice e a/\K e a=some r:=by
 unfold K! at h;split at h
 ·rename_i b;exact⟨_,_,b,h⟩
 ·cases h
def A80(j:XE.Ok D E P){o:Oper}{ty:TypeId}{n:Nat}{parts:Array (Nat×Operand)}(k:o.op=.buildSlice ty n parts)(h:(E.ty.getK ty λi=>K! i λ_ b=>E.ty.getK (A65 i) λm=>kH E t i parts.toList λl=>Zc b m n l K)=some r):TR P E.G ro N o t H (λv u=>u=H/\K v=some r):=by
 obtain⟨i,hi,h⟩:=Bh h;obtain⟨e,b,f,h⟩:=RE h;have he:A65 i=e:=by simp[A65,f]
 rw[he]at h;obtain⟨m,g,h⟩:=Bh h;obtain⟨l,h1,h2⟩:=XZ j _ _ h;refine UQ (λc hc=>by rw[k]at hc;cases hc) λw0 L C N a w s=>?_;obtain⟨B,hq⟩:=lP s parts;obtain⟨v,y,q,J,A,d,hv,hr,F⟩:=A7V (P:=P) (T:=E.T) j.ty hi f g (by rw[<-h2];simp[Rp,f]) h1 B hq s.rel;refine⟨v,H,y,q,J,⟨rfl,A⟩,.inl ?_,hv,hr,F⟩;have:(parts.map λ(i,x)=>(i,a.eval x))=(parts.toList.map λp=>(p.1,a.eval p.2)).toArray:=by apply qK;simp
 simp only[execOp,k];rw[this,Dn,d];rfl
def A82(q:XE.Ok D E P){o:Oper}{s d:TypeId}(O:o.op=.convert s d x){i j ie:TI}{e z:Nat}(hi:E.ty.get s=some i)(Z:E.ty.get d=some j)(Y:i.d=.slice e z)(A:j.d=.string)(B:E.ty.get e=some ie)(f:A43 ie.d=true)(h:vM (JP E.G t x) H K=some r):TR P E.G ro N o t H (λv V=>V=H/\K v=some r):=by
 refine UQ (λc hc=>by rw[O]at hc;cases hc) λw0 s0 C N a w st=>?_;obtain⟨h1,l,X,b⟩:=A4z (P:=P) st.rel (Bb st x) h;refine⟨.v (.string ⟨⟨l⟩⟩),H,.string ⟨⟨l⟩⟩,C,w,⟨rfl,X⟩,.inl ?_,.v _,st.rel,.refl _ _ _⟩;have u:(convert s d (a.eval x)).run P w=.ok (.string ⟨⟨l⟩⟩) w:=by
  obtain⟨F,_⟩:=(q.ty s i hi).elem_slice Y;obtain⟨Q,J,M⟩:=(q.ty d j Z).under;obtain⟨u3,L,p⟩:=(q.ty e ie B).under;rw[A]at M;have g:Q=.string:=by cases Q<;>simp[td]at M;rfl
  subst g;have m:u3=.int .u8:=by
   cases hq:ie.d with
   |int k=>
    rw[hq]at f p;cases k<;>simp[A43]at f
    cases u3<;>simp[td]at p
    rw[p]
   |_=>rw[hq]at f;simp[A43]at f
  subst m;unfold convert;rw[Dn,run_underlying F w];simp only[FY];rw[Dn,run_underlying J w];simp only[FY];generalize a.eval x=y at h1 b;cases y with
  |slice ad n cap=>
   simp only;rw[Dn,run_underlying L w];simp only[FY];exact b
  |string s=>exact absurd rfl (h1 s)
  |_=>simp[Conv.bytesToString]at b
 simp only[execOp,O];rw[Dn,u];rfl
def zP{f:Nat}{K:Nat->Nat->TypeId->Af}(h:B5n i f K=some r):∃a o s ft,i.d=.struct a/\a[f]?=some (o,s,ft)/\K o s ft=some r:=by
 unfold B5n at h;split at h
 ·rename_i a b;split at h
  ·rename_i c;exact⟨a,_,_,_,b,c,h⟩
  ·cases h
 ·cases h
def fR(f:XE.Ok D E P)(L:RSound D E P R){o:Oper}{c:Call}(p:o.op=.call c)(h:F? E R t H c K=some r):TR P E.G ro N o t H (λv J=>J=H/\K v=some r):=by
 have nd:∀c,o.op≠.defer c:=λc hc=>by rw[p]at hc;cases hc
 unfold F? at h;split at h
 ·rename_i Y d;have h:=RN f _ _ (Bg f h);unfold A8z at h;split at h
  ·rename_i g first cap O;obtain⟨_,h⟩:=B4 h;rw[Jx,Jx,<-eK]at h;obtain⟨⟨fn,h1,h2,B⟩,hc⟩:=fC L h;exact TR.mono (To p d O h1 h2 B hc) (λ_ _ h=>h)
  ·cases h
 ·rename_i d;split at h
  ·rename_i x ty m q;obtain⟨i,hi,h⟩:=Bh (Bg f h);unfold B2W at h;split at h
   ·rename_i kt X M;refine Qi nd λw0 V C N a w s=>?_;obtain⟨v,y,h1,h2,B⟩:=A24 (P:=P) (ty:=o.type) (ts:=c.argTypes) (by rw[<-l27,q];rfl) (PT f hi M) s.rel (Bb s x) h;refine⟨v,y,h1,?_,B⟩;have e:c.args.map a.eval= #[a.eval x]:=by apply qK;simp[m]
    rw[IF p _ d,e];show(do pure (Next.value (<-Builtin.len_ c.argTypes o.type #[a.eval x]))).run P w=_;rw[Dn,h2];rfl
   ·obtain⟨u,A,j⟩:=A7Q (T:=E.T) hi h;exact rd f nd (by rw[p];simp only[rZ,d,m,q];simpa [XE.env] using j) A
  ·cases h
 ·rename_i d;split at h
  ·rename_i x m;have h:=Bg f h;unfold A7K at h;split at h
   ·rename_i sz rr oo n hq;obtain⟨hc,h1⟩:=B4 h;simp only[KK,rE,Xe]at hc;refine Qi nd λw0 V C N a w s=>?_;have hv:=Bb s x;rw[hq]at hv;have e:c.args.map a.eval= #[a.eval x]:=by apply qK;simp[m]
    rw[IF p _ d,e];generalize a.eval x=y at hv;cases hv with
    |slz=>exact absurd hc.2 (by simp)
    |@sl _ _ _ _ _ _ b k cap arr T fz Q F hb hsz=>
     refine⟨_,.pointer (some ⟨b,k+oo,none⟩),h1,?_,.ptr Q⟩;show(do pure (Next.value (<-Builtin.unsafeSliceData_ c.argTypes o.type #[.slice (some ⟨b,k+oo,none⟩) n cap]))).run P w=_;rw[Dn,Lib.run_unsafeSliceData_row _ _ _ _ _ _ (by omega)];rfl
   ·cases h
  ·cases h
 ·rename_i d;split at h
  ·rename_i x y m;obtain⟨u,A,j⟩:=A22 (Bg f (Bg f h));exact rd f nd (by rw[p];simp only[rZ,d,m];simpa [XE.env] using j) A
  ·cases h
 ·rename_i d;split at h
  ·rename_i x y m;obtain⟨u,A,j⟩:=A22 (Bg f (Bg f h));exact rd f nd (by rw[p];simp only[rZ,d,m];simpa [XE.env] using j) A
  ·cases h
 ·cases h
def T8(m:XE.Ok D E P)(hR:RSound D E P R){o:Oper}(h:RL E R t H o.op K=some r):TR P E.G ro N o t H (λv Y=>Y=H/\K v=some r):=by
 unfold RL at h;split at h
 all_goals try (cases h;done)
 case h_1 x g=>exact rd m (λc hc=>by rw[g]at hc;cases hc) (by rw[g];exact⟨rfl,rfl⟩) (Bg m h)
 case h_2 x g=>exact rd m (λc hc=>by rw[g]at hc;cases hc) (by rw[g];exact⟨rfl,rfl⟩) (Bg m h)
 case h_3 c a b g=>
  have h:=Bg m (Bg m (Bg m h));unfold Cn at h;split at h
  ·rename_i hq;exact rd m (λc hc=>by rw[g]at hc;cases hc) (by rw[g];simp[rZ,XE.env,hq]) h
  ·rename_i hq;exact rd m (λc hc=>by rw[g]at hc;cases hc) (by rw[g];simp[rZ,XE.env,hq]) h
  ·cases h
 case h_4 ty x g=>
  obtain⟨i,hi,h⟩:=Bh (Bg m h);obtain⟨u,p,q⟩:=A27 (T:=E.T) (ty:=ty) hi h;exact rd m (λc hc=>by rw[g]at hc;cases hc) (by rw[g];simpa [rZ,XE.env] using q) p
 case h_5 x g=>
  have h:=Bg m h;unfold L0 at h;split at h
  ·rename_i hq;exact rd m (λc hc=>by rw[g]at hc;cases hc) (by rw[g];simp[rZ,XE.env,hq,A8C]) h
  ·rename_i hq;exact rd m (λc hc=>by rw[g]at hc;cases hc) (by rw[g];simp[rZ,XE.env,hq,A8C]) h
  ·rename_i hq;exact rd m (λc hc=>by rw[g]at hc;cases hc) (by rw[g];simp[rZ,XE.env,hq,A8C]) h
  ·cases h
 case h_6 op ty x y yt g=>exact A2T m g (Bg m (Bg m h))
 case h_7 op ty x g=>
  obtain⟨u,p,q⟩:=B1w (Bg m h);exact rd m (λc hc=>by rw[g]at hc;cases hc) (by rw[g];simpa [rZ,XE.env] using q) p
 case h_8 s d x g=>
  obtain⟨i,hi,h⟩:=Bh (Bg m h);obtain⟨j,J,h⟩:=Bh h;unfold cvK at h;simp only at h;split at h
  ·rename_i e z F;split at h
   ·rename_i M;obtain⟨ie,B,h⟩:=Bh h;obtain⟨p,h⟩:=LZ h;exact A82 m g hi J F M B p h
   ·cases h
  ·rename_i e F;obtain⟨hc,h⟩:=LZ h;simp only[KK,rE,l19]at hc;obtain⟨ie,B,h⟩:=Bh h;refine Qi (λc hc=>by rw[g]at hc;cases hc) λw0 X C N a w st=>?_;obtain⟨h1,h2⟩:=A4n (P:=P) (T:=E.T) m.ty hi F B (d:=d) (by rw[hc.1];exact m.up hc.2) st.rel (Bb st x) h;refine⟨_,_,h1,?_,Bb st x⟩;simp only[execOp,g];rw[Dn,h2];rfl
  ·rename_i F;split at h
   ·rename_i u M;obtain⟨hc,h⟩:=LZ h;simp only[KK,rE,l19]at hc;have aa:P.underlying d=some (.pointer u):=by
     obtain⟨u',ad,Q⟩:=(m.ty d j J).under;rw[M]at Q;cases u'<;>simp[td]at Q
     rw[ad,Q]
    refine Qi (λc hc=>by rw[g]at hc;cases hc) λw0 X C N a w st=>?_;obtain⟨h1,h2⟩:=A4h (P:=P) m.lie (s:=s) (by rw[hc.1];exact m.up hc.2) aa st.rel (Bb st x) h;refine⟨_,_,h1,?_,Bb st x⟩;simp only[execOp,g];rw[Dn,h2];rfl
   ·cases h
  ·obtain⟨u,p,q⟩:=A4w (T:=E.T) hi J h;exact rd m (λc hc=>by rw[g]at hc;cases hc) (by rw[g];simpa [rZ,XE.env] using q) p
 case h_9 fn first cap g=>
  have h:=RN m _ _ (RN m _ _ h);exact rd m (λc hc=>by rw[g]at hc;cases hc) (by rw[g];exact⟨rfl,rfl⟩) h
 case h_10 ty x f g=>
  obtain⟨i,hi,h⟩:=Bh (Bg m h);obtain⟨fs,off,s,ft,h1,h2,h⟩:=zP h;obtain⟨hz,h⟩:=B4 h;obtain⟨u,p,q⟩:=B1M (T:=E.T) (ty:=ty) hi h1 h2 (λe=>by rw[e]at hz;simp at hz) h;exact rd m (λc hc=>by rw[g]at hc;cases hc) (by rw[g];simpa [rZ,XE.env] using q) p
 case h_11 ty x f g=>
  obtain⟨i,hi,h⟩:=Bh (Bg m h);obtain⟨fs,off,s,ft,h1,h2,h⟩:=zP h;obtain⟨j,J,h⟩:=Bh h;obtain⟨u,p,q⟩:=A7S (T:=E.T) (ty:=ty) hi h1 h2 J h;exact rd m (λc hc=>by rw[g]at hc;cases hc) (by rw[g];simpa [rZ,XE.env] using q) p
 case h_12 ty x V g=>
  obtain⟨i,hi,h⟩:=Bh (Bg m (Bg m h));obtain⟨u,p,q⟩:=B1H (T:=E.T) (ty:=ty) hi h;exact rd m (λc hc=>by rw[g]at hc;cases hc) (by rw[g];simpa [rZ,XE.env] using q) p
 case h_13 ty x V g=>
  obtain⟨i,hi,h⟩:=Bh (Bg m (Bg m h));unfold elK at h;have fin:∀j,(∀e,jD i=some e->E.T e=some j)->jI i j (JP E.G t x) (JP E.G t V) K=some r->TR P E.G ro N o t H (λv Y=>Y=H/\K v=some r):=λj J h=>by
   obtain⟨u,p,q⟩:=A7R (T:=E.T) (ty:=ty) hi J h;exact rd m (λc hc=>by rw[g]at hc;cases hc) (by rw[g];simpa [rZ,XE.env] using q) p
  split at h
  ·rename_i e he;obtain⟨j,J,h⟩:=Bh h;exact fin j (λQ A=>by rw[he]at A;injection A with A;subst A;exact J) h
  ·rename_i he;exact fin i (λQ A=>by rw[he]at A;cases A) h
 case h_14 ty x lo hi mx g=>
  have h0:=Bh (kI m (kI m (kI m (Bg m h))));clear h;obtain⟨i,O,h⟩:=h0;unfold A2I at h;split at h
  ·rename_i n e Z F;split at h
   ·rename_i hm;have ac:mx=none:=by cases mx with
     |none=>rfl
     |some _=>cases hm
    subst ac;refine Qi (λc hc=>by rw[g]at hc;cases hc) λw0 X C N a w st=>?_;obtain⟨v,u,h1,h2,L⟩:=A4j (P:=P) (T:=E.T) m.ty O F (m.pos ty i e Z O (.inr ⟨n,F⟩)) st.rel (Bb st x) (Yy st lo) (Yy st hi) h;refine⟨v,u,h1,?_,L⟩;simp only[execOp,g];rw[Dn];have:(Instr.sliceAt ty (a.eval x) (lo.map a.eval) (hi.map a.eval) (Option.map a.eval none)).run P w=.ok u w:=h2;rw[this];rfl
   ·cases h
  ·obtain⟨u,p,q⟩:=A1W (T:=E.T) (ty:=ty) O h;exact rd m (λc hc=>by rw[g]at hc;cases hc) (by rw[g];simpa [rZ,XE.env] using q) p
 case h_15 x k g=>
  obtain⟨vs,u,h1,h2,L⟩:=A7T (Bg m h);exact rd m (λc hc=>by rw[g]at hc;cases hc) (by rw[g];simp only[rZ,XE.env,h1,h2,Mm];exact⟨trivial,trivial⟩) L
 case h_16 ty parts g=>
  obtain⟨i,hi,h⟩:=Bh h;obtain⟨hb,h⟩:=B4 h;obtain⟨l,h1,h2⟩:=XZ m _ _ h;obtain⟨u,p,q⟩:=A2a (T:=E.T) (ty:=ty) hi hb h2 h1;exact rd m (λc hc=>by rw[g]at hc;cases hc) (by rw[g];simpa [rZ,XE.env] using q) p
 case h_17 c g=>exact fR m hR g h
 case h_18 ty n parts g=>exact A80 m g h
 case h_19 ty x V ok g=>
  obtain⟨i,hi,h⟩:=Bh (Bg m (Bg m h));obtain⟨kt,et,F,h⟩:=PU h;obtain⟨kv,hk,h,ab⟩:=Vx m h;obtain⟨ie,B,h⟩:=Bh h;refine Qi (λc hc=>by rw[g]at hc;cases hc) λw0 X C N a w st=>?_;obtain⟨v,y,h1,h2,L⟩:=A7P (P:=P) (PT m hi F) (m.ty et ie B) hk st.rel (Bb st x) h;refine⟨v,y,h1,?_,L⟩;simp only[execOp,g];rw[Dn,ab (Bb st V),h2];rfl
 case h_20 it g=>
  have h:=Bg m h;refine Qi (λc hc=>by rw[g]at hc;cases hc) λw0 X C N a w st=>?_;obtain⟨v,y,h1,h2,L⟩:=A4u (P:=P) st.rel (Bb st it) h;refine⟨v,y,h1,?_,L⟩;simp only[execOp,g];rw[Dn,h2];rfl
end
end
section
variable{aZ bd:Code}
def B96(r:Nat)(K:AV->Hp->Prop):Exit->Tm->Hp->Prop
 |.normal,_,H=>∃N t ps aZ bd,Ai H r=some (.loop N t ps aZ bd none)/\K (.v (.bool true)) (upd H r (.loop N t ps aZ bd (some none)))
 |.ret,_,H=>∃N t ps aZ bd,Ai H r=some (.loop N t ps aZ bd none)/\K (.v (.bool false)) (upd H r (.loop N t ps aZ bd (some (some .ret))))
 |.exit id,_,H=>∃N t ps aZ bd,Ai H r=some (.loop N t ps aZ bd none)/\K (.v (.bool false)) (upd H r (.loop N t ps aZ bd (some (some (.exit id)))))
 |.goto l,_,H=>∃N t ps aZ bd,Ai H r=some (.loop N t ps aZ bd none)/\K (.v (.bool false)) (upd H r (.loop N t ps aZ bd (some (some (.goto l)))))
 |_,_,_=>False
section
variable{P:Program}{G:Gl}{ro:Option Nat}{N:Nat}{t:Tm}{H:Hp}
def A4Q{o:Oper}{c:Call}{fv:Operand}{r:Nat}{K:AV->Hp->Prop}(R:o.op=.call c)(M:c.callee=.value fv)(hf:JP G t fv=.yl r){D:Nat}{t':Tm}{ps:Array Tmp}{args:Is}(m:c.args.toList.map (JP G t)=args)(hl:Ai H r=some (.loop D t' ps aZ bd (some none)))(ae:ps.size=args.length)(ad:∀p∈ps.toList,p<D)(h:∀b,QA P G (some b) (Ar H) D aZ (B0h (λt1 H1=>∃N1 k j g i,Ai H1 r=some (.loop N1 k j g i (some none))/\QA P G (some b) (Ar H) D bd (B96 r K) t1 (upd H1 r (.loop N1 k j g i none))) (λ_ _ _=>False)) (yL t' ps.toList args) H):TR P G ro N o t H K:=by
 intro w0 s0 C a w Q s;have hv:=Bb s fv;rw[hf]at hv;generalize hy:a.eval fv=y at hv;cases hv with
 |yl L=>
 rename_i b am;obtain⟨F,l,h1,h2,h3,h4,h5,h6,h7,h8,h9⟩:=s.rel.rows r _ hl;have e:=h1.symm.trans L;injection e with e;injection e with e;injection e with e1 J;subst e1 J
 have V:r<Ar H:=yZ s.rel (by rw[L];simp);have d:=vT s c.args.toList;rw[m]at d;have A:(c.args.map a.eval).size=l.params.size:=by
  have:=d.1;simp at this;simp[h6,ae,this]
 refine⟨λf _=>trivial,?_⟩;rw[Oper.semAt_eq _ _ _ (by rw[R];intro c hc;cases hc)];have X:(execOp a.eval o).run P w=.ok (.round F l.fn ((l.params.zip (c.args.map a.eval)).foldl (λtmps(t,a)=>tmps.setIfInBounds t a) l.tmps) l.assign l.body) w:=by
  simp only[execOp,R,resolve,M,hy,Deferred.ofValue,Dn,mJ,FY,invoke];have:=run_yield (P:=P) (w:=w) (args:= #[]++c.args.map a.eval) h2 (by simpa using A);simpa using this
 rw[X];refine⟨λhd=>by simp[wA]at hd,?_⟩;have ht:=A6V (C:=C) (w:=w) l.params.toList args (c.args.toList.map a.eval) t' l.tmps (λp L=>by rw[h5];exact ad p (h6▸L)) d h9;have ah:(l.params.zip (c.args.map a.eval)).foldl (λtmps(x:Tmp×Value)=>match x with|(t,a)=>tmps.setIfInBounds t a) l.tmps=(l.params.toList.zip (c.args.toList.map a.eval)).foldl (λt(p:Tmp×Value)=>t.setIfInBounds p.1 p.2) l.tmps:=by
  have hz:(l.params.zip (c.args.map a.eval)).foldl (λtmps(p:Tmp×Value)=>tmps.setIfInBounds p.1 p.2) l.tmps=(l.params.toList.zip (c.args.toList.map a.eval)).foldl (λt(p:Tmp×Value)=>t.setIfInBounds p.1 p.2) l.tmps:=by
   rw[<-Array.foldl_toList];simp
  exact hz
 refine roundIn_of_wpIn trivial ?_;rw[ah,h7,h8];have ai:St G w0 0 C D (yL t' ps.toList args) H {tmps:=(l.params.toList.zip (c.args.toList.map a.eval)).foldl (λt(p:Tmp×Value)=>t.setIfInBounds p.1 p.2) l.tmps,defers:=[]} w:=
  ⟨s.rel,by rw[ht.2];exact h5,by rw[<-h6];exact ht.1,.nil,l1h _⟩
 refine wpIn_mono (h F w0 0 C _ w ai) ?_;rintro e a1 w1 ⟨C1,t1,H1,s1,x1,q1⟩;cases e with
 |normal=>
  obtain⟨N1,k,j,g,i,aa,n⟩:=q1;have q:C1.π r=some (some (F,0)):=(x1.π r V (by rw[L];simp)).trans L;obtain⟨l1,g1,g2,g3,g4,g5,g6,g7,g8,Y⟩:=s1.rel.set_loop (pend':=none) (O:=w0.own) aa q;obtain⟨af,J⟩:=Y {l1 with state:=.busy} rfl (by rw[g3];rfl) rfl rfl rfl rfl;refine⟨_,run_beginRound g1 g2,?_⟩;have aj:St G w0 0 C1 D t1 (upd H1 r (.loop N1 k j g i none)) a1 (w1.putObj F (.loop {l1 with state:=.busy})):=⟨af,s1.size,s1.tmps.mono J,s1.defers.mono J.B J.keepB,l1h _⟩
  refine wpIn_mono (n w0 0 C1 a1 _ aj) ?_;rintro e a3 w3 ⟨C3,t3,H3,s3,x3,q3⟩;have ac:C3.π r=some (some (F,0)):=(x3.π r V (by rw[q];simp)).trans q;have ak:Frm (Ar H) w0.own C w C3 w3:=(x1.trans J.frm).trans x3;have fin:∀jump:Option Code,(∃N t ps aZ bd,Ai H3 r=some (.loop N t ps aZ bd none)/\K (.v (.bool jump.isNone)) (upd H3 r (.loop N t ps aZ bd (some jump))))->
   ∃v w4,(Instr.endRound F jump).run P w3=.ok v w4/\∃Z y C' H',a.put o.dst v=a.put o.dst y/\K Z H'/\VRel C' w4 Z y/\Rel G w0 C' H' w4/\Ext w0.own C w C' w4:=by
   rintro jump ⟨N3,ar,aq,ao,ap,ab,hK⟩;obtain⟨l3,k1,k2,k3,k4,k5,k6,k7,k8,u⟩:=s3.rel.set_loop (pend':=some jump) (O:=w0.own) ab ac;obtain⟨ag,e4⟩:=u {l3 with state:=if jump.isNone then .ready else .done,pending:=jump} (by cases jump<;>rfl) rfl rfl rfl rfl rfl;exact⟨_,_,run_endRound jump k1,_,_,C3,_,rfl,hK,.v _,ag,(ak.trans e4.frm).ext_of s.rel⟩
  cases e with
  |normal=>exact fin none q3
  |ret=>exact fin (some .ret) q3
  |exit id=>exact fin (some (.exit id)) q3
  |goto l=>exact fin (some (.goto l)) q3
  |panic ch=>exact q3.elim
  |outgrown=>exact q3.elim
 |_=>exact q1.elim
def A4O{m:Nat}{Q:Exit->Tm->Hp->Prop}{g:Operand}{ps:Array Tmp}{f:FuncId}{first cap:Is}(hg:JP G t g=.fn (.func f) first cap){fn:Func}(aq:P.funcs[f]?=some fn)(F:fn.body.isNone=false)(K:(fn.name== "runtime.NumGoroutine")=false)(h:Rh P G f (first++[.yl (Ar H)]++cap) ((Ar H,.loop N t ps aZ bd (some none))::H) (λ_ H2=>∃N' t' aj V X d,Ai H2 (Ar H)=some (.loop N' t' aj V X (some d))/\B9a Q t (cut H2 (Ar H)) d)):QA P G none m N (.rangeFunc g ps aZ bd) Q t H:=by
 intro w0 s0 C a w s;refine wpIn_rangeFunc ?_;intro aa _;have hv:=Bb s g;rw[hg]at hv;obtain⟨ys,zs,he,ax,ay⟩:=Ju.1 hv;have af:=NM w (.deferred (some []));have k:(w.alloc (.deferred (some []))).heap.size=w.heap.size+1:=World.size_alloc _ _;have rD:Rel G w0 C H (w.alloc (.deferred (some []))):=s.rel.of_below af;have A:(w.alloc (.deferred (some []))).heap[w.heap.size]?=some (.deferred (some [])):=World.alloc_heap_new w _;obtain⟨ak,am⟩:=rD.addB (b:=w.heap.size) (by rw[k];omega) (.inl s.rel.below.size) (λr x o hx hp=>l1l _ ((s.rel.rows r x hx).block (EC hx) hp));have eD:Ext w0.own C w (C.addB w.heap.size) (w.alloc (.deferred (some []))):=(s.rel.ext_below af).trans am;obtain⟨lp,i⟩:∃lp:Loop,lp={state:=.ready,pending:=none,fn:=aa,tmps:=a.tmps,params:=ps,assign:=aZ,body:=bd,defers:=w.heap.size}:=⟨_,rfl⟩
 have D:=NM (w.alloc (.deferred (some []))) (.loop lp);have eL:Ext w0.own (C.addB w.heap.size) (w.alloc (.deferred (some []))) ((C.addB w.heap.size).put (Ar H) (some ((w.alloc (.deferred (some []))).heap.size,0))) ((w.alloc (.deferred (some []))).alloc (.loop lp)):=ak.new_ext D;have j:((w.alloc (.deferred (some []))).alloc (.loop lp)).heap[(w.alloc (.deferred (some []))).heap.size]?=some (.loop lp):=World.alloc_heap_new _ _;have L:=eD.trans eL;have r1:=ak.new_row (x:=.loop N t ps aZ bd (some none)) D ⟨_,lp,Ctx.put_n _ _ _,j,by rw[i];rfl,by rw[i];rfl,by rw[i];exact s.size,by rw[i],by rw[i],by rw[i],(show lp.tmps=a.tmps by rw[i])▸s.tmps.mono L⟩;generalize ac:(C.addB w.heap.size).put (Ar H) (some ((w.alloc (.deferred (some []))).heap.size,0))=R at r1 L;generalize ad:(w.alloc (.deferred (some []))).alloc (.loop lp)=q at r1 L j;have ai:R.π (Ar H)=some (some (w.heap.size+1,0)):=by rw[<-ac,Ctx.put_n,k]
 have ab:R.B w.heap.size:=by rw[<-ac];exact .inr rfl
 have ao:q.heap[w.heap.size]?=some (.deferred (some [])):=by
  rw[<-ad];exact(D.block _ (by rw[k];omega)).trans A
 have ae:CF R q (first++[.yl (Ar H)]++cap) (ys++[.func (.yield (w.heap.size+1)) #[] #[]]++zs):=((ax.mono L).append (.cons (.yl ai) .nil)).append (ay.mono L);have J:=h w0 R q _ r1 ae;refine⟨w.heap.size+1,[{target:=.collected w.heap.size,args:= #[]}],q,{target:=.fn (.func f) zs.toArray,args:=ys.toArray++ #[Value.func (.yield (w.heap.size+1)) #[] #[]]},q,f,(ys++[Value.func (.yield (w.heap.size+1)) #[] #[]]++zs).toArray,q,?_,?_,λ_ _=>trivial,?_,λhd=>by simp[wA]at hd,?_⟩
 ·rw[<-ad,i];exact run_enterLoop_outer _ _ _ _ _
 ·simp only[resolve,rangeCall,he,Deferred.ofValue,mJ];simp[Act.eval]
 ·simp only[invoke,callFunc,Dn,run_program,FY,aq,K,F,xT,if_false,mJ]
  congr 2
  apply qK;simp
 ·refine CallsIn.mono (callsIn_wide.2 J) ?_;rintro e w2 ⟨v,y,n,H2,rfl,r2,az,x2,N',t',aj,V,X,d,ag,hq⟩;have u:Ext w0.own R q n w2:=x2.ext_of r1;have ah:n.π (Ar H)=some (some (w.heap.size+1,0)):=u.at ai;obtain⟨b',M,k1,k2,k3,k4,_⟩:=r2.rows (Ar H) _ ag;have Y:=k1.symm.trans ah;injection Y with Y;injection Y with Y;injection Y with e3 e4;subst e3
  have ar:=(l1v.1 k2).1;obtain⟨r3,Z⟩:=r2.set_obj (O:=w0.own) (y:=.gone) ag ah (SameObj.putObj ar (.loop {M with state:=.exhausted})) (λarr T fz hc=>by rw[k2]at hc;cases hc) (λ_=>trivial);have ex:Ext w0.own C w n (w2.putObj (w.heap.size+1) (.loop {M with state:=.exhausted})):=(L.trans u).trans Z;have p:=u.trans Z;have ap:DOk w0 s0 n (w2.putObj (w.heap.size+1) (.loop {M with state:=.exhausted})) (P! w.heap.size::a.defers):=by
   obtain⟨bs,d1,d2,d3⟩:=s.defers;refine⟨w.heap.size::bs,List.nodup_cons.2 ⟨λhm=>l1l _ (s.rel.finB _ (d3 _ hm).2.2.1),d1⟩,by rw[d2];rfl,λb hb=>?_⟩;rcases Xd.1 hb with rfl|hb
   ·exact⟨s.le,.inl s.rel.below.size,p.B _ ab,(p.keepB _ ab).trans ao⟩
   ·obtain⟨g1,g2,g3,g4⟩:=d3 b hb;exact⟨g1,g2,ex.B _ g3,(ex.keepB _ g3).trans g4⟩
  have st:St G w0 s0 n N t (cut H2 (Ar H)) {a with defers:=[P! w.heap.size]++a.defers} (w2.putObj (w.heap.size+1) (.loop {M with state:=.exhausted})):=
   ⟨r3,s.size,s.tmps.mono ex,ap,fG s.le ex.grow⟩
  refine⟨d,w2.putObj (w.heap.size+1) (.loop {M with state:=.exhausted}),?_,?_⟩
  ·have:=run_endLoop (P:=P) k2 (by rw[k3];cases d<;>simp[B3W]);have hj:M.pending=d:=by rw[k4];cases d<;>rfl
   rw[this,hj]
  ·cases d with
   |none=>exact⟨n,t,_,st,ex.frm,hq⟩
   |some c=>
    cases c with
    |ret=>exact wpIn_ret ⟨n,t,_,st,ex.frm,hq⟩
    |exit id=>exact wpIn_exit ⟨n,t,_,st,ex.frm,hq⟩
    |goto l=>exact wpIn_goto ⟨n,t,_,st,ex.frm,hq⟩
    |_=>exact hq.elim
end
end
section
variable{c:Call}{s:Nat}
def dI(x:Row)(K:Nat->Tm->Array Tmp->Code->Code->Option (Option Code)->Af):Af:=match x with|.loop N t ps b d a=>K N t ps b d a|_=>none
def EB(H:Hp)(r:Nat)(ready:Bool)(to:Option (Option Code))(K:Ru):Af:=
 IQ H r λx=>dI x λN t ps b d a=>match ready,a with
  |true,some none=>LJ H r (.loop N t ps b d to) K
  |false,none=>LJ H r (.loop N t ps b d to) K
  |_,_=>none
def A3g(t:Tm)(ps:List Tmp):Is->(Tm->Af)->Af:=
 @List.rec Tmp (λ_=>Tm->Is->(Tm->Af)->Af) (λt b K=>@List.rec AV (λ_=>Af) (K t) (λ_ _ _=>none) b)
  (λp _ ih t b K=>@List.rec AV (λ_=>Af) none (λa b _=>ih ((p,a)::t) b K) b) ps t
def zA(N:Nat)(ps:List Tmp):Bool:=@List.rec Tmp (λ_=>Bool) true (λp _ ih=>@Bool.rec (λ_=>Bool) false ih (Nat.blt p N)) ps
def NV(R:Rt)(r:Nat)(args:Is)(H:Hp)(K:KV):Af:=
 IQ H r λx=>dI x λN t ps i j b=>match b with
  |some none=>ck (zA N ps.toList) (A3g t ps.toList args λf=>R.run ⟨true,f.map (·.1),false,N,[]⟩ i f H λe k g=>match e with
   |.normal=>EB g r true none λh=>R.run ⟨true,f.map (·.1),false,N,[]⟩ j k h λe _ d=>match e with
    |.normal=>EB d r false (some none) λa=>K (.v (.bool true)) a
    |.ret=>EB d r false (some (some .ret)) λa=>K (.v (.bool false)) a
    |.exit id=>EB d r false (some (some (.exit id))) λa=>K (.v (.bool false)) a
    |.goto l=>EB d r false (some (some (.goto l))) λa=>K (.v (.bool false)) a
    |_=>none
   |_=>none)
  |_=>none
def A8A(E:XE)(R:Rt)(f:AV)(b:Is)(H:Hp)(K:KV):Af:=
 match f with
 |.fn (.func g) first cap=>ck (E.imp g) (YX b cap λa=>YX first a λall=>R.call g all H K)
 |.yl r=>NV R r b H K
 |_=>none
def C2y(i:TI)(K:TypeId->Af):Af:=(λ(_:Unit)=>match i.d with|.pointer e=>K e|_=>none) Ic
def C4L(E:XE)(e:TypeId)(esz:Nat)(ie i2:TI)(s x:AV)(H:Hp)(K:KV):Af:=(λ(_:Unit)=>@Bool.rec (λ_=>Af) (Dy e esz ie i2 s x H K) (B? e esz ie i2 s x H K) (E.ov e)) Ic
def Yb(E:XE)(R:Rt)(t:Tm)(H:Hp)(c:Call)(K:KV):Af:=
 match c.callee with
 |.value h=>Ku E t h λf=>rV E t c.args.toList λg=>A8A E R f g H K
 |.builtin .append=>match c.args.toList,c.argTypes.toList with
  |[s,x],[v,w]=>Ku E t s λs=>Ku E t x λx=>E.ty.getK v λi1=>E.ty.getK w λi2=>K! i1 λe a=>E.ty.getK e λb=>C4L E e a b i2 s x H K
  |_,_=>none
 |.builtin .copy=>match c.args.toList,c.argTypes.toList with
  |[s,x],ty::_=>Ku E t s λs=>Ku E t x λx=>E.ty.getK ty λi=>K! i λ_ a=>A28 a s x H K
  |_,_=>none
 |.builtin .clear=>match c.args.toList,c.argTypes.toList with
  |[s],[ty]=>Ku E t s λs=>E.ty.getK ty λi=>K! i λe a=>E.ty.getK e λb=>vJ a b s H λd=>K (.tup []) d
  |_,_=>none
 |.builtin .delete=>match c.args.toList,c.argTypes.toList with
  |[m,k],ty::_=>Ku E t m λm=>Ku E t k λk=>E.ty.getK ty λi=>P? i λj _=>A7u E j k λq=>jF m q H λd=>K (.tup []) d
  |_,_=>none
 |.builtin .unsafeString=>match c.args.toList,c.argTypes.toList with
  |[p,n],[u,_]=>Ku E t p λp=>Ku E t n λn=>E.ty.getK u λi=>C2y i λe=>E.ty.getK e λb=>ckS (Nat.beq b.size 1) (A4g e p n H K)
  |_,_=>none
 |_=>none
def fO(E:XE)(R:Rt)(t:Tm)(H:Hp)(o:Op)(K:KV):Af:=
 match o with
 |.store ty x y=>Ku E t x λp=>Ku E t y λv=>E.ty.getK ty λi=>DN i p v H λa=>K (.v undef) a
 |.alloc ty=>E.ty.getK ty λi=>Bw ty i H K
 |.box ty x=>Ku E t x λv=>GZ ty v H K
 |.buildSlice ty n parts=>E.ty.getK ty λi=>K! i λe b=>E.ty.getK e λd=>kH E t i parts.toList λl=>FV e b d n l H K
 |.call c=>Yb E R t H c K
 |.makeSlice ty l c=>Ku E t l λl=>Ku E t c λc=>E.ty.getK ty λi=>K! i λe b=>E.ty.getK e λd=>eMk e b d l c H K
 |.makeMap ty none=>E.ty.getK ty λi=>P? i λ_ h=>E.ty.getK h λd=>LX d H K
 |.mapUpdate ty m k v=>Ku E t m λm=>Ku E t k λk=>Ku E t v λv=>E.ty.getK ty λi=>P? i λf _=>A7u E f k λg=>MC m g v H λa=>K (.v undef) a
 |.insert ty m k v=>Ku E t m λm=>Ku E t k λk=>Ku E t v λv=>E.ty.getK ty λi=>P? i λf _=>A7u E f k λg=>MC m g v H λa=>K (.v undef) a
 |.mapEntry ty m k=>Ku E t m λm=>Ku E t k λk=>E.ty.getK ty λi=>P? i λf h=>A7u E f k λg=>E.ty.getK h λd=>B1D d m g H K
 |.entryStore _ m st v=>Ku E t m λm=>Ku E t st λst=>Ku E t v λv=>B1C m st v H λa=>K (.v undef) a
 |.range ty x=>Ku E t x λm=>E.ty.getK ty λi=>P? i λ_ _=>Xs m H K
 |.next it false=>Ku E t it λv=>Za v H K
 |_=>none
section
variable{D:XE->Cf->Nat->List Oper->Bool}{E:XE}{P:Program}{R:Rt}{t:Tm}{H:Hp}{r:AV×Hp}{ro:Option Nat}{N:Nat}
def eI{x:Row}{K:Nat->Tm->Array Tmp->Code->Code->Option (Option Code)->Af}(h:dI x K=some r):∃N t ps b d a,x=.loop N t ps b d a/\K N t ps b d a=some r:=by
 unfold dI at h;split at h
 ·exact⟨_,_,_,_,_,_,rfl,h⟩
 ·cases h
def NZ{ready:Bool}{to:Option (Option Code)}{K:Ru}(h:EB H s ready to K=some r):
 ∃N t ps a b,Ai H s=some (.loop N t ps a b (if ready then some none else none))/\K (upd H s (.loop N t ps a b to))=some r:=by
 unfold EB at h;obtain⟨x,h1,h2⟩:=I4 rfl h;obtain⟨N,t,ps,a,b,e,rfl,d⟩:=eI h2;clear h h2;have h:=d;clear d;split at h
 ·rw[Dg]at h;exact⟨N,t,ps,a,b,h1,h⟩
 ·rw[Dg]at h;exact⟨N,t,ps,a,b,h1,h⟩
 ·cases h
def A0O:∀(ps:List Tmp)(t:Tm)(b:Is)(K:Tm->Af),A3g t ps b K=some r->ps.length=b.length/\K (yL t ps b)=some r:=by
 intro ps
 induction ps with
 |nil=>
  intro t b K h;cases b with
  |nil=>exact⟨rfl,h⟩
  |cons a b=>cases h
 |cons p ps ih=>
  intro t b K h;cases b with
  |nil=>cases h
  |cons a b=>
   obtain⟨h1,h2⟩:=ih ((p,a)::t) b K h;exact⟨by simpa using h1,h2⟩
def A7o{ps:List Tmp}(h:zA N ps=true):∀p∈ps,p<N:=by
 induction ps with
 |nil=>intro p a;simp at a
 |cons q ps ih=>
  have e:zA N (q::ps)=@Bool.rec (λ_=>Bool) false (zA N ps) (Nat.blt q N):=rfl;rw[e]at h;cases hq:Nat.blt q N
  ·rw[hq]at h;cases h
  ·rw[hq]at h;intro p a;rcases Xd.1 a with rfl|a
   ·rwa[Xe]at hq
   ·exact ih h p a
def VS(m:RSound D E P R){o:Oper}{j:Operand}{K:KV}(B:o.op=.call c)(a:c.callee=.value j)(y:JP E.G t j=.yl s)(h:NV R s (c.args.toList.map (JP E.G t)) H K=some r):TR P E.G ro N o t H (λv p=>K v p=some r):=by
 unfold NV at h;obtain⟨x,A,h2⟩:=I4 rfl h;obtain⟨L,O,ps,u,w,n,rfl,k⟩:=eI h2;clear h h2;have h:=k;clear k;split at h
 ·obtain⟨h1,h⟩:=B4 h;obtain⟨h2,h⟩:=A0O _ _ _ _ h;refine A4Q B a y rfl A (by simpa using h2) (A7o h1) λb=>?_;refine QA.mono (m.run (some b) _ u _ H _ r (Ar H) (λ_=>rfl) (λh=>by cases h) h) λe Q F hq=>?_;cases e with
  |normal=>
   obtain⟨q,C,i,d,f,g,hq⟩:=NZ hq;refine⟨q,C,i,d,f,g,QA.mono (m.run (some b) _ w _ _ _ r (Ar H) (λ_=>rfl) (λh=>by cases h) hq) λe V J hq=>?_⟩;cases e with
   |normal=>exact NZ hq
   |ret=>exact NZ hq
   |exit id=>exact NZ hq
   |goto l=>exact NZ hq
   |panic M=>cases hq
   |outgrown=>cases hq
  |_=>cases hq
 ·cases h
def wr(b:XE.Ok D E P){o:Oper}{v:AV}{H':Hp}{K:KV}(e:∀c,o.op≠.defer c)(f:B2Y (E.env P) o.op t H (Ar H) (λg a=>g=v/\a=H'))(d:K v H'=some r):TR P E.G ro N o t H (λv H'=>K v H'=some r):=
 TR.mono (UQ e (A2W (E:=E.env P) b.env f)) (by rintro _ _ ⟨rfl,rfl⟩;exact d)
def B2q{o:Oper}{K:AV->Hp->Prop}{d:Hp}(b:∀{G:Gl}{w0:Base}{C:Ctx}{w:World},Rel G w0 C H w->Rel G w0 C d w)(h:TR P E.G ro N o t d K):TR P E.G ro N o t H K:=
 λw0 e C a w Q s=>h w0 e C a w Q ⟨b s.rel,s.size,s.tmps,s.defers,s.le⟩
def Ra{o:Oper}{K:KV}(g:∀c,o.op≠.defer c)(h:∀(w0:Base)(s0:Nat)(C:Ctx)(N:Nat)(a:Act)(w:World),St E.G w0 s0 C N t H a w->∃v b y e d,K v b=some r/\((execOp a.eval o).run P w=.ok (.value y) d\/((execOp a.eval o).run P w=.ok .skip d/\y=undef))/\KJ E.G w0 C w v b y e d):TR P E.G ro N o t H (λv b=>K v b=some r):=
 UQ g λw0 s0 C N a w s=>let⟨v,b,y,e,d,h1,h2,f⟩:=h w0 s0 C N a w s;⟨v,b,y,e,d,h1,h2,f.1,f.2.1,f.2.2⟩
def Me(j:XE.Ok D E P)(hR:RSound D E P R){o:Oper}(O:o.op=.call c){K:KV}(h:Yb E R t H c K=some r):TR P E.G ro N o t H (λv y=>K v y=some r):=by
 have nd:∀c,o.op≠.defer c:=λc hc=>by rw[O]at hc;cases hc
 unfold Yb at h;split at h
 ·rename_i fv b;have h:=RN j _ _ (Bg j h);unfold A8A at h;split at h
  ·rename_i g first cap hf;obtain⟨_,h⟩:=B4 h;rw[MZ,MZ,<-eK]at h;obtain⟨⟨fn,h1,h2,F⟩,hc⟩:=hR.call _ _ _ _ _ h;exact To O b hf h1 h2 F hc
  ·rename_i s hf;exact VS hR O b hf h
  ·cases h
 ·rename_i b;split at h
  ·rename_i s x t1 t2 M f;obtain⟨i1,aa,h⟩:=Bh (Bg j (Bg j h));obtain⟨i2,ab,h⟩:=Bh h;obtain⟨e,A,J,h⟩:=RE h;obtain⟨X,B,h⟩:=Bh h;have main:Dy e A X i2 (JP E.G t s) (JP E.G t x) H K=some r->TR P E.G ro N o t H (λv y=>K v y=some r):=λh=>by
    unfold Dy at h;obtain⟨H1,h,ai,L⟩:=sS h;obtain⟨v,y,hK,V⟩:=B_ (T:=E.T) aa ab J B h;refine B2q L ?_;exact wr j nd (by rw[O];simp only[B2Y,b,M,f];exact V) hK
   change @Bool.rec (λ_=>Af) (Dy e A X i2 (JP E.G t s) (JP E.G t x) H K) (B? e A X i2 (JP E.G t s) (JP E.G t x) H K) (E.ov e)=some r at h;cases ac:E.ov e
   ·rw[ac]at h;exact main h
   rw[ac]at h;change B? e A X i2 (JP E.G t s) (JP E.G t x) H K=some r at h;unfold B? at h;split at h
   rotate_left
   ·exact main h
   rename_i sz r1 o1 n1 aj;obtain⟨m,ys,q,ad,h⟩:=Z9 h;obtain⟨H1,h,ai,L⟩:=sS h;obtain⟨v,y,hK,V⟩:=B_ (T:=E.T) aa ab J B h;refine Ra nd λw0 s0 C N a w st=>?_;have ae:=Bb st x;rw[aj]at ae;obtain⟨v,y,u,C',Q,⟨h1,h2⟩,F,Y⟩:=Yc (P:=P) (ty:=o.type) (ts:=c.argTypes) (T:=E.T) j.ty (t1:=t1) (t2:=t2) (by rw[<-l27,f];rfl) (by rw[<-l27,f];rfl) (L st.rel) (Bb st s) (z:=a.eval x) (λam m' ao q' ha ah _=>by
    injection ha with ha
    injection ha with e1 e2
    injection e2 with e2 e3
    subst e1 e2 e3;exact Xy st.rel ae (q:=q) ad ah (λs hs=>by cases hs)) V
   subst h1 h2;refine⟨v,y,u,C',Q,hK,.inl ?_,Y⟩;have d:c.args.map a.eval= #[a.eval s,a.eval x]:=by apply qK;simp[M]
   rw[IF O _ b,d];show(do pure (Next.value (<-Builtin.append_ c.argTypes o.type #[a.eval s,a.eval x]))).run P w=_;rw[Dn,F];rfl
  ·cases h
 ·rename_i b;split at h
  ·rename_i s x ty ak M f;obtain⟨i,hi,h⟩:=Bh (Bg j (Bg j h));obtain⟨e,A,J,h⟩:=RE h;refine Ra nd λw0 s0 C N a w st=>?_;obtain⟨v,y,u,Q,h1,h2,F⟩:=A4v (P:=P) (T:=E.T) (ty:=o.type) (ts:=c.argTypes) j.ty (by rw[<-l27,f];rfl) hi J (j.pos ty i e A hi (.inl J)) st.rel (Bb st s) (Bb st x) h;refine⟨v,y,u,C,Q,h1,.inl ?_,F⟩;have d:c.args.map a.eval= #[a.eval s,a.eval x]:=by apply qK;simp[M]
   rw[IF O _ b,d];show(do pure (Next.value (<-Builtin.copy_ c.argTypes o.type #[a.eval s,a.eval x]))).run P w=_;rw[Dn,h2];rfl
  ·cases h
 ·rename_i b;split at h
  ·rename_i s ty M f;obtain⟨i,hi,h⟩:=Bh (Bg j h);obtain⟨e,A,J,h⟩:=RE h;obtain⟨X,B,h⟩:=Bh h;refine Ra nd λw0 s0 C N a w st=>?_;obtain⟨y,Q,h1,h2,F,Y⟩:=A4x (P:=P) (T:=E.T) (ty:=o.type) (ts:=c.argTypes) j.ty (by rw[<-l27,f];rfl) hi J B st.rel (Bb st s) h;refine⟨_,y,.tuple #[],C,Q,h1,.inl ?_,DJ.2 ⟨[],rfl,.nil⟩,F,Y⟩;have d:c.args.map a.eval= #[a.eval s]:=by apply qK;simp[M]
   rw[IF O _ b,d];show(do pure (Next.value (<-Builtin.clear_ c.argTypes o.type #[a.eval s]))).run P w=_;rw[Dn,h2];rfl
  ·cases h
 ·rename_i b;split at h
  ·rename_i m k ty ak M f;obtain⟨i,hi,h⟩:=Bh (Bg j (Bg j h));obtain⟨kt,et,J,h⟩:=PU h;obtain⟨kv,hk,h,ag⟩:=Vx j h;refine Ra nd λw0 s0 C N a w st=>?_;obtain⟨y,Q,h1,h2,F,Y⟩:=A26 (P:=P) (ty:=o.type) (ts:=c.argTypes) (by rw[<-l27,f];rfl) (PT j hi J) hk st.rel (Bb st m) h;refine⟨_,y,.tuple #[],C,Q,h1,.inl ?_,DJ.2 ⟨[],rfl,.nil⟩,F,Y⟩;have d:c.args.map a.eval= #[a.eval m,kv]:=by apply qK;simp[M,ag (Bb st k)]
   rw[IF O _ b,d];show(do pure (Next.value (<-Builtin.delete_ c.argTypes o.type #[a.eval m,kv]))).run P w=_;rw[Dn,h2];rfl
  ·cases h
 ·rename_i b;split at h
  ·rename_i p n pt it M f;obtain⟨i,hi,h⟩:=Bh (Bg j (Bg j h));unfold C2y at h;split at h
   ·rename_i e J;obtain⟨X,B,h⟩:=Bh h;obtain⟨af,h⟩:=LZ h;refine Ra nd λw0 s0 C N a w st=>?_;obtain⟨v,y,u,Q,h1,h2,F⟩:=A4f (P:=P) (T:=E.T) (it:=it) (ty:=o.type) j.ty hi J B (Zy af) st.rel (Bb st p) (Bb st n) h;refine⟨v,y,u,C,Q,h1,.inl ?_,F⟩;have d:c.args.map a.eval= #[a.eval p,a.eval n]:=by apply qK;simp[M]
    have Z:c.argTypes= #[pt,it]:=by apply qK;simp[f]
    rw[IF O _ b,d,Z];show(do pure (Next.value (<-Builtin.unsafeString_ #[pt,it] o.type #[a.eval p,a.eval n]))).run P w=_;rw[Dn,h2];rfl
   ·cases h
  ·cases h
 ·cases h
def Il(d:XE.Ok D E P)(hR:RSound D E P R){o:Oper}{K:KV}(h:fO E R t H o.op K=some r):TR P E.G ro N o t H (λv f=>K v f=some r):=by
 unfold fO at h;split at h
 all_goals try (cases h;done)
 case h_1 ty x y b=>
  obtain⟨i,hi,h⟩:=Bh (Bg d (Bg d h));obtain⟨f,B,F⟩:=B1x (T:=E.T) (ty:=ty) hi h;refine TR.mono (UQ (λc hc=>by rw[b]at hc;cases hc) (yF (E:=E.env P) (K:=λv Z=>v=.v undef/\Z=f) d.env (by rw[b];simpa [rZ,XE.env] using F))) ?_;rintro _ _ ⟨rfl,rfl⟩;exact B
 case h_2 ty b=>
  obtain⟨i,hi,h⟩:=Bh h;obtain⟨v,f,B,F⟩:=A2c (T:=E.T) hi h;exact wr d (λc hc=>by rw[b]at hc;cases hc) (by rw[b];exact F) B
 case h_3 ty x b=>
  obtain⟨v,f,B,F⟩:=A7U (ty:=ty) (Bg d h);exact wr d (λc hc=>by rw[b]at hc;cases hc) (by rw[b];exact F) B
 case h_4 ty n parts b=>
  obtain⟨i,hi,h⟩:=Bh h;obtain⟨e,aa,q,h⟩:=RE h;obtain⟨X,u,h⟩:=Bh h;obtain⟨l,h1,h2⟩:=XZ d _ _ h;obtain⟨v,f,B,F⟩:=B1R (T:=E.T) (ps:=parts.toList.map λp=>(p.1,JP E.G t p.2)) hi q u (by rw[<-h2];simp[Rp,q]) h1;exact wr d (λc hc=>by rw[b]at hc;cases hc) (by rw[b];exact F) B
 case h_5 c b=>exact Me d hR b h
 case h_6 ty l c b=>
  obtain⟨i,hi,h⟩:=Bh (Bg d (Bg d h));obtain⟨e,aa,q,h⟩:=RE h;obtain⟨X,u,h⟩:=Bh h;refine UQ (λc hc=>by rw[b]at hc;cases hc) λw0 J C N a w s=>?_;obtain⟨v,f,y,L,g,B,V,hv,hr,F⟩:=A7O (P:=P) (T:=E.T) d.ty hi q u (Bb s l) (Bb s c) s.rel h;refine⟨v,f,y,L,g,B,.inl ?_,hv,hr,F⟩;simp only[execOp,b];rw[Dn,V];rfl
 case h_7 ty b=>
  obtain⟨i,hi,h⟩:=Bh h;obtain⟨Y,M,q,h⟩:=PU h;obtain⟨X,u,h⟩:=Bh h;refine Ra (λc hc=>by rw[b]at hc;cases hc) λw0 J C N a w st=>?_;obtain⟨v,f,y,L,g,h1,h2,j⟩:=A21 (P:=P) (ty:=ty) st.rel h;refine⟨v,f,y,L,g,h1,.inl ?_,j⟩;simp only[execOp,b];have:(Instr.makeMap ty (Option.map a.eval none)).run P w=.ok y g:=h2;rw[Dn,this];rfl
 case h_8 ty m k v b=>
  obtain⟨i,hi,h⟩:=Bh (Bg d (Bg d (Bg d h)));obtain⟨Y,M,q,h⟩:=PU h;obtain⟨kv,Q,h,A⟩:=Vx d h;refine Ra (λc hc=>by rw[b]at hc;cases hc) λw0 J C N a w st=>?_;obtain⟨f,g,h1,h2,j,O⟩:=vG (P:=P) (PT d hi q) Q st.rel (Bb st m) (Bb st v) h;refine⟨_,f,undef,C,g,h1,.inr ⟨?_,rfl⟩,.v _,j,O⟩;simp only[execOp,b];rw[Dn,A (Bb st k),h2];rfl
 case h_9 ty m k v b=>
  obtain⟨i,hi,h⟩:=Bh (Bg d (Bg d (Bg d h)));obtain⟨Y,M,q,h⟩:=PU h;obtain⟨kv,Q,h,A⟩:=Vx d h;refine Ra (λc hc=>by rw[b]at hc;cases hc) λw0 J C N a w st=>?_;obtain⟨f,g,h1,h2,j,O⟩:=vG (P:=P) (PT d hi q) Q st.rel (Bb st m) (Bb st v) h;refine⟨_,f,undef,C,g,h1,.inr ⟨?_,rfl⟩,.v _,j,O⟩;simp only[execOp,b];rw[Dn,A (Bb st k),h2];rfl
 case h_10 ty m k b=>
  obtain⟨i,hi,h⟩:=Bh (Bg d (Bg d h));obtain⟨Y,M,q,h⟩:=PU h;obtain⟨kv,Q,h,A⟩:=Vx d h;obtain⟨X,u,h⟩:=Bh h;refine Ra (λc hc=>by rw[b]at hc;cases hc) λw0 J C N a w st=>?_;obtain⟨v,f,y,g,h1,h2,j⟩:=A25 (P:=P) (PT d hi q) (d.ty M X u) Q st.rel (Bb st m) h;refine⟨v,f,y,C,g,h1,.inl ?_,j⟩;simp only[execOp,b];rw[Dn,A (Bb st k),h2];rfl
 case h_11 ty m s v b=>
  have h:=Bg d (Bg d (Bg d h));refine Ra (λc hc=>by rw[b]at hc;cases hc) λw0 J C N a w st=>?_;obtain⟨f,g,h1,h2,j,O⟩:=A20 (P:=P) (mt:=ty) st.rel (Bb st m) (Bb st s) (Bb st v) h;refine⟨_,f,undef,C,g,h1,.inr ⟨?_,rfl⟩,.v _,j,O⟩;simp only[execOp,b];rw[Dn,h2];rfl
 case h_12 ty x b=>
  obtain⟨i,hi,h⟩:=Bh (Bg d h);obtain⟨Y,M,q,h⟩:=PU h;refine Ra (λc hc=>by rw[b]at hc;cases hc) λw0 J C N a w st=>?_;obtain⟨v,f,y,L,g,h1,h2,j⟩:=A4m (P:=P) (PT d hi q) st.rel (Bb st x) h;refine⟨v,f,y,L,g,h1,.inl ?_,j⟩;simp only[execOp,b];rw[Dn,h2];rfl
 case h_13 it b=>
  have h:=Bg d h;refine Ra (λc hc=>by rw[b]at hc;cases hc) λw0 J C N a w st=>?_;obtain⟨v,f,y,g,h1,h2,j⟩:=A4o (P:=P) (ty:=o.type) st.rel (Bb st it) h;refine⟨v,f,y,C,g,h1,.inl ?_,j⟩;simp only[execOp,b];rw[Dn,h2];rfl
end
end
section
variable{K:KV}{d:Option Tmp}
def A1R(b:Bool)(all:Is)(H:Hp)(K:KV)(x:Af):Af:=
 (λ(_:Unit)=>match b with
  |true=>(match all with|[v]=>K v H|_=>none)
  |false=>x) Ic
def Cw(E:XE)(R:Rt)(f:AV)(b:Is)(H:Hp)(K:KV):Af:=
 match f with
 |.fn (.func g) first cap=>Ta b cap λa=>Ta first a λall=>A1R (E.ne g) all H K (@Bool.rec (λ_=>Af) (zpm E g R all H λv=>K v H) (R.call g all H K) (E.imp g))
 |.yl r=>NV R r b H K
 |_=>none
def E_(E:XE)(R:Rt)(f:AV)(b:Is)(H:Hp)(K:KV):Af:=
 match f with
 |.fn (.func g) first cap=>Ta b cap λa=>Ta first a λall=>A1R (E.ne g) all H K (@Bool.rec (λ_=>Af) (zpm E g R all H λv=>K v H) (@Bool.rec (λ_=>Af) (R.call g all H K) (Aq R g all H λv=>K v H) (E.lm g)) (E.imp g))
 |.yl r=>NV R r b H K
 |_=>none
def A2S(E:XE)(R:Rt)(fz:Bool)(t:Tm)(H:Hp)(c:Call)(K:KV):Af:=
 match c.callee with
 |.value b=>Ku E t b λf=>rV E t c.args.toList λa=>@Bool.rec (λ_=>Af) (Cw E R f a H K) (E_ E R f a H K) fz
 |.builtin .append=>Yb E R t H c K
 |.builtin .copy=>Yb E R t H c K
 |.builtin .clear=>Yb E R t H c K
 |.builtin .delete=>Yb E R t H c K
 |.builtin .unsafeString=>Yb E R t H c K
 |.builtin _=>F? E R t H c λv=>K v H
 |_=>none
def B6u:TD->Bool
 |.string=>true
 |_=>false
def zcv(E:XE)(R:Rt)(t:Tm)(H:Hp)(s d:TypeId)(x:Operand)(K:KV):Af:=
 E.ty.getK s λi=>E.ty.getK d λj=>(λ(_:Unit)=>match j.d with
  |.slice e _=>ckS (B6u i.d) (E.ty.getK e λb=>ckS (A43 b.d) (Ku E t x λa=>A1Y e a H K))
  |_=>RL E R t H (.convert s d x) λv=>K v H) Ic
def zop(E:XE)(R:Rt)(fz:Bool)(t:Tm)(H:Hp)(o:Op)(K:KV):Af:=
 match o with
 |.call c=>A2S E R fz t H c K
 |.store a b c=>fO E R t H (.store a b c) K
 |.alloc a=>fO E R t H (.alloc a) K
 |.box a b=>fO E R t H (.box a b) K
 |.makeSlice a b c=>fO E R t H (.makeSlice a b c) K
 |.makeMap a b=>fO E R t H (.makeMap a b) K
 |.mapUpdate a b c d=>fO E R t H (.mapUpdate a b c d) K
 |.insert a b c d=>fO E R t H (.insert a b c d) K
 |.mapEntry a b c=>fO E R t H (.mapEntry a b c) K
 |.entryStore a b c d=>fO E R t H (.entryStore a b c d) K
 |.range a b=>fO E R t H (.range a b) K
 |.next a b=>fO E R t H (.next a b) K
 |.convert a b c=>zcv E R t H a b c K
 |.buildSlice a b c=>@Bool.rec (λ_=>Af) (fO E R t H (.buildSlice a b c) K) (RL E R t H (.buildSlice a b c) λv=>K v H) fz
 |o=>RL E R t H o λv=>K v H
def gdV(want:Bool)(v:AV)(K:Bool->Af):Af:=
 match v with
 |.v (.bool b)=>@Bool.rec (λ_=>Af) (@Bool.rec (λ_=>Af) (K true) (K false) b) (@Bool.rec (λ_=>Af) (K false) (K true) b) want
 |.dk=>none
 |_=>K false
def gdK(all:List Oper)(t:Tm)(g:Option (Nat×Bool))(K:Bool->Af):Af:=
 match g with
 |none=>K true
 |some (j,want)=>match all[j]? with
  |some p=>match p.dst with
   |some d=>gtm t d λv=>gdV want v K
   |none=>K false
  |none=>K false
def A2e(N:Nat)(d:Option Tmp)(K:Af):Af:=(λ(_:Unit)=>match d with|some d=>ckS (Nat.blt d N) K|none=>K) Ic
def QJ(t:Tm)(d:Option Tmp)(v:AV)(K:Tm->Af):Af:=(λ(_:Unit)=>match d with|some d=>K ((d,v)::t)|none=>K t) Ic
def A7A(g:Option (Nat×Bool))(x y:Af):Af:=(λ(_:Unit)=>match g with|none=>x|some _=>y) Ic
def D6(a:Af)(K:KV):Af:=match a with|some (v,H)=>K v H|none=>none
def A6p(E:XE)(R:Rt)(fz:Bool)(N:Nat)(all:List Oper)(l:List Oper):Tm->Hp->(Tm->Ru)->Af:=
 @List.rec Oper (λ_=>Tm->Hp->(Tm->Ru)->Af) (λt H K=>K t H)
  (λo _ ih t H K=>A2e N o.dst (A7A o.guard (zop E R fz t H o.op λv a=>QJ t o.dst v λb=>ih b a K)
   (D6 (gdK all t o.guard λg=>@Bool.rec (λ_=>Af) (some (.v undef,H)) (zop E R fz t H o.op λv a=>some (v,a)) g) λv a=>QJ t o.dst v λb=>ih b a K))) l
section
variable{D:XE->Cf->Nat->List Oper->Bool}{E:XE}{P:Program}{R:Rt}{t:Tm}{H:Hp}{r:AV×Hp}{ro:Option Nat}{N m:Nat}{fz:Bool}
def F_(k:XE.Ok D E P)(f:RSound D E P R){o:Oper}{c:Call}(e:o.op=.call c)(h:A2S E R fz t H c K=some r):TR P E.G ro N o t H (λv u=>K v u=some r):=by
 unfold A2S at h;split at h
 ·rename_i p a;have h:=RN k _ _ (Bg k h);cases fz
  ·have h:Cw E R (JP E.G t p) ([]++c.args.toList.map (JP E.G t)) H K=some r:=h;unfold Cw at h;split at h
   ·rename_i g first cap i;rw[Jx,Jx,<-eK]at h;cases b:E.ne g
    rotate_left
    ·rw[b]at h;unfold A1R at h;simp only at h;split at h
     ·rename_i v j;exact A6i (k.ne g b) e a i j h
     ·cases h
    rw[b]at h;have h:@Bool.rec (λ_=>Af) (zpm E g R (first++c.args.toList.map (JP E.G t)++cap) H λv=>K v H) (R.call g (first++c.args.toList.map (JP E.G t)++cap) H K) (E.imp g)=some r:=h;cases hi:E.imp g
    ·rw[hi]at h;obtain⟨⟨fn,h1,h2,n⟩,hc⟩:=fC f h;exact TR.mono (To e a i h1 h2 n hc) (by rintro _ _ ⟨rfl,h⟩;exact h)
    ·rw[hi]at h;obtain⟨⟨fn,h1,h2,n⟩,hc⟩:=f.call _ _ _ _ _ h;exact To e a i h1 h2 n hc
   ·rename_i s i;exact VS f e a i h
   ·cases h
  ·have h:E_ E R (JP E.G t p) ([]++c.args.toList.map (JP E.G t)) H K=some r:=h;unfold E_ at h;split at h
   ·rename_i g first cap i;rw[Jx,Jx,<-eK]at h;cases b:E.ne g
    rotate_left
    ·rw[b]at h;unfold A1R at h;simp only at h;split at h
     ·rename_i v j;exact A6i (k.ne g b) e a i j h
     ·cases h
    rw[b]at h;have h:@Bool.rec (λ_=>Af) (zpm E g R (first++c.args.toList.map (JP E.G t)++cap) H λv=>K v H) (@Bool.rec (λ_=>Af) (R.call g (first++c.args.toList.map (JP E.G t)++cap) H K) (Aq R g (first++c.args.toList.map (JP E.G t)++cap) H λv=>K v H) (E.lm g)) (E.imp g)=some r:=h;cases hi:E.imp g
    ·rw[hi]at h;obtain⟨⟨fn,h1,h2,n⟩,hc⟩:=fC f h;exact TR.mono (To e a i h1 h2 n hc) (by rintro _ _ ⟨rfl,h⟩;exact h)
    ·rw[hi]at h;have h:@Bool.rec (λ_=>Af) (R.call g (first++c.args.toList.map (JP E.G t)++cap) H K) (Aq R g (first++c.args.toList.map (JP E.G t)++cap) H λv=>K v H) (E.lm g)=some r:=h;cases q:E.lm g
     ·rw[q]at h;obtain⟨⟨fn,h1,h2,n⟩,hc⟩:=f.call _ _ _ _ _ h;exact To e a i h1 h2 n hc
     ·rw[q]at h;obtain⟨⟨fn,h1,h2,n⟩,hc⟩:=Zj f (K:=λv=>K v H) h;exact TR.mono (To e a i h1 h2 n hc) (by rintro _ _ ⟨rfl,h⟩;exact h)
   ·rename_i s i;exact VS f e a i h
   ·cases h
 ·exact Me k f e h
 ·exact Me k f e h
 ·exact Me k f e h
 ·exact Me k f e h
 ·exact Me k f e h
 ·exact TR.mono (fR k f e h) (by rintro _ _ ⟨rfl,h⟩;exact h)
 ·cases h
def A6w(f:XE.Ok D E P)(hR:RSound D E P R){o:Oper}{s d:TypeId}{x:Operand}(F:o.op=.convert s d x)(h:zcv E R t H s d x K=some r):TR P E.G ro N o t H (λv u=>K v u=some r):=by
 obtain⟨i,hi,h⟩:=Bh h;obtain⟨j,hj,h⟩:=Bh h;simp only at h;split at h
 ·rename_i e z hd;obtain⟨n,h⟩:=LZ h;obtain⟨Q,B,h⟩:=Bh h;obtain⟨b,h⟩:=LZ h;have h:=Bg f h;refine UQ (λc hc=>by rw[F]at hc;cases hc) λw0 s0 C N a w st=>?_;obtain⟨str,hy,v,u,X,Y,V,Z,g,hv,hr,hx⟩:=A4l (P:=P) st.rel (Bb st x) h;refine⟨v,u,X,Y,V,Z,.inl ?_,hv,hr,hx⟩;have A:(convert s d (a.eval x)).run P w=.ok X V:=by
   obtain⟨u1,J,O⟩:=(f.ty s i hi).under;obtain⟨L,_⟩:=(f.ty d j hj).elem_slice hd;obtain⟨u3,M,y⟩:=(f.ty e Q B).under;have q:u3=.int .u8:=by
    cases hq:Q.d with
    |int k=>
     rw[hq]at b y;cases k<;>simp[A43]at b
     cases u3<;>simp[td]at y
     rw[y]
    |_=>rw[hq]at b;simp[A43]at b
   have p:u1=.string:=by
    cases hq:i.d with
    |string=>
     rw[hq]at O;cases u1<;>simp[td]at O
     rfl
    |_=>rw[hq]at n;simp[B6u]at n
   subst q p;rw[hy];unfold convert;rw[Dn,run_underlying J w];simp only[FY];rw[Dn,run_underlying L w];simp only[FY];rw[Dn,run_underlying M w];simp only[FY];exact g
  simp only[execOp,F];rw[Dn,A];rfl
 ·exact TR.mono (T8 (K:=λv=>K v H) f hR (by rw[F];exact h)) (by rintro _ _ ⟨rfl,h⟩;exact h)
def kJ(b:XE.Ok D E P)(e:RSound D E P R){o:Oper}(h:zop E R fz t H o.op K=some r):TR P E.G ro N o t H (λv f=>K v f=some r):=by
 unfold zop at h;split at h
 ·rename_i c a;exact F_ b e a h
 ·rename_i a;exact Il b e (by rw[a];exact h)
 ·rename_i a;exact Il b e (by rw[a];exact h)
 ·rename_i a;exact Il b e (by rw[a];exact h)
 ·rename_i a;exact Il b e (by rw[a];exact h)
 ·rename_i a;exact Il b e (by rw[a];exact h)
 ·rename_i a;exact Il b e (by rw[a];exact h)
 ·rename_i a;exact Il b e (by rw[a];exact h)
 ·rename_i a;exact Il b e (by rw[a];exact h)
 ·rename_i a;exact Il b e (by rw[a];exact h)
 ·rename_i a;exact Il b e (by rw[a];exact h)
 ·rename_i a;exact Il b e (by rw[a];exact h)
 ·rename_i a;exact A6w b e a h
 ·rename_i a;cases fz
  ·exact Il b e (by rw[a];exact h)
  ·exact TR.mono (T8 (K:=λv=>K v H) b e (by rw[a];exact h)) (by rintro _ _ ⟨rfl,h⟩;exact h)
 ·exact TR.mono (T8 b e h) (by rintro _ _ ⟨rfl,h⟩;exact h)
def iT{all:List Oper}{o:Oper}{K:Bool->Af}(h:gdK all t o.guard K=some r):(K true=some r/\(Hf all t o=.run\/Hf all t o=.dep true))\/(K false=some r/\(Hf all t o=.skip\/Hf all t o=.dep false)):=by
 unfold gdK at h;unfold Hf;split at h
 ·rename_i c;rw[c];exact .inl ⟨h,.inl rfl⟩
 ·rename_i j want c;rw[c];simp only;split at h
  ·rename_i p e;rw[e];simp only;split at h
   ·rename_i d a;rw[a];rw[UE]at h;simp only;unfold gdV at h;split at h
    ·rename_i b hb;rw[hb];simp only[UP];cases want<;>cases b
     ·exact .inl ⟨h,.inr rfl⟩
     ·exact .inr ⟨h,.inr rfl⟩
     ·exact .inr ⟨h,.inr rfl⟩
     ·exact .inl ⟨h,.inr rfl⟩
    ·cases h
    ·rename_i h1 h2;refine .inr ⟨h,.inl ?_⟩;have:UP (HW t d)=.skip:=by
      unfold UP;split
      ·rename_i b hb;exact absurd hb (h1 b)
      ·rename_i hb;exact absurd hb h2
      ·rfl
     rw[this]
   ·rename_i a;rw[a];exact .inr ⟨h,.inl rfl⟩
  ·rename_i e;rw[e];exact .inr ⟨h,.inl rfl⟩
def nJ{K:Af}(h:A2e N d K=some r):dok N d/\K=some r:=by
 unfold A2e at h;split at h
 ·obtain⟨h1,h2⟩:=B4 h;rw[Xe]at h1;exact⟨h1,h2⟩
 ·exact⟨trivial,h⟩
def VI{a:Af}(h:D6 a K=some r):∃v b,a=some (v,b)/\K v b=some r:=by
 unfold D6 at h;split at h
 ·exact⟨_,_,rfl,h⟩
 ·cases h
def TC{v:AV}{K:Tm->Af}:QJ t d v K=K (RS t d v):=by cases d<;>rfl
def A2M(y:XE.Ok D E P)(A:RSound D E P R){all:List Oper}:∀(l:List Oper)(t:Tm)(H:Hp)(K:Tm->Ru),A6p E R fz N all l t H K=some r->
 A05 P E.G ro m N all.toArray l (λe f b=>e=.normal/\K f b=some r) t H:=by
 intro l
 induction l with
 |nil=>intro t H K h;exact B2p ⟨rfl,h⟩
 |cons o l ih=>
  intro t H K h;have h:A2e N o.dst (A7A o.guard (zop E R fz t H o.op λv b=>QJ t o.dst v λf=>A6p E R fz N all l f b K)
   (D6 (gdK all t o.guard λg=>@Bool.rec (λ_=>Af) (some (.v undef,H)) (zop E R fz t H o.op λv b=>some (v,b)) g) λv b=>QJ t o.dst v λf=>A6p E R fz N all l f b K))=some r:=h
  obtain⟨p,h⟩:=nJ h;intro w0 O C a w s;have j:=vV s.tmps all o;cases c:o.guard with
  |none=>
   have k:Hf all t o=.run:=by unfold Hf;rw[c]
   rw[c]at h;have h:(zop E R fz t H o.op λv b=>QJ t o.dst v λf=>A6p E R fz N all l f b K)=some r:=h;refine A2s p s (j.1 k) (TR.mono (kJ y A h) λv b i=>?_);rw[TC]at i;exact ih _ _ _ i
  |some F=>
   rw[c]at h;have h:(D6 (gdK all t (some F) λg=>@Bool.rec (λ_=>Af) (some (.v undef,H)) (zop E R fz t H o.op λv b=>some (v,b)) g) λv b=>QJ t o.dst v λf=>A6p E R fz N all l f b K)=some r:=h;rw[<-c]at h;obtain⟨v,B,J,n⟩:=VI h;rw[TC]at n;rcases iT J with⟨h1,h2⟩|⟨h1,h2⟩
   ·have x:Region.wanted o (yielded all.toArray a.tmps)=true:=by
     rcases h2 with h2|h2
     ·exact j.1 h2
     ·exact j.2.2 _ h2
    refine A2s p s x (TR.mono (kJ y A h1) λQ b i=>?_);injection i with i;injection i with q u
    subst q u;exact ih _ _ _ n
   ·have x:Region.wanted o (yielded all.toArray a.tmps)=false:=by
     rcases h2 with h2|h2
     ·exact j.2.1 h2
     ·exact j.2.2 _ h2
    have h1:some (AV.v undef,H)=some (v,B):=h1;injection h1 with h1;injection h1 with L M
    subst L M;exact A86 p s x (ih _ _ _ n)
end
end
section
variable{c:Code}{Q:Exit->Tm->Hp->Prop}{F:Tm->Ru}
def B5C(a:AV)(H:Hp)(K:KV):Af:=match a with
 |.sl sz r o n=>IQ H r λx=>Kq x λ_ cs=>EL (Nat.mul n sz) (Do o cs) λc=>ck (c.all (eW 3)) (LJ H r .gone λb=>K (.list n c) b)
 |a=>K a H
def B5g(F:Tm->Ru)(us:List (Nat×Nat)):Tm->Ru:=
 @List.rec (Nat×Nat) (λ_=>Tm->Ru) F (λu _ ih t H=>gtm t u.1 λa=>B5C a H λd b=>ih ((u.1,d)::t) b) us
def C0k(rc:List (Nat×List (Nat×Nat)))(id:Nat)(F:Tm->Ru)(t:Tm)(H:Hp):Af:=(λ(_:Unit)=>@List.rec (Nat×List (Nat×Nat)) (λ_=>Tm->Ru) F (λp _ ih=>@Bool.rec (λ_=>Tm->Ru) ih (B5g F p.2) (Nat.beq p.1 (Nat.add id 1000000))) rc t H) Ic
section
variable{P:Program}{G:Gl}{w0:Base}{C:Ctx}{H:Hp}{w:World}{r:AV×Hp}{ro:Option Nat}{m N:Nat}
def A4r(hr:Rel G w0 C H w){a:AV}{y:Value}(M:VRel C w a y){K:KV}(h:B5C a H K=some r):∃v J C',K v J=some r/\VRel C' w v y/\Rel G w0 C' J w/\Ext w0.own C w C' w:=by
 unfold B5C at h;split at h
 ·rename_i sz s o n;obtain⟨q0,e,cs,u,h1⟩:=JU h;obtain⟨d,h2⟩:=LM _ _ _ _ h1;rw[C9]at d h2;obtain⟨hc,j⟩:=B4 h2;rw[Dg]at j;cases M with
  |slz ac=>
   have j:K (.list 0 ((cs.drop o).take (0*sz))) (cut H s)=some r:=j;rw[Nat.zero_mul,List.take_zero]at j;exact⟨_,_,C,j,.list0,hr.cut_row s,.refl _ _ _⟩
  |@sl _ _ _ _ _ _ bk L cap arr T fz B p aa O=>
   rcases hr.rows s _ u with⟨_,h6⟩|⟨R,b,g,Y,q⟩
   ·rw[h6]at B;cases B
   ·have k:=q.at_.symm.trans B;injection k with k;injection k with k;injection k with V X;subst V X
    obtain⟨D,t⟩:=hr.freeze u q;have f:CF C w ((cs.drop o).take (n*sz)) ((((g.toList.drop b).take cs.length).drop o).take (n*sz)):=(q.vals.unsel.drop o).take _;have ab:((cs.drop o).take (n*sz)).length=n*sz:=by
     have:n*sz<=(cs.drop o).length:=d;rw[zF];omega
    refine⟨_,_,C.fix R,j,.list p (λi=>((((g.toList.drop b).take cs.length).drop o).take (n*sz)).getD i undef) (λi hi=>.inr rfl) (λi hi=>?_) (λi hi=>?_),D,t⟩
    ·have hi:i<((cs.drop o).take (n*sz)).length:=hi;have x:i<n*sz:=by omega
     have A:o+i<cs.length:=by have:n*sz<=(cs.drop o).length:=d;simp at this;omega
     rw[kE,q.cell];rw[UT,zD,Dr x,qJ,zD,Dr A,qJ,l27];have hf:=q.fits;rw[l1p (by omega)];rfl
    ·have Z:=f.get i hi;have h5:eW 3 (((cs.drop o).take (n*sz))[i])=true:=G9.1 hc _ (NT hi);rw[UT,KL (by rw[f.1];exact hi)];exact(VRel.down (C:=C) (C':=C.bare) rfl rfl 3 _ _ h5 Z).mono t.bare
 ·exact⟨_,_,C,h,M,hr,.refl _ _ _⟩
def QA.ghost{t:Tm}(h:∀w0 b C a w,St G w0 b C N t H a w->∃d g f,St G w0 b d N g f a w/\Ext w0.own C w d w/\QA P G ro m N c Q g f):QA P G ro m N c Q t H:=λw0 b C a w s=>by
 obtain⟨d,g,f,h1,h2,q⟩:=h w0 b C a w s;exact wpIn_mono (q w0 b d a w h1) λe v x ⟨i,u,j,k,n,p⟩=>⟨i,u,j,k,h2.frm.trans n,p⟩
def A48(g:∀t H,F t H=some r->QA P G ro m N c Q t H):∀(us:List (Nat×Nat))(t:Tm)(H:Hp),B5g F us t H=some r->QA P G ro m N c Q t H:=by
 intro us
 induction us with
 |nil=>intro t H h;exact g t H h
 |cons u us ih=>
  intro t H h;have h:(gtm t u.1 λa=>B5C a H λf b=>B5g F us ((u.1,f)::t) b)=some r:=h;rw[UE]at h;refine QA.ghost λw0 k C a w s=>?_;obtain⟨v,b,e,j,hv,d,he⟩:=A4r s.rel (s.tmps u.1) h;refine⟨e,(u.1,v)::t,b,⟨d,s.size,λi=>?_,s.defers.mono he.B he.keepB,s.le⟩,he,ih _ _ j⟩;show VRel e w (if i=u.1 then v else HW t i) _;by_cases hi:i=u.1
  ·subst hi;rw[Dr rfl];exact hv
  ·rw[CD hi];exact(s.tmps i).mono he
def A49{id:Nat}(a:∀t H,F t H=some r->QA P G ro m N c Q t H):∀(rc:List (Nat×List (Nat×Nat)))(t:Tm)(H:Hp),C0k rc id F t H=some r->QA P G ro m N c Q t H:=by
 intro rc
 induction rc with
 |nil=>intro t H h;exact a t H h
 |cons p rc ih=>
  intro t H h;have h:@Bool.rec (λ_=>Tm->Ru) (C0k rc id F) (B5g F p.2) (Nat.beq p.1 (Nat.add id 1000000)) t H=some r:=h;cases hb:Nat.beq p.1 (Nat.add id 1000000)
  ·rw[hb]at h;exact ih t H h
  ·rw[hb]at h;exact A48 a _ t H h
end
end
end Go.Abs
end
