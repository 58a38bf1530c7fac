import Derived.Lib.UnsafeStr
import Derived.Lib.Builder
import Derived.ScopeJumps
import Derived.Test.YtojijcneheboaaaGreatDoorP02
set_option linter.all false
set_option maxHeartbeats 0
noncomputable section
namespace Go.Abs
open Go.RowKit
section
variable{dst:AV}{K:K2}{op:BinOp}{q:Bool}{esz n s:Nat}{fz:Nat×Nat}{i ie:TI}{y:Value}
section
variable{P:Program}{G:Gl}{w0:Base}{C:Ctx}{H:Hp}{w:World}{r:AV×Hp}
def Rel.set_row(h:Rel G w0 C H w){x y:Row}(m:Al H s=some x)(A:Sf C w s y):Rel G w0 C (upd H s y) w:=by
 have key:∀t z,Al (upd H s y) t=some z->(t=s/\z=y)\/(t≠s/\Al H t=some z):=λt z hz=>by
  by_cases d:t=s
  ·subst d;rw[Dk m]at hz;exact .inl ⟨rfl,(ZU hz).1.symm⟩
  ·rw[Ah d]at hz;exact .inr ⟨d,hz⟩
 have c:∀t z,Al (upd H s y) t=some z->∃e,Al H t=some e:=λt z hz=>by
  rcases key t z hz with⟨rfl,_⟩|⟨_,h⟩
  ·exact⟨x,m⟩
  ·exact⟨z,h⟩
 refine⟨h.glob,h.below,?_,?_,?_,?_,h.fin,h.finB,λk hk=>h.nx k (by rw[BV]at hk;exact hk)⟩
 ·intro t z hz;obtain⟨e,a⟩:=c t z hz;exact h.lt t e a
 ·intro t z hz;rcases key t z hz with⟨rfl,rfl⟩|⟨_,hz⟩
  ·exact A
  ·exact h.rows t z hz
 ·intro t z k j hz hk;obtain⟨e,a⟩:=c t z hz;exact h.own t e k j a hk
 ·intro t p z e k j B hz a hk f;obtain⟨u,v⟩:=c t z hz;obtain⟨D,g⟩:=c p e a;exact h.sep t p u D k j B v g hk f
theorem Laid.take{T:TypeId}{cs:Is}{b base:Nat}{arr:Array Value}(h:Laid C w s q T cs b base arr fz)(n:Nat):Laid C w s false T (cs.take n) b base arr fz:=
 ⟨h.at_,h.block,h.free,by have:=h.fits;rw[E'];omega,by
  have:=h.vals.unsel.take n;rw[List.take_take]at this;rw[E'];exact this,λh=>by cases h⟩
theorem Sf.take{T:TypeId}{cs:Is}(h:Sf C w s (.cells q T cs))(n:Nat):Sf C w s (.cells false T (cs.take n)):=by
 rcases h with⟨rfl,h⟩|⟨b,a,arr,fz,h⟩
 ·exact .inl ⟨by simp,h⟩
 ·exact .inr ⟨b,a,arr,fz,h.take n⟩
def A3n(s:AV)(H:Hp)(K:Ru):Af:=
 match s with
 |.sl sz r o n=>IN H r λx=>Ku x λE cs=>HD cs 0 λcl=>@Bool.rec (λ_=>Af) (RK (Nat.add o (Nat.mul n sz)) cs λa=>JI H r (.cells false E a) K) (K H) (Nat.beq (Nat.add o (Nat.mul n sz)) cl)
 |_=>K H
def nW{s:AV}{K:Ru}(h:A3n s H K=some r):∃a,K a=some r/\Ax a=Ax H/\∀{G:Gl}{w0:Base}{C:Ctx}{w:World},Rel G w0 C H w->Rel G w0 C a w:=by
 unfold A3n at h;split at h
 ·rename_i sz r1 o n;obtain⟨q,E,cs,c,h1⟩:=Jf h;rw[Cs,Kk]at h1;cases hb:Nat.beq (Nat.add o (Nat.mul n sz)) cs.length
  ·rw[hb]at h1;simp only[NB,C5]at h1;exact⟨_,h1,BV _ _ _,λhr=>hr.set_row c ((hr.rows _ _ c).take _)⟩
  ·rw[hb]at h1;exact⟨H,h1,rfl,λhr=>hr⟩
 ·exact⟨H,h,rfl,λhr=>hr⟩
def Ed(e:TypeId)(esz:Nat)(ie i2:TI)(s x:AV)(H:Hp)(K:KV):Af:=A3n s H λa=>Um e esz ie i2 s x a K
def vW(e:TypeId)(esz:Nat)(ie i2:TI)(s x:AV)(H:Hp)(K:KV):Af:=match x with
 |.sl sz r o n=>Ui H (.sl sz r o n) λm c=>A3n s H λa=>Um e esz ie i2 s (.list m c) a K
 |x=>Ed e esz ie i2 s x H K
def A0w(esz:Nat)(dst src:AV)(H:Hp)(K:KV):Af:=
 Ui H src λm c=>HD c 0 λk=>match dst with
  |.sl sz r o n=>ck (Nat.beq k (Nat.mul m esz)&&(Nat.beq sz esz&&(Nat.blt 0 n&&(Nat.ble m n&&(PI c&&V3 esz src))))) (IN H r λx=>fJ x λq E cs=>DN o c cs λa=>JI H r (.cells q E a) λd=>K (.v (.int .i64 (.ofNat m))) d)
  |_=>none
def tT(esz:Nat)(ie:TI)(dst:AV)(H:Hp)(K:Ru):Af:=
 match dst with
 |.v (.slice none 0 0)=>K H
 |.sl _ _ _ 0=>K H
 |.sl sz r o n=>Hz ie.zero λz=>HD z 0 λk=>ck (Nat.beq k esz&&(Nat.beq sz esz&&PI z)) (WU n z λc=>IN H r λx=>fJ x λq E cs=>DN o c cs λa=>JI H r (.cells q E a) K)
 |_=>none
def tS(n esz:Nat)(x:AV)(c a:Option AV)(H:Hp)(K:K2):Af:=
 match x with
 |.ptr s p k=>IN H s λy=>Ku y λ_ cs=>HD cs 0 λcl=>ck (Nat.ble (Nat.add (Nat.add p k) (Nat.mul n esz)) cl)
  (VT c 0 λl=>VT a n λh=>ck (Nat.ble l h&&Nat.ble h n) (fN (Nat.add (Nat.add p k) (Nat.mul l esz)) λd=>fN (Nat.sub h l) λm=>K (.sl esz s d m)))
 |_=>none
def PW(ks:List LK)(op:BinOp)(a b:AV)(K:K2):Af:=
 match a,b with
 |.agg c,.agg d=>Yt c λxs=>Yt d λe=>ck (fits ks xs) (match VW xs e,op with
  |some q,.eql=>bB q K
  |some q,.neq=>bB (!q) K
  |_,_=>none)
 |_,_=>none
def dY(i ie:TI)(op:BinOp)(a b:AV)(K:K2):Af:=
 match a,b with
 |.ptr r p k,.ptr e d c=>ck (Nat.beq r e&&(Nat.beq (Nat.add p k) (Nat.add d c)&& !Nat.beq ie.size 0)) (match op with|.eql=>K (.v (.bool true))|.neq=>K (.v (.bool false))|_=>none)
 |a,b=>Ap i op a b K
def uL{s o:Nat}{E:TypeId}{cs ys:Is}{b base:Nat}{arr:Array Value}{vs:Hx}(hr:Rel G w0 C H w)(h:Al H s=some (.cells q E cs))(f:Laid C w s q E cs b base arr fz)(a:o+ys.length<=cs.length)(hv:Cn C w ys vs)(c:ys.all AV.one=true):
 ∃e,(storeCells ⟨b,base+o,none⟩ vs 0).run P w=.ok () e/\Rel G w0 C (upd H s (.cells q E (splice cs o ys))) e/\Ext w0.own C w C e:=by
 have k:=f.fits;have g:vs.length=ys.length:=hv.1;obtain⟨e,d,j⟩:=Ma (P:=P) vs w arr (base+o) 0 f.block f.free (by omega) (W_ hv c);have:=hr.store (O:=w0.own) h f a hv (by simpa using j);exact⟨e,d,this.1,this.2⟩
def xB{sz s o n:Nat}{E:TypeId}{cs:Is}(hr:Rel G w0 C H w)(B:Al H s=some (.cells q E cs))(hv:VRel C w (.sl sz s o n) y)(hn:n≠0):∃b a arr fz cap,y=.slice (some ⟨b,a+o,none⟩) n cap/\n<=cap/\Laid C w s q E cs b a arr fz/\a+o+cap*sz<=arr.size:=by
 cases hv with
 |slz=>exact absurd rfl hn
 |@sl _ _ _ _ _ _ b a cap arr T fz k f hb hsz=>
  rcases hr.rows s _ B with⟨_,A⟩|⟨m,c,d,h,j⟩
  ·rw[A]at k;cases k
  ·have e:=j.at_.symm.trans k;injection e with e;injection e with e;injection e with p t;subst p t
   have g:=j.block.symm.trans hb;injection g with g;injection g with u v x
   subst u v x;exact⟨m,c,d,h,cap,rfl,f,j,hsz⟩
def A2F{T:Ty}(Y:eO P T){B ty e:TypeId}{ts:Array TypeId}{dst src:AV}{y z:Value}{K:KV}(L:ts[0]?=some B)(hi:T B=some i)(Z:i.d=.slice e esz)(J:esz≠0)(hr:Rel G w0 C H w)(hv:VRel C w dst y)(hs:VRel C w src z)(h:A0w esz dst src H K=some r):
 ∃v N u A,K v N=some r/\(Builtin.copy_ ts ty #[y,z]).run P w=.ok u A/\JB G w0 C w v N u C A:=by
 unfold A0w at h;obtain⟨m,ys,q0,x,h1⟩:=XD h;rw[Cs,Kk]at h1;split at h1
 ·rename_i sz s o n;obtain⟨hc,h2⟩:=Br h1;simp only[J2,kY,VD,eT,Gu]at hc;obtain⟨c1,c2,c3,c4,c5,c6⟩:=hc;obtain⟨q,E,cs,V,X⟩:=TO h2;obtain⟨g,Q⟩:=Lh _ _ _ _ _ X;rw[C5]at Q;obtain⟨b,O,arr,fz,cap,rfl,R,D,hsz⟩:=xB hr V hv (by omega);obtain⟨j,vs,M,a⟩:=V1 (P:=P) (esz:=esz) hr hs x c1 (λq hq=>by subst hq;exact Xz c6);obtain⟨A,t,p,F⟩:=uL (P:=P) hr V D g M c5;obtain⟨hu,f⟩:=(Y B i hi).elem_slice Z;have c:(sizeOf e).run P w=.ok esz w:=by rw[<-f];exact BI w (by rw[f];exact J)
  refine⟨_,_,goInt m,A,Q,?_,.v _,p,F⟩;unfold Builtin.copy_;simp only[L,l10,l1w,l0q];rw[CN,run_underlying hu w];simp only[F3];rw[CN,j];simp only[F3];rw[CN,c];simp only[F3];have k:Nat.min m n=m:=l1x c4;rw[CN,k,a w (λ_ _=>rfl)];simp only[F3];rw[CN,t];rfl
 ·cases h1
def A2H{T:Ty}(R:eO P T){v ty e:TypeId}{ts:Array TypeId}{K:Ru}(p:ts[0]?=some v)(hi:T v=some i)(hd:i.d=.slice e esz)(B:T e=some ie)(hr:Rel G w0 C H w)(hv:VRel C w dst y)(h:tT esz ie dst H K=some r):
 ∃N u,K N=some r/\(Builtin.clear_ ts ty #[y]).run P w=.ok (.tuple #[]) u/\Rel G w0 C N u/\Ext w0.own C w C u:=by
 obtain⟨Y,aa⟩:=(R v i hi).elem_slice hd;have hz:∀{a:Option Addr}{c:Nat},(Builtin.clear_ ts ty #[.slice a 0 c]).run P w=.ok (.tuple #[]) w:=by
  intro a c;unfold Builtin.clear_;simp only[p,l10,l1w];rw[CN,run_underlying Y w];simp only[F3];cases a<;>rfl
 unfold tT at h;split at h
 ·obtain rfl:=AA.1 hv;exact⟨H,w,h,hz,hr,.refl _ _ _⟩
 ·cases hv with
  |slz=>exact⟨H,w,h,hz,hr,.refl _ _ _⟩
  |sl=>exact⟨H,w,h,hz,hr,.refl _ _ _⟩
 ·rename_i sz s o n D;rw[CQ,Cs,Kk]at h;obtain⟨hc,h2⟩:=Br h;simp only[J2,kY,Gu]at hc;obtain⟨c1,c2,c3⟩:=hc;rw[WT]at h2;obtain⟨q,E,cs,X,h3⟩:=TO h2;obtain⟨f,Q⟩:=Lh _ _ _ _ _ h3;rw[C5]at Q;have hn:n≠0:=λe=>D e;obtain⟨b,O,arr,fz,cap,rfl,V,x,hsz⟩:=xB hr X hv hn;obtain⟨z,L,Z⟩:=(R e ie B).run_zero w;have F:Cn C w (B2 ie.zero) z.cells.toList:=Om (t:=e) Z;have M:Cn C w (Wq n (B2 ie.zero)) ((List.range n).flatMap λ_=>z.cells.toList):=by rw[ZA];exact Xy F n
  have g:(Wq n (B2 ie.zero)).all AV.one=true:=by
   rw[ZA,List.all_flatMap];simp[c3]
  obtain⟨u,m,j,A⟩:=uL (P:=P) hr X x f M g;refine⟨_,u,Q,?_,j,A⟩;obtain⟨n,rfl⟩:∃k,n=k+1:=⟨n-1,by omega⟩
  unfold Builtin.clear_;simp only[p,l10,l1w];rw[CN,run_underlying Y w];simp only[F3];have J:(Builtin.zeroCells z.cells (n+1)).toList=(List.range (n+1)).flatMap λ_=>z.cells.toList:=congrArg Array.toList (Zm z.cells (n+1));rw[CN,L];simp only[F3,J];rw[CN,m];rfl
 ·cases h
def A2s{T:Ty}(hT:eO P T){ty e:TypeId}{x:AV}{lo hi:Option AV}{yl Y:Option Value}(R:T ty=some i)(hd:i.d=.array n e esz)(X:esz≠0)(hr:Rel G w0 C H w)(hv:VRel C w x y)(V:A_ C w lo yl)(Q:A_ C w hi Y)(h:tS n esz x lo hi H K=some r):
 ∃v u,K v=some r/\(Instr.sliceAt ty y yl Y none).run P w=.ok u w/\VRel C w v u:=by
 unfold tS at h;split at h
 ·rename_i s p k;obtain⟨q,E,cs,hl,h1⟩:=Jf h;rw[Cs,Kk]at h1;obtain⟨hc,h2⟩:=Br h1;obtain⟨l,M,h3⟩:=Iy h2;obtain⟨m,N,h4⟩:=Iy h3;obtain⟨hb,h5⟩:=Br h4;rw[D5,D5]at h5;simp only[J2,eT]at hb;rw[eT]at hc;have hc:p+k+n*esz<=cs.length:=hc;obtain⟨hu,t⟩:=(hT ty i R).elem_array hd;have f:(sizeOf e).run P w=.ok esz w:=by rw[<-t];exact BI w (by rw[t];exact X)
  have O:=Sb (P:=P) (isS:=false) V Q (mx:=none) (ym:=none) trivial (Oj n) M N (x:=n) (by simp[XM]) (by omega) (by simp);cases hv with
  |@ptr _ _ _ _ _ b Z J=>
   rcases hr.rows s _ hl with⟨_,h6⟩|⟨L,a,g,aa,c⟩
   ·have:=h6.symm.trans J;cases this
   ·have j:=c.at_.symm.trans J;injection j with j;injection j with j;injection j with e1 e2;subst e1 e2
    have hf:=c.fits;have F:(Instr.sliceAt ty (.pointer (some ⟨L,a+(p+k),none⟩)) yl Y none).run P w=.ok (.slice (some (if n=l then⟨L,a+(p+k),none⟩ else⟨L,a+(p+k)+l*esz,none⟩)) (m-l) (n-l)) w:=by
     unfold Instr.sliceAt;rw[CN,run_underlying hu w];simp only[F3,Instr.sureAddr];rw[CN,gQ];simp only[F3];rw[CN,O];simp only[F3,eS];rw[CN,f];simp only[F3,gQ,Jn]
    refine⟨_,_,h5,F,?_⟩;by_cases B:n=l
    ·have A:m-l=0:=by omega
     have D:n-l=0:=by omega
     rw[CZ B,A,D];have:Nat.sub m l=0:=A;rw[this];exact .slz (by rw[J];simp)
    ·rw[Cr B];have e4:a+(p+k)+l*esz=a+(Nat.add (Nat.add p k) (Nat.mul l esz)):=by show _=a+(p+k+l*esz);omega
     rw[e4];refine .sl J (Nat.sub_le_sub_right hb.2 l) c.block ?_;show a+(p+k+l*esz)+(n-l)*esz<=g.size;have:l*esz+(n-l)*esz=n*esz:=by rw[<-uY];congr 1;omega
     omega
 ·cases h
def A2D{t:TypeId}{ks:List LK}{a b:AV}{y z:Value}(x A:Operand)(m:EqFlat P t ks)(B:VRel C w a y)(hb:VRel C w b z)(h:PW ks op a b K=some r):
 ∃v u,K v=some r/\(do eqGuard op t x A y z;binOp op t y z).run P w=.ok u w/\VRel C w v u:=by
 unfold PW at h;split at h
 ·rename_i F J;obtain⟨xs,rfl,h1⟩:=YW _ _ h;obtain⟨d,rfl,h2⟩:=YW _ _ h1;obtain⟨e,c⟩:=Br h2;have D:=nM B;have hz:=nM hb;subst D hz;have p:=run_eqGuard_agg (P:=P) w op t x A xs.toArray d.toArray m.guard;split at c
  ·rename_i q hq;rw[MM]at c;obtain⟨f,g⟩:=Up hq;refine⟨_,.bool q,c,?_,.v _⟩;rw[CN,p];simp only[F3];rw[run_eql_struct];have:=m.equal e (g ks e) w;have j:decide (xs=d)=q:=by rw[kZ,f];simp
   rw[j]at this;have k:(Op.equalIn 10000 t (.agg xs.toArray) (.agg d.toArray)).run P w=.ok q w:=this;rw[k];rfl
  ·rename_i q hq;rw[MM]at c;obtain⟨f,g⟩:=Up hq;refine⟨_,.bool (!q),c,?_,.v _⟩;rw[CN,p];simp only[F3];rw[run_neq_struct];have:=m.equal e (g ks e) w;have j:decide (xs=d)=q:=by rw[kZ,f];simp
   rw[j]at this;have k:(Op.equalIn 10000 t (.agg xs.toArray) (.agg d.toArray)).run P w=.ok q w:=this;rw[k];rfl
  ·cases c
 ·cases h
def A2C{T:Ty}(j:eO P T){ty e:TypeId}{a b:AV}{y z:Value}(D F:Operand)(M:T ty=some i)(R:i.d=.pointer e)(m:T e=some ie)(J:VRel C w a y)(hb:VRel C w b z)(h:dY i ie op a b K=some r):
 ∃v u,K v=some r/\(do eqGuard op ty D F y z;binOp op ty y z).run P w=.ok u w/\VRel C w v u:=by
 unfold dY at h;split at h
 ·rename_i s p k s' p' Z;obtain⟨hc,h1⟩:=Br h;simp only[J2,kY,yL]at hc;obtain⟨c1,c2,c3⟩:=hc;subst c1;have c2:p+k=p'+Z:=c2;have B:y=z/\∃c,y=.pointer (some c):=by
   cases J with
   |ptr V=>
    cases hb with
    |ptr t=>
     have f:=V.symm.trans t;injection f with f;injection f with f;injection f with g N;subst g N
     exact⟨by rw[c2],_,rfl⟩
  obtain⟨rfl,c,rfl⟩:=B;obtain⟨u,X,g⟩:=(j ty i M).under;rw[R]at g;have A:u=.pointer e:=by cases u<;>simp[td]at g;rw[g]
  subst A;obtain⟨x,z0,Y,hs,_⟩:=(j e ie m).info;have heq:(Op.equal ty (.pointer (some c)) (.pointer (some c))).run P w=.ok true w:=by
   show(Op.equalIn (9999+1) ty _ _).run P w=_;unfold Op.equalIn;rw[CN,run_underlying X w];simp[sizeOf,typeInfo,Y,sameAddr]
  have L:=jK (P:=P) (op:=op) (ty:=ty) (x:=D) (y:=F) (a:=.pointer (some c)) (b:=.pointer (some c)) w ⟨by simp,by simp⟩;split at h1
  ·exact⟨_,.bool true,h1,by rw[CN,L];simp[binOp,heq],.v _⟩
  ·exact⟨_,.bool false,h1,by rw[CN,L];simp[binOp,heq],.v _⟩
  ·cases h1
 ·obtain⟨v,h1,h2⟩:=vV (T:=T) (ty:=ty) M h;obtain⟨v',u,O,Q,rfl⟩:=mY j D F J hb h2;exact⟨v',u,h1,O,Q⟩
end
end
section
variable{v:AV}{K:K2}{d e s:TypeId}{y:Value}
def B2n(l:List Lie)(e n o u:Nat):Bool:=@List.rec Lie (λ_=>Bool) false (λp _ ih=>@Bool.rec (λ_=>Bool) ih true (Nat.beq p.1 e&&(Nat.beq p.2.1 n&&(Nat.beq p.2.2.1 o&&Nat.beq p.2.2.2 u)))) l
def A0m(ie:TI)(v:AV)(H:Hp)(K:K2):Af:=
 match v with
 |.ptr s p k=>IN H s λx=>Ku x λ_ cs=>HD cs 0 λcl=>ck (Nat.blt (Nat.add p k) cl&& !Nat.beq ie.size 0) (K (.ptr s p k))
 |_=>none
def A0h(l:List Lie)(u:TypeId)(v:AV)(H:Hp)(K:K2):Af:=
 match v with
 |.ptr s p k=>IN H s λx=>fJ x λq E cs=>HD cs 0 λcl=>ck (q&&B2n l E cl (Nat.add p k) u) (K (.ptr s p k))
 |_=>none
def A5w(s:AV)(K:K2):Af:=
 match s with
 |.sl sz r o n=>ck (Nat.beq sz 1&&Nat.blt 0 n) (K (.ptr r o 0))
 |_=>none
def A2p(e:TypeId)(p n:AV)(H:Hp)(K:KV):Af:=
 match p with
 |.ptr s o k=>yN n λz=>iN z λn=>IN H s λx=>Ku x λE cs=>ck (Nat.beq E e&&(Nat.blt 0 n&&Nat.blt n 9223372036854775807)) (FI n (D0 (Nat.add o k) cs) λc=>fu8 c λl=>JI H s .gone λa=>K (.v (.string ⟨⟨l⟩⟩)) a)
 |_=>none
def A8p{l:List Lie}{e n o u:Nat}(h:B2n l e n o u=true):(e,n,o,u)∈l:=by
 induction l with
 |nil=>cases h
 |cons p l ih=>
  have h:@Bool.rec (λ_=>Bool) (B2n l e n o u) true (Nat.beq p.1 e&&(Nat.beq p.2.1 n&&(Nat.beq p.2.2.1 o&&Nat.beq p.2.2.2 u)))=true:=h;cases hq:(Nat.beq p.1 e&&(Nat.beq p.2.1 n&&(Nat.beq p.2.2.1 o&&Nat.beq p.2.2.2 u)))
  ·rw[hq]at h;exact List.mem_cons_of_mem _ (ih h)
  ·simp only[J2,kY]at hq;obtain⟨h1,h2,f,g⟩:=hq;obtain⟨a,b,c,d⟩:=p;simp only at h1 h2 f g;subst h1 h2 f g;exact List.mem_cons_self
section
variable{P:Program}{G:Gl}{w0:Base}{C:Ctx}{H:Hp}{w w':World}{r:AV×Hp}
def A2w{T:Ty}(F:eO P T){i ie:TI}(V:T s=some i)(R:i.d=.pointer e)(m:T e=some ie)(A:P.underlying d=some .unsafePointer)(hr:Rel G w0 C H w)(hv:VRel C w v y)(h:A0m ie v H K=some r):
 K v=some r/\(convert s d y).run P w=.ok y w:=by
 unfold A0m at h;split at h
 ·rename_i t p k;obtain⟨q,E,cs,X,h1⟩:=Jf h;rw[Cs,Kk]at h1;obtain⟨hc,h2⟩:=Br h1;simp only[J2,VD,yL]at hc;obtain⟨c1,c2⟩:=hc;have c1:p+k<cs.length:=c1;refine⟨h2,?_⟩;cases hv with
  |@ptr _ _ _ _ _ b B J=>
   rcases hr.rows t _ X with⟨_,Q⟩|⟨L,a,c,O,f⟩
   ·have:=Q.symm.trans J;cases this
   ·have g:=f.at_.symm.trans J;injection g with g;injection g with g;injection g with M N;subst M N
    have hf:=f.fits;obtain⟨u,Z,j⟩:=(F s i V).under;rw[R]at j;have n:u=.pointer e:=by cases u<;>simp[td]at j;rw[j]
    subst n;obtain⟨x,z0,hx,Y,_⟩:=(F e ie m).info;have hsz:x.size≠0:=λD=>by rw[Y]at D;rw[D]at c2;simp at c2
    exact Lib.run_to_unsafe w ⟨L,a+(p+k),none⟩ Z A hx hsz (e:=E) (cells:=c.size) (by simp[World.shape?,f.block]) (by show a+(p+k)<c.size;omega)
 ·cases h
def A2q{l:List Lie}(m:∀e n o u,(e,n,o,u)∈l->liesAt P P.depth e (n/P.cellsOf e) o u 1=true/\(P.info? u).isSome=true){s d u:TypeId}(A:P.underlying s=some .unsafePointer)(O:P.underlying d=some (.pointer u))(hr:Rel G w0 C H w)(hv:VRel C w v y)(h:A0h l u v H K=some r):
 K v=some r/\(convert s d y).run P w=.ok y w:=by
 unfold A0h at h;split at h
 ·rename_i t p k;obtain⟨q,E,cs,R,h1⟩:=TO h;rw[Cs,Kk]at h1;obtain⟨hc,h2⟩:=Br h1;simp only[J2]at hc;obtain⟨c1,c2⟩:=hc;obtain⟨c,f⟩:=m _ _ _ _ (A8p c2);refine⟨h2,?_⟩;cases hv with
  |@ptr _ _ _ _ _ b B D=>
   rcases hr.rows t _ R with⟨_,N⟩|⟨F,x,g,M,a⟩
   ·have:=N.symm.trans D;cases this
   ·have i:=a.at_.symm.trans D;injection i with i;injection i with i;injection i with J L;subst J L
    obtain⟨V,X⟩:=a.exact c1;subst V;obtain⟨j,Q⟩:=Option.isSome_iff_exists.1 f;refine Lib.run_from_unsafe w ⟨F,0+(p+k),none⟩ A O Q (e:=E) (cells:=g.size) (by simp[World.shape?,a.block]) ?_;rw[X,Kk];exact c
 ·cases h
def Rel.change(h:Rel G w0 C H w){s b base:Nat}{x:Row}(J:Al H s=some x)(L:C.π s=some (some (b,base)))(p:w'.os=w.os)(V:w'.tape=w.tape)(A:w'.output=w.output)(hsz:w'.heap.size=w.heap.size)(g:∀k,k≠b->w'.heap[k]?=w.heap[k]?)(hb:∀arr T fz,w.heap[b]?=some (.cells arr T fz)->∃m u,w'.heap[b]?=some (.cells m T u)/\m.size=arr.size):Rel G w0 C (cut H s) w'/\Ext w0.own C w C w':=by
 have j:=h.own s x b base J L;have e:Ext w0.own C w C w':=by
  refine⟨λ_ _=>rfl,λ_ _ h=>h,λk i h=>?_,λ_ h=>h,λk h=>g k (λe=>j.2.2 (e▸h)),λk a t f h=>?_,λ_ _ h=>.inl h,λ_ h=>.inl h,Nat.le_of_eq hsz.symm⟩
  ·exact l0s (g k (λe=>j.2.1 i (e▸h)))
  ·by_cases hk:k=b
   ·subst hk;exact hb a t f h
   ·exact⟨a,f,(g k hk).trans h,rfl⟩
 have c:∀t z,Al (cut H s) t=some z->t≠s/\Al H t=some z:=λt z hz=>by
  by_cases n:t=s
  ·subst n;rw[LI]at hz;cases hz
  ·rw[Po n]at hz;exact⟨n,hz⟩
 refine⟨⟨h.glob.mono e,⟨p.trans h.below.os,V.trans h.below.tape,A.trans h.below.output,by rw[hsz];exact h.below.size,λk hk F=>(g k (λe=>?_)).trans (h.below.block k hk F)⟩,λt z hz=>h.lt t z (c t z hz).2,λt z hz=>(h.rows t z (c t z hz).2).mono e (λk q B=>g k (λO=>?_)),
  λt z k o hz=>h.own t z k o (c t z hz).2,λt M z N k X Y hz D=>h.sep t M z N k X Y (c t z hz).2 (c M N D).2,λk i R=>hsz▸h.fin k i R,λk Q=>hsz▸h.finB k Q,λk hk=>h.nx k (by rw[cut,BV]at hk;exact hk)⟩,e⟩
 ·subst e;rcases j.1 with p|p
  ·omega
  ·exact F p
 ·subst O;exact(c t z hz).1 (h.sep t s z x _ _ _ (c t z hz).2 J B L)
def tI(hc:P.cellsOf e=1)(count off n:Nat)(hn:off+n<=count):liesAt P P.depth e count off e n=true:=by
 have a:P.depth=(2*(P.types.size+Made.depth)+1)+1:=rfl;rw[a];simp only[liesAt,l1d];left;rw[a];simp[rowAt,hc,hn,sameLayout,Nat.mod_one]
def A2o{T:Ty}(hT:eO P T){e J it ty:TypeId}{F ie:TI}{p n:AV}{y z:Value}{K:KV}(ak:T J=some F)(hd:F.d=.pointer e)(ah:T e=some ie)(ad:ie.size=1)(hr:Rel G w0 C H w)(hv:VRel C w p y)(hn:VRel C w n z)(h:A2p e p n H K=some r):
 ∃v H' u w',K v H'=some r/\(Builtin.unsafeString_ #[J,it] ty #[y,z]).run P w=.ok u w'/\JB G w0 C w v H' u C w':=by
 unfold A2p at h;split at h
 ·rename_i s o k;obtain⟨kk,zz,rfl,h1⟩:=OL h;obtain⟨m,rfl,h2⟩:=Vn h1;obtain⟨q,E,cs,hl,h3⟩:=Jf h2;obtain⟨hc,h4⟩:=Br h3;simp only[J2,kY,VD]at hc;obtain⟨c1,c2,c3⟩:=hc;subst c1;obtain⟨x,h5⟩:=KG _ _ _ _ h4;rw[C9]at x h5;obtain⟨f,Z,h6⟩:=A04 _ _ h5;rw[C5]at h6;obtain rfl:=AA.1 hn;have ay:o+k+m<=cs.length:=by
   have:m<=(cs.drop (o+k)).length:=x;simp at this;omega
  cases hv with
  |@ptr _ _ _ _ _ b aq hp=>
   rcases hr.rows s _ hl with⟨_,h7⟩|⟨g,c,t,ar,i⟩
   ·have:=h7.symm.trans hp;cases this
   ·have L:=i.at_.symm.trans hp;injection L with L;injection L with L;injection L with e1 e2;subst e1 e2
    have hf:=i.fits;have aj:f.length=m:=by
     have:=congrArg List.length Z;simp at this;have:(cs.drop (o+k)).length=cs.length-(o+k):=by simp
     simp_all
    have A:∀j(R:j<f.length),w.cell? ⟨g,c+(o+k)+j,none⟩=some (.int .u8 (f[j]:Int)):=λj R=>by
     have ag:cs[o+k+j]?=some (.v (.int .u8 (f[j]:Int))):=by
      have:=congrArg (λl=>l[j]?) Z;simp only[tM,lY,vA]at this;rw[CZ (by omega),JC R]at this;simpa using this
     obtain⟨hi,af⟩:=uZ.1 ag;obtain⟨y,hy,aa⟩:=i.get _ hi;rw[af]at aa;rw[<-AA.1 aa];rw[<-hy]
     congr 2
     omega
    obtain⟨hu,N⟩:P.underlying J=some (.pointer E)/\P.cellsOf E=1:=by
     obtain⟨u,hu,eu⟩:=(hT J F ak).under;rw[hd]at eu;have ao:u=.pointer E:=by cases u<;>simp[td]at eu;rw[eu]
     subst ao;exact⟨hu,by rw[(hT E ie ah).cellsOf,ad]⟩
    have D:∀(f:Hb)(off:Nat)(acc:ByteArray),(∀j(R:j<f.length),w.cell? ⟨g,off+j,none⟩=some (.int .u8 (f[j]:Int)))->
     (loadBytes ⟨g,off,none⟩ acc f.length).run P w=.ok ⟨acc.data++(f.map UInt8.ofNat).toArray⟩ w:=by
     intro f
     induction f with
     |nil=>intro off acc _;simp[loadBytes]
     |cons n f ih=>
      intro off acc hc;have h0:w.cell? ⟨g,off,none⟩=some (.int .u8 (n:Int)):=hc 0 (by simp);have ap:=ih (off+1) (acc.push (UInt8.ofNat n)) (λj R=>by
       have:=hc (j+1) (by simpa using R);simpa [Yq,Nat.add_comm 1 j] using this)
      have hx:((n:Int).toNat).toUInt8=UInt8.ofNat n:=by simp
      simp only[Kj,loadBytes,CN,run_load,h0,Result.andThen,hx,Jn];rw[ap]
      congr 1
      apply ByteArray.ext;simp[ByteArray.push]
    have V:=D f (c+(o+k)) .empty A;rw[aj]at V;have B:liesAt P P.depth E (t.size/P.cellsOf E) (c+(o+k)) E m=true:=tI N _ _ _ (by rw[N,Nat.div_one];omega);have O:=hr.change (w':=w.freeze ⟨g,c+(o+k),none⟩ m) hl hp (by unfold World.freeze;split<;>rfl) (by unfold World.freeze;split<;>rfl) (by unfold World.freeze;split<;>rfl) (by unfold World.freeze;split<;>simp) (λk' ai=>by
     unfold World.freeze;split
     ·rfl
     ·simp only[l0r];rw[Cr (λe=>ai e.symm)]) (λarr T0 ax ae=>by
     unfold World.freeze;rw[Cr (by omega)];simp only[l0r,if_true,ae,rT];exact⟨arr,_,rfl,rfl⟩)
    refine⟨_,_,.string ⟨⟨f.map UInt8.ofNat⟩⟩,_,h6,?_,.v _,O.1,O.2⟩;have X:IntKind.i64.max=9223372036854775807:=rfl;have Q:Builtin.unsafeString_ #[J,it] ty #[.pointer (some ⟨g,c+(o+k),none⟩),.int kk m]=
     (do
      let n<-asInt (.int kk m)
      if n<0 then runtimePanic (.error "unsafe.String: len out of range")
      if n>IntKind.i64.max then unsupported (.unsafePointer "String: a length above the largest int")
      if n=0 then pure (.string .empty)
      else if<-variablesAt ⟨g,c+(o+k),none⟩ (<-elemOf J) n.toNat then do
       let s<-loadBytes ⟨g,c+(o+k),none⟩ .empty n.toNat
       freeze ⟨g,c+(o+k),none⟩ n.toNat
       pure (.string s)
      else unsupported (.unsafePointer "String: not so many bytes at ptr")):=rfl
    rw[Q];have Y:¬(m:Int)<0:=by omega
    have M:¬(9223372036854775807:Int)<(m:Int):=by omega
    have hz:¬m=0:=by omega
    have am:w.shape? g=some (E,t.size):=by simp[World.shape?,i.block]
    simp[asInt,asIntOf,X,Y,M,hz,variablesAt,am,elemOf,run_underlying hu,B,V]
 ·cases h
def A4h{t:Tm}{N:Nat}{ro:Option Nat}{o:Oper}{c:Call}{f:FuncId}{i:Operand}{first cap:Is}{K:AV->Hp->Prop}(D:eQ P f)(q:o.op=.call c)(h:c.callee=.value i)(j:Jb G t i=.fn (.func f) first cap)(B:first++c.args.toList.map (Jb G t)++cap=[v])(A:K v H):SH P G ro N o t H K:=by
 refine T6 (λc hc=>by rw[q]at hc;cases hc) λw0 M C N a w s=>?_;have hv:=AR s i;rw[j]at hv;obtain⟨F,L,he,n,p⟩:=Iz.1 hv;have g:=(n.append (rI s c.args.toList)).append p;rw[B]at g;obtain⟨y,J,u,m,k⟩:=g.cons_inv;have x:=k.nil_inv;subst x;refine⟨v,H,y,C,w,A,.inl ?_,m,s.rel,.refl _ _ _⟩;have:(F++c.args.toList.map a.eval++L).toArray= #[y]:=by rw[u]
 have hr:=D y w;simp only[execOp,q,resolve,h,he,Deferred.ofValue,CN,gQ,F3,invoke];rw[<-hr]
 congr 2
 rw[<-this];apply lG;simp
end
end
section
variable{a:Act}{c rest:Code}{w:World}
def mL(P:Program)(c rest:Code)(Q:Exit->Act->World->Prop)(a:Act)(w:World):Prop:=
 ∀(b:Frame)(k:List Item)(cs:List Frame),∃e d f,Q e d f/\Arrives P (lone (b.at a (.code rest:: .inScope c::k)) cs w) b k cs e d f
def A2e{P:Program}{Q s:Exit->Act->World->Prop}(x:∀l a w,s (.goto l) a w->∃i,findLabel c l=some i/\mL P c i Q a w)(hq:∀e a w,(∀l,e≠.goto l)->s e a w->Q e a w)(h:rest.wp P s a w):mL P c rest Q a w:=by
 intro b k cs;obtain⟨e,d,g,h1,f⟩:=h b (.inScope c::k) cs;cases e with
 |normal=>exact⟨.normal,d,g,hq _ _ _ (by simp) h1,Steps.trans f (.one step_inScope)⟩
 |exit id=>exact⟨.exit id,d,g,hq _ _ _ (by simp) h1,λA hk=>f A (by simp[exitTo,hk])⟩
 |goto l=>
  obtain⟨i,v,y⟩:=x l d g h1;have u:gotoIn l (.inScope c::k)=some (.code i:: .inScope c::k):=by simp[gotoIn,v]
  obtain⟨q,p,r,n,j⟩:=y b k cs;exact⟨q,p,r,n,.of_steps (f _ u) j⟩
 |ret=>exact⟨_,d,g,hq _ _ _ (by simp) h1,f⟩
 |panic B=>exact⟨_,d,g,hq _ _ _ (by simp) h1,f⟩
 |outgrown=>exact⟨_,d,g,hq _ _ _ (by simp) h1,f⟩
def I!{P:Program}{Q:Exit->Act->World->Prop}(h:mL P c c Q a w):(Code.scope c).wp P Q a w:=by
 intro b k cs;obtain⟨e,d,g,hq,f⟩:=h b k cs;exact⟨e,d,g,hq,.of_steps (.one step_scope) f⟩
section
variable{P:Program}{G:Gl}{m N:Nat}{t:Tm}{H:Hp}{Q:Exit->Tm->Hp->Prop}
def B!(P:Program)(G:Gl)(m N:Nat)(c rest:Code)(Q:Exit->Tm->Hp->Prop)(t:Tm)(H:Hp):Prop:=
 ∀w0 d C a w,St G w0 d C N t H a w->mL P c rest (LM G w0 d m C N w Q) a w
def A5S(h:B! P G m N c c Q t H):Pz P G none m N (.scope c) Q t H:=λw0 d C a w s=>wpIn_wide.2 (I! (h w0 d C a w s))
def wD{n:Exit->Tm->Hp->Prop}(D:∀l t H,n (.goto l) t H->∃d,findLabel c l=some d/\B! P G m N c d Q t H)(hq:∀e t H,(∀l,e≠.goto l)->n e t H->Q e t H)(h:Pz P G none m N rest n t H):B! P G m N c rest Q t H:=by
 intro w0 x C a w s;refine A2e ?_ ?_ (wpIn_wide.1 (h w0 x C a w s))
 ·rintro l v y ⟨j,i,g,u,r,hk⟩;obtain⟨d,B,F⟩:=D l i g hk;refine⟨d,B,?_⟩;intro b k cs;obtain⟨A,a2,J,q,f⟩:=F w0 x j v y u b k cs;exact⟨A,a2,J,q.later r,f⟩
 ·rintro e v y p ⟨j,i,g,u,r,hk⟩;exact⟨j,i,g,u,r,hq e i g p hk⟩
end
end
section
variable{K:K2}
def Yu(a:AV):Bool:=match a with
 |.v (.map _)=>false
 |.v _=>true
 |_=>false
def gO(f:AV->K2->Af)(l:Is):(Is->Af)->Af:=
 @List.rec AV (λ_=>(Is->Af)->Af) (λK=>K []) (λa _ ih K=>f a λc=>ih λd=>K (c::d)) l
def A26(a:AV)(K:K2):Af:=
 match a with
 |.v x=>K (.v x)
 |.list n cs=>ck (cs.all Yu) (K (.list n cs))
 |_=>none
def A25(H:Hp)(ih:AV->K2->Af)(a:AV)(K:K2):Af:=
 match a with
 |.v x=>K (.v x)
 |.list n cs=>ck (cs.all Yu) (K (.list n cs))
 |.agg cs=>gO ih cs λd=>K (.agg d)
 |.tup cs=>gO ih cs λd=>K (.tup d)
 |.sl sz r o n=>IN H r λx=>Ku x λ_ cs=>FI (Nat.mul n sz) (D0 o cs) λc=>gO ih c λe=>K (.list n e)
 |_=>none
def X!(H:Hp)(D:Nat):AV->K2->Af:=@Nat.rec (λ_=>AV->K2->Af) A26 (λ_ ih=>A25 H ih) D
def Uv(R:Rt)(f:Nat)(args:Is)(H:Hp)(K:K2):Af:=
 match args with
 |[.ptr s 0 0]=>IN H s λx=>fJ x λq _ cs=>match q,cs with
  |true,[.mp m]=>IN H m λy=>A22 y λa=>ck (a.all λp=>mI 3 p.2) (Am (R.call f [.iptr [.imap a]] [] λv c=>X! c depth v λd=>some (d,[])) K)
  |_,_=>none
 |_=>Aj R f args H K
section
variable{G:Gl}{w0:Base}{C C2:Ctx}{H:Hp}{w:World}{r:AV×Hp}
def yH{f:AV->K2->Af}(n:∀a y K,VRel C w a y->f a K=some r->∃c,VRel C2 w c y/\K c=some r):
 ∀(l:Is)(ys:Hx)(K:Is->Af),Cn C w l ys->gO f l K=some r->∃d,Cn C2 w d ys/\K d=some r:=by
 intro l
 induction l with
 |nil=>intro ys K e h;exact⟨[],by rw[e.nil_inv];exact .nil,h⟩
 |cons a l ih=>
  intro ys K e h;obtain⟨y,g,rfl,h1,h2⟩:=e.cons_inv;have h:(f a λc=>gO f l λd=>K (c::d))=some r:=h;obtain⟨c,i,j⟩:=n a y _ h1 h;obtain⟨d,k,m⟩:=ih g _ h2 j;exact⟨_,.cons i k,m⟩
def X'(hr:Rel G w0 C H w)(h2:C2.bare=C2)(A:∀s x k o,Al H s=some x->C.π s=some (some (k,o))->∀i,C2.F k i)(t:∀n cs y,cs.all Yu=true->VRel C w (.list n cs) y->VRel C2 w (.list n cs) y):∀(D:Nat)(a:AV)(y:Value)(K:K2),VRel C w a y->X! H D a K=some r->∃Y,VRel C2 w Y y/\K Y=some r:=by
 intro D
 induction D with
 |zero=>
  intro a y K hv h;change A26 a K=some r at h;unfold A26 at h;split at h
  ·exact⟨_,by rw[AA.1 hv];exact .v _,h⟩
  ·obtain⟨h1,h⟩:=Br h;exact⟨_,t _ _ _ h1 hv,h⟩
  ·cases h
 |succ D ih=>
  intro a y K hv h;have N:=λl B K=>yH (f:=X! H D) (C:=C) (C2:=C2) (w:=w) (r:=r) ih l B K;change A25 H (X! H D) a K=some r at h;unfold A25 at h;split at h
  ·exact⟨_,by rw[AA.1 hv];exact .v _,h⟩
  ·obtain⟨h1,h⟩:=Br h;exact⟨_,t _ _ _ h1 hv,h⟩
  ·obtain⟨B,rfl,V⟩:=E2.1 hv;obtain⟨X,h1,h2⟩:=N _ _ _ V h;exact⟨_,E2.2 ⟨B,rfl,h1⟩,h2⟩
  ·obtain⟨B,rfl,V⟩:=Ds.1 hv;obtain⟨X,h1,h2⟩:=N _ _ _ V h;exact⟨_,Ds.2 ⟨B,rfl,h1⟩,h2⟩
  ·rename_i sz s o n;obtain⟨q0,e,cs,u,h1⟩:=Jf h;obtain⟨d,j⟩:=KG _ _ _ _ h1;rw[C9]at d j;cases hv with
   |slz ae=>
    have j:gO (X! H D) ((cs.drop o).take (0*sz)) (λc'=>K (.list 0 c'))=some r:=j;rw[Nat.zero_mul,List.take_zero]at j;exact⟨_,.list0,j⟩
   |@sl _ _ _ _ _ _ bk Z cap arr T fz M q ac aa=>
    rcases hr.rows s _ u with⟨_,h6⟩|⟨b',c,m,ab,J⟩
    ·rw[h6]at M;cases M
    ·have p:=J.at_.symm.trans M;injection p with p;injection p with p;injection p with e1 e2;subst e1 e2
     have g:Cn C w ((cs.drop o).take (n*sz)) ((((m.toList.drop c).take cs.length).drop o).take (n*sz)):=(J.vals.unsel.drop o).take _;obtain⟨X,j,h4⟩:=N _ _ _ g j;have ad:X.length=n*sz:=by
      rw[<-j.1,g.1,E'];have:n*sz<=(cs.drop o).length:=d;omega
     refine⟨_,.list q (λi=>((((m.toList.drop c).take cs.length).drop o).take (n*sz)).getD i undef) (λi L=>A s _ _ _ u M _) (λi L=>?_) (λi L=>?_),h4⟩
     ·have O:i<n*sz:=by omega
      have Q:o+i<cs.length:=by have:n*sz<=(cs.drop o).length:=d;simp at this;omega
      rw[Yq,J.cell];rw[T9,tM,CZ O,lY,tM,CZ Q,lY,l21];have hf:=J.fits;rw[l1k (by omega)];rfl
     ·have:=j.get i L;rw[h2,T9,JC (by rw[j.1];exact L)];exact this
  ·cases h
variable{D:XE->Cf->Nat->List Oper->Bool}{E:XE}{P:Program}{R:Rt}{f:Nat}{args:Is}
def A!(hR:RSound D E P R)(h:Uv R f args H K=some r):VX P f/\Qa P E.G f args H (λv H'=>H'=H/\K v=some r):=by
 unfold Uv at h;split at h
 rotate_left
 ·exact Xg hR h
 rename_i s;obtain⟨q,T,cs,a5,h⟩:=TO h;split at h
 rotate_left
 ·cases h
 rename_i _ _ m;obtain⟨x,a4,h⟩:=HC rfl h;unfold A22 at h;split at h
 rotate_left
 ·cases h
 rename_i _ es bo;obtain⟨ay,h⟩:=Br h;obtain⟨v0,H0,V,ao⟩:=Q8 h;have hc:=(hR.call _ _ _ _ _ V).2;refine⟨(hR.call _ _ _ _ _ V).1,?_⟩;intro w0 C w ys hr ha;obtain⟨y,bd,rfl,aq,ar⟩:=ha.cons_inv;have:=ar.nil_inv;subst this;cases aq with
 |@ptr _ _ _ _ _ b ad L=>
 rcases hr.rows s _ a5 with⟨h1,_⟩|⟨b',am,arr,fz,hd⟩
 ·cases h1
 have e':=hd.at_.symm.trans L;injection e' with e';injection e' with e';injection e' with e1 e2;subst e1 e2
 obtain⟨ax,hsz⟩:=hd.exact rfl;subst ax;have hsz:arr.size=1:=hsz;obtain⟨vm,ac,aa⟩:=hd.vals.2 0 _ (by rfl:([AV.mp m])[0]?=some (.mp m));have aa:VRel C w (.mp m) vm:=aa;have ac:arr[0]?=some vm:=by simpa using ac
 obtain⟨bm,X,clock,rfl,bc,ae,ai,he, -⟩:=YP hr a4 aa;have A:w.cell? ⟨b',0,none⟩=some (.map (some bm)):=by rw[hd.cell];exact ac
 have ab:∀i,i≠0->w.cell? ⟨b',i,none⟩=none:=λi c=>by rw[hd.cell];exact Array.getElem?_eq_none (by omega)
 let Y:Ctx:={π:=λ_=>none,F:=λk i=>C.F k i\/k=b',B:=λk=>C.B k\/k=bm}
 have ah:bm<w.heap.size:=(l1q.1 ae).1;have J:(∀k i,Y.F k i->k<w.heap.size)/\∀k,Y.B k->k<w.heap.size:=
  ⟨λk i d=>d.elim (hr.fin k i) λe=>e▸hd.lt,λk hB=>hB.elim (hr.finB k) λe=>e▸ah⟩
 have eb:Ext (λ_=>True) C.bare w Y.bare w:=⟨λ_ h=>absurd rfl h,λ_ _ h=>.inl h,λ_ _ _=>rfl,λ_ h=>.inl h,λ_ _=>rfl,λ_ a _ f h=>⟨a,f,h,rfl⟩,λ_ _ _=>.inr trivial,λ_ _=>.inr trivial,Oj _⟩
 have a7:VRel Y w (.imap es) (.map (some bm)):=by
  refine .imap X (.inr rfl) ae (by rw[<-he.1];simp) (λi c=>?_) (λi j a3 hj=>?_) (λi c=>?_) (λi c=>?_)
  ·obtain⟨mm,u,N, -⟩:=he.2 i _ (JC c);have Z:X[i]?=some mm:=by simpa using u
   simp[Zk,Z,N]
  ·have ag:j<X.size:=by have:=he.1;simp at this;omega
   have O:i<X.size:=by omega
   have:=(l20.1 ai.born) i j (by simpa using O) (by simpa using ag) a3;simpa [Zk,O,ag] using this
  ·have O:i<X.size:=by have:=he.1;simp at this;omega
   have:=ai.lt X[i] (by simp);simpa [Zk,O] using this
  ·obtain⟨mm,u, -,h6⟩:=he.2 i _ (JC c);have Z:X[i]?=some mm:=by simpa using u
   have h7:(X.getD i default)=mm:=by simp[Zk,Z]
   rw[h7];have h8:=VRel.down (C:=C) (C':=C.bare) rfl rfl 3 _ _ (G8.1 ay _ (Of c)) h6;exact h8.mono eb
 have a8:VRel Y w (.iptr [.imap es]) (.pointer (some ⟨b',0+(0+0),none⟩)):=
  .iptr (λ_=>.map (some bm)) (λ_ _=>.inr rfl) (λi c=>by
   have:i=0:=by simpa using c
   subst this;exact A) (λi c=>by
   have:i=0:=by simpa using c
   subst this;exact a7)
 have ap:Rel E.G ⟨w,λ_=>False⟩ Y [] w:=
  ⟨λg cs hg i v hv=>⟨.inl (hr.glob g cs hg i v hv).1,(hr.glob g cs hg i v hv).2⟩,.refl _ _,λ_ _ h=>by simp[Al]at h,λ_ _ h=>by simp[Al]at h,λ_ _ _ _ h=>by simp[Al]at h,λ_ _ _ _ _ _ _ h=>by simp[Al]at h,J.1,J.2,λ_ _=>rfl⟩
 refine(hc _ Y w _ ap (.cons a8 .nil)).mono ?_;rintro e w' ⟨v,y,C',H',rfl,M,hv,hx,t⟩;have hb:Below w.heap.size w w':=M.below.toBelow;have Q:∀k,Base.own ⟨w,λ_=>False⟩ k->w.heap.size<=k:=λk h=>h.elim id (λh=>h.elim)
 let C2:Ctx:={π:=C.π,F:=λk i=>C.F k i\/(w.heap.size<=k/\(C'.F k i\/∃s x o,Al H' s=some x/\C'.π s=some (some (k,o)))),B:=C.B}
 have e:Ext w0.own C w C2 w':=⟨λ_ _=>rfl,λ_ _ h=>.inl h,λk i h=>hb.cell (p:=⟨k,i,none⟩) (hr.fin k i h),λ_ h=>h,λk h=>hb.block k (hr.finB k h),
  λk arr T fz h=>⟨arr,fz,(hb.block k (l1q.1 h).1).trans h,rfl⟩,λk i h=>h.imp id (λh=>.inl (gP hr.below.size h.1)),λk h=>.inl h,hb.size⟩
 have aj:Rel E.G w0 C2 H w':=by
  refine⟨hr.glob.mono e,hr.below.below hb,hr.lt,λs x t=>(hr.rows s x t).mono e (λk ad L=>hb.block k ((hr.rows s x t).block (Ef t) L)),λs x k o t L=>?_,hr.sep,λk i d=>?_,λk hB=>l2m (hr.finB k hB) hb.size,hr.nx⟩
  ·have h1:=hr.own s x k o t L;have h2:=(hr.rows s x t).block (Ef t) L;refine⟨h1.1,λi d=>?_,h1.2.2⟩;rcases d with d|d
   ·exact h1.2.1 i d
   ·have:=d.1;omega
  ·rcases d with d|⟨_,d|⟨s,x,o,t,L⟩⟩
   ·exact l2m (hr.fin k i d) hb.size
   ·exact M.fin k i d
   ·exact(M.rows s x t).block (Ef t) L
 obtain⟨v',a6,hK⟩:=X' (C2:=C2.bare) M rfl (λs x k o t L i=>.inr ⟨Q k (M.own s x k o t L).1,.inr ⟨s,x,o,t,L⟩⟩) (λn cs y az hy=>by
  cases hy with
  |list0=>exact .list0
  |@list _ _ _ cap _ bb o h vs d af a9=>
   have ak:∀i(c:i<cs.length),∃z:Value,cs[i]=.v z/\vs i=z/\∀k,z≠.map k:=λi c=>by
    have h1:=G8.1 az _ (Of c);have h2:=a9 i c;cases hq:cs[i] with
    |v z=>
     rw[hq]at h1 h2;refine⟨z,rfl,AA.1 h2,λk e=>?_⟩;subst e;simp[Yu]at h1
    |_=>rw[hq]at h1;simp[Yu]at h1
   refine .list h vs (λi c=>?_) af (λi c=>?_)
   ·obtain⟨z,_,h2,h3⟩:=ak i c;rcases hx.new _ _ (d i c) with u|u
    ·rcases u with u|u
     ·exact .inl u
     ·exfalso;have N:=hx.keep bb (o+i) (.inr u);rw[af i c]at N;subst u;by_cases ho:o+i=0
      ·rw[ho,A]at N;injection N with N
       exact h3 _ (h2.symm.trans N)
      ·rw[ab _ ho]at N;cases N
    ·exact .inr ⟨Q _ u,.inl (d i c)⟩
   ·obtain⟨z,h1,h2,_⟩:=ak i c;rw[h1,<-h2];exact .v _) depth v y _ hv t
 injection hK with hK
 injection hK with hK ba
 subst hK;exact⟨v',y,C2,H,rfl,aj,a6.up rfl rfl,e.frm,rfl,ao⟩
def zpm(E:XE)(g:Nat)(R:Rt)(all:Is)(H:Hp)(K:K2):Af:=(λ(_:Unit)=>@Bool.rec (λ_=>Af) (Aj R g all H K) (Uv R g all H K) (E.lm g)) Hf
def Zf{X:XE}(a:RSound D E P R)(h:zpm X f R args H K=some r):VX P f/\Qa P E.G f args H (λv c=>c=H/\K v=some r):=by
 change @Bool.rec (λ_=>Af) (Aj R f args H K) (Uv R f args H K) (X.lm f)=some r at h;cases hq:X.lm f
 ·rw[hq]at h;exact Xg a h
 ·rw[hq]at h;exact A! a h
end
end
section
variable{K:K2}{x:Operand}{i:TI}{kt:TypeId}
def Js(E:XE)(t:Tm)(x:Operand)(K:K2):Af:=
 match x with
 |.tmp i=>gtm t i K
 |.const v=>K (rR v)
 |.global g=>E.gl.getK g λcs=>K (.iptr cs)
 |.func f=>K (.fn (.func f) [] [])
def mQ(E:XE)(t:Tm)(l:List Operand):(Is->Af)->Af:=
 @List.rec Operand (λ_=>(Is->Af)->Af) (λK=>K []) (λx _ ih K=>Js E t x λv=>ih λvs=>K (v::vs)) l
def mN(E:XE)(t:Tm)(x:Option Operand)(K:Option AV->Af):Af:=
 match x with
 |none=>K none
 |some x=>Js E t x λv=>K (some v)
def plK(i:TI)(j:Nat)(K:Nat->Nat->Af):Af:=(λ(_:Unit)=>match Qk i j with|some (o,s)=>fNS o λo=>K o s|none=>none) Hf
def eV(E:XE)(t:Tm)(i:TI)(l:List (Nat×Operand)):(List (Nat×Nat×AV)->Af)->Af:=
 @List.rec (Nat×Operand) (λ_=>(List (Nat×Nat×AV)->Af)->Af) (λK=>K []) (λp _ ih K=>plK i p.1 λo s=>Js E t p.2 λv=>ih λa=>K ((o,s,v)::a)) l
def B2Z(i:TI)(f:Nat)(K:Nat->Nat->TypeId->Af):Af:=(λ(_:Unit)=>match i.d with|.struct a=>(match a[f]? with|some (o,s,ft)=>K o s ft|none=>none)|_=>none) Hf
def xA(i:TI)(K:TypeId->Nat->Af):Af:=(λ(_:Unit)=>match i.d with|.slice e a=>K e a|_=>none) Hf
def A43(i:TI):TypeId:=match i.d with|.slice e _=>e|_=>0
def elK(E:XE)(i:TI)(K:TI->Af):Af:=(λ(_:Unit)=>match dN i with|some e=>E.ty.getK e K|none=>K i) Hf
def Ox(v:AV)(K:K2):Af:=match v with|.ptr r p k=>K (.ptr r p k)|.iptr cs=>K (.iptr cs)|.fn (.func f) a b=>K (.fn (.func f) a b)|_=>none
def B8(q a b:AV)(K:K2):Af:=match q with|.v (.bool true)=>K a|.v (.bool false)=>K b|_=>none
def A2b:TD->Bool
 |.int .u8=>true
 |_=>false
def cvK(E:XE)(s d:TypeId)(i j:TI)(a:AV)(H:Hp)(K:K2):Af:=
 (λ(_:Unit)=>match i.d with
  |.slice e _=>(match j.d with
   |.string=>E.ty.getK e λc=>ckS (A2b c.d) (tU a H K)
   |_=>none)
  |.pointer e=>ckS (Nat.beq d E.up&& !E.lie.isEmpty) (E.ty.getK e λc=>A0m c a H K)
  |.other=>(match j.d with
   |.pointer u=>ckS (Nat.beq s E.up&& !E.lie.isEmpty) (A0h E.lie u a H K)
   |_=>none)
  |_=>Im i j a K) Hf
def yD(i:TI)(K:TypeId->TypeId->Af):Af:=(λ(_:Unit)=>match i.d with|.map k e=>K k e|_=>none) Hf
def A5h(E:XE)(kt:TypeId)(a:AV)(K:Value->Af):Af:=
 E.ty.getK kt λc=>(λ(_:Unit)=>match c.d with
  |.string=>It a K
  |.int q=>tQ q a K
  |.struct _=>E.eqt.getK kt λks=>A2a ks a K
  |.array .. =>E.eqt.getK kt λks=>A2a ks a K
  |_=>none) Hf
def A2c:Operand->Bool
 |.const .nilIface=>true
 |_=>false
def B4i(op:BinOp)(a:AV)(K:K2):Af:=
 match a,op with
 |.v .nilIface,.eql=>K (.v (.bool true))
 |.v .nilIface,.neq=>K (.v (.bool false))
 |_,_=>none
def B98(E:XE)(op:BinOp)(ty:TypeId)(f:Bool)(a b:AV)(K:K2):Af:=
 E.ty.getK ty λi=>(λ(_:Unit)=>match i.d with
  |.struct _=>E.eqt.getK ty λks=>PW ks op a b K
  |.array .. =>E.eqt.getK ty λks=>PW ks op a b K
  |.pointer e=>E.ty.getK e λc=>dY i c op a b K
  |.iface=>ckS f (B4i op a K)
  |_=>Ap i op a b K) Hf
def A0V(i:TI)(v:AV)(l h m:Option AV)(H:Hp)(K:K2):Af:=
 (λ(_:Unit)=>match i.d with
  |.array n _ a=>(match m with|none=>tS n a v l h H K|some _=>none)
  |_=>EI i v l h m K) Hf
def B0u(i:TI)(v:AV)(H:Hp)(K:K2):Af:=
 (λ(_:Unit)=>match i.d with
  |.map .. =>qW v H K
  |_=>Bh i v K) Hf
def A6q(E:XE)(R:Rt)(f:AV)(c:Is)(H:Hp)(K:K2):Af:=
 match f with
 |.fn (.func g) first cap=>ckS (!E.imp g) (RM c cap λa=>RM first a λall=>zpm E g R all H K)
 |_=>none
def wL(E:XE)(R:Rt)(t:Tm)(H:Hp)(c:Call)(K:K2):Af:=
 match c.callee with
 |.value e=>Js E t e λf=>mQ E t c.args.toList λd=>A6q E R f d H K
 |.builtin .len=>match c.args.toList,c.argTypes.toList with
  |[x],[ty]=>Js E t x λv=>E.ty.getK ty λi=>B0u i v H K
  |_,_=>none
 |.builtin .unsafeSliceData=>match c.args.toList with
  |[x]=>Js E t x λv=>A5w v K
  |_=>none
 |.builtin .min=>match c.args.toList with
  |[x,y]=>Js E t x λa=>Js E t y λb=>zF true a b K
  |_=>none
 |.builtin .max=>match c.args.toList with
  |[x,y]=>Js E t x λa=>Js E t y λb=>zF false a b K
  |_=>none
 |_=>none
def QB(E:XE)(R:Rt)(t:Tm)(H:Hp)(o:Op)(K:K2):Af:=
 match o with
 |.move x=>Js E t x K
 |.assign x=>Js E t x K
 |.pick c a b=>Js E t c λq=>Js E t a λa=>Js E t b λb=>B8 q a b K
 |.load ty x=>Js E t x λv=>E.ty.getK ty λi=>A7 i v H K
 |.nilCheck x=>Js E t x λv=>Ox v K
 |.binOp op ty x y _=>Js E t x λa=>Js E t y λb=>B98 E op ty (A2c y) a b K
 |.unOp op _ x=>Js E t x λa=>PA op a K
 |.convert s d x=>Js E t x λa=>E.ty.getK s λi=>E.ty.getK d λj=>cvK E s d i j a H K
 |.makeFunc fn first cap=>mQ E t first.toList λw=>mQ E t cap.toList λcs=>K (.fn fn w cs)
 |.fieldAddr ty x f=>Js E t x λv=>E.ty.getK ty λi=>B2Z i f λoff sz _=>ckS (!Nat.beq sz 0) (Cl off v K)
 |.field ty x f=>Js E t x λv=>E.ty.getK ty λi=>B2Z i f λoff _ ft=>E.ty.getK ft λj=>iO off j v K
 |.indexAddr ty x e=>Js E t x λv=>Js E t e λn=>E.ty.getK ty λi=>Dh i v n K
 |.index ty x e=>Js E t x λv=>Js E t e λn=>E.ty.getK ty λi=>elK E i λj=>dV i j v n K
 |.slice ty x C A mx=>Js E t x λv=>mN E t C λl=>mN E t A λh=>mN E t mx λm=>E.ty.getK ty λi=>A0V i v l h m H K
 |.extract x k=>Js E t x λv=>Ci v k K
 |.build ty parts=>E.ty.getK ty λi=>ckS (zT i) (eV E t i parts.toList λl=>BZ i l K)
 |.call c=>wL E R t H c K
 |.buildSlice ty n parts=>E.ty.getK ty λi=>xA i λ_ g=>E.ty.getK (A43 i) λp=>eV E t i parts.toList λl=>Tu g p n l K
 |.lookup ty x e ok=>Js E t x λm=>Js E t e λk=>E.ty.getK ty λi=>yD i λkt u=>A5h E kt k λB=>E.ty.getK u λp=>Tt p ok m B H K
 |.entry it=>Js E t it λv=>iP v H K
 |_=>none
section
variable{D:XE->Cf->Nat->List Oper->Bool}{E:XE}{P:Program}{R:Rt}{t:Tm}{H:Hp}{r:AV×Hp}{ro:Option Nat}{N:Nat}
def A4i{cs:Is}(h:cs.all isV=true):(cs.map unV).map AV.v=cs:=by
 induction cs with
 |nil=>rfl
 |cons c cs ih=>
  simp only[l2j,J2]at h;simp only[VC,ih h.2];cases c<;>simp[isV]at h
  rfl
def AU(a:XE.Ok D E P)(h:Js E t x K=some r):K (Jb E.G t x)=some r:=by
 unfold Js at h;split at h
 ·rwa[To]at h
 ·exact h
 ·obtain⟨cs,h1,h2⟩:=AW h;have:=a.gl _ _ h1;simp only[Jb,XE.G,h1,rT,A4i this];exact h2
 ·exact h
def QC(a:XE.Ok D E P):∀(l:List Operand)(K:Is->Af),mQ E t l K=some r->K (l.map (Jb E.G t))=some r:=by
 intro l
 induction l with
 |nil=>intro K h;exact h
 |cons x l ih=>
  intro K h;have h:(Js E t x λv=>mQ E t l λvs=>K (v::vs))=some r:=h;exact ih _ (AU a h)
def eW(a:XE.Ok D E P){x:Option Operand}{K:Option AV->Af}(h:mN E t x K=some r):K (x.map (Jb E.G t))=some r:=by
 unfold mN at h;split at h
 ·exact h
 ·exact AU a h
def Wb(c:XE.Ok D E P):∀(l:List (Nat×Operand))(K:List (Nat×Nat×AV)->Af),eV E t i l K=some r->
 ∃a,K a=some r/\((l.map λp=>(p.1,Jb E.G t p.2)).map λp=>(Qk i p.1).map λq=>(q.1,q.2,p.2))=a.map some:=by
 intro l
 induction l with
 |nil=>intro K h;exact⟨[],h,rfl⟩
 |cons p l ih=>
  intro K h;have h:(plK i p.1 λo s=>Js E t p.2 λv=>eV E t i l λa=>K ((o,s,v)::a))=some r:=h;unfold plK at h;split at h
  ·rename_i o s d;simp only[A91]at h;obtain⟨a,h1,h2⟩:=ih _ (AU c h);refine⟨_,h1,?_⟩;simp only[VC,d,rT,h2]
  ·cases h
def rd(d:XE.Ok D E P){o:Oper}{v:AV}{K:K2}(f:∀c,o.op≠.defer c)(g:mT (E.env P) o.op t H (λh a=>h=v/\a=H))(e:K v=some r):SH P E.G ro N o t H (λv a=>a=H/\K v=some r):=
 SH.mono (T6 f (uB (E:=E.env P) d.env g)) (by rintro _ _ ⟨rfl,rfl⟩;exact⟨rfl,e⟩)
def OI{K:TypeId->TypeId->Af}(h:yD i K=some r):∃k e,i.d=.map k e/\K k e=some r:=by
 unfold yD at h;split at h
 ·rename_i a;exact⟨_,_,a,h⟩
 ·cases h
def OH(c:XE.Ok D E P){mt kt a:TypeId}(g:E.ty.get mt=some i)(f:i.d=.map kt a):P.underlying mt=some (.map kt a):=by
 obtain⟨u,h,e⟩:=(c.ty mt i g).under;rw[f]at e;cases u<;>simp[td]at e
 rw[h,e.1,e.2]
def Uc(m:XE.Ok D E P){a:AV}{K:Value->Af}(h:A5h E kt a K=some r):∃k,PZ P kt k/\K k=some r/\∀{C:Ctx}{w:World}{y:Value},VRel C w a y->y=k:=by
 obtain⟨s,g,h⟩:=AW h;obtain⟨u,n,e⟩:=(m.ty kt s g).under;have j:∀ks,E.eqt.get kt=some ks->A2a ks a K=some r->∃k,PZ P kt k/\K k=some r/\∀{C:Ctx}{w:World}{y:Value},VRel C w a y->y=k:=λks c h=>by
  unfold A2a at h;split at h
  ·obtain⟨vs,rfl,h1⟩:=YW _ _ h;obtain⟨h2,p⟩:=KL h1;exact⟨_,.inr (.inr ⟨ks,vs,m.eq kt ks c,h2,rfl⟩),p,λhv=>nM hv⟩
  ·cases h
 simp only at h;split at h
 ·rename_i f;rw[f]at e;have d:u=.string:=by cases u<;>simp[td]at e;rfl
  subst d;unfold It at h;split at h
  ·exact⟨_,.inl ⟨n,_,rfl⟩,h,λhv=>AA.1 hv⟩
  ·cases h
 ·rename_i q f;rw[f]at e;have d:u=.int q:=by cases u<;>simp[td]at e;rw[e]
  subst d;unfold tQ at h;split at h
  ·obtain⟨h1,h2⟩:=KL h;have h1:_=q:=l2t h1;subst h1;exact⟨_,.inr (.inl ⟨_,_,n,rfl⟩),h2,λhv=>AA.1 hv⟩
  ·cases h
 ·obtain⟨ks,c,h⟩:=AW h;exact j ks c h
 ·obtain⟨ks,c,h⟩:=AW h;exact j ks c h
 ·cases h
def OV{o:Oper}(f:∀c,o.op≠.defer c)(h:∀(w0:Base)(s0:Nat)(C:Ctx)(N:Nat)(a:Act)(w:World),St E.G w0 s0 C N t H a w->∃v y,K v=some r/\(execOp a.eval o).run P w=.ok (.value y) w/\VRel C w v y):SH P E.G ro N o t H (λv d=>d=H/\K v=some r):=
 T6 f λw0 s0 C N a w s=>let⟨v,y,h1,h2,e⟩:=h w0 s0 C N a w s;⟨v,H,y,C,w,⟨rfl,h1⟩,.inl h2,e,s.rel,.refl _ _ _⟩
def A15(g:XE.Ok D E P){o:Oper}{op:BinOp}{ty O:TypeId}{x y:Operand}(f:o.op=.binOp op ty x y O)(h:B98 E op ty (A2c y) (Jb E.G t x) (Jb E.G t y) K=some r):SH P E.G ro N o t H (λv j=>j=H/\K v=some r):=by
 obtain⟨i,n,h⟩:=AW h;have nd:∀c,o.op≠.defer c:=λc hc=>by rw[f]at hc;cases hc
 have A:∀ks,E.eqt.get ty=some ks->PW ks op (Jb E.G t x) (Jb E.G t y) K=some r->SH P E.G ro N o t H (λv j=>j=H/\K v=some r):=λks d h=>by
  refine OV nd λw0 J C N a w s=>?_;obtain⟨v,u,h1,h2,k⟩:=A2D (P:=P) x y (g.eq ty ks d) (AR s x) (AR s y) h;refine⟨v,u,h1,?_,k⟩;simp only[execOp,f];rw[CN,h2];rfl
 simp only at h;split at h
 ·obtain⟨ks,d,h⟩:=AW h;exact A ks d h
 ·obtain⟨ks,d,h⟩:=AW h;exact A ks d h
 ·rename_i e m;obtain⟨Q,p,h⟩:=AW h;refine OV nd λw0 J C N a w s=>?_;obtain⟨v,u,h1,h2,k⟩:=A2C (P:=P) (T:=E.T) g.ty x y n m p (AR s x) (AR s y) h;refine⟨v,u,h1,?_,k⟩;simp only[execOp,f];rw[CN,h2];rfl
 ·rename_i m;obtain⟨hc,h⟩:=KL h;have M:y=.const .nilIface:=by
   unfold A2c at hc;split at hc
   ·rfl
   ·cases hc
  subst M;obtain⟨u,q,e⟩:=(g.ty ty i n).under;rw[m]at e;obtain⟨F,rfl⟩:∃F,u=.interface F:=by cases u<;>simp[td]at e;exact⟨_,rfl⟩
  have he:∀w,(Op.equal ty .nilIface .nilIface).run P w=.ok true w:=λw=>by
   show(Op.equalIn (9999+1) ty _ _).run P w=_;unfold Op.equalIn;rw[CN,run_underlying q w];rfl
  have B:∀(op:BinOp)(z:Operand)(w:World),(eqGuard op ty z (.const .nilIface) .nilIface .nilIface).run P w=.ok () w:=λop z w=>by
   unfold eqGuard;rw[Sem.run_ite];refine A8B (by simp) ?_;simp
  refine OV nd λw0 J C N a w s=>?_;have hv:=AR s x;have hz:a.eval (.const .nilIface)=.nilIface:=rfl;unfold B4i at h;split at h
  ·rename_i hq _ _;rw[hq]at hv;have hv:=AA.1 hv;refine⟨_,.bool true,h,?_,.v _⟩;simp only[execOp,f];rw[hv,hz,CN,CN,B];simp[binOp,he]
  ·rename_i hq _ _;rw[hq]at hv;have hv:=AA.1 hv;refine⟨_,.bool false,h,?_,.v _⟩;simp only[execOp,f];rw[hv,hz,CN,CN,B];simp[binOp,he]
  ·cases h
 ·obtain⟨u,q,L⟩:=vV (T:=E.T) (ty:=ty) n h;exact rd g nd (by rw[f];simpa [mT,XE.env] using L) q
def Qx{K:TypeId->Nat->Af}(h:xA i K=some r):∃e a,i.d=.slice e a/\K e a=some r:=by
 unfold xA at h;split at h
 ·rename_i c;exact⟨_,_,c,h⟩
 ·cases h
def A5P(k:XE.Ok D E P){o:Oper}{ty:TypeId}{n:Nat}{parts:Array (Nat×Operand)}(m:o.op=.buildSlice ty n parts)(h:(E.ty.getK ty λi=>xA i λ_ d=>E.ty.getK (A43 i) λq=>eV E t i parts.toList λl=>Tu d q n l K)=some r):SH P E.G ro N o t H (λv A=>A=H/\K v=some r):=by
 obtain⟨i,F,h⟩:=AW h;obtain⟨e,d,g,h⟩:=Qx h;have he:A43 i=e:=by simp[A43,g]
 rw[he]at h;obtain⟨q,j,h⟩:=AW h;obtain⟨l,h1,h2⟩:=Wb k _ _ h;refine T6 (λc hc=>by rw[m]at hc;cases hc) λw0 O C N a w s=>?_;obtain⟨J,hq⟩:=gA s parts;obtain⟨v,y,u,M,B,f,hv,hr,L⟩:=A5I (P:=P) (T:=E.T) k.ty F g j (by rw[<-h2];simp[Qk,g]) h1 J hq s.rel;refine⟨v,H,y,u,M,⟨rfl,B⟩,.inl ?_,hv,hr,L⟩;have:(parts.map λ(i,x)=>(i,a.eval x))=(parts.toList.map λp=>(p.1,a.eval p.2)).toArray:=by apply lG;simp
 simp only[execOp,m];rw[this,CN,f];rfl
def A5R(u:XE.Ok D E P){o:Oper}{s d:TypeId}(Q:o.op=.convert s d x){i j ie:TI}{e z:Nat}(hi:E.ty.get s=some i)(hj:E.ty.get d=some j)(Z:i.d=.slice e z)(B:j.d=.string)(F:E.ty.get e=some ie)(g:A2b ie.d=true)(h:tU (Jb E.G t x) H K=some r):SH P E.G ro N o t H (λv X=>X=H/\K v=some r):=by
 refine T6 (λc hc=>by rw[Q]at hc;cases hc) λw0 s0 C N a w st=>?_;obtain⟨h1,l,Y,f⟩:=A2J (P:=P) st.rel (AR st x) h;refine⟨.v (.string ⟨⟨l⟩⟩),H,.string ⟨⟨l⟩⟩,C,w,⟨rfl,Y⟩,.inl ?_,.v _,st.rel,.refl _ _ _⟩;have A:(convert s d (a.eval x)).run P w=.ok (.string ⟨⟨l⟩⟩) w:=by
  obtain⟨J,_⟩:=(u.ty s i hi).elem_slice Z;obtain⟨V,L,O⟩:=(u.ty d j hj).under;obtain⟨u3,M,q⟩:=(u.ty e ie F).under;rw[B]at O;have m:V=.string:=by cases V<;>simp[td]at O;rfl
  subst m;have p:u3=.int .u8:=by
   cases hq:ie.d with
   |int k=>
    rw[hq]at g q;cases k<;>simp[A2b]at g
    cases u3<;>simp[td]at q
    rw[q]
   |_=>rw[hq]at g;simp[A2b]at g
  subst p;unfold convert;rw[CN,run_underlying J w];simp only[F3];rw[CN,run_underlying L w];simp only[F3];generalize a.eval x=y at h1 f;cases y with
  |slice ad n cap=>
   simp only;rw[CN,run_underlying M w];simp only[F3];exact f
  |string s=>exact absurd rfl (h1 s)
  |_=>simp[Conv.bytesToString]at f
 simp only[execOp,Q];rw[CN,A];rfl
def vG{f:Nat}{K:Nat->Nat->TypeId->Af}(h:B2Z i f K=some r):∃a o s ft,i.d=.struct a/\a[f]?=some (o,s,ft)/\K o s ft=some r:=by
 unfold B2Z at h;split at h
 ·rename_i a c;split at h
  ·rename_i e;exact⟨a,_,_,_,c,e,h⟩
  ·cases h
 ·cases h
def Zq(f:XE.Ok D E P)(M:RSound D E P R){o:Oper}{c:Call}(p:o.op=.call c)(h:wL E R t H c K=some r):SH P E.G ro N o t H (λv L=>L=H/\K v=some r):=by
 have nd:∀c,o.op≠.defer c:=λc hc=>by rw[p]at hc;cases hc
 unfold wL at h;split at h
 ·rename_i Z d;have h:=QC f _ _ (AU f h);unfold A6q at h;split at h
  ·rename_i g first cap Q;obtain⟨_,h⟩:=Br h;rw[I6,I6,<-eU]at h;obtain⟨⟨fn,h1,h2,B⟩,hc⟩:=Zf M h;exact SH.mono (Sc p d Q h1 h2 B hc) (λ_ _ h=>h)
  ·cases h
 ·rename_i d;split at h
  ·rename_i x ty m q;obtain⟨i,J,h⟩:=AW (AU f h);unfold B0u at h;split at h
   ·rename_i kt Y O;refine OV nd λw0 X C N a w s=>?_;obtain⟨v,y,h1,h2,B⟩:=A0q (P:=P) (ty:=o.type) (ts:=c.argTypes) (by rw[<-l21,q];rfl) (OH f J O) s.rel (AR s x) h;refine⟨v,y,h1,?_,B⟩;have e:c.args.map a.eval= #[a.eval x]:=by apply lG;simp[m]
    rw[HK p _ d,e];show(do pure (Next.value (<-Builtin.len_ c.argTypes o.type #[a.eval x]))).run P w=_;rw[CN,h2];rfl
   ·obtain⟨u,A,j⟩:=A5D (T:=E.T) J h;exact rd f nd (by rw[p];simp only[mT,d,m,q];simpa [XE.env] using j) A
  ·cases h
 ·rename_i d;split at h
  ·rename_i x m;have h:=AU f h;unfold A5w at h;split at h
   ·rename_i sz rr oo n hq;obtain⟨hc,h1⟩:=Br h;simp only[J2,kY,VD]at hc;refine OV nd λw0 X C N a w s=>?_;have hv:=AR s x;rw[hq]at hv;have e:c.args.map a.eval= #[a.eval x]:=by apply lG;simp[m]
    rw[HK p _ d,e];generalize a.eval x=y at hv;cases hv with
    |slz=>exact absurd hc.2 (by simp)
    |@sl _ _ _ _ _ _ b k cap arr T fz V F hb hsz=>
     refine⟨_,.pointer (some ⟨b,k+oo,none⟩),h1,?_,.ptr V⟩;show(do pure (Next.value (<-Builtin.unsafeSliceData_ c.argTypes o.type #[.slice (some ⟨b,k+oo,none⟩) n cap]))).run P w=_;rw[CN,Lib.run_unsafeSliceData_row _ _ _ _ _ _ (by omega)];rfl
   ·cases h
  ·cases h
 ·rename_i d;split at h
  ·rename_i x y m;obtain⟨u,A,j⟩:=A0p (AU f (AU f h));exact rd f nd (by rw[p];simp only[mT,d,m];simpa [XE.env] using j) A
  ·cases h
 ·rename_i d;split at h
  ·rename_i x y m;obtain⟨u,A,j⟩:=A0p (AU f (AU f h));exact rd f nd (by rw[p];simp only[mT,d,m];simpa [XE.env] using j) A
  ·cases h
 ·cases h
def So(m:XE.Ok D E P)(hR:RSound D E P R){o:Oper}(h:QB E R t H o.op K=some r):SH P E.G ro N o t H (λv Z=>Z=H/\K v=some r):=by
 unfold QB at h;split at h
 all_goals try (cases h;done)
 case h_1 x g=>exact rd m (λc hc=>by rw[g]at hc;cases hc) (by rw[g];exact⟨rfl,rfl⟩) (AU m h)
 case h_2 x g=>exact rd m (λc hc=>by rw[g]at hc;cases hc) (by rw[g];exact⟨rfl,rfl⟩) (AU m h)
 case h_3 c a b g=>
  have h:=AU m (AU m (AU m h));unfold B8 at h;split at h
  ·rename_i hq;exact rd m (λc hc=>by rw[g]at hc;cases hc) (by rw[g];simp[mT,XE.env,hq]) h
  ·rename_i hq;exact rd m (λc hc=>by rw[g]at hc;cases hc) (by rw[g];simp[mT,XE.env,hq]) h
  ·cases h
 case h_4 ty x g=>
  obtain⟨i,p,h⟩:=AW (AU m h);obtain⟨u,q,A⟩:=A0t (T:=E.T) (ty:=ty) p h;exact rd m (λc hc=>by rw[g]at hc;cases hc) (by rw[g];simpa [mT,XE.env] using A) q
 case h_5 x g=>
  have h:=AU m h;unfold Ox at h;split at h
  ·rename_i hq;exact rd m (λc hc=>by rw[g]at hc;cases hc) (by rw[g];simp[mT,XE.env,hq,A6s]) h
  ·rename_i hq;exact rd m (λc hc=>by rw[g]at hc;cases hc) (by rw[g];simp[mT,XE.env,hq,A6s]) h
  ·rename_i hq;exact rd m (λc hc=>by rw[g]at hc;cases hc) (by rw[g];simp[mT,XE.env,hq,A6s]) h
  ·cases h
 case h_6 op ty x y yt g=>exact A15 m g (AU m (AU m h))
 case h_7 op ty x g=>
  obtain⟨u,q,A⟩:=A9a (AU m h);exact rd m (λc hc=>by rw[g]at hc;cases hc) (by rw[g];simpa [mT,XE.env] using A) q
 case h_8 s d x g=>
  obtain⟨i,p,h⟩:=AW (AU m h);obtain⟨j,L,h⟩:=AW h;unfold cvK at h;simp only at h;split at h
  ·rename_i e z J;split at h
   ·rename_i O;obtain⟨ie,F,h⟩:=AW h;obtain⟨q,h⟩:=KL h;exact A5R m g p L J O F q h
   ·cases h
  ·rename_i e J;obtain⟨hc,h⟩:=KL h;simp only[J2,kY,yL]at hc;obtain⟨ie,F,h⟩:=AW h;refine OV (λc hc=>by rw[g]at hc;cases hc) λw0 Y C N a w st=>?_;obtain⟨h1,h2⟩:=A2w (P:=P) (T:=E.T) m.ty p J F (d:=d) (by rw[hc.1];exact m.up hc.2) st.rel (AR st x) h;refine⟨_,_,h1,?_,AR st x⟩;simp only[execOp,g];rw[CN,h2];rfl
  ·rename_i J;split at h
   ·rename_i u O;obtain⟨hc,h⟩:=KL h;simp only[J2,kY,yL]at hc;have ab:P.underlying d=some (.pointer u):=by
     obtain⟨u',ae,V⟩:=(m.ty d j L).under;rw[O]at V;cases u'<;>simp[td]at V
     rw[ae,V]
    refine OV (λc hc=>by rw[g]at hc;cases hc) λw0 Y C N a w st=>?_;obtain⟨h1,h2⟩:=A2q (P:=P) m.lie (s:=s) (by rw[hc.1];exact m.up hc.2) ab st.rel (AR st x) h;refine⟨_,_,h1,?_,AR st x⟩;simp only[execOp,g];rw[CN,h2];rfl
   ·cases h
  ·obtain⟨u,q,A⟩:=A2G (T:=E.T) p L h;exact rd m (λc hc=>by rw[g]at hc;cases hc) (by rw[g];simpa [mT,XE.env] using A) q
 case h_9 fn first cap g=>
  have h:=QC m _ _ (QC m _ _ h);exact rd m (λc hc=>by rw[g]at hc;cases hc) (by rw[g];exact⟨rfl,rfl⟩) h
 case h_10 ty x f g=>
  obtain⟨i,p,h⟩:=AW (AU m h);obtain⟨fs,off,s,ft,h1,h2,h⟩:=vG h;obtain⟨hz,h⟩:=Br h;obtain⟨u,q,A⟩:=A9r (T:=E.T) (ty:=ty) p h1 h2 (λe=>by rw[e]at hz;simp at hz) h;exact rd m (λc hc=>by rw[g]at hc;cases hc) (by rw[g];simpa [mT,XE.env] using A) q
 case h_11 ty x f g=>
  obtain⟨i,p,h⟩:=AW (AU m h);obtain⟨fs,off,s,ft,h1,h2,h⟩:=vG h;obtain⟨j,L,h⟩:=AW h;obtain⟨u,q,A⟩:=A5F (T:=E.T) (ty:=ty) p h1 h2 L h;exact rd m (λc hc=>by rw[g]at hc;cases hc) (by rw[g];simpa [mT,XE.env] using A) q
 case h_12 ty x X g=>
  obtain⟨i,p,h⟩:=AW (AU m (AU m h));obtain⟨u,q,A⟩:=A9o (T:=E.T) (ty:=ty) p h;exact rd m (λc hc=>by rw[g]at hc;cases hc) (by rw[g];simpa [mT,XE.env] using A) q
 case h_13 ty x X g=>
  obtain⟨i,p,h⟩:=AW (AU m (AU m h));unfold elK at h;have fin:∀j,(∀e,dN i=some e->E.T e=some j)->dV i j (Jb E.G t x) (Jb E.G t X) K=some r->SH P E.G ro N o t H (λv Z=>Z=H/\K v=some r):=λj L h=>by
   obtain⟨u,q,A⟩:=A5E (T:=E.T) (ty:=ty) p L h;exact rd m (λc hc=>by rw[g]at hc;cases hc) (by rw[g];simpa [mT,XE.env] using A) q
  split at h
  ·rename_i e he;obtain⟨j,L,h⟩:=AW h;exact fin j (λV B=>by rw[he]at B;injection B with B;subst B;exact L) h
  ·rename_i he;exact fin i (λV B=>by rw[he]at B;cases B) h
 case h_14 ty x lo p mx g=>
  have h0:=AW (eW m (eW m (eW m (AU m h))));clear h;obtain⟨i,Q,h⟩:=h0;unfold A0V at h;split at h
  ·rename_i n e aa J;split at h
   ·rename_i hm;have ad:mx=none:=by cases mx with
     |none=>rfl
     |some _=>cases hm
    subst ad;refine OV (λc hc=>by rw[g]at hc;cases hc) λw0 Y C N a w st=>?_;obtain⟨v,u,h1,h2,M⟩:=A2s (P:=P) (T:=E.T) m.ty Q J (m.pos ty i e aa Q (.inr ⟨n,J⟩)) st.rel (AR st x) (WA st lo) (WA st p) h;refine⟨v,u,h1,?_,M⟩;simp only[execOp,g];rw[CN];have:(Instr.sliceAt ty (a.eval x) (lo.map a.eval) (p.map a.eval) (Option.map a.eval none)).run P w=.ok u w:=h2;rw[this];rfl
   ·cases h
  ·obtain⟨u,q,A⟩:=A0j (T:=E.T) (ty:=ty) Q h;exact rd m (λc hc=>by rw[g]at hc;cases hc) (by rw[g];simpa [mT,XE.env] using A) q
 case h_15 x k g=>
  obtain⟨vs,u,h1,h2,M⟩:=A5G (AU m h);exact rd m (λc hc=>by rw[g]at hc;cases hc) (by rw[g];simp only[mT,XE.env,h1,h2,KX];exact⟨trivial,trivial⟩) M
 case h_16 ty parts g=>
  obtain⟨i,p,h⟩:=AW h;obtain⟨hb,h⟩:=Br h;obtain⟨l,h1,h2⟩:=Wb m _ _ h;obtain⟨u,q,A⟩:=A0y (T:=E.T) (ty:=ty) p hb h2 h1;exact rd m (λc hc=>by rw[g]at hc;cases hc) (by rw[g];simpa [mT,XE.env] using A) q
 case h_17 c g=>exact Zq m hR g h
 case h_18 ty n parts g=>exact A5P m g h
 case h_19 ty x X ok g=>
  obtain⟨i,p,h⟩:=AW (AU m (AU m h));obtain⟨kt,et,J,h⟩:=OI h;obtain⟨kv,hk,h,ac⟩:=Uc m h;obtain⟨ie,F,h⟩:=AW h;refine OV (λc hc=>by rw[g]at hc;cases hc) λw0 Y C N a w st=>?_;obtain⟨v,y,h1,h2,M⟩:=A5C (P:=P) (OH m p J) (m.ty et ie F) hk st.rel (AR st x) h;refine⟨v,y,h1,?_,M⟩;simp only[execOp,g];rw[CN,ac (AR st X),h2];rfl
 case h_20 it g=>
  have h:=AU m h;refine OV (λc hc=>by rw[g]at hc;cases hc) λw0 Y C N a w st=>?_;obtain⟨v,y,h1,h2,M⟩:=A2E (P:=P) st.rel (AR st it) h;refine⟨v,y,h1,?_,M⟩;simp only[execOp,g];rw[CN,h2];rfl
end
end
section
variable{aZ bd:Code}
def B6J(r:Nat)(K:AV->Hp->Prop):Exit->Tm->Hp->Prop
 |.normal,_,H=>∃N t ps aZ bd,Al H r=some (.loop N t ps aZ bd none)/\K (.v (.bool true)) (upd H r (.loop N t ps aZ bd (some none)))
 |.ret,_,H=>∃N t ps aZ bd,Al H r=some (.loop N t ps aZ bd none)/\K (.v (.bool false)) (upd H r (.loop N t ps aZ bd (some (some .ret))))
 |.exit id,_,H=>∃N t ps aZ bd,Al H r=some (.loop N t ps aZ bd none)/\K (.v (.bool false)) (upd H r (.loop N t ps aZ bd (some (some (.exit id)))))
 |.goto l,_,H=>∃N t ps aZ bd,Al H r=some (.loop N t ps aZ bd none)/\K (.v (.bool false)) (upd H r (.loop N t ps aZ bd (some (some (.goto l)))))
 |_,_,_=>False
section
variable{P:Program}{G:Gl}{ro:Option Nat}{N:Nat}{t:Tm}{H:Hp}
def A2X{o:Oper}{c:Call}{fv:Operand}{r:Nat}{K:AV->Hp->Prop}(R:o.op=.call c)(M:c.callee=.value fv)(hf:Jb G t fv=.yl r){D:Nat}{t':Tm}{ps:Array Tmp}{args:Is}(m:c.args.toList.map (Jb G t)=args)(hl:Al H r=some (.loop D t' ps aZ bd (some none)))(ae:ps.size=args.length)(ad:∀p∈ps.toList,p<D)(h:∀b,Pz P G (some b) (Ax H) D aZ (A7L (λt1 H1=>∃N1 k j g i,Al H1 r=some (.loop N1 k j g i (some none))/\Pz P G (some b) (Ax H) D bd (B6J r K) t1 (upd H1 r (.loop N1 k j g i none))) (λ_ _ _=>False)) (uG t' ps.toList args) H):SH P G ro N o t H K:=by
 intro w0 s0 C a w Q s;have hv:=AR s fv;rw[hf]at hv;generalize hy:a.eval fv=y at hv;cases hv with
 |yl L=>
 rename_i b ak;obtain⟨F,l,h1,h2,h3,h4,h5,h6,h7,h8,h9⟩:=s.rel.rows r _ hl;have e:=h1.symm.trans L;injection e with e;injection e with e;injection e with e1 J;subst e1 J
 have V:r<Ax H:=uU s.rel (by rw[L];simp);have d:=rI s c.args.toList;rw[m]at d;have A:(c.args.map a.eval).size=l.params.size:=by
  have:=d.1;simp at this;simp[h6,ae,this]
 refine⟨λf _=>trivial,?_⟩;rw[Oper.semAt_eq _ _ _ (by rw[R];intro c hc;cases hc)];have X:(execOp a.eval o).run P w=.ok (.round F l.fn ((l.params.zip (c.args.map a.eval)).foldl (λtmps(t,a)=>tmps.setIfInBounds t a) l.tmps) l.assign l.body) w:=by
  simp only[execOp,R,resolve,M,hy,Deferred.ofValue,CN,gQ,F3,invoke];have:=run_yield (P:=P) (w:=w) (args:= #[]++c.args.map a.eval) h2 (by simpa using A);simpa using this
 rw[X];refine⟨λhd=>by simp[rO]at hd,?_⟩;have ht:=A4N (C:=C) (w:=w) l.params.toList args (c.args.toList.map a.eval) t' l.tmps (λp L=>by rw[h5];exact ad p (h6▸L)) d h9;have ah:(l.params.zip (c.args.map a.eval)).foldl (λtmps(x:Tmp×Value)=>match x with|(t,a)=>tmps.setIfInBounds t a) l.tmps=(l.params.toList.zip (c.args.toList.map a.eval)).foldl (λt(p:Tmp×Value)=>t.setIfInBounds p.1 p.2) l.tmps:=by
  have hz:(l.params.zip (c.args.map a.eval)).foldl (λtmps(p:Tmp×Value)=>tmps.setIfInBounds p.1 p.2) l.tmps=(l.params.toList.zip (c.args.toList.map a.eval)).foldl (λt(p:Tmp×Value)=>t.setIfInBounds p.1 p.2) l.tmps:=by
   rw[<-Array.foldl_toList];simp
  exact hz
 refine roundIn_of_wpIn trivial ?_;rw[ah,h7,h8];have ai:St G w0 0 C D (uG t' ps.toList args) H {tmps:=(l.params.toList.zip (c.args.toList.map a.eval)).foldl (λt(p:Tmp×Value)=>t.setIfInBounds p.1 p.2) l.tmps,defers:=[]} w:=
  ⟨s.rel,by rw[ht.2];exact h5,by rw[<-h6];exact ht.1,.nil,D! _⟩
 refine wpIn_mono (h F w0 0 C _ w ai) ?_;rintro e a1 w1 ⟨C1,t1,H1,s1,x1,q1⟩;cases e with
 |normal=>
  obtain⟨N1,k,j,g,i,aa,n⟩:=q1;have q:C1.π r=some (some (F,0)):=(x1.π r V (by rw[L];simp)).trans L;obtain⟨l1,g1,g2,g3,g4,g5,g6,g7,g8,Y⟩:=s1.rel.set_loop (pend':=none) (O:=w0.own) aa q;obtain⟨af,J⟩:=Y {l1 with state:=.busy} rfl (by rw[g3];rfl) rfl rfl rfl rfl;refine⟨_,run_beginRound g1 g2,?_⟩;have st2:St G w0 0 C1 D t1 (upd H1 r (.loop N1 k j g i none)) a1 (w1.putObj F (.loop {l1 with state:=.busy})):=⟨af,s1.size,s1.tmps.mono J,s1.defers.mono J.B J.keepB,D! _⟩
  refine wpIn_mono (n w0 0 C1 a1 _ st2) ?_;rintro e a3 w3 ⟨C3,t3,H3,s3,x3,q3⟩;have ac:C3.π r=some (some (F,0)):=(x3.π r V (by rw[q];simp)).trans q;have aj:Frm (Ax H) w0.own C w C3 w3:=(x1.trans J.frm).trans x3;have fin:∀jump:Option Code,(∃N t ps aZ bd,Al H3 r=some (.loop N t ps aZ bd none)/\K (.v (.bool jump.isNone)) (upd H3 r (.loop N t ps aZ bd (some jump))))->
   ∃v w4,(Instr.endRound F jump).run P w3=.ok v w4/\∃Z y C' H',a.put o.dst v=a.put o.dst y/\K Z H'/\VRel C' w4 Z y/\Rel G w0 C' H' w4/\Ext w0.own C w C' w4:=by
   rintro jump ⟨N3,aq,ap,am,ao,ab,hK⟩;obtain⟨l3,k1,k2,k3,k4,k5,k6,k7,k8,u⟩:=s3.rel.set_loop (pend':=some jump) (O:=w0.own) ab ac;obtain⟨ag,e4⟩:=u {l3 with state:=if jump.isNone then .ready else .done,pending:=jump} (by cases jump<;>rfl) rfl rfl rfl rfl rfl;exact⟨_,_,run_endRound jump k1,_,_,C3,_,rfl,hK,.v _,ag,(aj.trans e4.frm).ext_of s.rel⟩
  cases e with
  |normal=>exact fin none q3
  |ret=>exact fin (some .ret) q3
  |exit id=>exact fin (some (.exit id)) q3
  |goto l=>exact fin (some (.goto l)) q3
  |panic ch=>exact q3.elim
  |outgrown=>exact q3.elim
 |_=>exact q1.elim
def A2U{m:Nat}{Q:Exit->Tm->Hp->Prop}{g:Operand}{ps:Array Tmp}{f:FuncId}{first cap:Is}(hg:Jb G t g=.fn (.func f) first cap){fn:Func}(aq:P.funcs[f]?=some fn)(F:fn.body.isNone=false)(K:(fn.name== "runtime.NumGoroutine")=false)(h:Qa P G f (first++[.yl (Ax H)]++cap) ((Ax H,.loop N t ps aZ bd (some none))::H) (λ_ H2=>∃N' t' aj V X d,Al H2 (Ax H)=some (.loop N' t' aj V X (some d))/\B6M Q t (cut H2 (Ax H)) d)):Pz P G none m N (.rangeFunc g ps aZ bd) Q t H:=by
 intro w0 s0 C a w s;refine wpIn_rangeFunc ?_;intro aa _;have hv:=AR s g;rw[hg]at hv;obtain⟨ys,zs,he,ax,ay⟩:=Iz.1 hv;have af:=MN w (.deferred (some []));have k:(w.alloc (.deferred (some []))).heap.size=w.heap.size+1:=World.size_alloc _ _;have rD:Rel G w0 C H (w.alloc (.deferred (some []))):=s.rel.of_below af;have A:(w.alloc (.deferred (some []))).heap[w.heap.size]?=some (.deferred (some [])):=World.alloc_heap_new w _;obtain⟨ak,am⟩:=rD.addB (b:=w.heap.size) (by rw[k];omega) (.inl s.rel.below.size) (λr x o hx hp=>l1g _ ((s.rel.rows r x hx).block (Ef hx) hp));have eD:Ext w0.own C w (C.addB w.heap.size) (w.alloc (.deferred (some []))):=(s.rel.ext_below af).trans am;obtain⟨lp,i⟩:∃lp:Loop,lp={state:=.ready,pending:=none,fn:=aa,tmps:=a.tmps,params:=ps,assign:=aZ,body:=bd,defers:=w.heap.size}:=⟨_,rfl⟩
 have D:=MN (w.alloc (.deferred (some []))) (.loop lp);have eL:Ext w0.own (C.addB w.heap.size) (w.alloc (.deferred (some []))) ((C.addB w.heap.size).put (Ax H) (some ((w.alloc (.deferred (some []))).heap.size,0))) ((w.alloc (.deferred (some []))).alloc (.loop lp)):=ak.new_ext D;have j:((w.alloc (.deferred (some []))).alloc (.loop lp)).heap[(w.alloc (.deferred (some []))).heap.size]?=some (.loop lp):=World.alloc_heap_new _ _;have L:=eD.trans eL;have r1:=ak.new_row (x:=.loop N t ps aZ bd (some none)) D ⟨_,lp,Ctx.put_n _ _ _,j,by rw[i];rfl,by rw[i];rfl,by rw[i];exact s.size,by rw[i],by rw[i],by rw[i],(show lp.tmps=a.tmps by rw[i])▸s.tmps.mono L⟩;generalize ac:(C.addB w.heap.size).put (Ax H) (some ((w.alloc (.deferred (some []))).heap.size,0))=R at r1 L;generalize ad:(w.alloc (.deferred (some []))).alloc (.loop lp)=q at r1 L j;have ai:R.π (Ax H)=some (some (w.heap.size+1,0)):=by rw[<-ac,Ctx.put_n,k]
 have ab:R.B w.heap.size:=by rw[<-ac];exact .inr rfl
 have ao:q.heap[w.heap.size]?=some (.deferred (some [])):=by
  rw[<-ad];exact(D.block _ (by rw[k];omega)).trans A
 have ae:Cn R q (first++[.yl (Ax H)]++cap) (ys++[.func (.yield (w.heap.size+1)) #[] #[]]++zs):=((ax.mono L).append (.cons (.yl ai) .nil)).append (ay.mono L);have J:=h w0 R q _ r1 ae;refine⟨w.heap.size+1,[{target:=.collected w.heap.size,args:= #[]}],q,{target:=.fn (.func f) zs.toArray,args:=ys.toArray++ #[Value.func (.yield (w.heap.size+1)) #[] #[]]},q,f,(ys++[Value.func (.yield (w.heap.size+1)) #[] #[]]++zs).toArray,q,?_,?_,λ_ _=>trivial,?_,λhd=>by simp[rO]at hd,?_⟩
 ·rw[<-ad,i];exact run_enterLoop_outer _ _ _ _ _
 ·simp only[resolve,rangeCall,he,Deferred.ofValue,gQ];simp[Act.eval]
 ·simp only[invoke,callFunc,CN,run_program,F3,aq,K,F,tL,if_false,gQ]
  congr 2
  apply lG;simp
 ·refine CallsIn.mono (callsIn_wide.2 J) ?_;rintro e w2 ⟨v,y,n,H2,rfl,r2,az,x2,N',t',aj,V,X,d,ag,hq⟩;have u:Ext w0.own R q n w2:=x2.ext_of r1;have ah:n.π (Ax H)=some (some (w.heap.size+1,0)):=u.at ai;obtain⟨b',M,k1,k2,k3,k4,_⟩:=r2.rows (Ax H) _ ag;have Y:=k1.symm.trans ah;injection Y with Y;injection Y with Y;injection Y with e3 e4;subst e3
  have ar:=(l1q.1 k2).1;obtain⟨r3,Z⟩:=r2.set_obj (O:=w0.own) (y:=.gone) ag ah (SameObj.putObj ar (.loop {M with state:=.exhausted})) (λarr T fz hc=>by rw[k2]at hc;cases hc) (λ_=>trivial);have ex:Ext w0.own C w n (w2.putObj (w.heap.size+1) (.loop {M with state:=.exhausted})):=(L.trans u).trans Z;have p:=u.trans Z;have ap:DOk w0 s0 n (w2.putObj (w.heap.size+1) (.loop {M with state:=.exhausted})) (yC w.heap.size::a.defers):=by
   obtain⟨bs,d1,d2,d3⟩:=s.defers;refine⟨w.heap.size::bs,List.nodup_cons.2 ⟨λhm=>l1g _ (s.rel.finB _ (d3 _ hm).2.2.1),d1⟩,by rw[d2];rfl,λb hb=>?_⟩;rcases Qd.1 hb with rfl|hb
   ·exact⟨s.le,.inl s.rel.below.size,p.B _ ab,(p.keepB _ ab).trans ao⟩
   ·obtain⟨g1,g2,g3,g4⟩:=d3 b hb;exact⟨g1,g2,ex.B _ g3,(ex.keepB _ g3).trans g4⟩
  have st:St G w0 s0 n N t (cut H2 (Ax H)) {a with defers:=[yC w.heap.size]++a.defers} (w2.putObj (w.heap.size+1) (.loop {M with state:=.exhausted})):=
   ⟨r3,s.size,s.tmps.mono ex,ap,gP s.le ex.grow⟩
  refine⟨d,w2.putObj (w.heap.size+1) (.loop {M with state:=.exhausted}),?_,?_⟩
  ·have:=run_endLoop (P:=P) k2 (by rw[k3];cases d<;>simp[B1m]);have hj:M.pending=d:=by rw[k4];cases d<;>rfl
   rw[this,hj]
  ·cases d with
   |none=>exact⟨n,t,_,st,ex.frm,hq⟩
   |some c=>
    cases c with
    |ret=>exact wpIn_ret ⟨n,t,_,st,ex.frm,hq⟩
    |exit id=>exact wpIn_exit ⟨n,t,_,st,ex.frm,hq⟩
    |goto l=>exact wpIn_goto ⟨n,t,_,st,ex.frm,hq⟩
    |_=>exact hq.elim
end
end
section
variable{c:Call}{s:Nat}
def Yo(x:Row)(K:Nat->Tm->Array Tmp->Code->Code->Option (Option Code)->Af):Af:=match x with|.loop N t ps d e a=>K N t ps d e a|_=>none
def Ek(H:Hp)(r:Nat)(ready:Bool)(to:Option (Option Code))(K:Ru):Af:=
 IN H r λx=>Yo x λN t ps d e a=>match ready,a with
  |true,some none=>JI H r (.loop N t ps d e to) K
  |false,none=>JI H r (.loop N t ps d e to) K
  |_,_=>none
def A1n(t:Tm)(ps:List Tmp):Is->(Tm->Af)->Af:=
 @List.rec Tmp (λ_=>Tm->Is->(Tm->Af)->Af) (λt d K=>@List.rec AV (λ_=>Af) (K t) (λ_ _ _=>none) d)
  (λp _ ih t d K=>@List.rec AV (λ_=>Af) none (λa d _=>ih ((p,a)::t) d K) d) ps t
def uX(N:Nat)(ps:List Tmp):Bool:=@List.rec Tmp (λ_=>Bool) true (λp _ ih=>@Bool.rec (λ_=>Bool) false ih (Nat.blt p N)) ps
def Ol(R:Rt)(r:Nat)(args:Is)(H:Hp)(K:KV):Af:=
 IN H r λx=>Yo x λN t ps j k d=>match d with
  |some none=>ck (uX N ps.toList) (A1n t ps.toList args λg=>R.run ⟨true,g.map (·.1),false,N,[]⟩ j g H λe m h=>match e with
   |.normal=>Ek h r true none λi=>R.run ⟨true,g.map (·.1),false,N,[]⟩ k m i λe _ f=>match e with
    |.normal=>Ek f r false (some none) λa=>K (.v (.bool true)) a
    |.ret=>Ek f r false (some (some .ret)) λa=>K (.v (.bool false)) a
    |.exit id=>Ek f r false (some (some (.exit id))) λa=>K (.v (.bool false)) a
    |.goto l=>Ek f r false (some (some (.goto l))) λa=>K (.v (.bool false)) a
    |_=>none
   |_=>none)
  |_=>none
def A6r(E:XE)(R:Rt)(f:AV)(d:Is)(H:Hp)(K:KV):Af:=
 match f with
 |.fn (.func g) first cap=>ck (E.imp g) (WX d cap λa=>WX first a λall=>R.call g all H K)
 |.yl r=>Ol R r d H K
 |_=>none
def C04(i:TI)(K:TypeId->Af):Af:=(λ(_:Unit)=>match i.d with|.pointer e=>K e|_=>none) Hf
def C2n(E:XE)(e:TypeId)(esz:Nat)(ie i2:TI)(s x:AV)(H:Hp)(K:KV):Af:=(λ(_:Unit)=>@Bool.rec (λ_=>Af) (Ed e esz ie i2 s x H K) (vW e esz ie i2 s x H K) (E.ov e)) Hf
def Wc(E:XE)(R:Rt)(t:Tm)(H:Hp)(c:Call)(K:KV):Af:=
 match c.callee with
 |.value j=>Js E t j λf=>mQ E t c.args.toList λh=>A6r E R f h H K
 |.builtin .append=>match c.args.toList,c.argTypes.toList with
  |[s,x],[w,y]=>Js E t s λs=>Js E t x λx=>E.ty.getK w λi1=>E.ty.getK y λi2=>xA i1 λe a=>E.ty.getK e λd=>C2n E e a d i2 s x H K
  |_,_=>none
 |.builtin .copy=>match c.args.toList,c.argTypes.toList with
  |[s,x],ty::_=>Js E t s λs=>Js E t x λx=>E.ty.getK ty λi=>xA i λ_ a=>A0w a s x H K
  |_,_=>none
 |.builtin .clear=>match c.args.toList,c.argTypes.toList with
  |[s],[ty]=>Js E t s λs=>E.ty.getK ty λi=>xA i λe a=>E.ty.getK e λd=>tT a d s H λg=>K (.tup []) g
  |_,_=>none
 |.builtin .delete=>match c.args.toList,c.argTypes.toList with
  |[m,k],ty::_=>Js E t m λm=>Js E t k λk=>E.ty.getK ty λi=>yD i λq _=>A5h E q k λu=>dS m u H λg=>K (.tup []) g
  |_,_=>none
 |.builtin .unsafeString=>match c.args.toList,c.argTypes.toList with
  |[p,n],[v,_]=>Js E t p λp=>Js E t n λn=>E.ty.getK v λi=>C04 i λe=>E.ty.getK e λd=>ckS (Nat.beq d.size 1) (A2p e p n H K)
  |_,_=>none
 |_=>none
def Zo(E:XE)(R:Rt)(t:Tm)(H:Hp)(o:Op)(K:KV):Af:=
 match o with
 |.store ty x y=>Js E t x λp=>Js E t y λv=>E.ty.getK ty λi=>Dr i p v H λa=>K (.v undef) a
 |.alloc ty=>E.ty.getK ty λi=>Ba ty i H K
 |.box ty x=>Js E t x λv=>Hd ty v H K
 |.buildSlice ty n parts=>E.ty.getK ty λi=>xA i λe d=>E.ty.getK e λf=>eV E t i parts.toList λl=>Gt e d f n l H K
 |.call c=>Wc E R t H c K
 |.makeSlice ty l c=>Js E t l λl=>Js E t c λc=>E.ty.getK ty λi=>xA i λe d=>E.ty.getK e λf=>eMk e d f l c H K
 |.makeMap ty none=>E.ty.getK ty λi=>yD i λ_ j=>E.ty.getK j λf=>JK f H K
 |.mapUpdate ty m k v=>Js E t m λm=>Js E t k λk=>Js E t v λv=>E.ty.getK ty λi=>yD i λg _=>A5h E g k λh=>Oh m h v H λa=>K (.v undef) a
 |.insert ty m k v=>Js E t m λm=>Js E t k λk=>Js E t v λv=>E.ty.getK ty λi=>yD i λg _=>A5h E g k λh=>Oh m h v H λa=>K (.v undef) a
 |.mapEntry ty m k=>Js E t m λm=>Js E t k λk=>E.ty.getK ty λi=>yD i λg j=>A5h E g k λh=>E.ty.getK j λf=>dR f m h H K
 |.entryStore _ m st v=>Js E t m λm=>Js E t st λst=>Js E t v λv=>qV m st v H λa=>K (.v undef) a
 |.range ty x=>Js E t x λm=>E.ty.getK ty λi=>yD i λ_ _=>dP m H K
 |.next it false=>Js E t it λv=>dQ v H K
 |_=>none
section
variable{D:XE->Cf->Nat->List Oper->Bool}{E:XE}{P:Program}{R:Rt}{t:Tm}{H:Hp}{r:AV×Hp}{ro:Option Nat}{N:Nat}
def YR{x:Row}{K:Nat->Tm->Array Tmp->Code->Code->Option (Option Code)->Af}(h:Yo x K=some r):∃N t ps d e a,x=.loop N t ps d e a/\K N t ps d e a=some r:=by
 unfold Yo at h;split at h
 ·exact⟨_,_,_,_,_,_,rfl,h⟩
 ·cases h
def MW{ready:Bool}{to:Option (Option Code)}{K:Ru}(h:Ek H s ready to K=some r):
 ∃N t ps a d,Al H s=some (.loop N t ps a d (if ready then some none else none))/\K (upd H s (.loop N t ps a d to))=some r:=by
 unfold Ek at h;obtain⟨x,h1,h2⟩:=HC rfl h;obtain⟨N,t,ps,a,d,f,rfl,e⟩:=YR h2;clear h h2;have h:=e;clear e;split at h
 ·rw[C5]at h;exact⟨N,t,ps,a,d,h1,h⟩
 ·rw[C5]at h;exact⟨N,t,ps,a,d,h1,h⟩
 ·cases h
def M! :∀(ps:List Tmp)(t:Tm)(d:Is)(K:Tm->Af),A1n t ps d K=some r->ps.length=d.length/\K (uG t ps d)=some r:=by
 intro ps
 induction ps with
 |nil=>
  intro t d K h;cases d with
  |nil=>exact⟨rfl,h⟩
  |cons a d=>cases h
 |cons p ps ih=>
  intro t d K h;cases d with
  |nil=>cases h
  |cons a d=>
   obtain⟨h1,h2⟩:=ih ((p,a)::t) d K h;exact⟨by simpa using h1,h2⟩
def A5e{ps:List Tmp}(h:uX N ps=true):∀p∈ps,p<N:=by
 induction ps with
 |nil=>intro p a;simp at a
 |cons q ps ih=>
  have e:uX N (q::ps)=@Bool.rec (λ_=>Bool) false (uX N ps) (Nat.blt q N):=rfl;rw[e]at h;cases hq:Nat.blt q N
  ·rw[hq]at h;cases h
  ·rw[hq]at h;intro p a;rcases Qd.1 a with rfl|a
   ·rwa[VD]at hq
   ·exact ih h p a
def Uu(m:RSound D E P R){o:Oper}{j:Operand}{K:KV}(B:o.op=.call c)(a:c.callee=.value j)(y:Jb E.G t j=.yl s)(h:Ol R s (c.args.toList.map (Jb E.G t)) H K=some r):SH P E.G ro N o t H (λv p=>K v p=some r):=by
 unfold Ol at h;obtain⟨x,A,h2⟩:=HC rfl h;obtain⟨L,O,ps,u,w,n,rfl,k⟩:=YR h2;clear h h2;have h:=k;clear k;split at h
 ·obtain⟨h1,h⟩:=Br h;obtain⟨h2,h⟩:=M! _ _ _ _ h;refine A2X B a y rfl A (by simpa using h2) (A5e h1) λb=>?_;refine Pz.mono (m.run (some b) _ u _ H _ r (Ax H) (λ_=>rfl) (λh=>by cases h) h) λe Q F hq=>?_;cases e with
  |normal=>
   obtain⟨q,C,i,d,f,g,hq⟩:=MW hq;refine⟨q,C,i,d,f,g,Pz.mono (m.run (some b) _ w _ _ _ r (Ax H) (λ_=>rfl) (λh=>by cases h) hq) λe V J hq=>?_⟩;cases e with
   |normal=>exact MW hq
   |ret=>exact MW hq
   |exit id=>exact MW hq
   |goto l=>exact MW hq
   |panic M=>cases hq
   |outgrown=>cases hq
  |_=>cases hq
 ·cases h
def wr(e:XE.Ok D E P){o:Oper}{v:AV}{a:Hp}{K:KV}(g:∀c,o.op≠.defer c)(h:B0x (E.env P) o.op t H (Ax H) (λi d=>i=v/\d=a))(f:K v a=some r):SH P E.G ro N o t H (λv a=>K v a=some r):=
 SH.mono (T6 g (A18 (E:=E.env P) e.env h)) (by rintro _ _ ⟨rfl,rfl⟩;exact f)
def A9X{o:Oper}{K:AV->Hp->Prop}{e:Hp}(d:∀{G:Gl}{w0:Base}{C:Ctx}{w:World},Rel G w0 C H w->Rel G w0 C e w)(h:SH P E.G ro N o t e K):SH P E.G ro N o t H K:=
 λw0 f C a w Q s=>h w0 f C a w Q ⟨d s.rel,s.size,s.tmps,s.defers,s.le⟩
def PV{o:Oper}{K:KV}(i:∀c,o.op≠.defer c)(h:∀(w0:Base)(s0:Nat)(C:Ctx)(N:Nat)(a:Act)(w:World),St E.G w0 s0 C N t H a w->∃v d y f e,K v d=some r/\((execOp a.eval o).run P w=.ok (.value y) e\/((execOp a.eval o).run P w=.ok .skip e/\y=undef))/\JB E.G w0 C w v d y f e):SH P E.G ro N o t H (λv d=>K v d=some r):=
 T6 i λw0 s0 C N a w s=>let⟨v,d,y,f,e,h1,h2,g⟩:=h w0 s0 C N a w s;⟨v,d,y,f,e,h1,h2,g.1,g.2.1,g.2.2⟩
def KP(y:XE.Ok D E P)(hR:RSound D E P R){o:Oper}(Q:o.op=.call c){K:KV}(h:Wc E R t H c K=some r):SH P E.G ro N o t H (λv A=>K v A=some r):=by
 have nd:∀c,o.op≠.defer c:=λc hc=>by rw[Q]at hc;cases hc
 unfold Wc at h;split at h
 ·rename_i fv d;have h:=QC y _ _ (AU y h);unfold A6r at h;split at h
  ·rename_i g first cap hf;obtain⟨_,h⟩:=Br h;rw[LR,LR,<-eU]at h;obtain⟨⟨fn,h1,h2,J⟩,hc⟩:=hR.call _ _ _ _ _ h;exact Sc Q d hf h1 h2 J hc
  ·rename_i s hf;exact Uu hR Q d hf h
  ·cases h
 ·rename_i d;split at h
  ·rename_i s x t1 t2 O j;obtain⟨i1,ab,h⟩:=AW (AU y (AU y h));obtain⟨i2,ac,h⟩:=AW h;obtain⟨e,B,L,h⟩:=Qx h;obtain⟨Z,F,h⟩:=AW h;have main:Ed e B Z i2 (Jb E.G t s) (Jb E.G t x) H K=some r->SH P E.G ro N o t H (λv A=>K v A=some r):=λh=>by
    unfold Ed at h;obtain⟨H1,h,aj,M⟩:=nW h;obtain⟨v,A,hK,Y⟩:=vX (T:=E.T) ab ac L F h;refine A9X M ?_;exact wr y nd (by rw[Q];simp only[B0x,d,O,j];exact Y) hK
   change @Bool.rec (λ_=>Af) (Ed e B Z i2 (Jb E.G t s) (Jb E.G t x) H K) (vW e B Z i2 (Jb E.G t s) (Jb E.G t x) H K) (E.ov e)=some r at h;cases ad:E.ov e
   ·rw[ad]at h;exact main h
   rw[ad]at h;change vW e B Z i2 (Jb E.G t s) (Jb E.G t x) H K=some r at h;unfold vW at h;split at h
   rotate_left
   ·exact main h
   rename_i sz r1 o1 n1 ak;obtain⟨m,ys,q,ae,h⟩:=XD h;obtain⟨H1,h,aj,M⟩:=nW h;obtain⟨v,A,hK,Y⟩:=vX (T:=E.T) ab ac L F h;refine PV nd λw0 s0 C N a w st=>?_;have af:=AR st x;rw[ak]at af;obtain⟨v,A,u,C',V,⟨h1,h2⟩,J,h4⟩:=Wd (P:=P) (ty:=o.type) (ts:=c.argTypes) (T:=E.T) y.ty (t1:=t1) (t2:=t2) (by rw[<-l21,j];rfl) (by rw[<-l21,j];rfl) (M st.rel) (AR st s) (z:=a.eval x) (λao m' ap q' ha ai _=>by
    injection ha with ha
    injection ha with e1 e2
    injection e2 with e2 e3
    subst e1 e2 e3;exact V1 st.rel af (q:=q) ae ai (λs hs=>by cases hs)) Y
   subst h1 h2;refine⟨v,A,u,C',V,hK,.inl ?_,h4⟩;have f:c.args.map a.eval= #[a.eval s,a.eval x]:=by apply lG;simp[O]
   rw[HK Q _ d,f];show(do pure (Next.value (<-Builtin.append_ c.argTypes o.type #[a.eval s,a.eval x]))).run P w=_;rw[CN,J];rfl
  ·cases h
 ·rename_i d;split at h
  ·rename_i s x ty am O j;obtain⟨i,X,h⟩:=AW (AU y (AU y h));obtain⟨e,B,L,h⟩:=Qx h;refine PV nd λw0 s0 C N a w st=>?_;obtain⟨v,A,u,V,h1,h2,J⟩:=A2F (P:=P) (T:=E.T) (ty:=o.type) (ts:=c.argTypes) y.ty (by rw[<-l21,j];rfl) X L (y.pos ty i e B X (.inl L)) st.rel (AR st s) (AR st x) h;refine⟨v,A,u,C,V,h1,.inl ?_,J⟩;have f:c.args.map a.eval= #[a.eval s,a.eval x]:=by apply lG;simp[O]
   rw[HK Q _ d,f];show(do pure (Next.value (<-Builtin.copy_ c.argTypes o.type #[a.eval s,a.eval x]))).run P w=_;rw[CN,h2];rfl
  ·cases h
 ·rename_i d;split at h
  ·rename_i s ty O j;obtain⟨i,X,h⟩:=AW (AU y h);obtain⟨e,B,L,h⟩:=Qx h;obtain⟨Z,F,h⟩:=AW h;refine PV nd λw0 s0 C N a w st=>?_;obtain⟨A,V,h1,h2,J,h4⟩:=A2H (P:=P) (T:=E.T) (ty:=o.type) (ts:=c.argTypes) y.ty (by rw[<-l21,j];rfl) X L F st.rel (AR st s) h;refine⟨_,A,.tuple #[],C,V,h1,.inl ?_,Ds.2 ⟨[],rfl,.nil⟩,J,h4⟩;have f:c.args.map a.eval= #[a.eval s]:=by apply lG;simp[O]
   rw[HK Q _ d,f];show(do pure (Next.value (<-Builtin.clear_ c.argTypes o.type #[a.eval s]))).run P w=_;rw[CN,h2];rfl
  ·cases h
 ·rename_i d;split at h
  ·rename_i m k ty am O j;obtain⟨i,X,h⟩:=AW (AU y (AU y h));obtain⟨kt,et,L,h⟩:=OI h;obtain⟨kv,hk,h,ah⟩:=Uc y h;refine PV nd λw0 s0 C N a w st=>?_;obtain⟨A,V,h1,h2,J,h4⟩:=A0s (P:=P) (ty:=o.type) (ts:=c.argTypes) (by rw[<-l21,j];rfl) (OH y X L) hk st.rel (AR st m) h;refine⟨_,A,.tuple #[],C,V,h1,.inl ?_,Ds.2 ⟨[],rfl,.nil⟩,J,h4⟩;have f:c.args.map a.eval= #[a.eval m,kv]:=by apply lG;simp[O,ah (AR st k)]
   rw[HK Q _ d,f];show(do pure (Next.value (<-Builtin.delete_ c.argTypes o.type #[a.eval m,kv]))).run P w=_;rw[CN,h2];rfl
  ·cases h
 ·rename_i d;split at h
  ·rename_i p n pt it O j;obtain⟨i,X,h⟩:=AW (AU y (AU y h));unfold C04 at h;split at h
   ·rename_i e L;obtain⟨Z,F,h⟩:=AW h;obtain⟨ag,h⟩:=KL h;refine PV nd λw0 s0 C N a w st=>?_;obtain⟨v,A,u,V,h1,h2,J⟩:=A2o (P:=P) (T:=E.T) (it:=it) (ty:=o.type) y.ty X L F (Xz ag) st.rel (AR st p) (AR st n) h;refine⟨v,A,u,C,V,h1,.inl ?_,J⟩;have f:c.args.map a.eval= #[a.eval p,a.eval n]:=by apply lG;simp[O]
    have aa:c.argTypes= #[pt,it]:=by apply lG;simp[j]
    rw[HK Q _ d,f,aa];show(do pure (Next.value (<-Builtin.unsafeString_ #[pt,it] o.type #[a.eval p,a.eval n]))).run P w=_;rw[CN,h2];rfl
   ·cases h
  ·cases h
 ·cases h
def Hn(f:XE.Ok D E P)(hR:RSound D E P R){o:Oper}{K:KV}(h:Zo E R t H o.op K=some r):SH P E.G ro N o t H (λv g=>K v g=some r):=by
 unfold Zo at h;split at h
 all_goals try (cases h;done)
 case h_1 ty x y d=>
  obtain⟨i,j,h⟩:=AW (AU f (AU f h));obtain⟨g,J,L⟩:=A9b (T:=E.T) (ty:=ty) j h;refine SH.mono (T6 (λc hc=>by rw[d]at hc;cases hc) (uB (E:=E.env P) (K:=λv aa=>v=.v undef/\aa=g) f.env (by rw[d];simpa [mT,XE.env] using L))) ?_;rintro _ _ ⟨rfl,rfl⟩;exact J
 case h_2 ty d=>
  obtain⟨i,j,h⟩:=AW h;obtain⟨v,g,J,L⟩:=A0z (T:=E.T) j h;exact wr f (λc hc=>by rw[d]at hc;cases hc) (by rw[d];exact L) J
 case h_3 ty x d=>
  obtain⟨v,g,J,L⟩:=A5H (ty:=ty) (AU f h);exact wr f (λc hc=>by rw[d]at hc;cases hc) (by rw[d];exact L) J
 case h_4 ty n parts d=>
  obtain⟨i,j,h⟩:=AW h;obtain⟨e,ab,A,h⟩:=Qx h;obtain⟨Y,B,h⟩:=AW h;obtain⟨l,h1,h2⟩:=Wb f _ _ h;obtain⟨v,g,J,L⟩:=A9v (T:=E.T) (ps:=parts.toList.map λp=>(p.1,Jb E.G t p.2)) j A B (by rw[<-h2];simp[Qk,A]) h1;exact wr f (λc hc=>by rw[d]at hc;cases hc) (by rw[d];exact L) J
 case h_5 c d=>exact KP f hR d h
 case h_6 ty l c d=>
  obtain⟨i,j,h⟩:=AW (AU f (AU f h));obtain⟨e,ab,A,h⟩:=Qx h;obtain⟨Y,B,h⟩:=AW h;refine T6 (λc hc=>by rw[d]at hc;cases hc) λw0 M C N a w s=>?_;obtain⟨v,g,y,O,q,J,X,hv,hr,L⟩:=A5B (P:=P) (T:=E.T) f.ty j A B (AR s l) (AR s c) s.rel h;refine⟨v,g,y,O,q,J,.inl ?_,hv,hr,L⟩;simp only[execOp,d];rw[CN,X];rfl
 case h_7 ty d=>
  obtain⟨i,j,h⟩:=AW h;obtain⟨Z,Q,A,h⟩:=OI h;obtain⟨Y,B,h⟩:=AW h;refine PV (λc hc=>by rw[d]at hc;cases hc) λw0 M C N a w st=>?_;obtain⟨v,g,y,O,q,h1,h2,u⟩:=A0o (P:=P) (ty:=ty) st.rel h;refine⟨v,g,y,O,q,h1,.inl ?_,u⟩;simp only[execOp,d];have:(Instr.makeMap ty (Option.map a.eval none)).run P w=.ok y q:=h2;rw[CN,this];rfl
 case h_8 ty m k v d=>
  obtain⟨i,j,h⟩:=AW (AU f (AU f (AU f h)));obtain⟨Z,Q,A,h⟩:=OI h;obtain⟨kv,hk,h,F⟩:=Uc f h;refine PV (λc hc=>by rw[d]at hc;cases hc) λw0 M C N a w st=>?_;obtain⟨g,q,h1,h2,u,V⟩:=qU (P:=P) (OH f j A) hk st.rel (AR st m) (AR st v) h;refine⟨_,g,undef,C,q,h1,.inr ⟨?_,rfl⟩,.v _,u,V⟩;simp only[execOp,d];rw[CN,F (AR st k),h2];rfl
 case h_9 ty m k v d=>
  obtain⟨i,j,h⟩:=AW (AU f (AU f (AU f h)));obtain⟨Z,Q,A,h⟩:=OI h;obtain⟨kv,hk,h,F⟩:=Uc f h;refine PV (λc hc=>by rw[d]at hc;cases hc) λw0 M C N a w st=>?_;obtain⟨g,q,h1,h2,u,V⟩:=qU (P:=P) (OH f j A) hk st.rel (AR st m) (AR st v) h;refine⟨_,g,undef,C,q,h1,.inr ⟨?_,rfl⟩,.v _,u,V⟩;simp only[execOp,d];rw[CN,F (AR st k),h2];rfl
 case h_10 ty m k d=>
  obtain⟨i,j,h⟩:=AW (AU f (AU f h));obtain⟨Z,Q,A,h⟩:=OI h;obtain⟨kv,hk,h,F⟩:=Uc f h;obtain⟨Y,B,h⟩:=AW h;refine PV (λc hc=>by rw[d]at hc;cases hc) λw0 M C N a w st=>?_;obtain⟨v,g,y,q,h1,h2,u⟩:=A0r (P:=P) (OH f j A) (f.ty Q Y B) hk st.rel (AR st m) h;refine⟨v,g,y,C,q,h1,.inl ?_,u⟩;simp only[execOp,d];rw[CN,F (AR st k),h2];rfl
 case h_11 ty m s v d=>
  have h:=AU f (AU f (AU f h));refine PV (λc hc=>by rw[d]at hc;cases hc) λw0 M C N a w st=>?_;obtain⟨g,q,h1,h2,u,V⟩:=A0n (P:=P) (mt:=ty) st.rel (AR st m) (AR st s) (AR st v) h;refine⟨_,g,undef,C,q,h1,.inr ⟨?_,rfl⟩,.v _,u,V⟩;simp only[execOp,d];rw[CN,h2];rfl
 case h_12 ty x d=>
  obtain⟨i,j,h⟩:=AW (AU f h);obtain⟨Z,Q,A,h⟩:=OI h;refine PV (λc hc=>by rw[d]at hc;cases hc) λw0 M C N a w st=>?_;obtain⟨v,g,y,O,q,h1,h2,u⟩:=A2v (P:=P) (OH f j A) st.rel (AR st x) h;refine⟨v,g,y,O,q,h1,.inl ?_,u⟩;simp only[execOp,d];rw[CN,h2];rfl
 case h_13 it d=>
  have h:=AU f h;refine PV (λc hc=>by rw[d]at hc;cases hc) λw0 M C N a w st=>?_;obtain⟨v,g,y,q,h1,h2,u⟩:=A2x (P:=P) (ty:=o.type) st.rel (AR st it) h;refine⟨v,g,y,C,q,h1,.inl ?_,u⟩;simp only[execOp,d];rw[CN,h2];rfl
end
end
section
variable{K:KV}{d:Option Tmp}
def A0f(b:Bool)(all:Is)(H:Hp)(K:KV)(x:Af):Af:=
 (λ(_:Unit)=>match b with
  |true=>(match all with|[v]=>K v H|_=>none)
  |false=>x) Hf
def C7(E:XE)(R:Rt)(f:AV)(c:Is)(H:Hp)(K:KV):Af:=
 match f with
 |.fn (.func g) first cap=>RM c cap λa=>RM first a λall=>A0f (E.ne g) all H K (@Bool.rec (λ_=>Af) (zpm E g R all H λv=>K v H) (R.call g all H K) (E.imp g))
 |.yl r=>Ol R r c H K
 |_=>none
def wJ(E:XE)(R:Rt)(f:AV)(c:Is)(H:Hp)(K:KV):Af:=
 match f with
 |.fn (.func g) first cap=>RM c cap λa=>RM first a λall=>A0f (E.ne g) all H K (@Bool.rec (λ_=>Af) (zpm E g R all H λv=>K v H) (@Bool.rec (λ_=>Af) (R.call g all H K) (Aj R g all H λv=>K v H) (E.lm g)) (E.imp g))
 |.yl r=>Ol R r c H K
 |_=>none
def A14(E:XE)(R:Rt)(fz:Bool)(t:Tm)(H:Hp)(c:Call)(K:KV):Af:=
 match c.callee with
 |.value e=>Js E t e λf=>mQ E t c.args.toList λa=>@Bool.rec (λ_=>Af) (C7 E R f a H K) (wJ E R f a H K) fz
 |.builtin .append=>Wc E R t H c K
 |.builtin .copy=>Wc E R t H c K
 |.builtin .clear=>Wc E R t H c K
 |.builtin .delete=>Wc E R t H c K
 |.builtin .unsafeString=>Wc E R t H c K
 |.builtin _=>wL E R t H c λv=>K v H
 |_=>none
def B45:TD->Bool
 |.string=>true
 |_=>false
def zcv(E:XE)(R:Rt)(t:Tm)(H:Hp)(s d:TypeId)(x:Operand)(K:KV):Af:=
 E.ty.getK s λi=>E.ty.getK d λj=>(λ(_:Unit)=>match j.d with
  |.slice e _=>ckS (B45 i.d) (E.ty.getK e λc=>ckS (A2b c.d) (Js E t x λa=>A0l e a H K))
  |_=>QB E R t H (.convert s d x) λv=>K v H) Hf
def zop(E:XE)(R:Rt)(fz:Bool)(t:Tm)(H:Hp)(o:Op)(K:KV):Af:=
 match o with
 |.call c=>A14 E R fz t H c K
 |.store a b c=>Zo E R t H (.store a b c) K
 |.alloc a=>Zo E R t H (.alloc a) K
 |.box a b=>Zo E R t H (.box a b) K
 |.makeSlice a b c=>Zo E R t H (.makeSlice a b c) K
 |.makeMap a b=>Zo E R t H (.makeMap a b) K
 |.mapUpdate a b c d=>Zo E R t H (.mapUpdate a b c d) K
 |.insert a b c d=>Zo E R t H (.insert a b c d) K
 |.mapEntry a b c=>Zo E R t H (.mapEntry a b c) K
 |.entryStore a b c d=>Zo E R t H (.entryStore a b c d) K
 |.range a b=>Zo E R t H (.range a b) K
 |.next a b=>Zo E R t H (.next a b) K
 |.convert a b c=>zcv E R t H a b c K
 |.buildSlice a b c=>@Bool.rec (λ_=>Af) (Zo E R t H (.buildSlice a b c) K) (QB E R t H (.buildSlice a b c) λv=>K v H) fz
 |o=>QB E R t H o λv=>K v H
def VS(want:Bool)(v:AV)(K:Bool->Af):Af:=
 match v with
 |.v (.bool b)=>@Bool.rec (λ_=>Af) (@Bool.rec (λ_=>Af) (K true) (K false) b) (@Bool.rec (λ_=>Af) (K false) (K true) b) want
 |.dk=>none
 |_=>K false
def gdK(all:List Oper)(t:Tm)(g:Option (Nat×Bool))(K:Bool->Af):Af:=
 match g with
 |none=>K true
 |some (j,want)=>match all[j]? with
  |some p=>match p.dst with
   |some d=>gtm t d λv=>VS want v K
   |none=>K false
  |none=>K false
def A0A(N:Nat)(d:Option Tmp)(K:Af):Af:=(λ(_:Unit)=>match d with|some d=>ckS (Nat.blt d N) K|none=>K) Hf
def PG(t:Tm)(d:Option Tmp)(v:AV)(K:Tm->Af):Af:=(λ(_:Unit)=>match d with|some d=>K ((d,v)::t)|none=>K t) Hf
def A5m(g:Option (Nat×Bool))(x y:Af):Af:=(λ(_:Unit)=>match g with|none=>x|some _=>y) Hf
def CP(a:Af)(K:KV):Af:=match a with|some (v,H)=>K v H|none=>none
def A4m(E:XE)(R:Rt)(fz:Bool)(N:Nat)(all:List Oper)(l:List Oper):Tm->Hp->(Tm->Ru)->Af:=
 @List.rec Oper (λ_=>Tm->Hp->(Tm->Ru)->Af) (λt H K=>K t H)
  (λo _ ih t H K=>A0A N o.dst (A5m o.guard (zop E R fz t H o.op λv a=>PG t o.dst v λc=>ih c a K)
   (CP (gdK all t o.guard λg=>@Bool.rec (λ_=>Af) (some (.v undef,H)) (zop E R fz t H o.op λv a=>some (v,a)) g) λv a=>PG t o.dst v λc=>ih c a K))) l
section
variable{D:XE->Cf->Nat->List Oper->Bool}{E:XE}{P:Program}{R:Rt}{t:Tm}{H:Hp}{r:AV×Hp}{ro:Option Nat}{N m:Nat}{fz:Bool}
def wM(n:XE.Ok D E P)(i:RSound D E P R){o:Oper}{c:Call}(f:o.op=.call c)(h:A14 E R fz t H c K=some r):SH P E.G ro N o t H (λv x=>K v x=some r):=by
 unfold A14 at h;split at h
 ·rename_i u a;have h:=QC n _ _ (AU n h);cases fz
  ·have h:C7 E R (Jb E.G t u) ([]++c.args.toList.map (Jb E.G t)) H K=some r:=h;unfold C7 at h;split at h
   ·rename_i g first cap j;rw[I6,I6,<-eU]at h;cases e:E.ne g
    rotate_left
    ·rw[e]at h;unfold A0f at h;simp only at h;split at h
     ·rename_i v k;exact A4h (n.ne g e) f a j k h
     ·cases h
    rw[e]at h;have h:@Bool.rec (λ_=>Af) (zpm E g R (first++c.args.toList.map (Jb E.G t)++cap) H λv=>K v H) (R.call g (first++c.args.toList.map (Jb E.G t)++cap) H K) (E.imp g)=some r:=h;cases q:E.imp g
    ·rw[q]at h;obtain⟨⟨fn,h1,h2,p⟩,hc⟩:=Zf i h;exact SH.mono (Sc f a j h1 h2 p hc) (by rintro _ _ ⟨rfl,h⟩;exact h)
    ·rw[q]at h;obtain⟨⟨fn,h1,h2,p⟩,hc⟩:=i.call _ _ _ _ _ h;exact Sc f a j h1 h2 p hc
   ·rename_i s j;exact Uu i f a j h
   ·cases h
  ·have h:wJ E R (Jb E.G t u) ([]++c.args.toList.map (Jb E.G t)) H K=some r:=h;unfold wJ at h;split at h
   ·rename_i g first cap j;rw[I6,I6,<-eU]at h;cases e:E.ne g
    rotate_left
    ·rw[e]at h;unfold A0f at h;simp only at h;split at h
     ·rename_i v k;exact A4h (n.ne g e) f a j k h
     ·cases h
    rw[e]at h;have h:@Bool.rec (λ_=>Af) (zpm E g R (first++c.args.toList.map (Jb E.G t)++cap) H λv=>K v H) (@Bool.rec (λ_=>Af) (R.call g (first++c.args.toList.map (Jb E.G t)++cap) H K) (Aj R g (first++c.args.toList.map (Jb E.G t)++cap) H λv=>K v H) (E.lm g)) (E.imp g)=some r:=h;cases q:E.imp g
    ·rw[q]at h;obtain⟨⟨fn,h1,h2,p⟩,hc⟩:=Zf i h;exact SH.mono (Sc f a j h1 h2 p hc) (by rintro _ _ ⟨rfl,h⟩;exact h)
    ·rw[q]at h;have h:@Bool.rec (λ_=>Af) (R.call g (first++c.args.toList.map (Jb E.G t)++cap) H K) (Aj R g (first++c.args.toList.map (Jb E.G t)++cap) H λv=>K v H) (E.lm g)=some r:=h;cases w:E.lm g
     ·rw[w]at h;obtain⟨⟨fn,h1,h2,p⟩,hc⟩:=i.call _ _ _ _ _ h;exact Sc f a j h1 h2 p hc
     ·rw[w]at h;obtain⟨⟨fn,h1,h2,p⟩,hc⟩:=Xg i (K:=λv=>K v H) h;exact SH.mono (Sc f a j h1 h2 p hc) (by rintro _ _ ⟨rfl,h⟩;exact h)
   ·rename_i s j;exact Uu i f a j h
   ·cases h
 ·exact KP n i f h
 ·exact KP n i f h
 ·exact KP n i f h
 ·exact KP n i f h
 ·exact KP n i f h
 ·exact SH.mono (Zq n i f h) (by rintro _ _ ⟨rfl,h⟩;exact h)
 ·cases h
def A4s(g:XE.Ok D E P)(hR:RSound D E P R){o:Oper}{s d:TypeId}{x:Operand}(J:o.op=.convert s d x)(h:zcv E R t H s d x K=some r):SH P E.G ro N o t H (λv y=>K v y=some r):=by
 obtain⟨i,hi,h⟩:=AW h;obtain⟨j,hj,h⟩:=AW h;simp only at h;split at h
 ·rename_i e z hd;obtain⟨p,h⟩:=KL h;obtain⟨V,F,h⟩:=AW h;obtain⟨f,h⟩:=KL h;have h:=AU g h;refine T6 (λc hc=>by rw[J]at hc;cases hc) λw0 s0 C N a w st=>?_;obtain⟨str,hy,v,y,Y,Z,X,hK,n,hv,hr,hx⟩:=A2u (P:=P) st.rel (AR st x) h;refine⟨v,y,Y,Z,X,hK,.inl ?_,hv,hr,hx⟩;have B:(convert s d (a.eval x)).run P w=.ok Y X:=by
   obtain⟨u1,L,Q⟩:=(g.ty s i hi).under;obtain⟨M,_⟩:=(g.ty d j hj).elem_slice hd;obtain⟨u3,O,A⟩:=(g.ty e V F).under;have u:u3=.int .u8:=by
    cases hq:V.d with
    |int k=>
     rw[hq]at f A;cases k<;>simp[A2b]at f
     cases u3<;>simp[td]at A
     rw[A]
    |_=>rw[hq]at f;simp[A2b]at f
   have q:u1=.string:=by
    cases hq:i.d with
    |string=>
     rw[hq]at Q;cases u1<;>simp[td]at Q
     rfl
    |_=>rw[hq]at p;simp[B45]at p
   subst u q;rw[hy];unfold convert;rw[CN,run_underlying L w];simp only[F3];rw[CN,run_underlying M w];simp only[F3];rw[CN,run_underlying O w];simp only[F3];exact n
  simp only[execOp,J];rw[CN,B];rfl
 ·exact SH.mono (So (K:=λv=>K v H) g hR (by rw[J];exact h)) (by rintro _ _ ⟨rfl,h⟩;exact h)
def eX(e:XE.Ok D E P)(f:RSound D E P R){o:Oper}(h:zop E R fz t H o.op K=some r):SH P E.G ro N o t H (λv g=>K v g=some r):=by
 unfold zop at h;split at h
 ·rename_i c a;exact wM e f a h
 ·rename_i a;exact Hn e f (by rw[a];exact h)
 ·rename_i a;exact Hn e f (by rw[a];exact h)
 ·rename_i a;exact Hn e f (by rw[a];exact h)
 ·rename_i a;exact Hn e f (by rw[a];exact h)
 ·rename_i a;exact Hn e f (by rw[a];exact h)
 ·rename_i a;exact Hn e f (by rw[a];exact h)
 ·rename_i a;exact Hn e f (by rw[a];exact h)
 ·rename_i a;exact Hn e f (by rw[a];exact h)
 ·rename_i a;exact Hn e f (by rw[a];exact h)
 ·rename_i a;exact Hn e f (by rw[a];exact h)
 ·rename_i a;exact Hn e f (by rw[a];exact h)
 ·rename_i a;exact A4s e f a h
 ·rename_i a;cases fz
  ·exact Hn e f (by rw[a];exact h)
  ·exact SH.mono (So (K:=λv=>K v H) e f (by rw[a];exact h)) (by rintro _ _ ⟨rfl,h⟩;exact h)
 ·exact SH.mono (So e f h) (by rintro _ _ ⟨rfl,h⟩;exact h)
def dE{all:List Oper}{o:Oper}{K:Bool->Af}(h:gdK all t o.guard K=some r):(K true=some r/\(Gn all t o=.run\/Gn all t o=.dep true))\/(K false=some r/\(Gn all t o=.skip\/Gn all t o=.dep false)):=by
 unfold gdK at h;unfold Gn;split at h
 ·rename_i c;rw[c];exact .inl ⟨h,.inl rfl⟩
 ·rename_i j want c;rw[c];simp only;split at h
  ·rename_i p e;rw[e];simp only;split at h
   ·rename_i d a;rw[a];rw[To]at h;simp only;unfold VS at h;split at h
    ·rename_i b hb;rw[hb];simp only[T4];cases want<;>cases b
     ·exact .inl ⟨h,.inr rfl⟩
     ·exact .inr ⟨h,.inr rfl⟩
     ·exact .inr ⟨h,.inr rfl⟩
     ·exact .inl ⟨h,.inr rfl⟩
    ·cases h
    ·rename_i h1 h2;refine .inr ⟨h,.inl ?_⟩;have:T4 (GY t d)=.skip:=by
      unfold T4;split
      ·rename_i b hb;exact absurd hb (h1 b)
      ·rename_i hb;exact absurd hb h2
      ·rfl
     rw[this]
   ·rename_i a;rw[a];exact .inr ⟨h,.inl rfl⟩
  ·rename_i e;rw[e];exact .inr ⟨h,.inl rfl⟩
def iQ{K:Af}(h:A0A N d K=some r):dok N d/\K=some r:=by
 unfold A0A at h;split at h
 ·obtain⟨h1,h2⟩:=Br h;rw[VD]at h1;exact⟨h1,h2⟩
 ·exact⟨trivial,h⟩
def Un{a:Af}(h:CP a K=some r):∃v c,a=some (v,c)/\K v c=some r:=by
 unfold CP at h;split at h
 ·exact⟨_,_,rfl,h⟩
 ·cases h
def Sq{v:AV}{K:Tm->Af}:PG t d v K=K (QH t d v):=by cases d<;>rfl
def A0Y(y:XE.Ok D E P)(A:RSound D E P R){all:List Oper}:∀(l:List Oper)(t:Tm)(H:Hp)(K:Tm->Ru),A4m E R fz N all l t H K=some r->
 B? P E.G ro m N all.toArray l (λe i c=>e=.normal/\K i c=some r) t H:=by
 intro l
 induction l with
 |nil=>intro t H K h;exact A9W ⟨rfl,h⟩
 |cons o l ih=>
  intro t H K h;have h:A0A N o.dst (A5m o.guard (zop E R fz t H o.op λv c=>PG t o.dst v λi=>A4m E R fz N all l i c K)
   (CP (gdK all t o.guard λg=>@Bool.rec (λ_=>Af) (some (.v undef,H)) (zop E R fz t H o.op λv c=>some (v,c)) g) λv c=>PG t o.dst v λi=>A4m E R fz N all l i c K))=some r:=h
  obtain⟨p,h⟩:=iQ h;intro w0 O C a w s;have j:=rJ s.tmps all o;cases f:o.guard with
  |none=>
   have k:Gn all t o=.run:=by unfold Gn;rw[f]
   rw[f]at h;have h:(zop E R fz t H o.op λv c=>PG t o.dst v λi=>A4m E R fz N all l i c K)=some r:=h;refine A0J p s (j.1 k) (SH.mono (eX y A h) λv c hk=>?_);rw[Sq]at hk;exact ih _ _ _ hk
  |some F=>
   rw[f]at h;have h:(CP (gdK all t (some F) λg=>@Bool.rec (λ_=>Af) (some (.v undef,H)) (zop E R fz t H o.op λv c=>some (v,c)) g) λv c=>PG t o.dst v λi=>A4m E R fz N all l i c K)=some r:=h;rw[<-f]at h;obtain⟨v,B,J,n⟩:=Un h;rw[Sq]at n;rcases dE J with⟨h1,h2⟩|⟨h1,h2⟩
   ·have x:Region.wanted o (yielded all.toArray a.tmps)=true:=by
     rcases h2 with h2|h2
     ·exact j.1 h2
     ·exact j.2.2 _ h2
    refine A0J p s x (SH.mono (eX y A h1) λQ c hk=>?_);injection hk with hk;injection hk with q u
    subst q u;exact ih _ _ _ n
   ·have x:Region.wanted o (yielded all.toArray a.tmps)=false:=by
     rcases h2 with h2|h2
     ·exact j.2.1 h2
     ·exact j.2.2 _ h2
    have h1:some (AV.v undef,H)=some (v,B):=h1;injection h1 with h1;injection h1 with L M
    subst L M;exact A5V p s x (ih _ _ _ n)
end
end
section
variable{c:Code}{Q:Exit->Tm->Hp->Prop}{F:Tm->Ru}
def A0u(a:AV)(H:Hp)(K:KV):Af:=match a with
 |.sl sz r o n=>IN H r λx=>Ku x λ_ cs=>FI (Nat.mul n sz) (D0 o cs) λc=>ck (c.all (mI 3)) (JI H r .gone λd=>K (.list n c) d)
 |a=>K a H
def B2Q(F:Tm->Ru)(us:List (Nat×Nat)):Tm->Ru:=
 @List.rec (Nat×Nat) (λ_=>Tm->Ru) F (λu _ ih t H=>gtm t u.1 λa=>A0u a H λe d=>ih ((u.1,e)::t) d) us
def B7V(rc:List (Nat×List (Nat×Nat)))(id:Nat)(F:Tm->Ru)(t:Tm)(H:Hp):Af:=(λ(_:Unit)=>@List.rec (Nat×List (Nat×Nat)) (λ_=>Tm->Ru) F (λp _ ih=>@Bool.rec (λ_=>Tm->Ru) ih (B2Q F p.2) (Nat.beq p.1 (Nat.add id 1000000))) rc t H) Hf
section
variable{P:Program}{G:Gl}{w0:Base}{C:Ctx}{H:Hp}{w:World}{r:AV×Hp}{ro:Option Nat}{m N:Nat}
def A2z(hr:Rel G w0 C H w){a:AV}{y:Value}(R:VRel C w a y){K:KV}(h:A0u a H K=some r):∃v M C',K v M=some r/\VRel C' w v y/\Rel G w0 C' M w/\Ext w0.own C w C' w:=by
 unfold A0u at h;split at h
 ·rename_i sz s o n;obtain⟨q0,e,cs,A,h1⟩:=Jf h;obtain⟨f,h2⟩:=KG _ _ _ _ h1;rw[C9]at f h2;obtain⟨hc,p⟩:=Br h2;rw[C5]at p;cases R with
  |slz ad=>
   have p:K (.list 0 ((cs.drop o).take (0*sz))) (cut H s)=some r:=p;rw[Nat.zero_mul,List.take_zero]at p;exact⟨_,_,C,p,.list0,hr.cut_row s,.refl _ _ _⟩
  |@sl _ _ _ _ _ _ bk O cap arr T fz J t ab V=>
   rcases hr.rows s _ A with⟨_,h6⟩|⟨X,d,j,aa,u⟩
   ·rw[h6]at J;cases J
   ·have q:=u.at_.symm.trans J;injection q with q;injection q with q;injection q with Y Z;subst Y Z
    obtain⟨L,x⟩:=hr.freeze A u;have g:Cn C w ((cs.drop o).take (n*sz)) ((((j.toList.drop d).take cs.length).drop o).take (n*sz)):=(u.vals.unsel.drop o).take _;have ac:((cs.drop o).take (n*sz)).length=n*sz:=by
     have:n*sz<=(cs.drop o).length:=f;rw[E'];omega
    refine⟨_,_,C.fix X,p,.list t (λi=>((((j.toList.drop d).take cs.length).drop o).take (n*sz)).getD i undef) (λi k=>.inr rfl) (λi k=>?_) (λi k=>?_),L,x⟩
    ·have k:i<((cs.drop o).take (n*sz)).length:=k;have B:i<n*sz:=by omega
     have D:o+i<cs.length:=by have:n*sz<=(cs.drop o).length:=f;simp at this;omega
     rw[Yq,u.cell];rw[T9,tM,CZ B,lY,tM,CZ D,lY,l21];have hf:=u.fits;rw[l1k (by omega)];rfl
    ·have h4:=g.get i k;have h5:mI 3 (((cs.drop o).take (n*sz))[i])=true:=G8.1 hc _ (Of k);rw[T9,JC (by rw[g.1];exact k)];exact(VRel.down (C:=C) (C':=C.bare) rfl rfl 3 _ _ h5 h4).mono x.bare
 ·exact⟨_,_,C,h,R,hr,.refl _ _ _⟩
def Pz.ghost{t:Tm}(h:∀w0 d C a w,St G w0 d C N t H a w->∃f i g,St G w0 d f N i g a w/\Ext w0.own C w f w/\Pz P G ro m N c Q i g):Pz P G ro m N c Q t H:=λw0 d C a w s=>by
 obtain⟨f,i,g,h1,h2,u⟩:=h w0 d C a w s;exact wpIn_mono (u w0 d f a w h1) λe x y ⟨j,v,k,n,p,q⟩=>⟨j,v,k,n,h2.frm.trans p,q⟩
def A2i(k:∀t H,F t H=some r->Pz P G ro m N c Q t H):∀(us:List (Nat×Nat))(t:Tm)(H:Hp),B2Q F us t H=some r->Pz P G ro m N c Q t H:=by
 intro us
 induction us with
 |nil=>intro t H h;exact k t H h
 |cons u us ih=>
  intro t H h;have h:(gtm t u.1 λa=>A0u a H λj d=>B2Q F us ((u.1,j)::t) d)=some r:=h;rw[To]at h;refine Pz.ghost λw0 n C a w s=>?_;obtain⟨v,d,f,hk,hv,e,he⟩:=A2z s.rel (s.tmps u.1) h;refine⟨f,(u.1,v)::t,d,⟨e,s.size,λi=>?_,s.defers.mono he.B he.keepB,s.le⟩,he,ih _ _ hk⟩;show VRel f w (if i=u.1 then v else GY t i) _;by_cases g:i=u.1
  ·subst g;rw[CZ rfl];exact hv
  ·rw[Cr g];exact(s.tmps i).mono he
def A2j{id:Nat}(a:∀t H,F t H=some r->Pz P G ro m N c Q t H):∀(rc:List (Nat×List (Nat×Nat)))(t:Tm)(H:Hp),B7V rc id F t H=some r->Pz P G ro m N c Q t H:=by
 intro rc
 induction rc with
 |nil=>intro t H h;exact a t H h
 |cons p rc ih=>
  intro t H h;have h:@Bool.rec (λ_=>Tm->Ru) (B7V rc id F) (B2Q F p.2) (Nat.beq p.1 (Nat.add id 1000000)) t H=some r:=h;cases hb:Nat.beq p.1 (Nat.add id 1000000)
  ·rw[hb]at h;exact ih t H h
  ·rw[hb]at h;exact A2i a _ t H h
end
end
section
variable{cf:Cf}{c:Code}{e:Exit}{Q:Exit->Tm->Hp->Prop}{H:Hp}{K:KQ}{N:Nat}{t t':Tm}
abbrev Draws:=Cf->Nat->List Oper->Tm->Hp->(Tm->Ru)->Af
def uI(e:Exit)(t:Tm)(H:Hp)(k:Tm->Ru)(K:KQ):Af:=(λ(_:Unit)=>match e with|.normal=>k t H|e=>K e t H) Hf
def A2Q(id:Nat)(e:Exit)(t:Tm)(H:Hp)(K:KQ):Af:=(λ(_:Unit)=>match e with|.exit i=>@Bool.rec (λ_=>Af) (K (.exit i) t H) (K .normal t H) (Nat.beq i id)|e=>K e t H) Hf
def A2(v:AV)(x y:Af):Af:=match v with|.v (.bool true)=>x|.v (.bool false)=>y|_=>none
def Yk(lv:Hb)(t:Tm):(Tm->Af)->Af:=@List.rec Nat (λ_=>(Tm->Af)->Af) (λK=>K []) (λu _ ih K=>gtm t u λv=>ih λl=>K ((u,v)::l)) lv
def Cur(lv:Hb):Type:=@List.rec Nat (λ_=>Type) Ru (λ_ _ ih=>AV->ih) lv
def A9I(lv:Hb):(Tm->Ru)->Cur lv:=
 @List.rec Nat (λlv=>(Tm->Ru)->Cur lv) (λF H=>F [] H) (λu _ ih F v=>ih λt H=>F ((u,v)::t) H) lv
def A9G(lv:Hb):Cur lv->Tm->Ru:=
 @List.rec Nat (λlv=>Cur lv->Tm->Ru) (λc _ H=>c H) (λu _ ih c t H=>gtm t u λv=>ih (c v) t H) lv
def dB(lv:Hb)(t:Tm):Tm:=lv.map λu=>(u,GY t u)
def wB(lv:Hb):∀(F:Tm->Ru)(t:Tm)(H:Hp),A9G lv (A9I lv F) t H=F (dB lv t) H:=by
 induction lv with
 |nil=>intro F t H;rfl
 |cons u lv ih=>
  intro F t H;have e:A9G (u::lv) (A9I (u::lv) F) t H=gtm t u λv=>A9G lv (A9I lv λt H=>F ((u,v)::t) H) t H:=rfl;rw[e,To,ih];rfl
def B4q(lv:Hb)(body:Tm->Hp->KQ->Af)(K:KQ)(n:Nat):Cur lv:=
 @Nat.rec (λ_=>Cur lv) (A9I lv λ_ _=>none) (λ_ ih=>A9I lv λt H=>body t H λe d a=>uI e d a (λt H=>A9G lv ih t H) K) n
def tX(lv:Hb)(body:Tm->Hp->KQ->Af)(K:KQ)(n:Nat)(t:Tm)(H:Hp):Af:=A9G lv (B4q lv body K n) t H
def A0Z(lv:Hb)(body:Tm->Hp->KQ->Af)(K:KQ)(t:Tm)(H:Hp):tX lv body K 0 t H=none:=wB lv _ t H
def A10(lv:Hb)(body:Tm->Hp->KQ->Af)(K:KQ)(n:Nat)(t:Tm)(H:Hp):tX lv body K (n+1) t H=body (dB lv t) H λe d a=>uI e d a (tX lv body K n) K:=wB lv _ t H
def A1p(lv:Hb)(t:Tm)(u:Nat):GY (dB lv t) u=GY t u\/GY (dB lv t) u=.dk:=by
 induction lv with
 |nil=>exact .inr rfl
 |cons v lv ih=>
  have e:GY (dB (v::lv) t) u=if u=v then GY t v else GY (dB lv t) u:=rfl
  rw[e];split
  ·rename_i h;subst h;exact .inl rfl
  ·exact ih
def B3Q(p:Option (Option Code))(t:Tm)(H:Hp)(K:KQ):Af:=
 match p with
 |some none=>K .normal t H
 |some (some .ret)=>K .ret t H
 |some (some (.exit id))=>K (.exit id) t H
 |some (some (.goto l))=>K (.goto l) t H
 |_=>none
def A0X(E:XE)(R:Rt)(cf:Cf)(g:Operand)(ps:Array Tmp)(i j:Code)(t:Tm)(H:Hp)(K:KQ):Af:=
 @Bool.rec (λ_=>Af) (Yk cf.lv t λt=>Js E t g λf=>match f with
  |.fn (.func g) first cap=>HV H λs=>WX first (.yl s::cap) λall=>R.call g all ((s,.loop cf.n t ps i j (some none))::H) λ_ d=>IN d s λx=>Yo x λ_ _ _ _ _ a=>JI d s .gone λh=>B3Q a t h K
  |_=>none) none cf.b
def Z?(e:Exit)(t:Tm)(H:Hp)(k:Nat->Tm->Ru)(K:KQ):Af:=(λ(_:Unit)=>match e with|.goto l=>k l t H|e=>K e t H) Hf
def A34(run:A?)(cf:Cf)(c:Code)(K:KQ)(n:Nat):Nat->Tm->Ru:=
 @Nat.rec (λ_=>Nat->Tm->Ru) (λ_ _ _=>none) (λ_ ih l t H=>match findLabel c l with
  |some rest=>run cf rest t H λe t H=>Z? e t H ih K
  |none=>none) n
def Zp(E:XE)(R:Rt)(Z:Draws)(cf:Cf)(c:Code):Tm->Hp->KQ->Af:=
 @Code.rec (λ_=>Tm->Hp->KQ->Af)
  (λt H K=>K .normal t H)
  (λid f draw t H K=>B7V cf.rc id (λt H=>@Bool.rec (λ_=>Af) (A4m E R cf.fz cf.n f.toList f.toList t H λt H=>K .normal t H) (Z cf id f.toList t H λt H=>K .normal t H) draw) t H)
  (λ_ _ a d t H K=>a t H λe t H=>uI e t H (λt H=>d t H K) K)
  (λx _ _ a d t H K=>Js E t x λv=>A2 v (a t H K) (d t H K))
  (λid _ ih t H K=>ih t H λe t H=>A2Q id e t H K)
  (λ_ ih t H K=>tX cf.lv ih K E.lf t H)
  (λg ps h i _ _ t H K=>A0X E R cf g ps h i t H K)
  (λid t H K=>K (.exit id) t H)
  (λc ih t H K=>@Bool.rec (λ_=>Af) (ih t H λe t H=>Z? e t H (A34 R.run cf c K E.lf) K) none cf.b)
  (λ_ t H K=>K .normal t H)
  (λl t H K=>K (.goto l) t H)
  (λt H K=>K .ret t H)
  (λ_ _ _ _=>none) c
section
variable{D:XE->Cf->Nat->List Oper->Bool}{E:XE}{P:Program}{R:Rt}{Z:Draws}{r:AV×Hp}{ro:Option Nat}{m:Nat}
def A31(D:XE->Cf->Nat->List Oper->Bool)(E:XE)(P:Program)(Z:Draws):Prop:=
 ∀(ro:Option Nat)(cf:Cf)(id:Nat)(a:List Oper)(t:Tm)(H:Hp)(K:Tm->Ru)(r:AV×Hp)(m:Nat),(cf.b=false->D E cf id a=true)->Z cf id a t H K=some r->
  Pz P E.G ro m cf.n (.region id a.toArray true) (λe t' d=>e=.normal/\K t' d=some r) t H
def nX{k:Tm->Ru}(h:uI e t H k K=some r):(e=.normal/\k t H=some r)\/(e≠.normal/\K e t H=some r):=by
 unfold uI at h;split at h
 ·exact .inl ⟨rfl,h⟩
 ·rename_i a;exact .inr ⟨a,h⟩
theorem Pz.congr{G:Gl}(hc:∀u,GY t' u=GY t u\/GY t' u=.dk)(h:Pz P G ro m N c Q t' H):Pz P G ro m N c Q t H:=
 λw0 d C a w s=>h w0 d C a w (s.congr hc)
theorem jP.congr{G:Gl}(hc:∀u,GY t' u=GY t u\/GY t' u=.dk)(h:jP P G ro m N c Q t' H):jP P G ro m N c Q t H:=
 λw0 d C a w s=>h w0 d C a w (s.congr hc)
def A11:∀(lv:Hb)(K:Tm->Af),Yk lv t K=some r->∃t',K t'=some r/\∀u,GY t' u=GY t u\/GY t' u=.dk:=by
 intro lv
 induction lv with
 |nil=>intro K h;exact⟨[],h,λu=>.inr rfl⟩
 |cons v lv ih=>
  intro K h;have h:(gtm t v λx=>Yk lv t λl=>K ((v,x)::l))=some r:=h;rw[To]at h;obtain⟨t',h1,h2⟩:=ih _ h;refine⟨_,h1,λu=>?_⟩;simp only[GY];split
  ·rename_i a;rw[a];exact .inl rfl
  ·exact h2 u
def G!{G:Gl}{lv:Hb}{body:Tm->Hp->KQ->Af}(hb:∀t H(K:KQ),body t H K=some r->Pz P G ro m N c (λe t' a=>K e t' a=some r) t H):∀(n:Nat)(t:Tm)(H:Hp),tX lv body K n t H=some r->
 jP P G ro m N c (λe t' a=>K e t' a=some r) t H:=by
 intro n
 induction n with
 |zero=>intro t H h;rw[A0Z]at h;cases h
 |succ n ih=>
  intro t H h;rw[A10]at h;refine jP.congr (A1p lv t) (A2Z (Pz.mono (hb _ _ _ h) λe g f hq=>?_));rcases nX hq with⟨rfl,h⟩|⟨d,h⟩
  ·exact ih _ _ h
  ·cases e with
   |normal=>exact absurd rfl d
   |_=>exact h
def wI(M:XE.Ok D E P)(O:RSound D E P R)(q:ro≠none->cf.b=true){g:Operand}{ps:Array Tmp}{s u:Code}(h:A0X E R cf g ps s u t H K=some r):Pz P E.G ro m cf.n (.rangeFunc g ps s u) (λe t' j=>K e t' j=some r) t H:=by
 unfold A0X at h;cases hb:cf.b
 ·rw[hb]at h;have hn:ro=none:=by
   cases ro with
   |none=>rfl
   |some b=>have:=q (by simp);rw[hb]at this;cases this
  subst hn;obtain⟨t',h,hc⟩:=A11 _ _ h;refine Pz.congr hc ?_;have h:=AU M h;split at h
  ·rename_i f first cap X;rw[BW,LR]at h;obtain⟨⟨fn,h1,h2,L⟩,d⟩:=O.call _ _ _ _ _ h;have e:first++AV.yl (Ax H)::cap=first++[.yl (Ax H)]++cap:=by simp
   rw[e]at d;refine A2U X h1 h2 L ?_;intro w0 C w ys hr V;refine(d w0 C w ys hr V).mono ?_;rintro e w' ⟨v,y,B,j,he,p,hv,Y,hk⟩;refine⟨v,y,B,j,he,p,hv,Y,?_⟩;obtain⟨x,i,k⟩:=HC rfl hk;obtain⟨N',t2,aa,F,J,A,rfl,a⟩:=YR k;rw[C5]at a;unfold B3Q at a;split at a
   ·exact⟨_,_,_,_,_,_,i,a⟩
   ·exact⟨_,_,_,_,_,_,i,a⟩
   ·exact⟨_,_,_,_,_,_,i,a⟩
   ·exact⟨_,_,_,_,_,_,i,a⟩
   ·cases a
  ·cases h
 ·rw[hb]at h;cases h
def A5J{D:Nat->List Oper->Bool}:∀(c:Code)(l:Nat)(rest:Code),RX D c=true->findLabel c l=some rest->RX D rest=true:=by
 intro c
 induction c with
 |seq a b g i=>
  intro l rest d h;simp only[RX,J2]at d;unfold findLabel at h;split at h
  ·rename_i r0 f;injection h with h
   subst h;simp only[RX,J2];exact⟨g _ _ d.1 f,d.2⟩
  ·exact i _ _ d.2 h
 |label j=>
  intro l rest d h;unfold findLabel at h;split at h
  ·injection h with h;subst h;rfl
  ·cases h
 |_=>intro l rest d h;simp[findLabel]at h
def Z!{k:Nat->Tm->Ru}(a:∀l,e≠.goto l)(h:Z? e t H k K=some r):K e t H=some r:=by
 cases e with
 |goto l=>exact absurd rfl (a l)
 |_=>exact h
def G_(g:RSound D E P R)(i:RX (D E cf) c=true):∀(n l:Nat)(t:Tm)(H:Hp),A34 R.run cf c K n l t H=some r->
 ∃rest,findLabel c l=some rest/\B! P E.G m cf.n c rest (λe t' f=>K e t' f=some r) t H:=by
 intro n
 induction n with
 |zero=>intro l t H h;cases h
 |succ n ih=>
  intro l t H h;have h:(match findLabel c l with
   |some rest=>R.run cf rest t H λe t H=>Z? e t H (A34 R.run cf c K n) K
   |none=>none)=some r:=h
  split at h
  ·rename_i rest d;refine⟨rest,d,wD (λl t H hq=>ih l t H hq) (λe t H a hq=>Z! a hq) (g.run none cf rest t H _ r m (λh=>absurd rfl h) (λ_=>A5J _ _ _ i d) h)⟩
  ·cases h
def H?(u:XE.Ok D E P)(w:RSound D E P R)(O:A31 D E P Z)(q:ro≠none->cf.b=true):∀(c:Code)(t:Tm)(H:Hp)(K:KQ),(cf.b=false->RX (D E cf) c=true)->Zp E R Z cf c t H K=some r->
 Pz P E.G ro m cf.n c (λe t' L=>K e t' L=some r) t H:=by
 intro c
 induction c with
 |skip=>intro t H K _ h;exact A9P h
 |region id k draw=>
  intro t H K d h;refine A2j (λt H h=>?_) cf.rc t H h;have e:k=k.toList.toArray:=by simp
  cases draw
  ·rw[e];exact Pz.mono (A2T (A0Y u w _ _ _ _ h)) (by rintro _ _ _ ⟨rfl,h⟩;exact h)
  ·rw[e];exact Pz.mono (O ro cf id k.toList t H _ r m d h) (by rintro _ _ _ ⟨rfl,h⟩;exact h)
 |seq x y F J=>
  intro t H K d h;have h:(Zp E R Z cf x t H λe t H=>uI e t H (λt H=>Zp E R Z cf y t H K) K)=some r:=h;have f:cf.b=false->RX (D E cf) x=true/\RX (D E cf) y=true:=λhb=>by simpa [RX] using d hb
  refine B3x (Pz.mono (F t H _ (λhb=>(f hb).1) h) λe V M hq=>?_);rcases nX hq with⟨rfl,h⟩|⟨j,h⟩
  ·exact J _ _ _ (λhb=>(f hb).2) h
  ·cases e with
   |normal=>exact absurd rfl j
   |_=>exact h
 |cond x a b B C=>
  intro t H K d h;have h:(Js E t x λv=>A2 v (Zp E R Z cf a t H K) (Zp E R Z cf b t H K))=some r:=h;have f:cf.b=false->RX (D E cf) a=true/\RX (D E cf) b=true:=λhb=>by simpa [RX] using d hb
  have h:=AU u h;unfold A2 at h;split at h
  ·rename_i hv;exact A0H hv (λ_=>B _ _ _ (λhb=>(f hb).1) h) (λhb=>by cases hb)
  ·rename_i hv;exact A0H hv (λhb=>by cases hb) (λ_=>C _ _ _ (λhb=>(f hb).2) h)
  ·cases h
 |block id x ih=>
  intro t H K d h;have h:(Zp E R Z cf x t H λe t H=>A2Q id e t H K)=some r:=h;refine A5U (Pz.mono (ih t H _ d h) λe V M hq=>?_);unfold A2Q at hq;cases e with
  |exit i=>
   simp only at hq;simp only[A1H];cases p:Nat.beq i id
   ·rw[p]at hq;rw[Cr (λe=>by rw[e,ZX]at p;cases p)];exact hq
   ·rw[p]at hq;rw[CZ (Xz p)];exact hq
  |_=>exact hq
 |loop x ih=>
  intro t H K d h;have h:tX cf.lv (λt H K=>Zp E R Z cf x t H K) K E.lf t H=some r:=h;exact A0F (G! (λt H K h=>ih t H K d h) _ _ _ h)
 |rangeFunc g ps X Y _ _=>
  intro t H K _ h;exact wI u w q h
 |exit id=>intro t H K _ h;exact A9R h
 |scope x ih=>
  intro t H K d h;have h:@Bool.rec (λ_=>Af) (Zp E R Z cf x t H λe t H=>Z? e t H (A34 R.run cf x K E.lf) K) none cf.b=some r:=h;cases hb:cf.b
  ·rw[hb]at h;have hn:ro=none:=by
    cases ro with
    |none=>rfl
    |some b=>have:=q (by simp);rw[hb]at this;cases this
   subst hn;have A:RX (D E cf) x=true:=d hb;exact A5S (wD (λl t H hq=>G_ w A _ _ _ _ hq) (λe t H j hq=>Z! j hq) (ih t H _ d h))
  ·rw[hb]at h;cases h
 |label l=>intro t H K _ h;exact A5T h
 |goto l=>intro t H K _ h;exact A9Q h
 |ret=>intro t H K _ h;exact B3y h
 |refuse s=>intro t H K _ h;cases h
end
end
section
variable{v:AV}{a:Af}{cf:Cf}{bs:List (Nat×Nat)}{hs:List Hp}{efs ms:Hb}{ops:List Oper}{i:Nat}{ef:Oper->Bool}{K:Tm->Ru}{α:Type}{D:XE->Cf->Nat->List Oper->Bool}
def Qe(E:XE):Op->Bool
 |.move _=>true
 |.assign _=>true
 |.pick .. =>true
 |.nilCheck _=>true
 |.binOp .. =>true
 |.unOp .. =>true
 |.convert s _ _=>match E.ty.get s with
  |some i=>match i.d with
   |.slice .. =>false
   |.pointer _=>false
   |.other=>false
   |_=>true
  |none=>false
 |.makeFunc .. =>true
 |.fieldAddr .. =>true
 |.field .. =>true
 |.indexAddr .. =>true
 |.index .. =>true
 |.slice ty _ _ _ _=>match E.ty.get ty with
  |some i=>match i.d with
   |.array .. =>false
   |_=>true
  |none=>false
 |.extract .. =>true
 |.build .. =>true
 |.buildSlice .. =>true
 |.call c=>match c.callee with
  |.builtin .len=>match c.argTypes.toList with
   |[ty]=>(match E.ty.get ty with
    |some i=>match i.d with
     |.map .. =>false
     |_=>true
    |none=>false)
   |_=>false
  |.builtin .min=>true
  |.builtin .max=>true
  |_=>false
 |_=>false
def Pp(E:XE)(fz:Bool):Op->Bool
 |.move _=>false
 |.assign _=>false
 |.pick .. =>false
 |.nilCheck _=>false
 |.binOp .. =>false
 |.unOp .. =>false
 |.convert s d _=>match E.ty.get s,E.ty.get d with
  |some i,some j=>match i.d,j.d with
   |.string,.slice .. =>true
   |_,_=>false
  |_,_=>true
 |.makeFunc .. =>false
 |.fieldAddr .. =>false
 |.field .. =>false
 |.indexAddr .. =>false
 |.index .. =>false
 |.slice .. =>false
 |.extract .. =>false
 |.build .. =>false
 |.buildSlice .. =>!fz
 |.load .. =>false
 |.lookup .. =>false
 |.makeInterface .. =>false
 |.call c=>match c.callee with
  |.value (.func f)=>E.imp f
  |.value (.tmp _)=>!fz
  |.builtin .len=>false
  |.builtin .min=>false
  |.builtin .max=>false
  |.builtin .cap=>false
  |.builtin .unsafeSliceData=>false
  |_=>true
 |_=>true
def G'(E:XE)(R:Rt)(t:Tm)(H:Hp)(o:Op)(K:K2):Af:=
 (λ(_:Unit)=>match o with
  |.move x=>Js E t x K
  |.assign x=>Js E t x K
  |o=>Am (QB E R t H o λv=>some (v,[])) K) Hf
def A4n(E:XE)(R:Rt)(fz:Bool)(all:List Oper)(o:Oper)(t1:Tm)(H:Hp):Af:=
 gdK all t1 o.guard λg=>@Bool.rec (λ_=>Af) (some (.v undef,H)) (@Bool.rec (λ_=>Af) (Am (QB E R t1 H o.op λv=>some (v,[])) λv=>some (v,H)) (zop E R fz t1 H o.op λv c=>some (v,c)) (Pp E fz o.op)) g
def zdr(E:XE)(R:Rt)(fz:Bool)(N:Nat)(all:List Oper)(l:List Oper):Tm->Hp->(Tm->Ru)->Af:=
 @List.rec Oper (λ_=>Tm->Hp->(Tm->Ru)->Af) (λt H K=>K t H)
  (λo _ ih t H K=>A0A N o.dst (Yk (N0 all o) t λe=>A5m o.guard
   (@Bool.rec (λ_=>Af) (G' E R e H o.op λv=>PG t o.dst v λd=>ih d H K) (CP (zop E R fz e H o.op λv c=>some (v,c)) λv c=>PG t o.dst v λd=>ih d c K) (Pp E fz o.op))
   (CP (A4n E R fz all o e H) λv c=>PG t o.dst v λd=>ih d c K))) l
def mP(E:XE)(R:Rt)(fz:Bool)(N:Nat)(all:List Oper)(l:List Oper):Tm->Hp->(List Tm->Is->List Hp->Tm->Ru)->Af:=
 @List.rec Oper (λ_=>Tm->Hp->(List Tm->Is->List Hp->Tm->Ru)->Af) (λt H K=>K [] [] [H] t H)
  (λo _ ih t H K=>A0A N o.dst (Yk (N0 all o) t λc=>A5m o.guard
   (@Bool.rec (λ_=>Af) (G' E R c H o.op λv=>PG t o.dst v λe=>ih e H λts vs hs=>K (c::ts) (v::vs) hs) (CP (zop E R fz c H o.op λv d=>some (v,d)) λv d=>PG t o.dst v λe=>ih e d λts vs hs=>K (c::ts) (v::vs) (H::hs)) (Pp E fz o.op))
   (CP (A4n E R fz all o c H) λv d=>PG t o.dst v λe=>ih e d λts vs hs=>K (c::ts) (v::vs) (@Bool.rec (λ_=>List Hp) hs (H::hs) (Pp E fz o.op))))) l
def sR(l:List α)(n:Nat)(K:α->Af):Af:=
 (λ(_:Unit)=>@List.rec α (λ_=>Nat->Af) (λ_=>none) (λa _ ih n=>@Nat.rec (λ_=>Af) (K a) (λm _=>ih m) n) l n) Hf
def Zd:AV->AV->Bool
 |.v x,.v y=>Zv x y
 |.ptr r p k,.ptr c h e=>Nat.beq r c&&(Nat.beq p h&&Nat.beq k e)
 |.sl z r o n,.sl j c g f=>Nat.beq z j&&(Nat.beq r c&&(Nat.beq o g&&Nat.beq n f))
 |.iptr cs,.iptr d=>rK (Ze 6) cs d
 |.mp r,.mp c=>Nat.beq r c
 |a,b=>Ze 6 a b
def B3A{a b:AV}(h:Zd a b=true):a=b:=by
 unfold Zd at h;split at h
 ·rw[lP h]
 ·simp only[J2]at h;rw[Xz h.1,Xz h.2.1,Xz h.2.2]
 ·simp only[J2]at h;rw[Xz h.1,Xz h.2.1,Xz h.2.2.1,Xz h.2.2.2]
 ·rw[mK (A30 6) h]
 ·rw[Xz h]
 ·exact A30 6 _ _ h
def AS(a:Af)(v:AV):Af:=match a with
 |some (u,_)=>some (.v (.bool (Zd u v)),[])
 |none=>none
def Qb(a:Af)(K:Af):Af:=match a with
 |some (.v (.bool true),_)=>K
 |_=>none
def A8b{K:Af}{r:AV×Hp}(h:Qb a K=some r):(∃c,a=some (.v (.bool true),c))/\K=some r:=by
 unfold Qb at h;split at h
 ·exact⟨⟨_,rfl⟩,h⟩
 ·cases h
def oG{H0:Hp}(h:AS a v=some (.v (.bool true),H0)):∃c,a=some (v,c):=by
 unfold AS at h;split at h
 ·injection h with h
  injection h with h _
  injection h with h
  injection h with h
  exact⟨_,by rw[B3A h]⟩
 ·cases h
def A4u(E:XE)(R:Rt)(all:List Oper)(bs:List (Nat×Nat))(ts:List Tm)(vs:Is)(hs:List Hp)(K:Af):Af:=
 (λ(_:Unit)=>@List.rec (Nat×Nat) (λ_=>Af) K (λp _ ih=>@Prod.rec Nat Nat (λ_=>Af) (λi k=>sR all i λo=>sR ts i λc=>sR vs i λv=>sR hs k λH=>
  Qb (gdK all c o.guard λg=>@Bool.rec (λ_=>Af) (some (.v (.bool true),[])) (AS (QB E R c H o.op λu=>some (u,[])) v) g) ih) p) bs) Hf
def Fh(ef:Oper->Bool):Nat->List Oper->Hb
 |_,[]=>[]
 |i,o::l=>match ef o with
  |true=>i::Fh ef (i+1) l
  |false=>Fh ef (i+1) l
def P'(E:XE)(ef:Oper->Bool)(ms efs:Hb):Nat->List Oper->Bool
 |_,[]=>true
 |i,o::l=>(ef o||(Qe E o.op||efs.all λe=>match Nat.blt e i with
  |true=>tb (ms.getD i 0) e
  |false=>tb (ms.getD e 0) i))&&P' E ef ms efs (i+1) l
def ID(E:XE)(fz:Bool)(o:Oper):Bool:=Pp E fz o.op
def A55(ms:Hb)(i k:Nat):Nat->Hb->Bool
 |_,[]=>true
 |a,e::l=>(!tb (ms.getD i 0) e||Nat.blt a k)&&((!tb (ms.getD e 0) i||Nat.ble k a)&&A55 ms i k (a+1) l)
def A4X(E:XE)(ef:Oper->Bool)(ms efs:Hb)(bs:List (Nat×Nat)):Nat->Nat->List Oper->Bool
 |_,_,[]=>true
 |i,c,o::l=>(ef o||(Qe E o.op||(List.range (efs.length+1)).all λk=>Nat.beq k c||(!A55 ms i k 0 efs||bs.any λp=>Nat.beq p.1 i&&Nat.beq p.2 k)))&&
  A4X E ef ms efs bs (i+1) (match ef o with|true=>c+1|false=>c) l
def A7h(id:Nat):List (Nat×List (Nat×Nat))->Option (List (Nat×Nat))
 |[]=>none
 |p::l=>match Nat.beq p.1 id with|true=>some p.2|false=>A7h id l
def oJ(E:XE)(cf:Cf)(id:Nat)(ops:List Oper):Bool:=
 uO ops (Fh (ID E cf.fz) 0 ops)&&(match A7h id cf.rc with
  |none=>P' E (ID E cf.fz) (Sv ops) (Fh (ID E cf.fz) 0 ops) 0 ops
  |some bs=>A4X E (ID E cf.fz) (Sv ops) (Fh (ID E cf.fz) 0 ops) bs 0 0 ops)
def B4n(E:XE)(ef:Oper->Bool)(ms efs:Hb):Nat->Nat->List Oper->List (Nat×Nat)
 |_,_,[]=>[]
 |i,c,o::l=>(match ef o||Qe E o.op with
  |true=>[]
  |false=>((List.range (efs.length+1)).filter λk=>!Nat.beq k c&&A55 ms i k 0 efs).map λk=>(i,k))++B4n E ef ms efs (i+1) (match ef o with|true=>c+1|false=>c) l
def B95(E:XE)(R:Rt)(cf:Cf)(ops:List Oper)(bs:List (Nat×Nat))(t:Tm)(H:Hp)(K:Tm->Ru):Af:=
 ckS (uO ops (Fh (ID E cf.fz) 0 ops)&&A4X E (ID E cf.fz) (Sv ops) (Fh (ID E cf.fz) 0 ops) bs 0 0 ops) (mP E R cf.fz cf.n ops ops t H λts vs hs d c=>A4u E R ops bs ts vs hs (K d c))
def B96(E:XE)(R:Rt)(cf:Cf)(id:Nat)(ops:List Oper)(t:Tm)(H:Hp)(K:Tm->Ru):Af:=
 (λ(_:Unit)=>match A7h id cf.rc with
  |none=>zdr E R cf.fz cf.n ops ops t H K
  |some bs=>mP E R cf.fz cf.n ops ops t H λts vs hs d c=>A4u E R ops bs ts vs hs (K d c)) Hf
def A36(E:XE)(R:Rt):Draws:=λcf id ops t H K=>
 @Bool.rec (λ_=>Af) (B96 E R cf id ops t H K) (B95 E R cf ops (B4n E (ID E cf.fz) (Sv ops) (Fh (ID E cf.fz) 0 ops) 0 0 ops) t H K) cf.b
section
variable{E:XE}{P:Program}{R:Rt}{t:Tm}{H:Hp}{r:AV×Hp}{ro:Option Nat}{N m:Nat}{fz:Bool}
def Y_{o:Op}(h:Qe E o=true)(H p:Hp)(K:K2):QB E R t H o K=QB E R t p o K:=by
 cases o with
 |move x=>rfl
 |assign x=>rfl
 |pick c a b=>rfl
 |nilCheck x=>rfl
 |binOp a b c d e=>rfl
 |unOp a b c=>rfl
 |convert a b c=>
  have key:∀v,(E.ty.getK a λi=>E.ty.getK b λj=>cvK E a b i j v H K)=(E.ty.getK a λi=>E.ty.getK b λj=>cvK E a b i j v p K):=by
   intro v;have h:(match E.ty.get a with|some i=>(match i.d with|.slice .. =>false|.pointer _=>false|.other=>false|_=>true)|none=>false)=true:=h;rw[BT.getK_eq,BT.getK_eq];cases hs:E.ty.get a with
   |none=>rfl
   |some i=>
    rw[hs]at h;simp only at h;simp only
    congr 1
    funext j
    unfold cvK;cases g:i.d with
    |slice e z=>rw[g]at h;cases h
    |pointer e=>rw[g]at h;cases h
    |other=>rw[g]at h;cases h
    |_=>rfl
  show(Js E t c λv=>E.ty.getK a λi=>E.ty.getK b λj=>cvK E a b i j v H K)=(Js E t c λv=>E.ty.getK a λi=>E.ty.getK b λj=>cvK E a b i j v p K)
  congr 1
  funext v
  exact key v
 |makeFunc a b c=>rfl
 |fieldAddr a b c=>rfl
 |field a b c=>rfl
 |indexAddr a b c=>rfl
 |index a b c=>rfl
 |slice a b c d e=>
  have h:(match E.ty.get a with|some i=>(match i.d with|.array .. =>false|_=>true)|none=>false)=true:=h;have key:∀v l q m,(E.ty.getK a λi=>A0V i v l q m H K)=(E.ty.getK a λi=>A0V i v l q m p K):=by
   intro v l q m;rw[BT.getK_eq,BT.getK_eq];cases hs:E.ty.get a with
   |none=>rfl
   |some i=>
    rw[hs]at h;simp only at h;simp only;unfold A0V;cases g:i.d with
    |array n e z=>rw[g]at h;cases h
    |_=>rfl
  show(Js E t b λv=>mN E t c λl=>mN E t d λh=>mN E t e λm=>E.ty.getK a λi=>A0V i v l h m H K)=(Js E t b λv=>mN E t c λl=>mN E t d λh=>mN E t e λm=>E.ty.getK a λi=>A0V i v l h m p K)
  congr 1
  funext v
  congr 1
  funext l
  congr 1
  funext q
  congr 1
  funext m
  exact key v l q m
 |extract a b=>rfl
 |build a b=>rfl
 |buildSlice a b c=>rfl
 |call c=>
  unfold Qe at h;obtain⟨callee,args,ts⟩:=c;cases callee with
  |value f=>cases h
  |invoke a b=>cases h
  |builtin b=>
   cases b with
   |len=>
    have h:(match ts.toList with|[ty]=>(match E.ty.get ty with|some i=>(match i.d with|.map .. =>false|_=>true)|none=>false)|_=>false)=true:=h;have w:∀u,QB E R t u (.call ⟨.builtin .len,args,ts⟩) K=(match args.toList,ts.toList with|[x],[ty]=>Js E t x λv=>E.ty.getK ty λi=>B0u i v u K|_,_=>none):=λ_=>rfl;rw[w,w];split
    ·rename_i x ty y s;rw[s]at h
     congr 1
     funext v
     rw[BT.getK_eq,BT.getK_eq];cases hs:E.ty.get ty with
     |none=>rfl
     |some i=>
      simp only[hs]at h;simp only;unfold B0u;cases g:i.d with
      |map k e=>rw[g]at h;cases h
      |_=>rfl
    ·rfl
   |min=>rfl
   |max=>rfl
   |_=>cases h
 |_=>cases h
inductive Trc(S:Oper->Tm->Hp->AV->Hp->Prop)(ef:Oper->Bool):List Oper->Tm->Hp->Is->List Hp->Tm->Hp->Prop
 |nil {t:Tm} {H:Hp}:Trc S ef [] t H [] [H] t H
 |rd {o:Oper} {l:List Oper} {t:Tm} {H:Hp} {v:AV} {vs:Is} {hs:List Hp} {t':Tm} {H':Hp} (he:ef o=false) (h:S o t H v H) (k:Trc S ef l (QH t o.dst v) H vs hs t' H'):Trc S ef (o::l) t H (v::vs) hs t' H'
 |ef {o:Oper} {l:List Oper} {t:Tm} {H H1:Hp} {v:AV} {vs:Is} {hs:List Hp} {t':Tm} {H':Hp} (he:ef o=true) (h:S o t H v H1) (k:Trc S ef l (QH t o.dst v) H1 vs hs t' H'):Trc S ef (o::l) t H (v::vs) (H::hs) t' H'
def Stp(E:XE)(R:Rt)(fz:Bool)(N:Nat)(all:List Oper)(o:Oper)(t:Tm)(H:Hp)(v:AV)(c:Hp):Prop:=
 dok N o.dst/\(((Gn all (HU all o t) o=.run\/Gn all (HU all o t) o=.dep true)/\
  ((ID E fz o=false/\(∃e,QB E R (HU all o t) H o.op (λv=>some (v,[]))=some (v,e))/\c=H)\/(ID E fz o=true/\zop E R fz (HU all o t) H o.op (λv d=>some (v,d))=some (v,c))))\/
  ((Gn all (HU all o t) o=.skip\/Gn all (HU all o t) o=.dep false)/\v=.v undef/\c=H))
def G?(lv:Hb)(t:Tm):∀K:Tm->Af,Yk lv t K=K (dB lv t):=by
 induction lv with
 |nil=>intro K;rfl
 |cons u lv ih=>
  intro K;have e:Yk (u::lv) t K=gtm t u λv=>Yk lv t λl=>K ((u,v)::l):=rfl;rw[e,To,ih];rfl
def A35{x:Operand}{K:K2}(h:Js E t x K=some r):∃v c,Js E t x (λv=>some (v,[]))=some (v,c)/\K v=some r:=by
 cases x with
 |tmp i=>
  have h:gtm t i K=some r:=h;rw[To]at h;exact⟨_,[],(To t i _).trans rfl,h⟩
 |const v=>exact⟨_,[],rfl,h⟩
 |global g=>
  have h:(E.gl.getK g λcs=>K (.iptr cs))=some r:=h;obtain⟨cs,h1,h2⟩:=AW h;refine⟨_,[],?_,h2⟩;have:Js E t (.global g) (λv=>some (v,[]))=E.gl.getK g λcs=>some (.iptr cs,[]):=rfl;rw[this,BT.getK_eq,h1]
 |func f=>exact⟨_,[],rfl,h⟩
def tW{o:Op}{K:K2}(h:G' E R t H o K=some r):∃v c,QB E R t H o (λv=>some (v,[]))=some (v,c)/\K v=some r:=by
 unfold G' at h;split at h
 ·exact A35 h
 ·exact A35 h
 ·exact Q8 h
def A4q{all:List Oper}:∀(l:List Oper)(t:Tm)(H:Hp)(K:Tm->Ru),zdr E R fz N all l t H K=some r->
 ∃vs hs d c,Trc (Stp E R fz N all) (ID E fz) l t H vs hs d c/\K d c=some r:=by
 intro l
 induction l with
 |nil=>intro t H K h;exact⟨_,_,_,_,.nil,h⟩
 |cons o l ih=>
  intro t H K h;have h:A0A N o.dst (Yk (N0 all o) t λw=>A5m o.guard
   (@Bool.rec (λ_=>Af) (G' E R w H o.op λv=>PG t o.dst v λd=>zdr E R fz N all l d H K) (CP (zop E R fz w H o.op λv c=>some (v,c)) λv c=>PG t o.dst v λd=>zdr E R fz N all l d c K) (Pp E fz o.op))
   (CP (A4n E R fz all o w H) λv c=>PG t o.dst v λd=>zdr E R fz N all l d c K))=some r:=h
  obtain⟨p,h⟩:=iQ h;rw[G?]at h;have u:dB (N0 all o) t=HU all o t:=rfl;rw[u]at h;cases n:o.guard with
  |none=>
   have j:Gn all (HU all o t) o=.run:=by unfold Gn;rw[n]
   rw[n]at h;have h:@Bool.rec (λ_=>Af) (G' E R (HU all o t) H o.op λv=>PG t o.dst v λd=>zdr E R fz N all l d H K) (CP (zop E R fz (HU all o t) H o.op λv c=>some (v,c)) λv c=>PG t o.dst v λd=>zdr E R fz N all l d c K) (Pp E fz o.op)=some r:=h;cases he:Pp E fz o.op
   ·rw[he]at h;obtain⟨v,y,q,e⟩:=tW h;rw[Sq]at e;obtain⟨vs,hs,d,c,f,g⟩:=ih _ _ _ e;exact⟨_,_,_,_,.rd he ⟨p,.inl ⟨.inl j,.inl ⟨he,⟨_,q⟩,rfl⟩⟩⟩ f,g⟩
   ·rw[he]at h;obtain⟨v,x,q,e⟩:=Un h;rw[Sq]at e;obtain⟨vs,hs,d,c,f,g⟩:=ih _ _ _ e;exact⟨_,_,_,_,.ef he ⟨p,.inl ⟨.inl j,.inr ⟨he,q⟩⟩⟩ f,g⟩
  |some B=>
   rw[n]at h;have h:(CP (A4n E R fz all o (HU all o t) H) λv c=>PG t o.dst v λd=>zdr E R fz N all l d c K)=some r:=h;obtain⟨v,x,q,e⟩:=Un h;rw[Sq]at e;obtain⟨vs,hs,d,c,f,g⟩:=ih _ _ _ e;rcases dE q with⟨h1,h2⟩|⟨h1,h2⟩
   ·cases he:Pp E fz o.op
    ·rw[he]at h1;obtain⟨C,y,s,k⟩:=Q8 h1;injection k with k;injection k with k A
     subst k A;exact⟨_,_,_,_,.rd he ⟨p,.inl ⟨h2,.inl ⟨he,⟨_,s⟩,rfl⟩⟩⟩ f,g⟩
    ·rw[he]at h1;exact⟨_,_,_,_,.ef he ⟨p,.inl ⟨h2,.inr ⟨he,h1⟩⟩⟩ f,g⟩
   ·have h1:some (AV.v undef,H)=some (v,x):=h1;injection h1 with h1;injection h1 with s k
    subst s k;cases he:ID E fz o
    ·exact⟨_,_,_,_,.rd he ⟨p,.inr ⟨h2,rfl,rfl⟩⟩ f,g⟩
    ·exact⟨_,_,_,_,.ef he ⟨p,.inr ⟨h2,rfl,rfl⟩⟩ f,g⟩
def Ut(ef:Oper->Bool)(l:List Oper)(i:Nat):Nat:=((l.take i).filter ef).length
def fF(o:Oper)(l:List Oper)(val:Nat->AV)(t:Tm):∀i,HS (o::l) val t (λ_=>true) (i+1)=HS l (λj=>val (j+1)) (QH t o.dst (val 0)) (λ_=>true) i:=by
 intro i
 induction i with
 |zero=>rfl
 |succ i ih=>
  have d:HS (o::l) val t (λ_=>true) (i+1+1)=(match true,(o::l)[i+1]? with|true,some c=>QH (HS (o::l) val t (λ_=>true) (i+1)) c.dst (val (i+1))|_,_=>HS (o::l) val t (λ_=>true) (i+1)):=rfl;have e:HS l (λj=>val (j+1)) (QH t o.dst (val 0)) (λ_=>true) (i+1)=(match true,l[i]? with|true,some c=>QH (HS l (λj=>val (j+1)) (QH t o.dst (val 0)) (λ_=>true) i) c.dst (val (i+1))|_,_=>HS l (λj=>val (j+1)) (QH t o.dst (val 0)) (λ_=>true) i):=rfl;rw[d,e,ih,l0q]
theorem Trc.at{S:Oper->Tm->Hp->AV->Hp->Prop}{l:List Oper}{vs:Is}{g:Tm}{f:Hp}(h:Trc S ef l t H vs hs g f):
 hs.getD 0 []=H/\g=HS l (λj=>vs.getD j .dk) t (λ_=>true) l.length/\f=hs.getD (Ut ef l l.length) []/\
 ∀(i:Nat)(o:Oper),l[i]?=some o->S o (HS l (λj=>vs.getD j .dk) t (λ_=>true) i) (hs.getD (Ut ef l i) []) (vs.getD i .dk) (hs.getD (Ut ef l (i+1)) []):=by
 induction h with
 |nil=>exact⟨rfl,rfl,rfl,λi o h=>by simp at h⟩
 |@rd o l t H v vs hs g f he d k ih=>
  obtain⟨h1,h2,n,q⟩:=ih;have hc:∀i,Ut ef (o::l) (i+1)=Ut ef l i:=λi=>by simp[Ut,he]
  have e:∀i,HS (o::l) (λj=>(v::vs).getD j .dk) t (λ_=>true) (i+1)=HS l (λj=>vs.getD j .dk) (QH t o.dst v) (λ_=>true) i:=λi=>by rw[fF];simp
  refine⟨h1,?_,?_,?_⟩
  ·rw[Kj,e];exact h2
  ·rw[Kj,hc];exact n
  ·intro i p c;cases i with
   |zero=>
    simp at c;subst c;rw[hc,show Ut ef (o::l) 0=0 from rfl,show Ut ef l 0=0 from rfl,h1];exact d
   |succ i=>
    rw[hc,hc,e];have:=q i p (by simpa using c);simpa using this
 |@ef o l t H s v vs hs g f he d k ih=>
  obtain⟨h1,h2,n,q⟩:=ih;have hc:∀i,Ut ef (o::l) (i+1)=Ut ef l i+1:=λi=>by simp[Ut,he]
  have e:∀i,HS (o::l) (λj=>(v::vs).getD j .dk) t (λ_=>true) (i+1)=HS l (λj=>vs.getD j .dk) (QH t o.dst v) (λ_=>true) i:=λi=>by rw[fF];simp
  refine⟨rfl,?_,?_,?_⟩
  ·rw[Kj,e];exact h2
  ·rw[Kj,hc];simpa using n
  ·intro i p c;cases i with
   |zero=>
    simp at c;subst c;rw[hc,show Ut ef (o::l) 0=0 from rfl,show Ut ef l 0=0 from rfl];have:(H::hs).getD (0+1) []=s:=by simpa using h1
    rw[this];exact d
   |succ i=>
    rw[hc,hc,e];have:=q i p (by simpa using c);simpa using this
def zC:∀(l:List Oper)(n a e:Nat),(Fh ef n l)[a]?=some e->∃j o,e=n+j/\l[j]?=some o/\ef o=true/\Ut ef l j=a:=by
 intro l
 induction l with
 |nil=>intro n a e h;simp[Fh]at h
 |cons o l ih=>
  intro n a e h;unfold Fh at h;cases he:ef o
  ·rw[he]at h;obtain⟨j,p,h1,h2,c,d⟩:=ih _ _ _ h;exact⟨j+1,p,by omega,by simpa using h2,c,by simpa [Ut,he] using d⟩
  ·rw[he]at h;cases a with
   |zero=>simp at h;exact⟨0,o,by omega,rfl,he,rfl⟩
   |succ a=>
    obtain⟨j,p,h1,h2,c,d⟩:=ih _ _ _ (by simpa using h);exact⟨j+1,p,by omega,by simpa using h2,c,by simpa [Ut,he] using d⟩
def A9S:∀(l:List Oper)(n j:Nat)(o:Oper),l[j]?=some o->ef o=true->(Fh ef n l)[Ut ef l j]?=some (n+j):=by
 intro l
 induction l with
 |nil=>intro n j o h;simp at h
 |cons p l ih=>
  intro n j o h he;unfold Fh;cases j with
  |zero=>simp at h;subst h;rw[he];rfl
  |succ j=>
   have:=ih (n+1) j o (by simpa using h) he;cases c:ef p
   ·simpa [Ut,c,Yq,Nat.add_comm 1 j] using this
   ·simpa [Ut,c,Yq,Nat.add_comm 1 j] using this
def zA:∀(l:List Oper)(n:Nat),(Fh ef n l).length=Ut ef l l.length:=by
 intro l
 induction l with
 |nil=>intro n;rfl
 |cons p l ih=>
  intro n;unfold Fh;cases c:ef p
  ·simpa [Ut,c] using ih (n+1)
  ·simpa [Ut,c] using ih (n+1)
def rB(l:List Oper){i j:Nat}(h:i<=j):Ut ef l i<=Ut ef l j:=by
 unfold Ut;have:l.take i=(l.take j).take i:=by rw[List.take_take,l1x h]
 rw[this];exact((List.take_sublist i (l.take j)).filter ef).length_le
def Xe{l:List Oper}{o:Oper}(h:l[i]?=some o):Ut ef l (i+1)=Ut ef l i+(if ef o then 1 else 0):=by
 unfold Ut;rw[List.take_add_one,h,List.filter_append,EJ];cases he:ef o<;>simp[he]
def A7g:∀(l:List Oper)(n:Nat),P' E ef ms efs n l=true->∀(j:Nat)(o:Oper),l[j]?=some o->ef o=false->Qe E o.op=true\/∀e∈efs,(e<n+j->tb (ms.getD (n+j) 0) e=true)/\(n+j<=e->tb (ms.getD e 0) (n+j)=true):=by
 intro l
 induction l with
 |nil=>intro n _ j o h;simp at h
 |cons p l ih=>
  intro n h j o d he;simp only[P',J2]at h;cases j with
  |zero=>
   simp at d;subst d;have h1:=h.1;rw[he,Bool.false_or,l1d]at h1;rcases h1 with h1|h1
   ·exact .inl h1
   ·refine .inr λe hm=>?_;have:=G8.1 h1 e hm;cases hb:Nat.blt e n
    ·rw[hb]at this;have:¬e<n:=λc=>by rw[<-VD,hb]at c;cases c
     exact⟨λc=>by omega,λ_=>by simpa using ‹_›⟩
    ·rw[hb]at this;have c:e<n:=by rw[<-VD];exact hb
     exact⟨λ_=>this,λf=>by omega⟩
  |succ j=>
   have:=ih (n+1) h.2 j o (by simpa using d) he;rw[show n+(j+1)=n+1+j from by omega];exact this
def Stp.aopg(e:XE.Ok D E P)(f:RSound D E P R){all:List Oper}{o:Oper}{d:Hp}(h:Stp E R fz N all o t H v d):B3D P E.G ro N all o (HU all o t) H v d:=by
 obtain⟨_,⟨c,h⟩|⟨c,h1,h2⟩⟩:=h
 ·refine .inl ⟨c,?_⟩;rcases h with⟨_,⟨p,h⟩,rfl⟩|⟨_,h⟩
  ·refine SH.mono (So e f h) ?_;rintro n g ⟨k,h⟩;injection h with h;injection h with h
   exact⟨h,k⟩
  ·refine SH.mono (eX e f h) ?_;intro n g h;injection h with h;injection h with h j
   exact⟨h,j⟩
 ·exact .inr ⟨c,h1,h2⟩
def A4r(x:XE.Ok D E P)(F:RSound D E P R){id:Nat}(hD:uO ops (Fh (ID E cf.fz) 0 ops)=true)(B:P' E (ID E cf.fz) (Sv ops) (Fh (ID E cf.fz) 0 ops) 0 ops=true)(h:zdr E R cf.fz cf.n ops ops t H K=some r):
 Pz P E.G ro m cf.n (.region id ops.toArray true) (λe t' y=>e=.normal/\K t' y=some r) t H:=by
 obtain⟨vs,hs,t',y,Y,hK⟩:=A4q ops t H K h;obtain⟨h0,X,C,s⟩:=Y.at;have hk:=oI hD;have hr:=A7g ops 0 B;have e0:H=(λk=>hs.getD k []) 0:=h0.symm;rw[e0];refine A0G (efs:=Fh (ID E cf.fz) 0 ops) (val:=λj=>vs.getD j .dk) (Hs:=λk=>hs.getD k []) x.mix hk (λo d=>?_) ?_ ?_ ?_
 ·obtain⟨i,M⟩:=List.getElem?_of_mem d;exact(s i o M).1
 ·intro i o d V k ae hp;have he:ID E cf.fz o=false:=by
   cases he:ID E cf.fz o
   ·rfl
   ·exact absurd (A9S ops 0 i o d he) (by rw[Kk];exact V _)
  have q:=s i o d;have J:Ut (ID E cf.fz) ops (i+1)=Ut (ID E cf.fz) ops i:=by rw[Xe d,he];simp
  rw[J]at q;rcases hr i o d he with hf|f
  ·refine Stp.aopg (fz:=cf.fz) x F ?_;obtain⟨hd,⟨L,h⟩|⟨L,h1,h2⟩⟩:=q
   ·rcases h with⟨_,⟨H0,h⟩,_⟩|⟨h,_⟩
    ·exact⟨hd,.inl ⟨L,.inl ⟨he,⟨H0,by rw[Y_ hf _ (hs.getD (Ut (ID E cf.fz) ops i) [])];exact h⟩,rfl⟩⟩⟩
    ·rw[he]at h;cases h
   ·exact⟨hd,.inr ⟨L,h1,rfl⟩⟩
  ·have u:=zA (ef:=ID E cf.fz) ops 0;have ac:i<ops.length:=(uZ.1 d).1;have O:k=Ut (ID E cf.fz) ops i:=by
    rcases Nat.lt_trichotomy k (Ut (ID E cf.fz) ops i) with Q|heq|aa
    ·exfalso;have c:k<(Fh (ID E cf.fz) 0 ops).length:=by rw[u];exact l2m Q (rB ops (by omega))
     obtain⟨j,p,h1,h2,w,A⟩:=zC ops 0 k _ (JC c);have ad:j<i:=by
      rcases Nat.lt_or_ge j i with h|h
      ·exact h
      ·exfalso;have:=rB (ef:=ID E cf.fz) ops h;omega
     have:=(f _ (Of c)).1 (by omega);rw[Kk,uJ]at this;have:=hp.1 k _ (JC c) (OG this);omega
    ·exact heq
    ·exfalso;have g:Ut (ID E cf.fz) ops i<(Fh (ID E cf.fz) 0 ops).length:=by omega
     obtain⟨j,p,h1,h2,w,A⟩:=zC ops 0 _ _ (JC g);have ab:i<=j:=by
      rcases Nat.lt_or_ge j i with h|h
      ·exfalso;have Z:=rB (ef:=ID E cf.fz) ops (show j+1<=i from h);rw[Xe h2,w]at Z;simp at Z;omega
      ·exact h
     have:=(f _ (Of g)).2 (by omega);rw[Kk,uJ]at this;have:=hp.2 _ _ (JC g) (OG this);omega
   rw[O];exact Stp.aopg (fz:=cf.fz) x F q
 ·intro a i o d M;obtain⟨j,p,h1,h2,w,A⟩:=zC ops 0 a i M;rw[Kk]at h1;subst h1;rw[d]at h2;injection h2 with h2;subst h2
  have:=s i o d;rw[Xe d,w,A]at this;exact Stp.aopg (fz:=cf.fz) x F this
 ·refine⟨rfl,?_⟩;rw[<-X];have:hs.getD (Fh (ID E cf.fz) 0 ops).length []=y:=by rw[zA];exact C.symm
  rw[this];exact hK
def A13{all:List Oper}:∀(l:List Oper)(t:Tm)(H:Hp)(K:List Tm->Is->List Hp->Tm->Ru),mP E R fz N all l t H K=some r->
 ∃ts vs hs d c,Trc (Stp E R fz N all) (ID E fz) l t H vs hs d c/\K ts vs hs d c=some r/\vs.length=l.length/\∀(i:Nat)(o:Oper),l[i]?=some o->ts[i]?=some (HU all o (HS l (λj=>vs.getD j .dk) t (λ_=>true) i)):=by
 intro l
 induction l with
 |nil=>intro t H K h;exact⟨_,_,_,_,_,.nil,h,rfl,λi o h=>by simp at h⟩
 |cons o l ih=>
  intro t H K h;have h:A0A N o.dst (Yk (N0 all o) t λy=>A5m o.guard
   (@Bool.rec (λ_=>Af) (G' E R y H o.op λv=>PG t o.dst v λd=>mP E R fz N all l d H λts vs hs=>K (y::ts) (v::vs) hs) (CP (zop E R fz y H o.op λv c=>some (v,c)) λv c=>PG t o.dst v λd=>mP E R fz N all l d c λts vs hs=>K (y::ts) (v::vs) (H::hs)) (Pp E fz o.op))
   (CP (A4n E R fz all o y H) λv c=>PG t o.dst v λd=>mP E R fz N all l d c λts vs hs=>K (y::ts) (v::vs) (@Bool.rec (λ_=>List Hp) hs (H::hs) (Pp E fz o.op))))=some r:=h
  obtain⟨x,h⟩:=iQ h;rw[G?]at h;have J:dB (N0 all o) t=HU all o t:=rfl;rw[J]at h;have key:∀(v:AV)(ts:List Tm)(vs:Is),(∀(i:Nat)(p:Oper),l[i]?=some p->ts[i]?=some (HU all p (HS l (λj=>vs.getD j .dk) (QH t o.dst v) (λ_=>true) i)))->
   ∀(i:Nat)(p:Oper),(o::l)[i]?=some p->(HU all o t::ts)[i]?=some (HU all p (HS (o::l) (λj=>(v::vs).getD j .dk) t (λ_=>true) i)):=by
   intro v ts vs O i p F;cases i with
   |zero=>simp at F;subst F;rfl
   |succ i=>
    rw[fF];have:=O i p (by simpa using F);simpa using this
  cases w:o.guard with
  |none=>
   have s:Gn all (HU all o t) o=.run:=by unfold Gn;rw[w]
   rw[w]at h;have h:@Bool.rec (λ_=>Af) (G' E R (HU all o t) H o.op λv=>PG t o.dst v λd=>mP E R fz N all l d H λts vs hs=>K (HU all o t::ts) (v::vs) hs) (CP (zop E R fz (HU all o t) H o.op λv c=>some (v,c)) λv c=>PG t o.dst v λd=>mP E R fz N all l d c λts vs hs=>K (HU all o t::ts) (v::vs) (H::hs)) (Pp E fz o.op)=some r:=h;cases he:Pp E fz o.op
   ·rw[he]at h;obtain⟨v,M,A,g⟩:=tW h;rw[Sq]at g;obtain⟨ts,vs,hs,d,c,k,f,n,q⟩:=ih _ _ _ g;exact⟨_,_,_,_,_,.rd he ⟨x,.inl ⟨.inl s,.inl ⟨he,⟨_,A⟩,rfl⟩⟩⟩ k,f,by simp[n],key v ts vs q⟩
   ·rw[he]at h;obtain⟨v,L,A,g⟩:=Un h;rw[Sq]at g;obtain⟨ts,vs,hs,d,c,k,f,n,q⟩:=ih _ _ _ g;exact⟨_,_,_,_,_,.ef he ⟨x,.inl ⟨.inl s,.inr ⟨he,A⟩⟩⟩ k,f,by simp[n],key v ts vs q⟩
  |some V=>
   rw[w]at h;have h:(CP (A4n E R fz all o (HU all o t) H) λv c=>PG t o.dst v λd=>mP E R fz N all l d c λts vs hs=>K (HU all o t::ts) (v::vs) (@Bool.rec (λ_=>List Hp) hs (H::hs) (Pp E fz o.op)))=some r:=h;obtain⟨v,L,A,g⟩:=Un h;rw[Sq]at g;obtain⟨ts,vs,hs,d,c,k,f,n,q⟩:=ih _ _ _ g;rcases dE A with⟨h1,h2⟩|⟨h1,h2⟩
   ·cases he:Pp E fz o.op
    ·rw[he]at h1 f;obtain⟨Q,M,C,e⟩:=Q8 h1;injection e with e;injection e with e B
     subst e B;exact⟨_,_,_,_,_,.rd he ⟨x,.inl ⟨h2,.inl ⟨he,⟨_,C⟩,rfl⟩⟩⟩ k,f,by simp[n],key Q ts vs q⟩
    ·rw[he]at h1 f;exact⟨_,_,_,_,_,.ef he ⟨x,.inl ⟨h2,.inr ⟨he,h1⟩⟩⟩ k,f,by simp[n],key v ts vs q⟩
   ·have h1:some (AV.v undef,H)=some (v,L):=h1;injection h1 with h1;injection h1 with C e
    subst C e;cases he:ID E fz o
    ·have u:Pp E fz o.op=false:=he;rw[u]at f;exact⟨_,_,_,_,_,.rd he ⟨x,.inr ⟨h2,rfl,rfl⟩⟩ k,f,by simp[n],key _ ts vs q⟩
    ·have u:Pp E fz o.op=true:=he;rw[u]at f;exact⟨_,_,_,_,_,.ef he ⟨x,.inr ⟨h2,rfl,rfl⟩⟩ k,f,by simp[n],key _ ts vs q⟩
def Xv:∀{l:List α}{n:Nat}{K:α->Af},sR l n K=some r->∃a,l[n]?=some a/\K a=some r:=by
 intro l
 induction l with
 |nil=>intro n K h;cases h
 |cons a l ih=>
  intro n K h;cases n with
  |zero=>exact⟨a,rfl,h⟩
  |succ n=>
   obtain⟨b,h1,h2⟩:=ih (show sR l n K=some r from h);exact⟨b,by simpa using h1,h2⟩
def A4t{all:List Oper}{ts:List Tm}{vs:Is}{K:Af}:∀{bs:List (Nat×Nat)},A4u E R all bs ts vs hs K=some r->
 K=some r/\∀p∈bs,∃o c v f,all[p.1]?=some o/\ts[p.1]?=some c/\vs[p.1]?=some v/\hs[p.2]?=some f/\(((Gn all c o=.run\/Gn all c o=.dep true)/\∃j,QB E R c f o.op (λu=>some (u,[]))=some (v,j))\/(Gn all c o=.skip\/Gn all c o=.dep false)):=by
 intro bs
 induction bs with
 |nil=>intro h;exact⟨h,λp e=>by simp at e⟩
 |cons p bs ih=>
  intro h;obtain⟨i,k⟩:=p;have h:(sR all i λo=>sR ts i λc=>sR vs i λv=>sR hs k λH=>Qb (gdK all c o.guard λg=>@Bool.rec (λ_=>Af) (some (.v (.bool true),[])) (AS (QB E R c H o.op λu=>some (u,[])) v) g) (A4u E R all bs ts vs hs K))=some r:=h;obtain⟨o,h1,h⟩:=Xv h;obtain⟨c,h2,h⟩:=Xv h;obtain⟨v,q,h⟩:=Xv h;obtain⟨f,s,h⟩:=Xv h;obtain⟨⟨j,w⟩,x⟩:=A8b h;obtain⟨y,A⟩:=ih x;refine⟨y,λp e=>?_⟩;simp only[Qd]at e;rcases e with rfl|e
  ·refine⟨o,c,v,f,h1,h2,q,s,?_⟩;rcases dE w with⟨n,d⟩|⟨n,d⟩
   ·exact .inl ⟨d,oG n⟩
   ·exact .inr d
  ·exact A p e
def B2b{i k:Nat}(g:C08 ops efs i k):∀(l:Hb)(a:Nat),(∀b,l[b]?=efs[a+b]?)->A55 (Sv ops) i k a l=true:=by
 intro l
 induction l with
 |nil=>intro a _;rfl
 |cons e l ih=>
  intro a f;have d:efs[a]?=some e:=by have:=f 0;simpa using this.symm
  simp only[A55,J2,l1d,yL];refine⟨?_,?_,ih (a+1) λb=>?_⟩
  ·cases c:tb ((Sv ops).getD i 0) e
   ·exact .inl rfl
   ·refine .inr ?_;rw[uJ]at c;rw[VD];exact g.1 a e d (OG c)
  ·cases c:tb ((Sv ops).getD e 0) i
   ·exact .inl rfl
   ·refine .inr ?_;rw[uJ]at c;rw[eT];exact g.2 a e d (OG c)
  ·have:=f (b+1);rw[l0q]at this;rw[this];congr 1;omega
def A4W:∀(l:List Oper)(n c:Nat),A4X E ef ms efs bs n c l=true->∀(j:Nat)(o:Oper),l[j]?=some o->ef o=false->Qe E o.op=true\/∀k,k<=efs.length->A55 ms (n+j) k 0 efs=true->k=c+Ut ef l j\/(n+j,k)∈bs:=by
 intro l
 induction l with
 |nil=>intro n c _ j o h;simp at h
 |cons p l ih=>
  intro n c h j o g he;simp only[A4X,J2]at h;cases j with
  |zero=>
   simp at g;subst g;have h1:=h.1;rw[he,Bool.false_or,l1d]at h1;rcases h1 with h1|h1
   ·exact .inl h1
   ·refine .inr λk hk f=>?_;have h2:=G8.1 h1 k (JM.2 (by omega));rw[Nat.add_zero]at f;rw[f]at h2;simp only[l1d,Bool.not_true,tL,false_or,J2,List.any_eq_true]at h2;rcases h2 with h2|⟨q,hq,d,e⟩
    ·exact .inl (by rw[Xz h2];simp[Ut])
    ·refine .inr ?_;obtain⟨q1,q2⟩:=q;have d:=Xz d;have e:=Xz e;simp only at d e;subst d e;exact hq
  |succ j=>
   have:=ih (n+1) _ h.2 j o (by simpa using g) he;rw[show n+(j+1)=n+1+j from by omega];rcases this with d|d
   ·exact .inl d
   ·refine .inr λk hk f=>?_;rcases d k hk f with e|e
    ·refine .inl ?_;rw[e];cases s:ef p<;>simp[Ut,s]
     omega
    ·exact .inr e
def mO(w:XE.Ok D E P)(F:RSound D E P R){id:Nat}(hD:uO ops (Fh (ID E cf.fz) 0 ops)=true)(M:A4X E (ID E cf.fz) (Sv ops) (Fh (ID E cf.fz) 0 ops) bs 0 0 ops=true)(h:(mP E R cf.fz cf.n ops ops t H λts vs hs J u=>A4u E R ops bs ts vs hs (K J u))=some r):
 Pz P E.G ro m cf.n (.region id ops.toArray true) (λe J u=>e=.normal/\K J u=some r) t H:=by
 obtain⟨ts,vs,hs,J,u,ad,Q,af,ae⟩:=A13 ops t H _ h;obtain⟨Q,x⟩:=A4t Q;obtain⟨h0,ac,O,s⟩:=ad.at;have hk:=oI hD;have hr:=A4W ops 0 0 M;have e0:H=(λk=>hs.getD k []) 0:=h0.symm;rw[e0];refine A0G (efs:=Fh (ID E cf.fz) 0 ops) (val:=λj=>vs.getD j .dk) (Hs:=λk=>hs.getD k []) w.mix hk (λo c=>?_) ?_ ?_ ?_
 ·obtain⟨i,Y⟩:=List.getElem?_of_mem c;exact(s i o Y).1
 ·intro i o c ab k aa hp;have he:ID E cf.fz o=false:=by
   cases he:ID E cf.fz o
   ·rfl
   ·exact absurd (A9S ops 0 i o c he) (by rw[Kk];exact ab _)
  have g:=s i o c;have V:Ut (ID E cf.fz) ops (i+1)=Ut (ID E cf.fz) ops i:=by rw[Xe c,he];simp
  rw[V]at g;rcases hr i o c he with hf|A
  ·refine Stp.aopg (fz:=cf.fz) w F ?_;obtain⟨y,⟨d,h⟩|⟨d,h1,h2⟩⟩:=g
   ·rcases h with⟨_,⟨L,h⟩,_⟩|⟨h,_⟩
    ·exact⟨y,.inl ⟨d,.inl ⟨he,⟨L,by rw[Y_ hf _ (hs.getD (Ut (ID E cf.fz) ops i) [])];exact h⟩,rfl⟩⟩⟩
    ·rw[he]at h;cases h
   ·exact⟨y,.inr ⟨d,h1,rfl⟩⟩
  ·rcases A k aa (by rw[Kk];exact B2b hp _ 0 (λb=>by rw[Kk])) with Z|q
   ·rw[Z,Kk];exact Stp.aopg (fz:=cf.fz) w F g
   ·rw[Kk]at q;obtain⟨o',t1,v,Hk,h1,h2,B,C,f⟩:=x _ q;simp only at h1 h2 B C;rw[c]at h1;injection h1 with h1;subst h1
    rw[ae i o c]at h2;injection h2 with h2;subst h2
    have hv:vs.getD i .dk=v:=by rw[T9,B];rfl
    have X:hs.getD k []=Hk:=by rw[T9,C];rfl
    refine Stp.aopg (fz:=cf.fz) w F ?_;obtain⟨y,⟨d,h⟩|⟨d,h1,h2⟩⟩:=g
    ·rcases f with⟨_,L,f⟩|f
     ·refine⟨y,.inl ⟨d,.inl ⟨he,⟨L,?_⟩,rfl⟩⟩⟩;rw[hv,X];exact f
     ·exfalso;rcases d with d|d<;>rcases f with f|f<;>(rw[d]at f;cases f)
    ·exact⟨y,.inr ⟨d,h1,rfl⟩⟩
 ·intro a i o c Y;obtain⟨j,p,h1,h2,B,C⟩:=zC ops 0 a i Y;rw[Kk]at h1;subst h1;rw[c]at h2;injection h2 with h2;subst h2
  have:=s i o c;rw[Xe c,B,C]at this;exact Stp.aopg (fz:=cf.fz) w F this
 ·refine⟨rfl,?_⟩;rw[<-ac];have:hs.getD (Fh (ID E cf.fz) 0 ops).length []=u:=by rw[zA];exact O.symm
  rw[this];exact Q
def A12(j:XE.Ok D E P)(k:RSound D E P R){id:Nat}(c:oJ E cf id ops=true)(h:B96 E R cf id ops t H K=some r):
 Pz P E.G ro m cf.n (.region id ops.toArray true) (λe g f=>e=.normal/\K g f=some r) t H:=by
 unfold oJ at c;rw[J2]at c;have h:(match A7h id cf.rc with
  |none=>zdr E R cf.fz cf.n ops ops t H K
  |some bs=>mP E R cf.fz cf.n ops ops t H λts vs hs g f=>A4u E R ops bs ts vs hs (K g f))=some r:=h
 cases d:A7h id cf.rc with
 |none=>rw[d]at c h;exact A4r j k c.1 c.2 h
 |some bs=>rw[d]at c h;exact mO j k c.1 c.2 h
def H!(f:∀E cf id ops,D E cf id ops=true->oJ E cf id ops=true)(d:XE.Ok D E P)(e:RSound D E P R):A31 D E P (A36 E R):=by
 intro ro cf id ops t H K r m hb h;unfold A36 at h;cases c:cf.b
 ·rw[c]at h;exact A12 d e (f _ _ _ _ (hb c)) h
 ·rw[c]at h;unfold B95 at h;obtain⟨h1,h2⟩:=KL h;rw[J2]at h1;exact mO d e h1.1 h1.2 h2
end
end
def jn{α:Type}(k:α)(F:α->Af):Af:=(λ(_:Unit)=>F k) Hf
def oH(R:Rt)(n:Nat)(f:AV)(t:Tm)(ps:Array Tmp)(e h:Code)(H:Hp)(K:Option (Option Code)->Ru):Af:=
 match f with
 |.fn (.func g) first cap=>HV H λs=>WX first (.yl s::cap) λall=>R.call g all ((s,.loop n t ps e h (some none))::H) λ_ c=>IN c s λx=>Yo x λ_ _ _ _ _ a=>JI c s .gone λd=>K a d
 |_=>none
def oZ(p:Option (Option Code))(x y:Af)(e g:Nat->Af):Af:=
 match p with
 |some none=>x
 |some (some .ret)=>y
 |some (some (.exit id))=>e id
 |some (some (.goto l))=>g l
 |_=>none
def rdK(run:A?)(N:Nat)(t:Tm)(ps:Array Tmp)(args:Is)(g h:Code)(H:Hp)(P:Hp->Ru->Af)(Q:Exit->Ru):Af:=
 A1n t ps.toList args λa=>run ⟨true,a.map (·.1),false,N,[]⟩ g a H λe i c=>match e with
  |.normal=>P c λd=>run ⟨true,a.map (·.1),false,N,[]⟩ h i d λe _ f=>Q e f
  |_=>none
def O?:Code->List (Operand×Array Tmp×Code×Code)
 |.seq x y=>O? x++O? y
 |.cond _ x y=>O? x++O? y
 |.block _ x=>O? x
 |.loop x=>O? x
 |.scope x=>O? x
 |.rangeFunc g ps a c=>[(g,ps,a,c)]
 |_=>[]
def Wo(c:Code)(k:Nat):Operand×Array Tmp×Code×Code:=(O? c).getD k (.func 0,#[],.skip,.skip)
abbrev zI:AV:=.v (.int .i64 0)
abbrev zS:AV:=.v (.string ⟨⟨[]⟩⟩)
abbrev zL:AV:=.v (.slice none 0 0)
abbrev zB:AV:=.v (.bool false)
section
variable{s u:Ha}
abbrev I(n:Int):AV:=.v (.int .i64 n)
abbrev Bo(b:Bool):AV:=.v (.bool b)
abbrev S(l:Ha):AV:=.v (.string ⟨⟨l⟩⟩)
section
variable{K:K2}{i j:TI}{k:IntKind}{a b:Int}
def CO:Ap i .add (.v (.int k a)) (.v (.int k b)) K=K (.v (.int k (k.wrap (a+b)))):=by
 have:Ap i .add (.v (.int k a)) (.v (.int k b)) K=ck (decide (k=k)) (N9 k (a+b) λz=>K (.v (.int k z))):=rfl;rw[this,Ki rfl];exact HZ _ _ _
def IE:Ap i .sub (.v (.int k a)) (.v (.int k b)) K=K (.v (.int k (k.wrap (a-b)))):=by
 have:Ap i .sub (.v (.int k a)) (.v (.int k b)) K=ck (decide (k=k)) (N9 k (a-b) λz=>K (.v (.int k z))):=rfl;rw[this,Ki rfl];exact HZ _ _ _
def Px:Ap i .mul (.v (.int k a)) (.v (.int k b)) K=K (.v (.int k (k.wrap (a*b)))):=by
 have:Ap i .mul (.v (.int k a)) (.v (.int k b)) K=ck (decide (k=k)) (N9 k (a*b) λz=>K (.v (.int k z))):=rfl;rw[this,Ki rfl];exact HZ _ _ _
def A9w(h:b≠0):Ap i .quo (.v (.int k a)) (.v (.int k b)) K=K (.v (.int k (k.wrap (a.tdiv b)))):=by
 have:Ap i .quo (.v (.int k a)) (.v (.int k b)) K=ck (decide (k=k)) (ck (!yO b 0) (N9 k (a.tdiv b) λz=>K (.v (.int k z)))):=rfl;rw[this,Ki rfl,L0,KD h];exact HZ _ _ _
def Xb(h:b≠0):Ap i .rem (.v (.int k a)) (.v (.int k b)) K=K (.v (.int k (a.tmod b))):=by
 have:Ap i .rem (.v (.int k a)) (.v (.int k b)) K=ck (decide (k=k)) (ck (!yO b 0) (fI (a.tmod b) λz=>K (.v (.int k z)))):=rfl;rw[this,Ki rfl,L0,KD h];exact Ug (a.tmod b) (λz=>K (.v (.int k z)))
def Eh:Ap i .lss (.v (.int k a)) (.v (.int k b)) K=K (Bo (decide (a<b))):=by
 have:Ap i .lss (.v (.int k a)) (.v (.int k b)) K=ck (decide (k=k)) (bB (!lH b a) K):=rfl;rw[this,Ki rfl,KE];have e:(!decide (b<=a))=decide (a<b):=by rw[kZ];simp
 rw[e];exact MM _ _
def eA:Ap i .leq (.v (.int k a)) (.v (.int k b)) K=K (Bo (decide (a<=b))):=by
 have:Ap i .leq (.v (.int k a)) (.v (.int k b)) K=ck (decide (k=k)) (bB (lH a b) K):=rfl;rw[this,Ki rfl,KE];exact MM _ _
def DB:Ap i .gtr (.v (.int k a)) (.v (.int k b)) K=K (Bo (decide (b<a))):=by
 have:Ap i .gtr (.v (.int k a)) (.v (.int k b)) K=ck (decide (k=k)) (bB (!lH a b) K):=rfl;rw[this,Ki rfl,KE];have e:(!decide (a<=b))=decide (b<a):=by rw[kZ];simp
 rw[e];exact MM _ _
def NT:Ap i .geq (.v (.int k a)) (.v (.int k b)) K=K (Bo (decide (b<=a))):=by
 have:Ap i .geq (.v (.int k a)) (.v (.int k b)) K=ck (decide (k=k)) (bB (lH b a) K):=rfl;rw[this,Ki rfl,KE];exact MM _ _
def Dn:Ap i .eql (.v (.int k a)) (.v (.int k b)) K=K (Bo (decide (a=b))):=by
 have:Ap i .eql (.v (.int k a)) (.v (.int k b)) K=ck (decide (k=k)) (bB (yO a b) K):=rfl;rw[this,Ki rfl,L0];exact MM _ _
def HF:Ap i .neq (.v (.int k a)) (.v (.int k b)) K=K (Bo (!decide (a=b))):=by
 have:Ap i .neq (.v (.int k a)) (.v (.int k b)) K=ck (decide (k=k)) (bB (!yO a b) K):=rfl;rw[this,Ki rfl,L0];exact MM _ _
def MK:Ap i .eql (S s) (S u) K=K (Bo (decide (s=u))):=by
 have:Ap i .eql (S s) (S u) K=bB (F' s u) K:=rfl;rw[this,PU,MM,show(s==u)=decide (s=u) from by by_cases h:s=u<;>simp[h]]
def Ul:Ap i .neq (S s) (S u) K=K (Bo (!decide (s=u))):=by
 have:Ap i .neq (S s) (S u) K=bB (!F' s u) K:=rfl;rw[this,PU,MM,show(s==u)=decide (s=u) from by by_cases h:s=u<;>simp[h]]
def Fi{q:Bool}{x y:Af}:A2 (Bo q) x y=if q=true then x else y:=by cases q<;>rfl
end
def BJ{α:Type}(k:α)(F:α->Af):jn k F=F k:=rfl
def Cz{x:Int}(h1: -9223372036854775808<=x)(h2:x<9223372036854775808):IntKind.i64.wrap x=x:=by
 simp only[IntKind.wrap,IntKind.bits,IntKind.signed];have c:(2^64:Int)=18446744073709551616:=by decide
 have d:(2^(64-1):Int)=9223372036854775808:=by decide
 simp only[c,d,D_,decide_eq_true_eq];split<;>omega
end
section
variable{v:AV}{q q':Bool}{H:Hp}{args:Is}{D n:Nat}{P:Program}{R:Rt}{F:Rt->AV->AV->AV->AV->Hp->KV->Af}{α:Type}{x:Value}
def BT.All(p:Nat->α->Prop):BT α->Prop
 |.leaf=>True
 |.node k v l r=>p k v/\l.All p/\r.All p
def zZ{p:Nat->α->Prop}:(BT.leaf:BT α).All p:=trivial
def zY{p:Nat->α->Prop}{k:Nat}{v:α}{l r:BT α}(h:p k v)(a:l.All p)(hr:r.All p):(BT.node k v l r).All p:=⟨h,a,hr⟩
theorem BT.All.get{p:Nat->α->Prop}:∀{b:BT α},b.All p->∀{i:Nat}{v:α},b.get i=some v->p i v:=by
 intro b
 induction b with
 |leaf=>intro _ i v h;cases h
 |node k w l r a c=>
  intro e i v h;obtain⟨h1,h2,d⟩:=e;simp only[BT.get]at h;split at h
  ·rename_i hk;injection h with h
   subst h;rw[Xz hk];exact h1
  ·split at h
   ·exact a h2 h
   ·exact c d h
abbrev NF:=Rt->Is->Hp->KV->Af
def ar0(F:Hp->KV->Af)(l:Is):Hp->KV->Af:=match l with|[]=>F|_=>λ_ _=>none
def ar1(F:AV->Hp->KV->Af)(l:Is):Hp->KV->Af:=match l with|[a]=>F a|_=>λ_ _=>none
def ar2(F:AV->AV->Hp->KV->Af)(l:Is):Hp->KV->Af:=match l with|[a,b]=>F a b|_=>λ_ _=>none
def ar3(F:AV->AV->AV->Hp->KV->Af)(l:Is):Hp->KV->Af:=match l with|[a,b,c]=>F a b c|_=>λ_ _=>none
def ar4(F:AV->AV->AV->AV->Hp->KV->Af)(l:Is):Hp->KV->Af:=match l with|[a,b,c,d]=>F a b c d|_=>λ_ _=>none
def Jr(E:XE)(R:Rt):A?:=λa c t H K=>Zp E R (A36 E R) a c t H K
def Lk(E:XE)(f:Nat)(F:NF):Prop:=∀(R:Rt)(args:Is)(H:Hp)(K:KV)(r:AV×Hp),F R args H K=some r->eY E (Jr E R) f args H K=some r
def lk0{E:XE}{f:Nat}{F:Rt->Hp->KV->Af}(h:∀R H K,eY E (Jr E R) f [] H K=F R H K):Lk E f λR=>ar0 (F R):=λR args H K r hr=>by
 match args,hr with
 |[],hr=>exact(h R H K).trans hr
def lk1{E:XE}{f:Nat}{F:Rt->AV->Hp->KV->Af}(h:∀R a H K,eY E (Jr E R) f [a] H K=F R a H K):Lk E f λR=>ar1 (F R):=λR args H K r hr=>by
 match args,hr with
 |[a],hr=>exact(h R a H K).trans hr
def lk2{E:XE}{f:Nat}{F:Rt->AV->AV->Hp->KV->Af}(h:∀R a b H K,eY E (Jr E R) f [a,b] H K=F R a b H K):Lk E f λR=>ar2 (F R):=λR args H K r hr=>by
 match args,hr with
 |[a,b],hr=>exact(h R a b H K).trans hr
def lk3{E:XE}{f:Nat}{F:Rt->AV->AV->AV->Hp->KV->Af}(h:∀R a b c H K,eY E (Jr E R) f [a,b,c] H K=F R a b c H K):Lk E f λR=>ar3 (F R):=λR args H K r hr=>by
 match args,hr with
 |[a,b,c],hr=>exact(h R a b c H K).trans hr
def lk4{E:XE}{f:Nat}(h:∀R a b c d H K,eY E (Jr E R) f [a,b,c,d] H K=F R a b c d H K):Lk E f λR=>ar4 (F R):=λR args H K r hr=>by
 match args,hr with
 |[a,b,c,d],hr=>exact(h R a b c d H K).trans hr
def jO(E:XE)(nT:BT NF)(R:Rt):B07:=λf args H K=>match nT.get f with|some F=>F R args H K|none=>eY E (Jr E R) f args H K
abbrev OF:=Is->Hp->KV->Af->Af
def rM(E:XE)(P:Program)(f:Nat)(F:OF):Prop:=∀(args:Is)(H:Hp)(K:KV)(alt:Af)(r:AV×Hp),F args H K alt=some r->
 alt=some r\/(VX P f/\Qa P E.G f args H (λc a=>K c a=some r))
def A0C(E:XE)(nT:BT NF)(oT:BT OF)(R:Rt):B07:=λf args H K=>match oT.get f with
 |some F=>F args H K (jO E nT R f args H K)
 |none=>jO E nT R f args H K
def Vi(E:XE)(nT:BT NF)(oT:BT OF)(n:Nat):Rt:=@Nat.rec (λ_=>Rt) ⟨λ_ _ _ _=>none,λ_ _ _ _ _=>none⟩ (λ_ R=>⟨A0C E nT oT R,Jr E R⟩) n
section
variable{E:XE}{nT:BT NF}{oT:BT OF}{f:Nat}
def TZ{F:NF}(h:nT.get f=some F)(a:oT.get f=none)(n:Nat)(args:Is)(H:Hp)(K:KV):(Vi E nT oT (n+1)).call f args H K=F (Vi E nT oT n) args H K:=by
 show A0C E nT oT (Vi E nT oT n) f args H K=_;unfold A0C;rw[a];unfold jO;simp only[h]
def A1Z{F:Rt->Hp->KV->Af}(h:nT.get f=some λR=>ar0 (F R))(a:oT.get f=none)(n:Nat)(H:Hp)(K:KV):(Vi E nT oT (n+1)).call f [] H K=F (Vi E nT oT n) H K:=TZ h a n _ H K
def A1Y{F:Rt->AV->Hp->KV->Af}(h:nT.get f=some λR=>ar1 (F R))(c:oT.get f=none)(n:Nat)(a:AV)(H:Hp)(K:KV):(Vi E nT oT (n+1)).call f [a] H K=F (Vi E nT oT n) a H K:=TZ h c n _ H K
def A1X{F:Rt->AV->AV->Hp->KV->Af}(h:nT.get f=some λR=>ar2 (F R))(c:oT.get f=none)(n:Nat)(a b:AV)(H:Hp)(K:KV):(Vi E nT oT (n+1)).call f [a,b] H K=F (Vi E nT oT n) a b H K:=TZ h c n _ H K
def A1W{F:Rt->AV->AV->AV->Hp->KV->Af}(h:nT.get f=some λR=>ar3 (F R))(d:oT.get f=none)(n:Nat)(a b c:AV)(H:Hp)(K:KV):(Vi E nT oT (n+1)).call f [a,b,c] H K=F (Vi E nT oT n) a b c H K:=TZ h d n _ H K
def A1V(h:nT.get f=some λR=>ar4 (F R))(e:oT.get f=none)(n:Nat)(a b c d:AV)(H:Hp)(K:KV):(Vi E nT oT (n+1)).call f [a,b,c,d] H K=F (Vi E nT oT n) a b c d H K:=TZ h e n _ H K
end
def A1U{E:XE}{nT:BT NF}{oT:BT OF}(e:XE.Ok oJ E P)(s:nT.All (Lk E))(p:oT.All (rM E P)):∀n,RSound oJ E P (Vi E nT oT n):=by
 intro n
 induction n with
 |zero=>
  refine⟨?_,?_⟩
  ·intro ro k c t H K r m h1 h2 h;cases h
  ·intro f args H K r h;cases h
 |succ n ih=>
  have u:A31 oJ E P (A36 E (Vi E nT oT n)):=H! (λ_ _ _ _ h=>h) e ih;have a:eP oJ E P (Jr E (Vi E nT oT n)):=λro k c t H K r m i w h=>H? e ih u i c t H K w h;have d:∀(f:Nat)(args:Is)(H:Hp)(K:KV)(r:AV×Hp),jO E nT (Vi E nT oT n) f args H K=some r->VX P f/\Qa P E.G f args H (λv j=>K v j=some r):=λf args H K r h=>by
   unfold jO at h;split at h
   ·rename_i F g;exact tY e a (s.get g _ _ _ _ _ h)
   ·exact tY e a h
  refine⟨a,λf args H K r h=>?_⟩;have h:A0C E nT oT (Vi E nT oT n) f args H K=some r:=h;unfold A0C at h;split at h
  ·rename_i F g;rcases p.get g _ _ _ _ _ h with h|h
   ·exact d f args H K r h
   ·exact h
  ·exact d f args H K r h
def Zg{G:Gl}{f:Nat}{K:KV}{r:AV×Hp}(g:K (.v x) H=some r)(hc:∀w0 C w a,Rel G w0 C H w->Cn C w args a->Calls P f a.toArray w λe c=>e=.returned x/\Below w.heap.size w c):Qa P G f args H (λi d=>K i d=some r):=λw0 C w a hr h=>
 (hc w0 C w a hr h).mono λe c ⟨he,hb⟩=>⟨.v x,x,C,H,he,hr.of_below hb,.v _,(hr.ext_below hb).frm,g⟩
def PS(R:Rt)(f:Nat)(args:Is)(v:AV):Prop:=∀H K,Aj R f args H K=K v
def Fx(b:Bool)(D:Nat)(a c:AV)(H:Hp)(q:Bool):Prop:=∀K:Bool->K2,I5 b H D a K=K q c
def CG{b:Bool}:Fx b D (.v x) (.v x) H false:=λK=>by cases D<;>rfl
def Pc{cs:Is}:Fx true D (.list n cs) (.list n cs) H false:=λK=>by cases D<;>rfl
def A3U{cs:Is}:Fx true D (.iptr cs) (.iptr cs) H false:=λK=>by cases D<;>rfl
def dG{es:IH}:Fx true D (.imap es) (.imap es) H false:=λK=>by cases D<;>rfl
def Py(b:Bool)(D:Nat)(l a:Is)(H:Hp)(q:Bool):Prop:=∀K:Bool->Is->Af,Il (I5 b H D) l K=K q a
def AG{b:Bool}:Py b D [] [] H false:=λ_=>rfl
def Aq{b:Bool}{a c:AV}{l d:Is}(h:Fx b D a c H q)(k:Py b D l d H q'):Py b D (a::l) (c::d) H (q||q'):=λK=>by
 have e:Il (I5 b H D) (a::l) K=I5 b H D a λq c=>Il (I5 b H D) l λq' d=>K (@Bool.rec (λ_=>Bool) q' true q) (c::d):=rfl;rw[e,h,k];cases q<;>rfl
theorem KF{b:Bool}(f:α->Value):∀(l:List α),Py b D (l.map λx=>.v (f x)) (l.map λx=>.v (f x)) H false
 |[]=>AG
 |a::l=>Aq (q:=false) (q':=false) CG (KF f l)
def PR{b:Bool}{cs cs':Is}(h:Py b D cs cs' H q):Fx b (D+1) (.agg cs) (.agg cs') H q:=λK=>h _
def Vq{b:Bool}{cs cs':Is}(h:Py b D cs cs' H q):Fx b (D+1) (.tup cs) (.tup cs') H q:=λK=>h _
def Bq{r:Nat}{x:Row}{K:Row->Af}(h:Al H r=some x):IN H r K=K x:=by
 induction H with
 |nil=>simp[Al]at h
 |cons p H ih=>
  obtain⟨k,y⟩:=p;simp only[Al]at h;have e:IN ((k,y)::H) r K=@Bool.rec (λ_=>Af) (IN H r K) (K y) (Nat.beq r k):=rfl;rw[e];by_cases hk:r=k
  ·rw[CZ hk]at h;rw[hk,ZX,<-(ZU h).1]
  ·rw[Cr hk]at h;have:Nat.beq r k=false:=by
    cases hb:Nat.beq r k
    ·rfl
    ·exact absurd (Xz hb) hk
   rw[this];exact ih h
def WS{b:Bool}{sz s n:Nat}{e:TypeId}{cs cs':Is}(i:Al H s=some (.cells q e cs))(hn:cs.length=n*sz)(h:Py b D cs cs' H q'):Fx b (D+1) (.sl sz s 0 n) (.list n cs') H true:=λK=>by
 have d:I5 b H (D+1) (.sl sz s 0 n) K=IN H s λx=>Ku x λ_ cs=>FI (Nat.mul n sz) (D0 0 cs) λc=>Il (I5 b H D) c λ_ a=>K true (.list n a):=rfl;rw[d,Bq i];have g:(Ku (.cells q e cs) λ_ cs=>FI (Nat.mul n sz) (D0 0 cs) λc=>Il (I5 b H D) c λ_ a=>K true (.list n a))=FI (n*sz) cs λc=>Il (I5 b H D) c λ_ a=>K true (.list n a):=rfl;rw[g,MH _ _ _ (by omega),l1z (by omega),h]
def CS(R:Rt)(f:Nat)(args:Is)(v:AV):Prop:=∀K:KV,(∀c a,(∀b,∃q,Fx b depth c v a q)->K c a=some (v,[]))->R.call f args [] K=some (v,[])
def AE{f:Nat}{args args':Is}{K:K2}(hc:CS R f args' v)(e:Py true depth args args' H q):Aj R f args H K=K v:=by
 unfold Aj;rw[e];have:=hc (λa c=>I5 (!q) c depth a λ_ g=>some (g,[])) (λa i h=>by
  obtain⟨q',d⟩:=h (!q);exact d _)
 rw[this];rfl
def CS.ps{f:Nat}(hc:CS R f args v)(a:∀H,Py true depth args args H false):PS R f args v:=λH K=>AE hc (a H)
end
section
variable{v zi zj:AV}{H:Hp}{k q:IntKind}
abbrev W(x:BitVec 32):AV:=.v (.int .u32 (x.toNat:Int))
abbrev By(b:UInt8):AV:=.v (.int .u8 (b.toNat:Int))
def L3(l:Ha):Is:=l.map λb=>By b
def DC(l:List (BitVec 32)):Is:=l.map λx=>W x
def Yy(h:k.signed=false)(z:Int):k.wrap z=z%(2^k.bits:Nat):=by
 simp only[IntKind.wrap,h,Bool.false_and];simp
def K7(x:BitVec 32):BitVec.ofInt 32 (x.toNat:Int)=x:=by
 apply BitVec.eq_of_toNat_eq;simp
def Zs{n:Nat}(h:n<4294967296):IntKind.u32.wrap (n:Int)=(n:Int):=by
 rw[Yy rfl];show(n:Int)%(4294967296:Nat)=n;omega
section
variable{K:K2}{i j:TI}{x y:BitVec 32}
def zK(op:BinOp)(f:IT)(c:Ig op=false)(a:A2y op=f):Ap i op (W x) (W y) K=f .u32 x.toNat y.toNat K:=by
 have:Ap i op (W x) (W y) K=@Bool.rec (λ_=>Af) (ck (decide (IntKind.u32=.u32)) (A2y op .u32 x.toNat y.toNat K)) (A2y op .u32 x.toNat y.toNat K) (Ig op):=rfl;rw[this,c,a];rfl
def OT:Ap i .add (W x) (W y) K=K (W (x+y)):=by
 rw[zK .add B2G rfl rfl];unfold B2G;rw[HZ,Yy rfl];have:((x.toNat:Int)+(y.toNat:Int))%(2^IntKind.u32.bits:Nat)=((x+y).toNat:Int):=by
  rw[BitVec.toNat_add];show((x.toNat:Int)+(y.toNat:Int))%(4294967296:Nat)=_;simp only[Int.natCast_emod,Int.natCast_add]
 show K (.v (.int .u32 (((x.toNat:Int)+(y.toNat:Int))%(2^IntKind.u32.bits:Nat))))=_;rw[this]
def Uk:Ap i .xor (W x) (W y) K=K (W (x^^^y)):=by
 rw[zK .xor B2E rfl rfl];unfold B2E;rw[Ug];have e:(BitVec.ofInt IntKind.u32.bits (x.toNat:Int)^^^BitVec.ofInt IntKind.u32.bits (y.toNat:Int)).toNat=(x^^^y).toNat:=by
  show(BitVec.ofInt 32 (x.toNat:Int)^^^BitVec.ofInt 32 (y.toNat:Int)).toNat=_;rw[K7,K7]
 rw[e,Zs (x^^^y).isLt]
def vU:Ap i .and (W x) (W y) K=K (W (x&&&y)):=by
 rw[zK .and B2F rfl rfl];unfold B2F;rw[Ug];have e:(BitVec.ofInt IntKind.u32.bits (x.toNat:Int)&&&BitVec.ofInt IntKind.u32.bits (y.toNat:Int)).toNat=(x&&&y).toNat:=by
  show(BitVec.ofInt 32 (x.toNat:Int)&&&BitVec.ofInt 32 (y.toNat:Int)).toNat=_;rw[K7,K7]
 rw[e,Zs (x&&&y).isLt]
def dZ:Ap i .or (W x) (W y) K=K (W (x|||y)):=by
 rw[zK .or iOr rfl rfl];unfold iOr;rw[Ug];have e:(BitVec.ofInt IntKind.u32.bits (x.toNat:Int)|||BitVec.ofInt IntKind.u32.bits (y.toNat:Int)).toNat=(x|||y).toNat:=by
  show(BitVec.ofInt 32 (x.toNat:Int)|||BitVec.ofInt 32 (y.toNat:Int)).toNat=_;rw[K7,K7]
 rw[e,Zs (x|||y).isLt]
def A99:PA .xor (W x) K=K (W (~~~x)):=by
 have a:PA .xor (W x) K=fI (IntKind.u32.wrap ((BitVec.ofInt IntKind.u32.bits (if IntKind.u32.signed=true then-1 else IntKind.u32.max)^^^BitVec.ofInt IntKind.u32.bits (x.toNat:Int)).toNat)) λz=>K (.v (.int .u32 z)):=rfl;rw[a,Ug];have e:(BitVec.ofInt IntKind.u32.bits (if IntKind.u32.signed=true then-1 else IntKind.u32.max)^^^BitVec.ofInt IntKind.u32.bits (x.toNat:Int)).toNat=(~~~x).toNat:=by
  show(BitVec.ofInt 32 4294967295^^^BitVec.ofInt 32 (x.toNat:Int)).toNat=_;rw[K7];have:BitVec.ofInt 32 4294967295=BitVec.allOnes 32:=by decide
  rw[this,BitVec.allOnes_xor]
 rw[e,Zs (~~~x).isLt]
def IY{z:Int}{k:Nat}(hz:z=k)(hk:k<=32):Ap i .shr (W x) (.v (.int q z)) K=K (W (x>>>k)):=by
 subst hz;have:Ap i .shr (W x) (.v (.int q (k:Int))) K=ck (lH 0 (k:Int)) (fI ((x.toNat:Int).fdiv (2^(min (k:Int).toNat 32))) λz=>K (.v (.int .u32 z))):=rfl;rw[this,Ug];have h1:lH 0 (k:Int)=true:=by rw[KE];simp
 have h2:(x.toNat:Int).fdiv (2^(min (k:Int).toNat 32))=((x>>>k).toNat:Int):=by
  rw[eS,l1x hk,BitVec.toNat_ushiftRight,Nat.shiftRight_eq_div_pow];have:((2:Int)^k)=((2^k:Nat):Int):=by simp
  rw[this,Int.fdiv_eq_ediv_of_nonneg _ (Int.natCast_nonneg _)];exact(Int.natCast_ediv _ _).symm
 rw[h1,h2];rfl
def KK{z:Int}{k:Nat}(hz:z=k)(hk:k<=32):Ap i .shl (W x) (.v (.int q z)) K=K (W (x<<<k)):=by
 subst hz;have:Ap i .shl (W x) (.v (.int q (k:Int))) K=ck (lH 0 (k:Int)) (N9 .u32 ((x.toNat:Int)*2^(min (k:Int).toNat 32)) λz=>K (.v (.int .u32 z))):=rfl;rw[this,HZ,Yy rfl];have h1:lH 0 (k:Int)=true:=by rw[KE];simp
 have h2:((x.toNat:Int)*2^(min (k:Int).toNat 32))%(2^IntKind.u32.bits:Nat)=((x<<<k).toNat:Int):=by
  rw[eS,l1x hk,BitVec.toNat_shiftLeft,Nat.shiftLeft_eq];have:((2:Int)^k)=((2^k:Nat):Int):=by simp
  rw[this,<-Int.natCast_mul];exact(Int.natCast_emod _ _).symm
 rw[h1,h2];rfl
def A9t{a b c d:Nat}:Im ⟨a,b,.int k,zi⟩ ⟨c,d,.int .u8,zj⟩ (W x) K=K (By (UInt8.ofNat x.toNat)):=by
 have:Im ⟨a,b,.int k,zi⟩ ⟨c,d,.int .u8,zj⟩ (W x) K=N9 .u8 (x.toNat:Int) λz=>K (.v (.int .u8 z)):=rfl;rw[this,HZ,Yy rfl];have:(x.toNat:Int)%(2^IntKind.u8.bits:Nat)=((UInt8.ofNat x.toNat).toNat:Int):=by
  rw[UInt8.toNat_ofNat'];exact(Int.natCast_emod _ _).symm
 rw[this]
def A9u{a b d e:Nat}{c:UInt8}:Im ⟨a,b,.int k,zi⟩ ⟨d,e,.int .u32,zj⟩ (By c) K=K (W (BitVec.ofNat 32 c.toNat)):=by
 have:Im ⟨a,b,.int k,zi⟩ ⟨d,e,.int .u32,zj⟩ (By c) K=N9 .u32 (c.toNat:Int) λz=>K (.v (.int .u32 z)):=rfl;rw[this,HZ,Yy rfl];have:(c.toNat:Int)%(2^IntKind.u32.bits:Nat)=((BitVec.ofNat 32 c.toNat).toNat:Int):=by
  rw[BitVec.toNat_ofNat];exact(Int.natCast_emod _ _).symm
 rw[this]
def A9A:Am (some (v,H)) K=K v:=id rfl
def A2M{a:KV}:CP (some (v,H)) a=a v H:=id rfl
end
end
section
variable{v:AV}{H H':Hp}{e n s sz:Nat}{K:Nat->Is->Af}{P:Nat->Prop}{x y:Row}{ie:TI}
def Wf(H:Hp):Prop:=∀k∈H.map (·.1),k<Ax H
def A8x(H:Hp)(r:Nat)(y:Row):(upd H r y).map (·.1)=H.map (·.1):=by
 induction H with
 |nil=>rfl
 |cons p H ih=>
  obtain⟨k,x⟩:=p;by_cases hk:r=k
  ·subst hk;simp[upd]
  ·simp[upd,hk,ih]
def E1:Wf []:=λk h=>by simp at h
def AM(h:Wf H):Wf ((Ax H,x)::H):=λk hk=>by
 show k<Ax H+1;simp only[VC,Qd]at hk;rcases hk with rfl|hk
 ·omega
 ·have:=h k hk;omega
def Bs{r:Nat}(h:Wf H):Wf (upd H r y):=λk hk=>by rw[BV];rw[A8x]at hk;exact h k hk
def A8l(h:Al H s=some x):s∈H.map (·.1):=by
 induction H with
 |nil=>simp[Al]at h
 |cons p H ih=>
  obtain⟨k,y⟩:=p;simp only[Al]at h;split at h
  ·rename_i hk;simp[hk]
  ·simp[ih h]
def Wf.lt(h:Wf H)(a:Al H s=some x):s<Ax H:=h s (A8l a)
def Av(a:x≠.gone):Al ((Ax H,x)::H) (Ax H)=some x:=by
 simp only[Al,CZ];cases x<;>first|rfl|exact absurd rfl a
def AK(c:s<Ax H)(a:Al H s=some y):Al ((Ax H,x)::H) s=some y:=by
 simp only[Al];rw[Cr (by omega)];exact a
structure Lat(H H':Hp)(P:Nat->Prop):Prop where
 wf:Wf H->Wf H'
 nx:Ax H<=Ax H'
 keep:Wf H->∀s x,Al H s=some x->¬P s->Al H' s=some x
def Lat.refl(H:Hp)(P:Nat->Prop):Lat H H P:=⟨id,Oj _,λ_ _ _ h _=>h⟩
def Lat.trans{H H' a:Hp}{P Q R:Nat->Prop}(h:Lat H H' P)(k:Lat H' a Q)(g:∀s,s<Ax H->P s->R s)(hq:∀s,s<Ax H->Q s->R s):Lat H a R:=
 ⟨λw=>k.wf (h.wf w),gP h.nx k.nx,λw s x c hn=>k.keep (h.wf w) s x (h.keep w s x c λd=>hn (g s (w.lt c) d)) λf=>hn (hq s (w.lt c) f)⟩
def Lat.cons(H:Hp)(x:Row)(P:Nat->Prop):Lat H ((Ax H,x)::H) P:=⟨AM,l1p _,λw s y a _=>AK (w.lt a) a⟩
theorem Lat.upd(H:Hp)(r:Nat)(y:Row)(a:P r):Lat H (upd H r y) P:=⟨Bs,by rw[BV];exact Oj _,λ_ s x c hn=>by rw[Ah (λe=>hn (by rw[e];exact a))];exact c⟩
def AZ(H:Hp)(e sz:Nat)(v:AV)(n:Nat)(cs:Is):Prop:=
 (v=.v (.slice none 0 0)/\n=0/\cs=[])\/∃r q,v=.sl sz r 0 n/\Al H r=some (.cells q e cs)/\cs.length=n*sz
def A6(v:AV)(s:Nat):Prop:=∃sz o n,v=.sl sz s o n
def AZ.lat{cs:Is}(h:AZ H e sz v n cs)(w:Wf H)(k:Lat H H' P)(c:∀s,A6 v s->¬P s):AZ H' e sz v n cs:=by
 rcases h with h|⟨r,q,h1,h2,a⟩
 ·exact .inl h
 ·exact .inr ⟨r,q,h1,k.keep w r _ h2 (c r ⟨sz,0,n,h1⟩),a⟩
theorem AZ.lt{cs:Is}(h:AZ H e sz v n cs)(w:Wf H)(d:A6 v s):s<Ax H:=by
 obtain⟨a,b,c,rfl⟩:=d;rcases h with⟨h,_⟩|⟨r,q,h1,h2,f⟩
 ·cases h
 ·injection h1 with _ h1;subst h1;exact w.lt h2
def Uh{cs:Is}:Ui H (.list n cs) K=K n cs:=rfl
def B8d{l:Ha}:Ui H (S l) K=K l.length (L3 l):=by
 have:Ui H (S l) K=HD l 0 λm=>YY l λc=>K m c:=rfl;rw[this,Cs,XC,Kk];rfl
def A9e:Ui H (.v (.slice none 0 0)) K=K 0 []:=rfl
def NQ{cs:Is}(h:AZ H e sz v n cs):Ui H v K=K n cs:=by
 rcases h with⟨rfl,rfl,rfl⟩|⟨r,q,rfl,h2,a⟩
 ·rfl
 ·have:Ui H (.sl sz r 0 n) K=IN H r λx=>Ku x λ_ cs=>FI (Nat.mul n sz) (D0 0 cs) λc=>K n c:=rfl;rw[this,Bq h2];show FI (n*sz) cs (λc=>K n c)=_;rw[MH _ _ _ (by omega),l1z (by omega)]
def apt{e sz n m:Nat}{ie i2:TI}{v src:AV}{cs ys:Is}(h:AZ H e sz v n cs)(Q:∀K:Nat->Is->Af,Ui H src K=K m ys)(k:ys.length=m*sz)(h1:ys.all AV.one=true)(hsz:sz≠0)(hz:(B2 ie.zero).length=sz)(R:(jC i2.d&&V3 sz src)=true)(hb:(n+m)*ie.bytes<=70368744177664)(j:n+m<=70368744177664):
 ∃A H',(∀K:KV,Ed e sz ie i2 v src H K=K A H')/\AZ H' e sz A (n+m) (cs++ys)/\(∀s,A6 A s->s=Ax H)/\Lat H H' (A6 v):=by
 have f:∀K:KV,Um e sz ie i2 v src H K=(match(generalizing:=false) v with
  |.v (.slice none 0 0)=>ck (Nat.ble (Nat.mul m ie.bytes) 70368744177664&&Nat.ble m 70368744177664) (@Bool.rec (λ_=>Af) (HV H λr=>K (.sl sz r 0 m) ((r,.cells false e ys)::H)) (K (.v (.slice none 0 0)) H) (Nat.beq m 0))
  |.sl t r1 o n=>IN H r1 λx=>Ku x λE cs=>HD cs 0 λcl=>
   ck (Nat.beq E e&&(Nat.beq t sz&&(Nat.beq (Nat.add o (Nat.mul n sz)) cl&&(Nat.ble (Nat.mul (Nat.add n m) ie.bytes) 70368744177664&&Nat.ble (Nat.add n m) 70368744177664))))
    (WX (D0 o cs) ys λi=>JI H r1 .gone λH'=>HV H λr=>fN (Nat.add n m) λnm=>K (.sl sz r 0 nm) ((r,.cells false e i)::H'))
  |_=>none):=λK=>by
  unfold Um;rw[Q,Cs,CQ,Cs];have c:(Nat.beq (0+ys.length) (Nat.mul m sz)&&(PI ys&&(!Nat.beq sz 0&&(Nat.beq (0+(B2 ie.zero).length) sz&&(jC i2.d&&V3 sz src)))))=true:=by
   have p:Nat.beq sz 0=false:=by
    cases hb:Nat.beq sz 0
    ·rfl
    ·exact absurd (Xz hb) hsz
   rw[Gu,h1,R,hz,k,p];simp
  rw[c];rfl
 rcases h with⟨rfl,rfl,rfl⟩|⟨r,q,rfl,h2,D⟩
 ·have c:(Nat.ble (Nat.mul m ie.bytes) 70368744177664&&Nat.ble m 70368744177664)=true:=by
   simp only[Kk]at hb j;rw[J2,eT,eT];exact⟨hb,j⟩
  cases m with
  |zero=>
   refine⟨.v (.slice none 0 0),H,λK=>?_,.inl ⟨rfl,rfl,by rw[l35];exact lX (by rw[k,Nat.zero_mul])⟩,λs ⟨a,b,c,g⟩=>by(cases g),⟨λw=>w,Oj _,λ_ u y V _=>V⟩⟩;show Um e sz ie i2 (.v (.slice none 0 0)) src H K=_;rw[f K];simp only[c];rfl
  |succ m=>
   refine⟨.sl sz (Ax H) 0 (m+1),(Ax H,.cells false e ys)::H,λK=>?_,.inr ⟨Ax H,false,by rw[Kk],by rw[l35];exact Av (by simp),by rw[l35,Kk];exact k⟩,λs ⟨a,b,c,g⟩=>by injection g with _ g;exact g.symm,Lat.cons _ _ _⟩;show Um e sz ie i2 (.v (.slice none 0 0)) src H K=_;rw[f K];have M:Nat.beq (m+1) 0=false:=rfl;simp only[c,M,BW];rfl
 ·refine⟨.sl sz (Ax H) 0 (n+m),(Ax H,.cells false e (cs++ys))::upd H r .gone,λK=>?_,.inr ⟨Ax H,false,rfl,?_,by rw[EJ,D,k,uY]⟩,λs ⟨a,b,c,g⟩=>by injection g with _ g;exact g.symm,?_⟩
  ·have N:Ed e sz ie i2 (.sl sz r 0 n) src H K=IN H r λx=>Ku x λE cs=>HD cs 0 λcl=>@Bool.rec (λ_=>Af) (RK (Nat.add 0 (Nat.mul n sz)) cs λi=>JI H r (.cells false E i) λL=>Um e sz ie i2 (.sl sz r 0 n) src L K) (Um e sz ie i2 (.sl sz r 0 n) src H K) (Nat.beq (Nat.add 0 (Nat.mul n sz)) cl):=rfl;rw[N,Bq h2];have C:∀F:TypeId->Is->Af,Ku (.cells q e cs) F=F e cs:=λ_=>rfl;rw[C,Cs];have B:Nat.beq (Nat.add 0 (Nat.mul n sz)) (0+cs.length)=true:=by
    show Nat.beq (0+n*sz) (0+cs.length)=true;rw[D];exact ZX _
   rw[B];show Um e sz ie i2 (.sl sz r 0 n) src H K=_;rw[f K];simp only;rw[Bq h2,C,Cs];have c:(Nat.beq e e&&(Nat.beq sz sz&&(Nat.beq (Nat.add 0 (Nat.mul n sz)) (0+cs.length)&&(Nat.ble (Nat.mul (Nat.add n m) ie.bytes) 70368744177664&&Nat.ble (Nat.add n m) 70368744177664))))=true:=by
    rw[B,ZX,ZX];simp only[D_,J2,eT];exact⟨hb,j⟩
   rw[c];show WX (D0 0 cs) ys _=_;rw[LR,C5,BW,D5,C9];rfl
  ·have:=Av (H:=upd H r .gone) (x:=.cells false e (cs++ys)) (by simp);rw[BV]at this;exact this
  ·have O:Lat H (upd H r .gone) (A6 (.sl sz r 0 n)):=Lat.upd H r .gone ⟨sz,0,n,rfl⟩;have J:=Lat.cons (upd H r .gone) (.cells false e (cs++ys)) (A6 (.sl sz r 0 n));rw[BV]at J;exact O.trans J (λ_ _ h=>h) (λ_ _ h=>h)
def vF(a:AV):∀n(K:Is->Af),WU n [a] K=K (List.replicate n a):=by
 intro n K;rw[WT]
 congr 1
 induction n with
 |zero=>rfl
 |succ n ih=>simp[Wq,ih,l17]
def YZ{a z:AV}(hz:∀K:Is->Af,Hz ie.zero K=K [z])(d:∀K:Is->Af,Hz a K=K [a])(h1:AV.one a=true)(K:KV):Gt e 1 ie 1 [(0,1,a)] H K=K (.sl 1 (Ax H) 0 1) ((Ax H,.cells false e [a])::H):=by
 unfold Gt;rw[hz];show WU 1 [z] (λcs=>YX [(0,1,a)] cs λc=>HV H λs=>K (.sl 1 s 0 1) ((s,.cells false e c)::H))=_;rw[vF];show Hz a (λvs=>HD vs 0 λn=>ck (Nat.beq n 1) (ck (PI vs) (DN 0 vs [z] λc=>HV H λs=>K (.sl 1 s 0 1) ((s,.cells false e c)::H))))=_;rw[d];have:PI [a]=true:=by rw[Gu];simp[h1]
 show ck (PI [a]) (HV H λs=>K (.sl 1 s 0 1) ((s,.cells false e [a])::H))=_;rw[this,BW];rfl
def LC{cs:Is}(h:cs.length=n):AZ ((Ax H,.cells false e cs)::H) e 1 (.sl 1 (Ax H) 0 n) n cs:=.inr ⟨Ax H,false,rfl,Av (by simp),by omega⟩
def A4c(l:Ha):(L3 l).all AV.one=true:=by simp[L3,AV.one,Value.oneCell']
def Ph(l:Ha):(L3 l).length=l.length:=by simp[L3]
def zR(a b:Ha):L3 a++L3 b=L3 (a++b):=by simp[L3]
end
section
variable{K:K2}{q:Bool}{aZ bd:Code}{H:Hp}{N e m p r s:Nat}{to:Option (Option Code)}{x:Row}{i t:TI}{α:Type}
def A1u:∀(l:List α)(k:Nat)(a:α),k<l.length->splice l k [a]=l.set k a:=by
 intro l
 induction l with
 |nil=>intro k a h;simp at h
 |cons b l ih=>
  intro k a h;cases k with
  |zero=>simp[splice]
  |succ k=>
   have:=ih k a (by simpa using h);simp only[splice,List.length_singleton]at this⊢;simp[this]
def QJ(l vs:List α)(h:vs.length=l.length):splice l 0 vs=vs:=by simp[splice,h]
def AP{ty:Nat}{cs:Is}{K:KV}(hz:i.zero=.agg cs):Ba ty i H K=K (.ptr (Ax H) 0 0) ((Ax H,.cells true ty cs)::H):=by
 unfold Ba;rw[hz,CQ,BW];rfl
def zJ{ty:Nat}{v:Value}{K:KV}(h1:AV.one (.v v)=true):Hd ty (.v v) H K=K (.ptr (Ax H) 0 0) ((Ax H,.cells true ty [.v v])::H):=by
 unfold Hd;rw[CQ,Gu,BW];have:(B2 (.v v)).all AV.one=true:=by simp[B2,h1]
 rw[this];rfl
def B8o{ty n:Nat}{cs:Is}{K:KV}:Hd ty (.list n cs) H K=K (.ptr (Ax H) 0 0) ((Ax H,.cells true ty [.list n cs])::H):=by
 unfold Hd;rw[CQ,Gu,BW];rfl
def Fb{ty:Nat}{cs:Is}{K:KV}(h1:cs.all AV.one=true):Hd ty (.agg cs) H K=K (.ptr (Ax H) 0 0) ((Ax H,.cells true ty cs)::H):=by
 unfold Hd;rw[CQ,Gu,BW];have:(B2 (.agg cs)).all AV.one=true:=h1;rw[this];rfl
def A5{cs:Is}(h:Al H r=some x):Al (upd H r (.cells q e cs)) r=some (.cells q e cs):=by
 rw[Dk h];rfl
def Em{cs:Is}{v:AV}{K:Ru}(d:Al H s=some (.cells q e cs))(f:p<cs.length)(hz:i.size=1)(hv:B2 v=[v])(h1:AV.one v=true):Dr i (.ptr s p 0) v H K=K (upd H s (.cells q e (cs.set p v))):=by
 have c:Dr i (.ptr s p 0) v H K=IN H s λx=>fJ x λq e cs=>Hz v λvs=>HD vs 0 λn=>ck (Nat.beq n i.size) (ck (PI vs) (DN (Nat.add p 0) vs cs λa=>JI H s (.cells q e a) K)):=rfl;rw[c,Bq d];show Hz v _=_;rw[CQ,hv,Cs,hz,Gu];have:[v].all AV.one=true:=by simp[h1]
 rw[this];show DN p [v] cs _=_;rw[IP _ _ _ _ (by simp;omega),A1u _ _ _ f,C5]
def Bv{cs vs:Is}{K:Ru}(f:Al H s=some (.cells q e cs))(c:vs.length=cs.length)(hz:i.size=cs.length)(h1:vs.all AV.one=true):Dr i (.ptr s 0 0) (.agg vs) H K=K (upd H s (.cells q e vs)):=by
 have d:Dr i (.ptr s 0 0) (.agg vs) H K=IN H s λx=>fJ x λq e cs=>Hz (.agg vs) λvs=>HD vs 0 λn=>ck (Nat.beq n i.size) (ck (PI vs) (DN 0 vs cs λa=>JI H s (.cells q e a) K)):=rfl;rw[d,Bq f];show(Hz (.agg vs) λvs=>HD vs 0 λn=>ck (Nat.beq n i.size) (ck (PI vs) (DN 0 vs cs λa=>JI H s (.cells q e a) K)))=_;have hc:B2 (.agg vs)=vs:=rfl;rw[CQ,hc,Cs,hz,Gu,h1,c,Kk,ZX];show DN 0 vs cs _=_;rw[IP _ _ _ _ (by omega),QJ _ _ c,C5]
def AX{cs:Is}(h:t.d.isAgg=true)(hz:t.size=cs.length)(a:Al H r=some (.cells q e cs)):A7 t (.ptr r 0 0) H K=K (.agg cs):=by
 have:A7 t (.ptr r 0 0) H K=IN H r λx=>Ku x λ_ cs=>@Bool.rec (λ_=>Af) (hdK (D0 0 cs) K) (FI t.size (D0 0 cs) λc=>K (.agg c)) t.d.isAgg:=rfl;rw[this,h,Bq a];show FI t.size (D0 0 cs) _=_;rw[C9,tJ,hz,MH _ _ _ (by omega),tN]
def AH{cs:Is}(h:t.d.isAgg=false)(f:Al H r=some (.cells q e cs))(a:p<cs.length):A7 t (.ptr r p 0) H K=K (cs.getD p .dk):=by
 have:A7 t (.ptr r p 0) H K=IN H r λx=>Ku x λ_ cs=>@Bool.rec (λ_=>Af) (hdK (D0 (Nat.add p 0) cs) K) (FI t.size (D0 (Nat.add p 0) cs) λc=>K (.agg c)) t.d.isAgg:=rfl;rw[this,h,Bq f];show hdK (D0 p cs) K=_;rw[C9,tK a,T9,JC a];rfl
def Ey{z:Int}(k:Nat)(c:t.d=.array m e 1)(hz:z=k)(hk:k<m):Dh t (.ptr s 0 0) (.v (.int .i64 z)) K=K (.ptr s k 0):=by
 subst hz;have f:Dh t (.ptr s 0 0) (.v (.int .i64 (k:Int))) K=iN (k:Int) λn=>ck (Nat.blt n m) (fN (Nat.add 0 (Nat.mul n 1)) λq=>K (.ptr s q 0)):=by
  obtain⟨a,b,d,z⟩:=t;simp only at c;subst c;rfl
 rw[f,JH,D5];have h2:Nat.add 0 (Nat.mul k 1)=k:=by show 0+k*1=k;omega
 have g:Nat.blt k m=true:=by rw[VD];exact hk
 rw[h2,g];rfl
def A46{t j:TI}{cs:Is}{z:Int}(k:Nat)(f:t.d=.array m e 1)(u:j.d.isAgg=false)(hz:z=k)(hk:k<m)(hc:m<=cs.length):dV t j (.agg cs) (.v (.int .i64 z)) K=K (cs.getD k .dk):=by
 subst hz;have g:dV t j (.agg cs) (.v (.int .i64 (k:Int))) K=iN (k:Int) λn=>ck (Nat.blt n m) (jL j (D0 (Nat.mul n 1) cs) K):=by
  obtain⟨a,b,d,z⟩:=t;simp only at f;subst f;rfl
 rw[g,JH];have h2:Nat.mul k 1=k:=D' k;have h:Nat.blt k m=true:=by rw[VD];exact hk
 have c:k<cs.length:=by omega
 rw[h2,h,C9,tK c,T9,JC c];show jL j (cs[k]::cs.drop (k+1)) K=_;unfold jL;rw[u];rfl
def I2{r p k:Nat}:Ox (.ptr r p k) K=K (.ptr r p k):=id rfl
theorem Qw{R:Rt}{args:Is}{t:Tm}{ps:Array Tmp}{K:KV}(g:Al H r=some (.loop N t ps aZ bd (some none)))(h:uX N ps.toList=true):
 Ol R r args H K=rdK R.run N t ps args aZ bd H (λd f=>Ek d r true none f) (λe c=>match e with
  |.normal=>Ek c r false (some none) λa=>K (.v (.bool true)) a
  |.ret=>Ek c r false (some (some .ret)) λa=>K (.v (.bool false)) a
  |.exit id=>Ek c r false (some (some (.exit id))) λa=>K (.v (.bool false)) a
  |.goto l=>Ek c r false (some (some (.goto l))) λa=>K (.v (.bool false)) a
  |_=>none):=by
 unfold Ol;rw[Bq g];show ck (uX N ps.toList) _=_;rw[h];rfl
def Qz{t:Tm}{ps:Array Tmp}{K:Ru}(a:Al H r=some (.loop N t ps aZ bd (some none))):Ek H r true to K=K (upd H r (.loop N t ps aZ bd to)):=by
 unfold Ek;rw[Bq a];show JI H r _ K=_;rw[C5]
def Qy{t:Tm}{ps:Array Tmp}{K:Ru}(a:Al H r=some (.loop N t ps aZ bd none)):Ek H r false to K=K (upd H r (.loop N t ps aZ bd to)):=by
 unfold Ek;rw[Bq a];show JI H r _ K=_;rw[C5]
def FE{t:Tm}{ps:Array Tmp}(h:Al H r=some x):Al (upd H r (.loop N t ps aZ bd to)) r=some (.loop N t ps aZ bd to):=by
 rw[Dk h];rfl
end
def A6p{E:XE}{g:Nat}{R:Rt}{args:Is}{H:Hp}{K:K2}(h:∀s,args≠[.ptr s 0 0]):zpm E g R args H K=Aj R g args H K:=by
 show @Bool.rec (λ_=>Af) (Aj R g args H K) (Uv R g args H K) (E.lm g)=_;cases E.lm g
 ·rfl
 ·show Uv R g args H K=_;unfold Uv;split
  ·rename_i s;exact absurd rfl (h s)
  ·rfl
section
variable{f:Nat}{P:Program}{α:Type}
def BT.allB(c:Nat->α->Bool):BT α->Bool
 |.leaf=>true
 |.node k v l r=>c k v&&(l.allB c&&r.allB c)
def A9Y{c:Nat->α->Bool}{p:Nat->α->Prop}(h:∀k v,c k v=true->p k v):∀{b:BT α},b.allB c=true->b.All p:=by
 intro b
 induction b with
 |leaf=>intro _;trivial
 |node k v l r a d=>
  intro hb;simp only[BT.allB,J2]at hb;exact⟨h k v hb.1,a hb.2.1,d hb.2.2⟩
def A1P:TD->Bool
 |.slice _ 0=>true
 |.array _ _ 0=>true
 |_=>false
def A38:AV->AV->Bool
 |.v (.int k n),.v (.int c d)=>decide (k=c)&&decide (n=d)
 |.v (.bool b),.v (.bool a)=>b==a
 |.v (.string s),.v (.string e)=>s.data.toList.isEmpty&&e.data.toList.isEmpty
 |.v (.slice none 0 0),.v (.slice none 0 0)=>true
 |.v (.pointer none),.v (.pointer none)=>true
 |.v (.map none),.v (.map none)=>true
 |.v .nilFunc,.v .nilFunc=>true
 |.v .nilIface,.v .nilIface=>true
 |_,_=>false
def eZ:Is->Is->Bool
 |[],[]=>true
 |a::c,b::d=>A38 a b&&eZ c d
 |_,_=>false
def zeq:AV->AV->Bool
 |.agg cs,.agg ds=>eZ cs ds
 |a,b=>A38 a b
def iZ{a b:AV}(h:A38 a b=true):a=b:=by
 unfold A38 at h;split at h<;>simp at h<;>try rfl
 ·rw[h.1,h.2]
 ·rw[h]
 ·rename_i s c;obtain⟨⟨l⟩⟩:=s;obtain⟨⟨d⟩⟩:=c;simp at h;rw[h.1,h.2]
def wK:∀{c d:Is},eZ c d=true->c=d:=by
 intro c
 induction c with
 |nil=>intro d h;cases d<;>simp[eZ]at h⊢
 |cons a c ih=>
  intro d h;cases d with
  |nil=>simp[eZ]at h
  |cons b d=>
   simp only[eZ,J2]at h;rw[iZ h.1,ih h.2]
def A4p{a b:AV}(h:zeq a b=true):a=b:=by
 unfold zeq at h;split at h
 ·rw[wK h]
 ·exact iZ h
def B51:TD->TD->Bool
 |.int k,.int d=>decide (k=d)
 |.bool,.bool=>true
 |.string,.string=>true
 |.pointer e,.pointer a=>decide (e=a)
 |.slice e n,.slice a g=>decide (e=a)&&decide (n=g)
 |.array m e n,.array i a g=>decide (m=i)&&decide (e=a)&&decide (n=g)
 |.struct h,.struct c=>decide (h=c)
 |.map k e,.map d a=>decide (k=d)&&decide (e=a)
 |.func,.func=>true
 |.iface,.iface=>true
 |.other,.other=>true
 |_,_=>false
def A1q{a b:TD}(h:B51 a b=true):a=b:=by
 unfold B51 at h;split at h<;>simp at h<;>try rfl
 ·rw[h]
 ·rw[h]
 ·rw[h.1,h.2]
 ·rw[h.1.1,h.1.2,h.2]
 ·rw[h]
 ·rw[h.1,h.2]
def tiB(P:Program)(t:Nat)(i:TI):Bool:=
 match P.info? t with
 |some x=>match P.underlying t,x.zero with
  |some u,some z=>Nat.beq x.size i.size&&(Nat.beq x.bytes i.bytes&&(B51 (td P u) i.d&&(zeq (rR z) i.zero&& !A1P i.d)))
  |_,_=>false
 |none=>false
def TiR(P:Program)(t:Nat)(i:TI):Prop:=TOk1 P t i/\A1P i.d=false
def B50(t:Nat)(i:TI)(h:tiB P t i=true):TiR P t i:=by
 unfold tiB at h;split at h
 ·rename_i x a;split at h
  ·rename_i u z g hz;simp only[J2,yL]at h;obtain⟨h1,h2,c,d,e⟩:=h;refine⟨⟨?_,?_,?_⟩,e⟩
   ·rw[a];simp[Xz h1,Xz h2]
   ·rw[a];simp[hz,A4p d]
   ·rw[g];simp[A1q c]
  ·cases h
 ·cases h
def FnR(P:Program)(f:Nat)(x:XFn):Prop:=(P.funcs[f]?).map (λfn=>(fn.body,fn.ntmps,fn.results.toList,fn.name== "runtime.NumGoroutine"))=some (some x.c,x.n,x.rs,false)
def FnR.ex{x:XFn}(h:FnR P f x):∃fn,P.funcs[f]?=some fn/\fn.body=some x.c/\fn.ntmps=x.n/\fn.results.toList=x.rs/\(fn.name== "runtime.NumGoroutine")=false:=by
 unfold FnR at h;cases a:P.funcs[f]? with
 |none=>rw[a]at h;simp at h
 |some fn=>
  rw[a]at h;simp only[rT,l0y,Prod.mk.injEq]at h;exact⟨fn,rfl,h.1,h.2.1,h.2.2.1,h.2.2.2⟩
def DrR(E:XE)(_:Nat)(x:XFn):Prop:=RX (oJ E ⟨false,x.lv,x.fz,x.n,x.rc⟩) x.c=true
def eqR(P:Program)(t:Nat)(ks:List LK):Prop:=leaves P 6 t=some (true,ks)/\P.eqGuardType P.depth t=false
def glR(_:Nat)(cs:Is):Prop:=cs.all isV=true
def C0t(P:Program)(l:Lie):Prop:=liesAt P P.depth l.1 (l.2.1/P.cellsOf l.1) l.2.2.1 l.2.2.2 1=true/\(P.info? l.2.2.2).isSome=true
def B9d{E:XE}(c:E.ty.All (TiR P))(k:E.T=E.ty.get)(a:P.follows .mixedOrders=true)(j:E.gl.All glR)(w:E.ft.All (FnR P))(v:E.ft.All (DrR E))(he:E.eqt.All (eqR P))(y:∀l∈E.lie,C0t P l)(A:P.underlying E.up=some .unsafePointer)(hn:∀f,E.ne f=true->eQ P f):XE.Ok oJ E P where
 ty:=λt i h=>(c.get (by rw[k]at h;exact h)).1
 pos:=λt i e m h d p=>by
  have:=(c.get (by rw[k]at h;exact h)).2;subst p;rcases d with d|⟨n,d⟩<;>(rw[d]at this;simp[A1P]at this)
 mix:=a
 gl:=λg cs h=>j.get h
 fn:=λf x h=>by
  obtain⟨fn,h1,h2,q,r,s⟩:=(w.get h).ex;exact⟨fn,h1,h2,q,r,s,v.get h⟩
 eq:=λt ks h=>⟨(he.get h).1,(he.get h).2⟩
 lie:=λe n o u h=>y _ h
 up:=λ_=>A
 ne:=hn
def yP{fn:Func}(e:P.funcs[f]?=some fn)(c:(fn.name== "runtime.NumGoroutine")=false)(hb:fn.body.isNone=true)(hn:Extern.findNext fn=none)(he:Extern.find fn=some Extern.AbiNoEscape.same):eQ P f:=by
 intro x w;have:Extern.AbiNoEscape.same #[x]=pure x:=rfl;have a:¬fn.name= "runtime.NumGoroutine" :=by simpa using c
 have d:fn.body=none:=by simpa using hb
 simp[callFunc,e,a,d,hn,he,mark,this];rfl
end
end Go.Abs
end
