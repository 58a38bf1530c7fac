import Derived.ChangeKeysEq
import Derived.Laws.StructEq
import Derived.Laws.BytesString
import Derived.Laws.MakeOwn
import Derived.Laws.IdiomRangeMap
import Derived.Test.YtdaajghondabnaaGreatDoorP01
set_option linter.all false
set_option maxHeartbeats 100000000
noncomputable section
namespace Go.Abs
open Go.RowKit
section
variable{a ix v x:AV}{K:K2}{fs:List (Nat×Nat×TypeId)}{f ft off sz:Nat}{i j:TI}
section
variable{T:Ty}{H:Hp}{r:AV×Hp}
def CD(off:Nat)(v:AV)(K:K2):Af:=
 match v with
 |.ptr s p k=>fN (Nat.add (Nat.add p k) off) λo=>K (.ptr s o 0)
 |.iptr cs=>K (.iptr (Dn off cs))
 |_=>none
def B1K{ty:TypeId}(b:T ty=some i)(c:i.d=.struct fs)(e:fs[f]?=some (off,sz,ft))(hz:sz≠0)(h:CD off v K=some r):∃u,K u=some r/\kJ T ty v f (λg=>g=u):=by
 unfold CD at h;split at h
 ·rw[Ee]at h;refine⟨_,h,?_⟩;simp only[kJ,b,c,e];exact⟨hz,_,0,by simp[kD],rfl⟩
 ·rw[CA]at h;refine⟨_,h,?_⟩;simp only[kJ,b,c,e];exact⟨hz,trivial⟩
 ·cases h
def B1J(off:Nat)(j:TI)(v:AV)(K:K2):Af:=
 match v with
 |.agg cs=>oL j (Dn off cs) K
 |_=>none
def A7U{ty:TypeId}(b:T ty=some i)(c:i.d=.struct fs)(e:fs[f]?=some (off,sz,ft))(g:T ft=some j)(h:B1J off j v K=some r):∃u,K u=some r/\sD T ty v f (λk=>k=u):=by
 unfold B1J at h;split at h
 ·rw[CA]at h;obtain⟨u,h1,h2⟩:=Xu (T:=T) (ty:=ft) g h;exact⟨u,h1,by simp only[sD,b,c,e];exact h2⟩
 ·cases h
def U!(a:AV)(K:Int->Af):Af:=match a with|.v (.int _ n)=>K n|_=>none
def PZ{K:Int->Af}(h:U! a K=some r):∃k n,a=.v (.int k n)/\K n=some r:=by
 unfold U! at h;split at h
 ·exact⟨_,_,rfl,h⟩
 ·cases h
def DC(i:TI)(x ix:AV)(K:K2):Af:=
 U! ix λz=>iN z λn=>match i.d,x with
  |.slice _ b,.list m cs=>ck (Nat.blt n m) (SU b (Dn (Nat.mul n b) cs) λc=>K (.iptr c))
  |.slice _ b,.sl _ s o m=>ck (Nat.blt n m) (fN (Nat.add o (Nat.mul n b)) λp=>K (.ptr s p 0))
  |.array m _ b,.ptr s p k=>ck (Nat.blt n m) (fN (Nat.add (Nat.add p k) (Nat.mul n b)) λq=>K (.ptr s q 0))
  |.array m _ b,.iptr cs=>ck (Nat.blt n m) (SU b (Dn (Nat.mul n b) cs) λc=>K (.iptr c))
  |_,_=>none
def B1F{ty:TypeId}(d:T ty=some i)(h:DC i x ix K=some r):∃u,K u=some r/\sC T ty x ix (λe=>e=u):=by
 unfold DC at h;obtain⟨k,z,rfl,c⟩:=PZ h;clear h;obtain⟨n,rfl,h⟩:=Xl c;clear c;unfold sC;rw[d];simp only;split at h
 ·rename_i b;obtain⟨h1,h⟩:=B7 h;rw[OJ,CA]at h;rw[Xi]at h1;exact⟨_,h,by simp only[b,mG];exact⟨⟨by omega,by omega⟩,rfl⟩⟩
 ·rename_i b;obtain⟨h1,h⟩:=B7 h;rw[Ee]at h;rw[Xi]at h1;exact⟨_,h,by simp only[b,mG];exact⟨⟨by omega,by omega⟩,rfl⟩⟩
 ·rename_i b;obtain⟨h1,h⟩:=B7 h;rw[Ee]at h;rw[Xi]at h1;exact⟨_,h,by simp only[b,mG];exact⟨⟨by omega,by omega⟩,_,0,by simp[kD],rfl⟩⟩
 ·rename_i b;obtain⟨h1,h⟩:=B7 h;rw[OJ,CA]at h;rw[Xi]at h1;exact⟨_,h,by simp only[b,mG];exact⟨⟨by omega,by omega⟩,rfl⟩⟩
 ·cases h
def B6L(l:Ha)(K:K2):Af:=@List.rec UInt8 (λ_=>Af) none (λb _ _=>fN b.toNat λn=>K (.v (.int .u8 (.ofNat n)))) l
def jK(i j:TI)(x ix:AV)(K:K2):Af:=
 U! ix λz=>iN z λn=>match i.d,x with
  |.string,.v (.string s)=>B6L (Dn n s.data.toList) K
  |.array m _ b,.agg cs=>ck (Nat.blt n m) (oL j (Dn (Nat.mul n b) cs) K)
  |_,_=>none
def jF(i:TI):Option TypeId:=match i.d with|.array _ e _=>some e|.slice e _=>some e|_=>none
def A7T{ty:TypeId}(t:T ty=some i)(w:∀e,jF i=some e->T e=some j)(h:jK i j x ix K=some r):∃u,K u=some r/\sB T ty x ix (λA=>A=u):=by
 unfold jK at h;obtain⟨k,z,rfl,g⟩:=PZ h;clear h;obtain⟨n,rfl,h⟩:=Xl g;clear g;unfold sB;rw[t];simp only;split at h
 ·rename_i s c;rw[CA]at h;cases d:s.data.toList.drop n with
  |nil=>rw[d]at h;cases h
  |cons b l=>
   rw[d]at h;have h:(fN b.toNat λn=>K (.v (.int .u8 (.ofNat n))))=some r:=h;rw[Ee]at h;have y:n<s.data.toList.length:=by
    have:=congrArg List.length d;simp at this;simp;omega
   have hb:s.data.toList[n]?=some b:=by
    have:=congrArg (λl=>l[0]?) d;simpa using this
   refine⟨_,h,?_⟩;simp only[c,mG];refine⟨⟨by omega,?_⟩,?_⟩
   ·have:s.size=s.data.toList.length:=rfl;omega
   ·rw[UW,hb];rfl
 ·rename_i m e p cs c;obtain⟨h1,h⟩:=B7 h;rw[CA]at h;rw[Xi]at h1;obtain⟨u,h2,q⟩:=Xu (T:=T) (ty:=e) (w e (by simp[jF,c])) h;exact⟨u,h2,by simp only[c,mG];exact⟨⟨by omega,by omega⟩,q⟩⟩
 ·cases h
def XX(x:Option AV)(d:Nat)(K:Nat->Af):Af:=
 match x with
 |none=>fN d K
 |some a=>U! a λz=>iN z K
def Jt{x:Option AV}{d:Nat}{K:Nat->Af}(h:XX x d K=some r):∃n:Nat,ZK x d=some (n:Int)/\K n=some r:=by
 unfold XX at h;split at h
 ·rw[Ee]at h;exact⟨d,rfl,h⟩
 ·obtain⟨k,z,rfl,h1⟩:=PZ h;obtain⟨n,rfl,h2⟩:=Xl h1;exact⟨n,rfl,h2⟩
def Es(i:TI)(x:AV)(k g mx:Option AV)(K:K2):Af:=
 match i.d,x with
 |.string,.v (.string s)=>ck mx.isNone (XX k 0 λl=>HK s.data.toList 0 λm=>XX g m λh=>ck (Nat.ble l h&&Nat.ble h m) (SU (Nat.sub h l) (Dn l s.data.toList) λb=>K (.v (.string ⟨⟨b⟩⟩))))
 |.slice _ e,.list m cs=>XX k 0 λl=>XX g m λh=>XX mx m λx=>ck ((mx.isNone||g.isSome)&&(Nat.ble l h&&(Nat.ble h x&&Nat.ble x m))) (fN (Nat.sub h l) λn=>SU (Nat.mul n e) (Dn (Nat.mul l e) cs) λc=>K (.list n c))
 |.slice _ e,.sl sz s o m=>ck (Nat.beq e sz) (XX k 0 λl=>XX g m λh=>XX mx m λx=>ck ((mx.isNone||g.isSome)&&(Nat.ble l h&&(Nat.ble h x&&Nat.ble x m))) (fN (Nat.add o (Nat.mul l e)) λp=>fN (Nat.sub h l) λn=>K (.sl sz s p n)))
 |.slice _ _,.v (.slice none 0 0)=>ck mx.isNone (XX k 0 λl=>XX g 0 λh=>ck (Nat.beq l 0&&Nat.beq h 0) (K (.v (.slice none 0 0))))
 |_,_=>none
def A28{ty:TypeId}{t q mx:Option AV}(w:T ty=some i)(h:Es i x t q mx K=some r):∃u,K u=some r/\rY T ty x t q mx (λA=>A=u):=by
 unfold Es at h;unfold rY;rw[w];simp only;split at h
 ·rename_i s b;obtain⟨g,h⟩:=B7 h;obtain⟨l,c,h⟩:=Jt h;rw[Cy]at h;obtain⟨n,hn,h⟩:=Jt h;obtain⟨h1,h⟩:=B7 h;rw[OJ,CA]at h;simp only[KF,kC]at h1;have hz:0+s.data.toList.length=s.size:=Kd _;rw[hz]at hn h1;refine⟨_,h,?_⟩;simp only[b,c,hn,Mb,mG];refine⟨g,⟨by omega,by omega,by omega⟩,?_⟩
  congr 2
  apply ByteArray.ext;apply qI;simp only[ByteArray.data_extract,Array.toList_extract,List.extract];rfl
 ·rename_i e d m cs b;obtain⟨l,c,h⟩:=Jt h;obtain⟨n,hn,h⟩:=Jt h;obtain⟨y,p,h⟩:=Jt h;obtain⟨h1,h⟩:=B7 h;rw[Ee,OJ,CA]at h;simp only[KF,kC]at h1;refine⟨_,h,?_⟩;have k:((n:Int)-l).toNat=n-l:=by omega
  simp only[b,c,hn,p,Mb,mG,k];refine⟨⟨by omega,by omega,by omega,by omega⟩,λhm=>?_,rfl⟩;cases mx with
  |none=>simp at hm
  |some _=>simpa using h1.1
 ·rename_i e d sz s o m b;obtain⟨g,h⟩:=B7 h;obtain⟨l,c,h⟩:=Jt h;obtain⟨n,hn,h⟩:=Jt h;obtain⟨y,p,h⟩:=Jt h;obtain⟨h1,h⟩:=B7 h;rw[Ee,Ee]at h;simp only[KF,kC]at h1;refine⟨_,h,?_⟩;have k:((n:Int)-l).toNat=n-l:=by omega
  simp only[b,c,hn,p,Mb,mG,k];refine⟨Z5 g,⟨by omega,by omega,by omega,by omega⟩,λhm=>?_,rfl⟩;cases mx with
  |none=>simp at hm
  |some _=>simpa using h1.1
 ·rename_i e d b;obtain⟨g,h⟩:=B7 h;obtain⟨l,c,h⟩:=Jt h;obtain⟨n,hn,h⟩:=Jt h;obtain⟨h1,h⟩:=B7 h;simp only[KF,rC]at h1;refine⟨_,h,?_⟩;simp only[b,c,hn,Mb];exact⟨g,⟨by omega,by omega⟩,trivial⟩
 ·cases h
def CM(v:AV)(k:Nat)(K:K2):Af:=match v with|.tup vs=>hdK (Dn k vs) K|_=>none
def A7V{k:Nat}(h:CM v k K=some r):∃vs u,v=.tup vs/\vs[k]?=some u/\K u=some r:=by
 unfold CM at h;split at h
 ·rename_i vs;rw[CA]at h;obtain⟨a,l,b,h⟩:=A1P h;refine⟨vs,a,rfl,?_,h⟩;have:=congrArg (λl=>l[0]?) b;simpa using this
 ·cases h
def Bh(i:TI)(x:AV)(K:K2):Af:=
 match i.d,x with
 |.string,.v (.string s)=>HK s.data.toList 0 λn=>K (.v (.int .i64 (.ofNat n)))
 |.slice _ _,.list n _=>K (.v (.int .i64 (.ofNat n)))
 |.slice _ _,.sl _ _ _ n=>K (.v (.int .i64 (.ofNat n)))
 |.slice _ _,.v (.slice none 0 0)=>K (.v (.int .i64 (.ofNat 0)))
 |.array n _ _,_=>K (.v (.int .i64 (.ofNat n)))
 |_,_=>none
def A7S{ty:TypeId}(c:T ty=some i)(h:Bh i x K=some r):∃u,K u=some r/\A8E T ty x (λd=>d=u):=by
 unfold Bh at h;unfold A8E;rw[c];simp only;split at h
 ·rename_i s b;rw[Cy]at h;refine⟨_,h,?_⟩;simp only[b];rw[Kd];rfl
 ·rename_i b;exact⟨_,h,by simp only[b];rfl⟩
 ·rename_i b;exact⟨_,h,by simp only[b];rfl⟩
 ·rename_i b;exact⟨_,h,by simp only[b];rfl⟩
 ·rename_i b;exact⟨_,h,by simp only[b];rfl⟩
 ·cases h
def eMM(c:Bool)(a b:AV)(K:K2):Af:=
 match a,b with
 |.v (.int k x),.v (.int d y)=>ck (decide (k=d)) (@Bool.rec (λ_=>Af) (@Bool.rec (λ_=>Af) (K (.v (.int k y))) (K (.v (.int k x))) (qJ y x)) (@Bool.rec (λ_=>Af) (K (.v (.int k y))) (K (.v (.int k x))) (qJ x y)) c)
 |.v (.string s),.v (.string u)=>@Bool.rec (λ_=>Af) (K (.v (.string u))) (K (.v (.string s))) (@Bool.rec (λ_=>Bool) (!ltB s.data.toList u.data.toList) (ltB s.data.toList u.data.toList||eqB s.data.toList u.data.toList) c)
 |_,_=>none
def A2e{c:Bool}{a b:AV}(h:eMM c a b K=some r):∃u,K u=some r/\xmm c a b (λm=>m=u):=by
 unfold eMM at h;split at h
 ·rename_i k x g y;obtain⟨h1,h⟩:=B7 h;simp only[xmm];have e:k=g:=by simpa using h1
  cases c
  ·rw[LD]at h;by_cases d:y<=x
   ·rw[HR d]at h;exact⟨_,h,e,by rw[CF (by simp),CF (by omega)]⟩
   ·rw[HW d]at h;exact⟨_,h,e,by rw[CF (by simp),Dq (by omega)]⟩
  ·rw[LD x y]at h;by_cases d:x<=y
   ·rw[HR d]at h;exact⟨_,h,e,by rw[Dq rfl,CF (by omega)]⟩
   ·rw[HW d]at h;exact⟨_,h,e,by rw[Dq rfl,Dq (by omega)]⟩
 ·rename_i s u;simp only[xmm];cases c
  ·simp only[S?,Ym]at h⊢;cases hb:(!Op.bytesLess s.data.toList u.data.toList)<;>(rw[hb]at h;exact⟨_,h,rfl⟩)
  ·simp only[S?,QU,Ym]at h⊢;cases hb:(Op.bytesLess s.data.toList u.data.toList||s.data.toList==u.data.toList)<;>(rw[hb]at h;exact⟨_,h,rfl⟩)
 ·cases h
end
end
section
variable{r:AV×Hp}{tmps:Array Value}{fn:Func}{args:Is}{ys:Hx}{i k m:Nat}{t:Tm}{wa:World}
def Ctx.delB(C:Ctx)(b:Nat):Ctx:={C with B:=λk=>C.B k/\k≠b}
section
variable{P:Program}{G:Gl}{w0:Base}{C:Ctx}{H:Hp}{w w':World}{b:Nat}{o o':Obj}
def A01(hb:w.heap[b]?=some o)(a:∀arr T fz,o≠.cells arr T fz){v:Value}(h:w.cell? ⟨k,i,none⟩=some v):k≠b:=by
 intro e;subst e;simp only[World.cell?,hb]at h;cases o<;>simp at h
 exact a _ _ _ rfl
def SameObj.cell(c:SameObj w w' b o')(a:k≠b):w'.cell? ⟨k,i,none⟩=w.cell? ⟨k,i,none⟩:=l0t (c.others k a)
def VRel.shut(hb:w.heap[b]?=some (.deferred (some [])))(f:SameObj w w' b o'){a:AV}{y:Value}(h:VRel C w a y):VRel (C.delB b) w' a y:=by
 have p:∀arr T fz,(Obj.deferred (some []):Obj)≠.cells arr T fz:=λ_ _ _ h=>by cases h
 induction h with
 |v x=>exact .v x
 |ptr h=>exact .ptr h
 |iptr vs q hc _ ih=>exact .iptr vs q (λi c=>(f.cell (A01 hb p (hc i c))).trans (hc i c)) (λi c=>ih i c hb f)
 |list0=>exact .list0
 |list h vs q hc _ ih=>exact .list h vs q (λi c=>(f.cell (A01 hb p (hc i c))).trans (hc i c)) (λi c=>ih i c hb f)
 |sl h j d hsz=>exact .sl h j ((f.others _ (λe=>by subst e;rw[hb]at d;cases d)).trans d) hsz
 |slz hr=>exact .slz hr
 |fn ys F g s _ _ u A=>exact .fn ys F g s (λi c=>u i c hb f) (λi c=>A i c hb f)
 |agg ys g _ ih=>exact .agg ys g (λi c=>ih i c hb f)
 |tup ys g _ ih=>exact .tup ys g (λi c=>ih i c hb f)
 |mp h=>exact .mp h
 |@imap C w J b2 clock ms B d g D hn hc _ ih=>
  have n:b2≠b:=λe=>by subst e;rw[hb]at d;cases d
  exact .imap ms ⟨B,n⟩ ((f.others _ n).trans d) g D hn hc (λi c=>ih i c hb f)
 |yl h=>exact .yl h
 |it h=>exact .it h
 |dk y=>exact .dk y
theorem CG.shut(hb:w.heap[b]?=some (.deferred (some [])))(e:SameObj w w' b o'){c:Is}(h:CG C w c ys):CG (C.delB b) w' c ys:=
 ⟨h.1,λi a d=>let⟨y,f,hv⟩:=h.2 i a d;⟨y,f,hv.shut hb e⟩⟩
theorem LQ.shut(hb:w.heap[b]?=some (.deferred (some [])))(d:SameObj w w' b o'){es:IH}{ms:List MapEntry}(h:LQ C w es ms):LQ (C.delB b) w' es ms:=
 ⟨h.1,λi p c=>let⟨m,hm,a,hv⟩:=h.2 i p c;⟨m,hm,a,hv.shut hb d⟩⟩
theorem fK.shut(hb:w.heap[b]?=some (.deferred (some [])))(d:SameObj w w' b o'){ms:Array MapEntry}{seen:Array Nat}:∀{x:Option (Value×AV)},fK C w ms seen x->fK (C.delB b) w' ms seen x
 |none,_=>trivial
 |some _,⟨m,h1,h2,a,c⟩=>⟨m,h1,h2,a,c.shut hb d⟩
theorem XF.shut(hb:w.heap[b]?=some (.deferred (some [])))(a:SameObj w w' b o')(h:XF C w t tmps):XF (C.delB b) w' t tmps:=λi=>(h i).shut hb a
def A11(q:Bool):(C.delB b).sel q=(C.sel q).delB b:=by cases q<;>rfl
theorem To.shut(hb:w.heap[b]?=some (.deferred (some [])))(a:SameObj w w' b o'){r:Nat}{x:Row}(h:To C w r x):To (C.delB b) w' r x:=by
 have ne:∀{k:Nat}{q:Obj},w.heap[k]?=some q->(∀l,q≠.deferred l)->k≠b:=λn hq e=>by
  subst e;rw[hb]at n;injection n with n;exact hq _ n.symm
 cases x with
 |cells q T cs=>
  rcases h with⟨h1,h2⟩|⟨k,f,arr,fz,h⟩
  ·exact .inl ⟨h1,h2⟩
  ·refine .inr ⟨k,f,arr,fz,h.at_,(a.others k (ne h.block (λ_ e=>by cases e))).trans h.block,h.free,h.fits,?_,h.exact⟩;rw[A11];exact h.vals.shut hb a
 |map q M L=>
  obtain⟨k,ms,clock,h1,c,g,d,j⟩:=h;refine⟨k,ms,clock,h1,(a.others k (ne c (λ_ e=>by cases e))).trans c,g,?_,j⟩;rw[A11];exact d.shut hb a
 |loop N t ps J K u=>
  obtain⟨k,l,h1,h2,c,g,d,j,p,s,B⟩:=h;exact⟨k,l,h1,(a.others k (ne h2 (λ_ e=>by cases e))).trans h2,c,g,d,j,p,s,B.shut hb a⟩
 |iter left D=>
  obtain⟨k,F,since,seen,last,h1,h2,c⟩:=h;refine⟨k,F,since,seen,last,h1,(a.others k (ne h2 (λ_ e=>by cases e))).trans h2,?_⟩;rcases c with c|⟨m,ms,clock,v,y,A,g,d,j,p,s⟩
  ·exact .inl c
  ·have hm:=ne d (λ_ e=>by cases e);exact .inr ⟨m,ms,clock,v,y,A,⟨g,hm⟩,(a.others m hm).trans d,j,p.shut (C:=C.bare) hb a,s.shut (C:=C.bare) hb a⟩
 |gone=>trivial
theorem Rel.shut(h:Rel G w0 C H w)(hb:w.heap[b]?=some (.deferred (some [])))(n:w0.own b)(a:SameObj w w' b o'):Rel G w0 (C.delB b) H w':=by
 have d:∀arr T fz,(Obj.deferred (some []):Obj)≠.cells arr T fz:=λ_ _ _ h=>by cases h
 refine⟨λg cs j i v hv=>?_,h.below.same_obj a n,h.lt,λr x e=>(h.rows r x e).shut hb a,λr x k o e p=>?_,h.sep,λk i f=>a.size▸h.fin k i f,λk c=>a.size▸h.finB k c.1,h.nx⟩
 ·have:=h.glob g cs j i v hv;exact⟨this.1,(a.cell (A01 hb d this.2)).trans this.2⟩
 ·have:=h.own r x k o e p;exact⟨this.1,this.2.1,λc=>this.2.2 c.1⟩
def A6t(E:XE)(t:Tm)(H:Hp)(rs:List ResultVar):(Is->Af)->Af:=
 @List.rec ResultVar (λ_=>(Is->Af)->Af) (λK=>K [])
  (λr _ ih K=>match r with
   |.tmp i=>gtm t i λv=>ih λvs=>K (v::vs)
   |.cell a ty=>gtm t a λp=>E.ty.getK ty λi=>AD i p H λv=>ih λvs=>K (v::vs)) rs
def qP(vs:Is)(K:K2):Af:=
 @List.rec AV (λ_=>Af) (K (.tup [])) (λv l _=>@List.rec AV (λ_=>Af) (K v) (λu a _=>K (.tup (v::u::a))) l) vs
def A9q:Is->AV
 |[v]=>v
 |vs=>.tup vs
def A2S(vs:Is)(K:K2):qP vs K=K (A9q vs):=by
 match vs with
 |[]=>rfl
 |[v]=>rfl
 |v::u::l=>rfl
def XE.T(E:XE):Ty:=λty=>E.ty.get ty
def Bi{α:Type}{b:BT α}{K:α->Af}(h:b.getK i K=some r):∃v,b.get i=some v/\K v=some r:=by
 rw[BT.getK_eq]at h;split at h
 ·exact⟨_,by assumption,h⟩
 ·cases h
def A9y(tmps:Array Value):ResultVar->Sem Value
 |.tmp t=>pure (tmps.getD t undef)
 |.cell x t=>do loadVar t (<-asAddr (tmps.getD x undef))
def A6s{E:XE}{T:Ty}(y:jX P T)(s:∀ty i,E.ty.get ty=some i->T ty=some i)(hr:Rel G w0 C H w)(f:XF C w t tmps):∀(rs:List ResultVar)(K:Is->Af),A6t E t H rs K=some r->
 ∃vs ys,(rs.mapM (A9y tmps)).run P w=.ok ys w/\CG C w vs ys/\K vs=some r:=by
 intro rs
 induction rs with
 |nil=>intro K h;exact⟨[],[],rfl,.nil,h⟩
 |cons x rs ih=>
  intro K h;cases x with
  |tmp i=>
   have h:(gtm t i λv=>A6t E t H rs λvs=>K (v::vs))=some r:=h;rw[UI]at h;obtain⟨vs,ys,h1,h2,d⟩:=ih _ h;refine⟨_,_::ys,?_,.cons (f i) h2,d⟩;rw[List.mapM_cons];simp only[A9y,Dm,mI,Gc,h1]
  |cell x ty=>
   have h:(gtm t x λp=>E.ty.getK ty λi=>AD i p H λv=>A6t E t H rs λvs=>K (v::vs))=some r:=h;rw[UI]at h;obtain⟨i,A,h⟩:=Bi h;obtain⟨u,h,B⟩:=A2j (T:=T) (s _ _ A) h;obtain⟨v,z,h1,h2,d⟩:=nY y hr (f x) B;subst d;obtain⟨vs,ys,g,j,n⟩:=ih _ h;refine⟨v::vs,z::ys,?_,.cons h2 j,n⟩;rw[List.mapM_cons];have c:(do loadVar ty (<-asAddr (tmps.getD x undef)):Sem Value).run P w=.ok z w:=by
    generalize tmps.getD x undef=q at*;cases q<;>simp only[Instr.loadAt,Instr.sureAddr,Dm,run_stuck,Result.andThen_halt]at h1<;>try (cases h1;done)
    rename_i e;cases e with
    |none=>simp at h1
    |some e=>simpa [asAddr] using h1
   have a:(A9y tmps (.cell x ty)).run P w=.ok z w:=c;rw[Dm,a];simp only[Gc,Dm,g,mI]
def M?:Hx->Value
 |[y]=>y
 |ys=>.tuple ys.toArray
def A18(h:(fn.results.toList.mapM (A9y tmps)).run P w=.ok ys w):
 (results fn tmps).run P w=.ok (M? ys) w:=by
 have e:results fn tmps=(do
  let vs<-fn.results.mapM (A9y tmps)
  pure (if h:vs.size=1 then vs[0] else .tuple vs)):=by
  unfold results
  congr 1
 rw[e,Dm,Array.mapM_eq_mapM_toList,Sem.run_map,h];simp only[Gc,mI]
 congr 1
 match ys with
 |[]=>rfl
 |[y]=>rfl
 |y::z::ys=>simp[M?]
def A3y{vs:Is}(h:CG C w vs ys):VRel C w (A9q vs) (M? ys):=by
 match vs,ys,h with
 |[],[],h=>exact DO.2 ⟨[],rfl,h⟩
 |[v],[y],h=>exact h.get 0 (by simp)
 |v::u::vs,y::z::ys,h=>exact DO.2 ⟨_,rfl,h⟩
 |[],_::_,h=>exact absurd h.1 (by simp)
 |[v],[],h=>exact absurd h.1 (by simp)
 |[v],_::_::_,h=>exact absurd h.1 (by simp)
 |_::_::_,[],h=>exact absurd h.1 (by simp)
 |_::_::_,[_],h=>exact absurd h.1 (by simp)
def numbered:Nat->Is->Tm
 |_,[]=>[]
 |k,a::c=>(k,a)::numbered (k+1) c
def xG:∀(c:Is)(k i:Nat),HS (numbered k c) i=if k<=i/\i<k+c.length then c.getD (i-k) .dk else .dk:=by
 intro c
 induction c with
 |nil=>intro k i;simp[numbered,HS]
 |cons a c ih=>
  intro k i;simp only[numbered,HS];by_cases d:i=k
  ·subst d;simp
  ·rw[CF d,ih];by_cases h:k<=i/\i<k+(a::c).length
   ·simp only[Mi]at h;rw[Dq (by omega),Dq (by simp only[Mi];omega)];have:i-k=(i-(k+1))+1:=by omega
    rw[this];simp
   ·simp only[Mi]at h;rw[CF (by omega),CF (by simp only[Mi];omega)]
def B5j(c:Is):Nat->(Tm->Af)->Af:=
 (λ(_:Unit)=>@List.rec AV (λ_=>Nat->(Tm->Af)->Af) (λ_ K=>K []) (λa _ ih k K=>fNS (Nat.succ k) λd=>ih d λt=>K ((k,a)::t)) c) HY
def B5i(c:Is):∀(k:Nat)(K:Tm->Af),B5j c k K=K (numbered k c):=by
 induction c with
 |nil=>intro k K;rfl
 |cons a c ih=>
  intro k K;have:B5j (a::c) k K=fNS (Nat.succ k) λd=>B5j c d λt=>K ((k,a)::t):=rfl;rw[this,B1m,ih];rfl
theorem XF.numbered{n:Nat}(d:CG C w args ys):XF C w (numbered 0 args) (ys.toArray++Array.replicate n undef):=by
 intro i;rw[xG];have c:=d.1;split
 ·rename_i e;have a:i<args.length:=by omega
  have:=d.get i a;simp only[Nat.sub_zero,UW,KL a,l1q,fO];rw[Array.getElem?_append_left (by simp;omega)];simp[c,a];exact this
 ·exact .dk _
theorem Frm.delB{O:Nat->Prop}{C0:Ctx}(h:Frm m O C0 wa C w)(a:∀k,C0.B k->k<wa.heap.size)(f:∀k i,C0.F k i->k<wa.heap.size)(hb:wa.heap.size<=b)(g:w.heap[b]?=some (.deferred (some [])))(d:SameObj w w' b o'):Frm m O C0 wa (C.delB b) w':=
 ⟨h.π,h.F,λk i j=>(d.cell (by have:=f k i j;omega)).trans (h.keep k i j),λk c=>⟨h.B k c,by have:=a k c;omega⟩,λk c=>(d.others k (by have:=a k c;omega)).trans (h.keepB k c),
  λk arr T fz n=>by
   obtain⟨a1,f1,h1,h2⟩:=h.size k arr T fz n;exact⟨a1,f1,(d.others k (λe=>by subst e;rw[g]at h1;cases h1)).trans h1,h2⟩,
  h.new,λk c=>h.newB k c.1,by rw[d.size];exact h.grow⟩
def T!{R:Ending->World->Prop}{m s0:Nat}{C0:Ctx}(d:∀k,C0.B k->k<wa.heap.size)(n:∀k i,C0.F k i->k<wa.heap.size)(K:wa.heap.size<=s0)(g:∀C w,Rel G w0 C H w->XF C w t tmps->Frm m w0.own C0 wa C w->∃v,(results fn tmps).run P w=.ok v w/\R (.returned v) w):
 ∀(a:Hb)(C:Ctx)(w:World),a.Nodup->(∀b∈a,s0<=b/\w0.own b/\C.B b/\w.heap[b]?=some (.deferred (some [])))->Rel G w0 C H w->XF C w t tmps->Frm m w0.own C0 wa C w->
  LeavesInM (Fe none) 0 P fn tmps R (a.map S') .returning w:=by
 intro a
 induction a with
 |nil=>
  intro C w _ _ hr u j;exact g C w hr u j
 |cons b a ih=>
  intro C w hn hb hr u j;obtain⟨h1,h2,L,c⟩:=hb b (by simp);obtain⟨q,s⟩:=List.nodup_cons.1 hn;have p:=(l1v.1 c).1;have h:SameObj w (w.putObj b (.deferred none)) b (.deferred none):=SameObj.putObj p _;refine⟨by simp,.inl ⟨b,_,rfl,run_takeDeferred c,ih (C.delB b) _ s (λk x=>?_) (hr.shut c h2 h) (u.shut c h) (j.delB d n (by omega) c h)⟩⟩;obtain⟨y,A,D,J⟩:=hb k (by simp[x]);have f:k≠b:=λe=>q (e▸x);exact⟨y,A,⟨D,f⟩,(h.others k f).trans J⟩
def C1w(E:XE)(rs:List ResultVar)(K:KV):Exit->Tm->Ru:=λe t H=>
 match e with
 |.normal=>A6t E t H rs λvs=>qP vs λv=>K v H
 |.ret=>A6t E t H rs λvs=>qP vs λv=>K v H
 |_=>none
def A8f{E:XE}{T:Ty}(N:jX P T)(L:∀ty i,E.ty.get ty=some i->T ty=some i){f:FuncId}{c:Code}{K:KV}(O:P.funcs[f]?=some fn)(hb:fn.body=some c)(h:QB P G none (As H) (args.length+(fn.ntmps-args.length)) c (λe t a=>C1w E fn.results.toList K e t a=some r) (numbered 0 args) H):Ra P G f args H (λv a=>K v a=some r):=by
 intro w0 C w ys p A;refine callsIn_wide.1 (callsIn_of_wp_marks (n:=0) O hb trivial ?_);have g:=A.1;have M:St G w0 w.heap.size C (args.length+(fn.ntmps-args.length)) (numbered 0 args) H {tmps:=ys.toArray++Array.replicate (fn.ntmps-ys.toArray.size) undef,defers:=[]} w:=⟨p,by simp[g],.numbered A,.nil,Mh _⟩
 have Q:=h w0 w.heap.size C _ w M;have j:Fe none=Fence.wide:=rfl;rw[<-j];refine wpIn_mono Q λe u w' ⟨d,B,a,s,V,q⟩=>?_;have fin:(A6t E B a fn.results.toList λvs=>qP vs λv=>K v a)=some r->LeavesInM (Fe none) 0 P fn u.tmps (λe w'=>∃v y d a,e=.returned y/\Rel G w0 d a w'/\VRel d w' v y/\Frm (As H) w0.own C w d w'/\K v a=some r) u.defers .returning w':=by
  intro q;obtain⟨F,d1,d2,J⟩:=s.defers;rw[d2];refine T! (H:=a) (t:=B) (C0:=C) (wa:=w) (m:=As H) (s0:=w.heap.size) p.finB p.fin (Mh _) (λD w1 r1 R f1=>?_) F d w' d1 J s.rel s.tmps V;obtain⟨vs,X,h1,h2,x⟩:=A6s N L r1 R _ _ q;rw[A2S]at x;exact⟨_,A18 h1,_,_,D,a,rfl,r1,A3y h2,f1,x⟩
 cases e with
 |normal=>exact fin q
 |ret=>exact fin q
 |_=>cases q
end
end
section
variable{f:AV->(Bool->K2)->Af}{q q':Bool}
def II(f:AV->(Bool->K2)->Af)(l:Is):(Bool->Is->Af)->Af:=
 @List.rec AV (λ_=>(Bool->Is->Af)->Af) (λK=>K false [])
  (λa _ ih K=>f a λq c=>ih λq' d=>K (@Bool.rec (λ_=>Bool) q' true q) (c::d)) l
def Rb(f:AV->(Bool->K2)->Af)(l:IH):(Bool->IH->Af)->Af:=
 @List.rec (Value×AV) (λ_=>(Bool->IH->Af)->Af) (λK=>K false [])
  (λp _ ih K=>f p.2 λq a=>ih λq' c=>K (@Bool.rec (λ_=>Bool) q' true q) ((p.1,a)::c)) l
def qG(x:Row)(K:IH->Af):Af:=match x with|.map false a _=>K a|_=>none
def A1I(b:Bool)(a:AV)(K:Bool->K2):Af:=
 match a with
 |.v x=>K false (.v x)
 |.list n cs=>ck b (K false (.list n cs))
 |.iptr cs=>ck b (K false (.iptr cs))
 |.imap c=>ck b (K false (.imap c))
 |_=>none
def A1H(b:Bool)(H:Hp)(ih:AV->(Bool->K2)->Af)(a:AV)(K:Bool->K2):Af:=
 match a with
 |.v x=>K false (.v x)
 |.list n cs=>ck b (K false (.list n cs))
 |.iptr cs=>ck b (K false (.iptr cs))
 |.imap g=>ck b (K false (.imap g))
 |.agg cs=>II ih cs λq d=>K q (.agg d)
 |.tup cs=>II ih cs λq d=>K q (.tup d)
 |.fn f j cs=>II ih j λq i=>II ih cs λq' d=>K (@Bool.rec (λ_=>Bool) q' true q) (.fn f i d)
 |.sl sz r o n=>IR H r λx=>Ki x λ_ cs=>EO (Nat.mul n sz) (Dn o cs) λc=>II ih c λ_ e=>K true (.list n e)
 |.ptr r p k=>IR H r λx=>Ki x λ_ cs=>II ih (Dn (Nat.add p k) cs) λ_ e=>K true (.iptr e)
 |.mp r=>IR H r λx=>qG x λg=>Rb ih g λ_ h=>K true (.imap h)
 |_=>none
def HV(b:Bool)(H:Hp)(D:Nat):AV->(Bool->K2)->Af:=@Nat.rec (λ_=>AV->(Bool->K2)->Af) (A1I b) (λ_ ih=>A1H b H ih) D
def VF(b q:Bool)(C:Ctx)(H:Hp):Ctx:=
 {π:=λ_=>none
  F:=λk i=>(b=true/\C.F k i)\/(q=true/\∃r x o,Ai H r=some x/\C.π r=some (some (k,o)))
  B:=λk=>(b=true/\C.B k)\/(q=true/\∃r x o,Ai H r=some x/\C.π r=some (some (k,o)))}
def B'(b q:Bool)(C:Ctx)(H:Hp):(VF b q C H).bare=VF b q C H:=rfl
def OL{b q q':Bool}{C:Ctx}{H:Hp}{w:World}(h:q=true->q'=true):Ext (λ_=>True) (VF b q C H) w (VF b q' C H) w:=
 ⟨λ_ _=>rfl,λ_ _ c=>c.imp id (λ⟨h1,h2⟩=>⟨h h1,h2⟩),λ_ _ _=>rfl,λ_ c=>c.imp id (λ⟨h1,h2⟩=>⟨h h1,h2⟩),λ_ _=>rfl,λ_ a _ f h=>⟨a,f,h,rfl⟩,λ_ _ _=>.inr trivial,λ_ _=>.inr trivial,Mh _⟩
def nS:q=true->(@Bool.rec (λ_=>Bool) q' true q)=true:=λh=>by subst h;rfl
def fC:q'=true->(@Bool.rec (λ_=>Bool) q' true q)=true:=λh=>by subst h;cases q<;>rfl
section
variable{G:Gl}{w0:Base}{C:Ctx}{H:Hp}{w:World}{b:Bool}{r:AV×Hp}
def oE(n:∀a y K,VRel C w a y->f a K=some r->∃q c,VRel (VF b q C H) w c y/\K q c=some r):
 ∀(l:Is)(ys:Hx)(K:Bool->Is->Af),CG C w l ys->II f l K=some r->∃q d,CG (VF b q C H) w d ys/\K q d=some r:=by
 intro l
 induction l with
 |nil=>intro ys K e h;exact⟨false,[],by rw[e.nil_inv];exact .nil,h⟩
 |cons a l ih=>
  intro ys K e h;obtain⟨y,g,rfl,h1,h2⟩:=e.cons_inv;have h:(f a λq c=>II f l λq' d=>K (@Bool.rec (λ_=>Bool) q' true q) (c::d))=some r:=h;obtain⟨q,c,i,j⟩:=n a y _ h1 h;obtain⟨q',d,k,m⟩:=ih g _ h2 j;exact⟨_,_,.cons (i.mono (OL nS)) (k.mono (OL fC)),m⟩
def A1G(A:∀a y K,VRel C w a y->f a K=some r->∃q d,VRel (VF b q C H) w d y/\K q d=some r):
 ∀(l:IH)(ms:List MapEntry)(K:Bool->IH->Af),LQ C w l ms->Rb f l K=some r->∃q g,LQ (VF b q C H) w g ms/\K q g=some r:=by
 intro l
 induction l with
 |nil=>intro ms K c h;exact⟨false,[],⟨c.1,λi p D=>by simp at D⟩,h⟩
 |cons p l ih=>
  intro ms K c h;cases ms with
  |nil=>exact absurd c.1 (by simp)
  |cons m ms=>
   obtain⟨J,hm,B,hv⟩:=c.2 0 p rfl;simp at hm;subst hm;have h:(f p.2 λq d=>Rb f l λq' g=>K (@Bool.rec (λ_=>Bool) q' true q) ((p.1,d)::g))=some r:=h;obtain⟨q,d,t,u⟩:=A _ _ _ hv h;obtain⟨q',g,j,v⟩:=ih ms _ ⟨by simpa using c.1,λi x e=>by simpa using c.2 (i+1) x (by simpa using e)⟩ u;refine⟨_,_,⟨by simpa using j.1,λi x e=>?_⟩,v⟩;cases i with
   |zero=>simp at e;subst e;exact⟨m,rfl,B,t.mono (OL nS)⟩
   |succ i=>
    obtain⟨F,k,n,s⟩:=j.2 i x (by simpa using e);exact⟨F,by simpa using k,n,s.mono (OL fC)⟩
def VB{a:AV}{y:Value}(hb:b=true)(hc:fB 0 a=true)(h:VRel C w a y):VRel (VF b false C H) w a y:=
 VRel.down (by subst hb;funext k i;simp[VF]) (by subst hb;funext k;simp[VF]) 0 a y hc h
def uY(hr:Rel G w0 C H w):∀(D:Nat)(a:AV)(y:Value)(K:Bool->K2),VRel C w a y->HV b H D a K=some r->∃q a',VRel (VF b q C H) w a' y/\K q a'=some r:=by
 intro D
 induction D with
 |zero=>
  intro a y K hv h;change A1I b a K=some r at h;unfold A1I at h;split at h
  ·exact⟨false,_,by rw[AN.1 hv];exact .v _,h⟩
  ·obtain⟨h1,h⟩:=B7 h;exact⟨false,_,VB h1 rfl hv,h⟩
  ·obtain⟨h1,h⟩:=B7 h;exact⟨false,_,VB h1 rfl hv,h⟩
  ·obtain⟨h1,h⟩:=B7 h;exact⟨false,_,VB h1 rfl hv,h⟩
  ·cases h
 |succ D ih=>
  intro a y K hv h;have V:=λl N K=>oE (f:=HV b H D) (b:=b) (H:=H) (C:=C) (w:=w) (r:=r) ih l N K;have hX:=λl N K=>A1G (f:=HV b H D) (b:=b) (H:=H) (C:=C) (w:=w) (r:=r) ih l N K;change A1H b H (HV b H D) a K=some r at h;unfold A1H at h;split at h
  ·exact⟨false,_,by rw[AN.1 hv];exact .v _,h⟩
  ·obtain⟨h1,h⟩:=B7 h;exact⟨false,_,VB h1 rfl hv,h⟩
  ·obtain⟨h1,h⟩:=B7 h;exact⟨false,_,VB h1 rfl hv,h⟩
  ·obtain⟨h1,h⟩:=B7 h;exact⟨false,_,VB h1 rfl hv,h⟩
  ·obtain⟨N,rfl,hl⟩:=ET.1 hv;obtain⟨q,L,h1,h2⟩:=V _ _ _ hl h;exact⟨q,_,ET.2 ⟨N,rfl,h1⟩,h2⟩
  ·obtain⟨N,rfl,hl⟩:=DO.1 hv;obtain⟨q,L,h1,h2⟩:=V _ _ _ hl h;exact⟨q,_,DO.2 ⟨N,rfl,h1⟩,h2⟩
  ·obtain⟨N,zs,rfl,hl,ac⟩:=Ju.1 hv;obtain⟨q,L,h1,h2⟩:=V _ _ _ hl h;obtain⟨q',ai,g,P⟩:=V _ _ _ ac h2;exact⟨_,_,Ju.2 ⟨N,zs,rfl,h1.mono (OL nS),g.mono (OL fC)⟩,P⟩
  ·rename_i sz s o n;obtain⟨q0,e,cs,F,h1⟩:=JS h;obtain⟨B,h2⟩:=LG _ _ _ _ h1;rw[CA]at B h2;cases hv with
   |slz ah=>
    have h2:II (HV b H D) ((cs.drop o).take (0*sz)) (λ_ c'=>K true (.list 0 c'))=some r:=h2;rw[Nat.zero_mul,List.take_zero]at h2;exact⟨true,_,.list0,h2⟩
   |@sl _ _ _ _ _ _ bk O cap arr T fz J Z ag ae=>
    rcases hr.rows s _ F with⟨_,h6⟩|⟨b',c,u,aa,M⟩
    ·rw[h6]at J;cases J
    ·have A:=M.at_.symm.trans J;injection A with A;injection A with A;injection A with X Y;subst X Y
     have d:CG C w ((cs.drop o).take (n*sz)) ((((u.toList.drop c).take cs.length).drop o).take (n*sz)):=(M.vals.unsel.drop o).take _;obtain⟨q,L,g,P⟩:=V _ _ _ d h2;have g:=g.mono (OL (q':=true) (λ_=>rfl));have ad:L.length=n*sz:=by
      rw[<-g.1,d.1,l0h];have:n*sz<=(cs.drop o).length:=B;omega
     refine⟨true,_,.list Z (λi=>((((u.toList.drop c).take cs.length).drop o).take (n*sz)).getD i undef) (λi t=>.inr ⟨rfl,s,_,_,F,J⟩) (λi t=>?_) (λi t=>?_),P⟩
     ·have ab:i<n*sz:=by omega
      have Q:o+i<cs.length:=by have:n*sz<=(cs.drop o).length:=B;simp at this;omega
      rw[kD,M.cell];rw[UW,zR,Dq ab,qH,zR,Dq Q,qH,l27];have hf:=M.fits;rw[l1p (by omega)];rfl
     ·have:=g.get i t;rw[B',UW,KL (by rw[g.1];exact t)];exact this
  ·rename_i s p k;obtain⟨q0,e,cs,F,h2⟩:=JS h;rw[CA]at h2;cases hv with
   |@ptr _ _ _ _ _ bk O J=>
    rcases hr.rows s _ F with⟨_,h6⟩|⟨b',c,u,aa,M⟩
    ·rw[h6]at J;cases J
    ·have A:=M.at_.symm.trans J;injection A with A;injection A with A;injection A with X Y;subst X Y
     have d:CG C w (cs.drop (p+k)) (((u.toList.drop c).take cs.length).drop (p+k)):=M.vals.unsel.drop _;obtain⟨q,L,g,P⟩:=V _ _ _ d h2;have g:=g.mono (OL (q':=true) (λ_=>rfl));have ad:L.length=cs.length-(p+k):=by rw[<-g.1,d.1,l0u]
     refine⟨true,_,.iptr (λi=>(((u.toList.drop c).take cs.length).drop (p+k)).getD i undef) (λi t=>.inr ⟨rfl,s,_,_,F,J⟩) (λi t=>?_) (λi t=>?_),P⟩
     ·have Q:p+k+i<cs.length:=by omega
      rw[kD,M.cell];rw[UW,qH,zR,Dq Q,qH,l27];have hf:=M.fits;rw[l1p (by omega)];rfl
     ·have:=g.get i t;rw[B',UW,KL (by rw[g.1];exact t)];exact this
  ·rename_i s;obtain⟨x,F,h2⟩:=I0 rfl h;unfold qG at h2;split at h2
   ·rename_i es _bo;cases hv with
    |@mp _ _ _ bk O J=>
     obtain⟨af,ms,clock,g1,g2,g3,g4,_⟩:=hr.rows s _ F;have A:=g1.symm.trans J;injection A with A;injection A with A;injection A with X Y;subst X Y
     obtain⟨q,L,g,P⟩:=hX _ _ _ g4 h2;have g:=g.mono (OL (q':=true) (λ_=>rfl));have B:ms.size=L.length:=by have:=g.1;simpa using this
     have get:∀i(t:i<L.length),(ms.getD i default).key=L[i].1/\VRel (VF b true C H) w L[i].2 (ms.getD i default).val:=λi t=>by
      obtain⟨m,k1,k2,k3⟩:=g.2 i _ (KL t);have:ms.getD i default=m:=by
       rw[l27]at k1;simp[fO,k1]
      rw[this];exact⟨k2,k3⟩
     refine⟨true,_,.imap ms (.inr ⟨rfl,s,_,_,F,J⟩) g2 B (λi t=>(get i t).1) (λi j R hj=>?_) (λi t=>?_) (λi t=>(get i t).2),P⟩
     ·have:=l26.1 g3.born i j (by simpa using Nat.lt_trans R hj) (by simpa using hj) R;simpa [fO,hj,Nat.lt_trans R hj] using this
     ·have:=g3.lt ms[i] (by simp);simpa [fO,t] using this
   ·cases h2
  ·cases h
end
end
section
variable{ag:Bool}{d:Nat}{t:TypeId}
def LK.fit:LK->Value->Bool
 |.int k,.int a _=>decide (a=k)
 |.str,.string _=>true
 |.bool,.bool _=>true
 |_,_=>false
def fits:List LK->Hx->Bool
 |[],[]=>true
 |k::ks,v::vs=>k.fit v&&fits ks vs
 |_,_=>false
def Va(ag:Bool)(vs:Hx):Value:=match ag with|true=>.agg vs.toArray|false=>vs.headD undef
def MU(P:Program)(rec:TypeId->Option (Bool×List LK)):Nat->List Field->Option (List LK)
 |_,[]=>some []
 |off,f::a=>match rec f.type with
  |some (_,ks)=>if f.name != "_" &&(Nat.beq f.offset off&&(Nat.beq (P.cellsOf f.type) ks.length&& !Nat.beq ks.length 0)) then(MU P rec (off+ks.length) a).map (ks++ ·) else none
  |none=>none
def leaves(P:Program):Nat->TypeId->Option (Bool×List LK)
 |0,_=>none
 |d+1,t=>match P.underlying t with
  |some (.int k)=>some (false,[.int k])
  |some .string=>some (false,[.str])
  |some .bool=>some (false,[.bool])
  |some (.struct a)=>if P.stoodInHeld t then none else(MU P (leaves P d) 0 a.toList).map λks=>(true,ks)
  |some (.array n e)=>match leaves P d e with
   |some (_,ks)=>if Nat.beq (P.cellsOf e) ks.length&& !Nat.beq ks.length 0 then some (true,(List.replicate n ks).flatten) else none
   |none=>none
  |_=>none
def E1:∀{ks:List LK}{vs:Hx},fits ks vs=true->vs.length=ks.length:=by
 intro ks
 induction ks with
 |nil=>intro vs h;cases vs<;>simp[fits]at h;rfl
 |cons k ks ih=>
  intro vs h;cases vs with
  |nil=>simp[fits]at h
  |cons v vs=>simp only[fits,KF]at h;simp[ih h.2]
def NK:∀{ks ls:List LK}{vs:Hx},fits (ks++ls) vs=true->fits ks (vs.take ks.length)=true/\fits ls (vs.drop ks.length)=true:=by
 intro ks
 induction ks with
 |nil=>intro ls vs h;exact⟨by simp[fits],by simpa using h⟩
 |cons k ks ih=>
  intro ls vs h;cases vs with
  |nil=>simp[fits]at h
  |cons v vs=>
   simp only[List.cons_append,fits,KF]at h;obtain⟨h1,h2⟩:=ih h.2;exact⟨by simp[fits,h.1,h1],by simpa using h2⟩
def gJ{α:Type}[DecidableEq α](n:Nat)(xs ys:List α):decide (xs=ys)=(decide (xs.take n=ys.take n)&&decide (xs.drop n=ys.drop n)):=by
 rw[vA];simp only[decide_eq_true_eq,KF];constructor
 ·rintro rfl;exact⟨rfl,rfl⟩
 ·rintro⟨h1,h2⟩;rw[<-l38 n xs,<-l38 n ys,h1,h2]
instance:DecidableEq Value:=Classical.typeDecidableEq Value
section
variable{P:Program}
def T?{ks:List LK}(h:leaves P d t=some (ag,ks))(w:World):(isAgg t).run P w=.ok ag w:=by
 cases d with
 |zero=>simp[leaves]at h
 |succ d=>
  unfold leaves at h;split at h
  ·rename_i a;injection h with h;injection h with h1 h2;subst h1;unfold isAgg;rw[Dm,run_underlying a w];rfl
  ·rename_i a;injection h with h;injection h with h1 h2;subst h1;unfold isAgg;rw[Dm,run_underlying a w];rfl
  ·rename_i a;injection h with h;injection h with h1 h2;subst h1;unfold isAgg;rw[Dm,run_underlying a w];rfl
  ·rename_i c a;split at h
   ·cases h
   ·cases b:MU P (leaves P d) 0 c.toList with
    |none=>rw[b]at h;simp at h
    |some l=>
     rw[b]at h;simp only[zQ,l0z,Prod.mk.injEq]at h;obtain⟨h1,h2⟩:=h;subst h1;unfold isAgg;rw[Dm,run_underlying a w];rfl
  ·rename_i n e a;split at h
   ·split at h
    ·injection h with h;injection h with h1 h2;subst h1;unfold isAgg;rw[Dm,run_underlying a w];rfl
    ·cases h
   ·cases h
  ·cases h
def NG{ks:List LK}(h:leaves P d t=some (ag,ks))(hc:P.cellsOf t=ks.length)(b:ks.length≠0)(xs:Hx)(off:Nat)(e:off+ks.length<=xs.length)(w:World):
 (part t xs.toArray off).run P w=.ok (Va ag ((xs.drop off).take ks.length)) w:=by
 unfold part;rw[Dm,T? h w];simp only[Gc];cases ag with
 |true=>
  simp only[if_true];rw[Dm,BZ w (by rw[hc];exact b)];simp only[Gc,mI,Va,hc]
  congr 2
  apply qI;simp[List.take_drop]
 |false=>
  simp only[yG,if_false];have a:off<xs.length:=by omega
  rw[l15,KL a];simp only[mI,Va]
  congr 1
  rw[uZ a];cases c:ks.length with
  |zero=>exact absurd c b
  |succ n=>rfl
def B2u(P:Program)(d:Nat)(t:TypeId):Prop:=
 ∀ag ks,leaves P d t=some (ag,ks)->∀(m:Nat)(xs a:Hx),fits ks xs=true->fits ks a=true->∀w,(Op.equalIn (m+d) t (Va ag xs) (Va ag a)).run P w=.ok (decide (xs=a)) w
def qK(j:∀t,B2u P d t)(m:Nat):∀(a:List Field)(off:Nat)(ks:List LK),MU P (leaves P d) off a=some ks->∀(xs ys:Hx),fits ks (xs.drop off)=true->fits ks (ys.drop off)=true->
 off<=xs.length->off<=ys.length->∀w,(Op.eqFields (m+d) xs.toArray ys.toArray a).run P w=.ok (decide (xs.drop off=ys.drop off)) w:=by
 intro a
 induction a with
 |nil=>
  intro off ks h xs ys b c _ _ w;simp only[MU,l0z]at h;subst h;have h1:=E1 b;have h2:=E1 c;simp only[Re,List.length_eq_zero_iff]at h1 h2;rw[h1,h2];simp[Op.eqFields]
 |cons f a ih=>
  intro off ks h xs ys b c r s w;unfold MU at h;split at h
  ·rename_i ag k1 g;split at h
   ·rename_i hc;simp only[KF,rC,l19,bne_iff_ne,ne_eq]at hc;obtain⟨c1,c2,c3,c4⟩:=hc;have c4:k1.length≠0:=λe=>by rw[e]at c4;simp at c4
    cases hr:MU P (leaves P d) (off+k1.length) a with
    |none=>rw[hr]at h;simp at h
    |some q=>
     rw[hr]at h;simp only[zQ,l0z]at h;subst h;obtain⟨p,i⟩:=NK b;obtain⟨y1,y2⟩:=NK c;rw[l1a]at i y2;have k:=E1 b;have n:=E1 c;simp only[l0u,EK]at k n;simp only[Op.eqFields];rw[Dq c1,Dm,c2,NG g c3 c4 xs off (by omega) w];simp only[Gc];rw[Dm,NG g c3 c4 ys off (by omega) w];simp only[Gc];rw[Dm,j f.type ag k1 g m _ _ p y1 w];simp only[Gc];rw[gJ k1.length (xs.drop off) (ys.drop off),l1a,l1a];cases hq:decide (List.take k1.length (List.drop off xs)=List.take k1.length (List.drop off ys))
     ·simp
     ·simp only[Bool.not_true,yG,if_false,l1b];exact ih _ _ hr xs ys i y2 (by omega) (by omega) w
   ·cases h
  ·cases h
def vP{e:TypeId}(j:B2u P d e)(m:Nat){ks:List LK}(f:leaves P d e=some (ag,ks))(hc:P.cellsOf e=ks.length)(a:ks.length≠0):∀(n i:Nat)(xs ys:Hx),fits (List.replicate n ks).flatten (xs.drop (i*ks.length))=true->fits (List.replicate n ks).flatten (ys.drop (i*ks.length))=true->
 i*ks.length<=xs.length->i*ks.length<=ys.length->∀w,(Op.eqItems (m+d) e (P.cellsOf e) xs.toArray ys.toArray (List.range' i n)).run P w=.ok (decide (xs.drop (i*ks.length)=ys.drop (i*ks.length))) w:=by
 intro n
 induction n with
 |zero=>
  intro i xs ys b c _ _ w;have h1:=E1 b;have h2:=E1 c;simp only[List.replicate_zero,List.flatten_nil,Re,List.length_eq_zero_iff]at h1 h2;rw[h1,h2];simp[Op.eqItems]
 |succ n ih=>
  intro i xs ys b c r s w;rw[l1c,l1d]at b c;obtain⟨q,g⟩:=NK b;obtain⟨y1,y2⟩:=NK c;rw[l1a]at g y2;have k:=E1 b;have p:=E1 c;simp only[l0u,EK]at k p;have h:i*ks.length+ks.length=(i+1)*ks.length:=by rw[l1e];omega
  rw[List.range'_succ];simp only[Op.eqItems];rw[Dm,hc,NG f hc a xs (i*ks.length) (by omega) w];simp only[Gc];rw[Dm,NG f hc a ys (i*ks.length) (by omega) w];simp only[Gc];rw[Dm,j ag ks f m _ _ q y1 w];simp only[Gc];rw[gJ ks.length (xs.drop (i*ks.length)) (ys.drop (i*ks.length)),l1a,l1a,h];rw[h]at g y2;cases hq:decide (List.take ks.length (List.drop (i*ks.length) xs)=List.take ks.length (List.drop (i*ks.length) ys))
  ·simp
  ·simp only[Bool.not_true,yG,if_false,l1b];have:=ih (i+1) xs ys g y2 (by omega) (by omega) w;rw[hc]at this;exact this
def vN:∀(d:Nat)(t:TypeId),B2u P d t:=by
 intro d
 induction d with
 |zero=>intro t ag ks h;simp[leaves]at h
 |succ d r=>
  intro t ag ks h m xs u a b w;rw[<-kD];unfold leaves at h;split at h
  ·rename_i k c;injection h with h;injection h with h1 h2;subst h1 h2
   obtain⟨x,rfl⟩:=l1f.1 (E1 a);obtain⟨y,rfl⟩:=l1f.1 (E1 b)
   ·
    simp only[fits,l1g]at a b;cases x<;>simp[LK.fit]at a
    cases y<;>simp[LK.fit]at b
    subst a b;simp only[Va,List.headD];rw[run_equalIn_int w (m+d) t _ _ _ _ c]
    congr 1
    rw[vA];simp
  ·rename_i c;injection h with h;injection h with h1 h2;subst h1 h2
   obtain⟨x,rfl⟩:=l1f.1 (E1 a);obtain⟨y,rfl⟩:=l1f.1 (E1 b)
   ·
    simp only[fits,l1g]at a b;cases x<;>simp[LK.fit]at a
    cases y<;>simp[LK.fit]at b
    simp only[Va,List.headD];rw[run_equalIn_string w (m+d) t _ _ c]
    congr 1
    rw[<-beq_toListBytes,vA,MapKept.bytes_beq];simp
  ·rename_i c;injection h with h;injection h with h1 h2;subst h1 h2
   obtain⟨x,rfl⟩:=l1f.1 (E1 a);obtain⟨y,rfl⟩:=l1f.1 (E1 b)
   ·
    simp only[fits,l1g]at a b;cases x<;>simp[LK.fit]at a
    cases y<;>simp[LK.fit]at b
    simp only[Va,List.headD];rw[run_equalIn_bool' w (m+d) t _ _ c]
    congr 1
    rw[vA];simp
  ·rename_i j c;split at h
   ·cases h
   ·rename_i q;cases f:MU P (leaves P d) 0 j.toList with
    |none=>rw[f]at h;simp at h
    |some l=>
     rw[f]at h;simp only[zQ,l0z,Prod.mk.injEq]at h;obtain⟨h1,h2⟩:=h;subst h1 h2;have s:P.fieldsOf t=j:=by simp[Program.fieldsOf,c]
     simp only[Va];rw[run_equalIn_struct w (m+d) t _ _ (by rw[s];exact c) (by simpa using q),s];exact qK r m j.toList 0 l f xs u a b (l1h _) (l1h _) w
  ·rename_i n e c;split at h
   ·rename_i v k1 f;split at h
    ·rename_i hc;simp only[KF,rC,l19]at hc;have g:k1.length≠0:=λA=>by have:=hc.2;rw[A]at this;simp at this
     injection h with h;injection h with h1 h2;subst h1 h2
     simp only[Va];obtain⟨i,B⟩:∃i,P.info? e=some i:=by
      cases p:P.info? e with
      |none=>exfalso;exact g (by rw[<-hc.1];simp[Program.cellsOf,p])
      |some i=>exact⟨i,rfl⟩
     rw[run_equalIn_array w (m+d) _ _ c B,List.range_eq_range'];have:=vP (r e) m f hc.1 g n 0 xs u (by simpa using a) (by simpa using b) (by simp) (by simp) w;simpa using this
    ·cases h
   ·cases h
  ·cases h
structure EqFlat(P:Program)(t:TypeId)(ks:List LK):Prop where
 leaves:leaves P 6 t=some (true,ks)
 guard:P.eqGuardType P.depth t=false
theorem EqFlat.equal{ks:List LK}(h:EqFlat P t ks){xs ys:Hx}(a:fits ks xs=true)(b:fits ks ys=true)(w:World):(Op.equal t (.agg xs.toArray) (.agg ys.toArray)).run P w=.ok (decide (xs=ys)) w:=
 vN 6 t true ks h.leaves 9994 xs ys a b w
def qN:∀(d:Nat)(t:TypeId)(ag:Bool)(ks:List LK),leaves P d t=some (ag,ks)->∀(m:Nat)(em:Bool)(xs:Hx),fits ks xs=true->∀w,(Instr.checkKey em (m+d) t (Va ag xs)).run P w=.ok () w:=by
 intro d
 induction d with
 |zero=>intro t ag ks h;simp[leaves]at h
 |succ d A=>
  intro t ag ks h m em xs b w;rw[<-kD];unfold Instr.checkKey;unfold leaves at h;split at h
  ·rename_i k a;rw[Dm,run_underlying a w];rfl
  ·rename_i a;rw[Dm,run_underlying a w];rfl
  ·rename_i a;rw[Dm,run_underlying a w];rfl
  ·rename_i B a;split at h
   ·cases h
   ·rename_i F;cases g:MU P (leaves P d) 0 B.toList with
    |none=>rw[g]at h;simp at h
    |some l=>
     rw[g]at h;simp only[zQ,l0z,Prod.mk.injEq]at h;obtain⟨h1,h2⟩:=h;subst h1 h2;rw[Dm,run_underlying a w];simp only[Gc,Va];rw[<-Array.forIn_toList];generalize B.toList=c at g;have key:∀(c:List Field)(off:Nat)(l:List LK),MU P (leaves P d) off c=some l->fits l (xs.drop off)=true->off<=xs.length->
      (forIn c PUnit.unit (λf(_:PUnit)=>(if f.name≠ "_" then(do let y<-part f.type xs.toArray f.offset;Instr.checkKey em (m+d) f.type y;pure (ForInStep.yield PUnit.unit)) else pure (ForInStep.yield PUnit.unit):Sem (ForInStep PUnit)))).run P w=.ok PUnit.unit w:=by
      intro c
      induction c with
      |nil=>intro off l _ _ _;simp
      |cons f c ih=>
       intro off l h b H;unfold MU at h;split at h
       ·rename_i ag k1 r;split at h
        ·rename_i hc;simp only[KF,rC,l19,bne_iff_ne,ne_eq]at hc;obtain⟨c1,c2,c3,c4⟩:=hc;have c4:k1.length≠0:=λe=>by rw[e]at c4;simp at c4
         cases hr:MU P (leaves P d) (off+k1.length) c with
         |none=>rw[hr]at h;simp at h
         |some J=>
          rw[hr]at h;simp only[zQ,l0z]at h;subst h;obtain⟨x,p⟩:=NK b;rw[l1a]at p;have v:=E1 b;simp only[l0u,EK]at v;rw[List.forIn_cons,Dq c1,Dm,Dm,c2,NG r c3 c4 xs off (by omega) w];simp only[Gc];rw[Dm,A f.type ag k1 r m em _ x w];simp only[Gc,mI];exact ih _ _ hr p (by omega)
        ·cases h
       ·cases h
     have:=key c 0 l g (by simpa using b) (l1h _);rw[Dm];refine(congrArg (λq=>Result.andThen q _) this).trans ?_;rfl
  ·rename_i n e a;split at h
   ·rename_i u k1 g;split at h
    ·rename_i hc;simp only[KF,rC,l19]at hc;have s:k1.length≠0:=λC=>by have:=hc.2;rw[C]at this;simp at this
     injection h with h;injection h with h1 h2;subst h1 h2
     have hsz:(sizeOf e).run P w=.ok (P.cellsOf e) w:=BZ w (by rw[hc.1];exact s);rw[Dm,run_underlying a w];simp only[Gc,Va];simp only[Std.Legacy.Range.forIn_eq_forIn_range',Std.Legacy.Range.size,Nat.sub_zero,Nat.add_one_sub_one,Nat.div_one];have key:∀(n i:Nat),fits (List.replicate n k1).flatten (xs.drop (i*k1.length))=true->i*k1.length<=xs.length->
      (forIn (List.range' i n) PUnit.unit (λj(_:PUnit)=>(do let z<-sizeOf e;let y<-part e xs.toArray (j*z);Instr.checkKey em (m+d) e y;pure (ForInStep.yield PUnit.unit):Sem (ForInStep PUnit)))).run P w=.ok PUnit.unit w:=by
      intro n
      induction n with
      |zero=>intro i _ _;simp
      |succ n ih=>
       intro i b H;rw[l1c,l1d]at b;obtain⟨x,p⟩:=NK b;rw[l1a]at p;have v:=E1 b;simp only[l0u,EK]at v;have D:i*k1.length+k1.length=(i+1)*k1.length:=by rw[l1e];omega
       rw[D]at p;rw[List.range'_succ,List.forIn_cons,Dm,Dm,hsz];simp only[Gc];rw[Dm,hc.1,NG g hc.1 s xs (i*k1.length) (by omega) w];simp only[Gc];rw[Dm,A e u k1 g m em _ x w];simp only[Gc,mI];exact ih (i+1) p (by omega)
     have:=key n 0 (by simpa using b) (by simp);rw[Dm];refine(congrArg (λq=>Result.andThen q _) this).trans ?_;rfl
    ·cases h
   ·cases h
  ·cases h
def jZ(P:Program)(f:FuncId):Prop:=∀(x:Value)(w:World),(callFunc f #[x]).run P w=.ok (.value x) w
def EqFlat.check{ks:List LK}(h:EqFlat P t ks){xs:Hx}(a:fits ks xs=true)(em:Bool)(w:World):(Instr.checkKey em 10000 t (.agg xs.toArray)).run P w=.ok () w:=
 qN 6 t true ks h.leaves 9994 em xs a w
end
end
section
variable{K:K2}{w0:Base}{b:Bool}{C:Ctx}{w:World}{x:XFn}
abbrev KQ:=Exit->Tm->Ru
abbrev A0a:=Cf->Code->Tm->Hp->KQ->Af
structure Rt where
 call:B2v
 run:A0a
def unV:AV->Value
 |.v x=>x
 |_=>undef
def isV:AV->Bool
 |.v _=>true
 |_=>false
def XE.G(E:XE):Gl:=λg=>(E.gl.get g).map λcs=>cs.map unV
def Te(D:Nat->List Oper->Bool):Code->Bool
 |.region id a true=>D id a.toList
 |.seq x y=>Te D x&&Te D y
 |.cond _ x y=>Te D x&&Te D y
 |.block _ x=>Te D x
 |.loop x=>Te D x
 |.scope x=>Te D x
 |_=>true
structure XE.Ok(D:XE->Cf->Nat->List Oper->Bool)(E:XE)(P:Program):Prop where
 ty:jX P E.T
 pos:∀t i e esz,E.T t=some i->(i.d=.slice e esz\/∃n,i.d=.array n e esz)->esz≠0
 mix:P.follows .mixedOrders=true
 gl:∀g cs,E.gl.get g=some cs->cs.all isV=true
 fn:∀f x,E.ft.get f=some x->∃fn,P.funcs[f]?=some fn/\fn.body=some x.c/\fn.ntmps=x.n/\fn.results.toList=x.rs/\(fn.name== "runtime.NumGoroutine")=false/\Te (D E ⟨false,x.lv,x.fz,x.n,x.rc⟩) x.c=true
 eq:∀t ks,E.eqt.get t=some ks->EqFlat P t ks
 lie:∀e n o u,(e,n,o,u)∈E.lie->liesAt P P.depth e (n/P.cellsOf e) o u 1=true/\(P.info? u).isSome=true
 up:E.lie.isEmpty=false->P.underlying E.up=some .unsafePointer
 ne:∀f,E.ne f=true->jZ P f
def XE.env(E:XE)(P:Program):Env:={P:=P,G:=E.G,T:=E.T}
theorem XE.Ok.env{D:XE->Cf->Nat->List Oper->Bool}{E:XE}{P:Program}(h:XE.Ok D E P):(E.env P).Ok:=⟨h.ty,h.pos,h.mix⟩
def dF(P:Program)(f:Nat):Prop:=∃fn,P.funcs[f]?=some fn/\fn.body.isNone=false/\(fn.name== "runtime.NumGoroutine")=false
def jY(D:XE->Cf->Nat->List Oper->Bool)(E:XE)(P:Program)(R:A0a):Prop:=
 ∀(ro:Option Nat)(a:Cf)(c:Code)(t:Tm)(H:Hp)(K:KQ)(r:AV×Hp)(m:Nat),(ro≠none->a.b=true)->(a.b=false->Te (D E a) c=true)->R a c t H K=some r->QB P E.G ro m a.n c (λe g d=>K e g d=some r) t H
structure RSound(D:XE->Cf->Nat->List Oper->Bool)(E:XE)(P:Program)(R:Rt):Prop where
 run:jY D E P R.run
 call:∀(f:Nat)(args:Is)(H:Hp)(K:KV)(r:AV×Hp),R.call f args H K=some r->dF P f/\Ra P E.G f args H (λv H'=>K v H'=some r)
def zgo(E:XE)(R:A0a)(x:XFn)(args:Is)(H:Hp)(K:KV):Af:=
 A60 args 0 λk=>ckS (Nat.ble k x.n) (B5j args 0 λt=>R ⟨false,x.lv,x.fz,x.n,x.rc⟩ x.c t H (C1w E x.rs K))
def H?(E:XE)(R:A0a)(f:Nat)(args:Is)(H:Hp)(K:KV):Af:=E.ft.getK f λx=>zgo E R x args H K
def depth:Nat:=12
def Au(a:Af)(K:K2):Af:=match a with|some (v,_)=>K v|none=>none
def Ap(R:Rt)(f:Nat)(args:Is)(H:Hp)(K:K2):Af:=
 II (HV true H depth) args λq a=>Au (R.call f a [] λv c=>HV (!q) c depth v λ_ d=>some (d,[])) K
section
variable{D:XE->Cf->Nat->List Oper->Bool}{E:XE}{P:Program}{R:Rt}{f:Nat}{args:Is}{H:Hp}{r:AV×Hp}
def C3P(c:XE.Ok D E P)(d:E.ft.get f=some x):dF P f:=by
 obtain⟨fn,h1,h2,e,g,a,h⟩:=c.fn f x d;exact⟨fn,h1,by rw[h2];rfl,a⟩
def A6w(d:XE.Ok D E P){a:A0a}(q:jY D E P a)(s:E.ft.get f=some x){K:KV}(h:zgo E a x args H K=some r):Ra P E.G f args H (λv g=>K v g=some r):=by
 unfold zgo at h;rw[B1a]at h;obtain⟨e,h⟩:=LP h;rw[B5i]at h;obtain⟨fn,h1,h2,j,k,t,m⟩:=d.fn f x s;refine A8f (E:=E) (T:=E.T) d.ty (λty i h=>h) h1 h2 ?_;have e:args.length<=x.n:=by rw[kC]at e;omega
 have p:args.length+(fn.ntmps-args.length)=x.n:=by rw[j];omega
 rw[p,k];exact q none ⟨false,x.lv,x.fz,x.n,x.rc⟩ x.c _ H _ r (As H) (λh=>absurd rfl h) (λ_=>m) h
def yR(c:XE.Ok D E P){a:A0a}(g:jY D E P a){K:KV}(h:H? E a f args H K=some r):dF P f/\Ra P E.G f args H (λv e=>K v e=some r):=by
 obtain⟨x,d,h⟩:=Bi h;exact⟨C3P c d,A6w c g d h⟩
def Keep.toBelow{w w':World}(h:Keep ⟨w,λ_=>False⟩ w'):Below w.heap.size w w':=⟨h.os,h.tape,h.output,h.size,λb hb=>h.block b hb id⟩
def A20{G:Gl}{b q:Bool}(h:Rel G w0 C H w):(∀k i,(VF b q C H).F k i->k<w.heap.size)/\∀k,(VF b q C H).B k->k<w.heap.size:=by
 refine⟨λk i d=>?_,λk c=>?_⟩
 ·rcases d with⟨_,d⟩|⟨_,s,x,o,a,e⟩
  ·exact h.fin k i d
  ·exact(h.rows s x a).block (EC a) e
 ·rcases c with⟨_,c⟩|⟨_,s,x,o,a,e⟩
  ·exact h.finB k c
  ·exact(h.rows s x a).block (EC a) e
def A47{G:Gl}(hr:Rel G w0 C H w)(args:Is)(ys:Hx)(K:Bool->Is->Af)(d:CG C w args ys)(h:II (HV true H depth) args K=some r):∃q c,CG (VF true q C H) w c ys/\K q c=some r:=
 oE (f:=HV true H depth) (b:=true) (λa y K hv h=>uY hr depth a y K hv h) args ys K d h
def SN:∀(f:AV->(Bool->K2)->Af)(d:∀a K,f a K=some r->∃q c,K q c=some r)(l:Is)(K:Bool->Is->Af),II f l K=some r->∃q e,K q e=some r:=by
 intro f d l
 induction l with
 |nil=>intro K h;exact⟨_,_,h⟩
 |cons a l ih=>
  intro K h;obtain⟨q,c,h⟩:=d a _ h;obtain⟨g,e,h⟩:=ih _ h;exact⟨_,_,h⟩
def B0L:∀(f:AV->(Bool->K2)->Af)(d:∀a K,f a K=some r->∃q c,K q c=some r)(l:IH)(K:Bool->IH->Af),Rb f l K=some r->∃q e,K q e=some r:=by
 intro f d l
 induction l with
 |nil=>intro K h;exact⟨_,_,h⟩
 |cons a l ih=>
  intro K h;obtain⟨q,c,h⟩:=d a.2 _ h;obtain⟨g,e,h⟩:=ih _ h;exact⟨_,_,h⟩
def B4Q:∀(n:Nat)(a:AV)(K:Bool->K2),HV b H n a K=some r->∃q c,K q c=some r:=by
 intro n
 induction n with
 |zero=>
  intro a K h;change A1I b a K=some r at h;unfold A1I at h;split at h
  ·exact⟨_,_,h⟩
  ·exact⟨_,_,(B7 h).2⟩
  ·exact⟨_,_,(B7 h).2⟩
  ·exact⟨_,_,(B7 h).2⟩
  ·cases h
 |succ n ih=>
  intro a K h;change A1H b H (HV b H n) a K=some r at h;unfold A1H at h;split at h
  ·exact⟨_,_,h⟩
  ·exact⟨_,_,(B7 h).2⟩
  ·exact⟨_,_,(B7 h).2⟩
  ·exact⟨_,_,(B7 h).2⟩
  ·obtain⟨q,l,h⟩:=SN _ ih _ _ h;exact⟨_,_,h⟩
  ·obtain⟨q,l,h⟩:=SN _ ih _ _ h;exact⟨_,_,h⟩
  ·obtain⟨q,l,h⟩:=SN _ ih _ _ h;obtain⟨q,l,h⟩:=SN _ ih _ _ h;exact⟨_,_,h⟩
  ·obtain⟨q0,e,cs,_,h⟩:=JS h;obtain⟨_,h⟩:=LG _ _ _ _ h;obtain⟨q,l,h⟩:=SN _ ih _ _ h;exact⟨_,_,h⟩
  ·obtain⟨q0,e,cs,_,h⟩:=JS h;obtain⟨q,l,h⟩:=SN _ ih _ _ h;exact⟨_,_,h⟩
  ·obtain⟨x,_,h⟩:=I0 rfl h;unfold qG at h;split at h
   ·obtain⟨q,l,h⟩:=B0L _ ih _ _ h;exact⟨_,_,h⟩
   ·cases h
  ·cases h
def RH{a:Af}(h:Au a K=some r):∃v c,a=some (v,c)/\K v=some r:=by
 unfold Au at h;split at h
 ·exact⟨_,_,rfl,h⟩
 ·cases h
def Zn(hR:RSound D E P R)(h:Ap R f args H K=some r):dF P f/\Ra P E.G f args H (λv L=>L=H/\K v=some r):=by
 unfold Ap at h;refine⟨?_,?_⟩
 ·obtain⟨q,l',h⟩:=SN _ (λa K h=>B4Q depth a K h) _ _ h;obtain⟨v,L,h1,_⟩:=RH h;exact(hR.call _ _ _ _ _ h1).1
 intro w0 C w ys hr ha;obtain⟨q,X,aa,u⟩:=A47 hr args ys _ ha h;obtain⟨v0,H0,u,Y⟩:=RH u;have hc:=(hR.call _ _ _ _ _ u).2;have J:=A20 (b:=true) (q:=q) hr;have Z:Rel E.G ⟨w,λ_=>False⟩ (VF true q C H) [] w:=
  ⟨λg cs hg i v hv=>⟨.inl ⟨rfl,(hr.glob g cs hg i v hv).1⟩,(hr.glob g cs hg i v hv).2⟩,.refl _ _,λ_ _ h=>by simp[Ai]at h,λ_ _ h=>by simp[Ai]at h,λ_ _ _ _ h=>by simp[Ai]at h,λ_ _ _ _ _ _ _ h=>by simp[Ai]at h,J.1,J.2,λ_ _=>rfl⟩
 refine(hc _ _ w ys Z aa).mono ?_;rintro e O ⟨v,y,V,L,rfl,t,hv,hx,j⟩;obtain⟨q2,v',ab,M⟩:=uY t depth v y _ hv j;injection M with M
 injection M with M ad
 subst M;have hb:Below w.heap.size w O:=t.below.toBelow;have m:∀k,Base.own ⟨w,λ_=>False⟩ k->w.heap.size<=k:=λk h=>h.elim id (λh=>h.elim)
 let Q:Ctx:={π:=C.π,F:=λk i=>C.F k i\/(w.heap.size<=k/\(VF (!q) q2 V L).F k i),B:=λk=>C.B k\/(w.heap.size<=k/\(VF (!q) q2 V L).B k)}
 have n:=A20 (b:=!q) (q:=q2) t;have e:Ext w0.own C w Q O:=⟨λ_ _=>rfl,λ_ _ h=>.inl h,λk i h=>hb.cell (p:=⟨k,i,none⟩) (hr.fin k i h),λ_ h=>.inl h,λk h=>hb.block k (hr.finB k h),
  λk arr T fz h=>⟨arr,fz,(hb.block k (l1v.1 h).1).trans h,rfl⟩,λk i h=>h.imp id (λh=>.inl (XV hr.below.size h.1)),λk h=>h.imp id (λh=>.inl (XV hr.below.size h.1)),hb.size⟩
 have N:Rel E.G w0 Q H O:=by
  refine⟨hr.glob.mono e,hr.below.below hb,hr.lt,λs x j=>(hr.rows s x j).mono e (λk ac A=>hb.block k ((hr.rows s x j).block (EC j) A)),λs x k o j A=>?_,hr.sep,λk i d=>?_,λk c=>?_,hr.nx⟩
  ·have h1:=hr.own s x k o j A;have h2:=(hr.rows s x j).block (EC j) A;refine⟨h1.1,λi d=>?_,λc=>?_⟩
   ·rcases d with d|d
    ·exact h1.2.1 i d
    ·have:=d.1;omega
   ·rcases c with c|c
    ·exact h1.2.2 c
    ·have:=c.1;omega
  ·rcases d with d|d
   ·exact l2r (hr.fin k i d) hb.size
   ·exact n.1 k i d.2
  ·rcases c with c|c
   ·exact l2r (hr.finB k c) hb.size
   ·exact n.2 k c.2
 have e2:Ext (λ_=>True) (VF (!q) q2 V L) O Q O:=by
  refine⟨λs h=>absurd rfl h,λk i d=>?_,λ_ _ _=>rfl,λk c=>?_,λ_ _=>rfl,λ_ a _ f h=>⟨a,f,h,rfl⟩,λ_ _ _=>.inr trivial,λ_ _=>.inr trivial,Mh _⟩
  ·rcases d with⟨hq,d⟩|⟨hq,s,x,o,j,A⟩
   ·rcases hx.new k i d with h1|h1
    ·rcases h1 with⟨_,h1⟩|⟨h1,_⟩
     ·exact .inl h1
     ·rw[h1]at hq;cases hq
    ·exact .inr ⟨m k h1,.inl ⟨hq,d⟩⟩
   ·exact .inr ⟨m k (t.own s x k o j A).1,.inr ⟨hq,s,x,o,j,A⟩⟩
  ·rcases c with⟨hq,c⟩|⟨hq,s,x,o,j,A⟩
   ·rcases hx.newB k c with h1|h1
    ·rcases h1 with⟨_,h1⟩|⟨h1,_⟩
     ·exact .inl h1
     ·rw[h1]at hq;cases hq
    ·exact .inr ⟨m k h1,.inl ⟨hq,c⟩⟩
   ·exact .inr ⟨m k (t.own s x k o j A).1,.inr ⟨hq,s,x,o,j,A⟩⟩
 exact⟨v',y,Q,H,rfl,N,ab.mono e2,e.frm,rfl,Y⟩
end
end
section
variable{x:AV}{esz n:Nat}{i ie:TI}
def YW(n:Nat)(cs:Is):(Is->Af)->Af:=
 @Nat.rec (λ_=>(Is->Af)->Af) (λK=>K []) (λ_ ih K=>ih λl=>Za cs l K) n
def YV(n:Nat)(cs:Is):∀K,YW n cs K=K (Yq n cs):=by
 induction n with
 |zero=>intro K;rfl
 |succ n ih=>
  intro K;have e:YW (n+1) cs K=YW n cs λl=>Za cs l K:=rfl;rw[e,ih,MX];rfl
def FU(e:TypeId)(esz:Nat)(ie:TI)(n:Nat)(l:List (Nat×Nat×AV))(H:Hp)(K:KV):Af:=
 GY ie.zero λz=>HK z 0 λk=>ck (Nat.beq k esz&&(!Nat.beq esz 0&&Nat.ble (Nat.mul n esz) 16777216)) (YW n z λcs=>eX l cs λa=>Io H λs=>K (.sl esz s 0 n) ((s,.cells false e a)::H))
def Zh(esz:Nat)(ie:TI)(n:Nat)(l:List (Nat×Nat×AV))(K:K2):Af:=
 GY ie.zero λz=>HK z 0 λk=>ck (Nat.beq k esz&&(!Nat.beq esz 0&&Nat.ble (Nat.mul n esz) 16777216)) (YW n z λcs=>eX l cs λa=>ck (a.all (fB 2)) (K (.list n a)))
def eY(l:Ha):(Is->Af)->Af:=@List.rec UInt8 (λ_=>(Is->Af)->Af) (λK=>K []) (λb _ ih K=>fN b.toNat λn=>ih λl=>K (.v (.int .u8 (.ofNat n))::l)) l
def Z9(l:Ha):∀K:Is->Af,eY l K=K (l.map λb=>.v (.int .u8 b.toNat)):=by
 induction l with
 |nil=>intro K;rfl
 |cons b l ih=>
  intro K;have e:eY (b::l) K=fN b.toNat λn=>eY l λl=>K (.v (.int .u8 (.ofNat n))::l):=rfl;rw[e,Ee,ih];rfl
def dJ:TD->Bool
 |.slice .. =>true
 |.string=>true
 |_=>false
def T6(esz:Nat):AV->Bool
 |.v (.string _)=>Nat.beq esz 1
 |_=>true
def A3u(h:T6 esz x=true):(match(generalizing:=false) x with|.v (.string _)=>esz=1|_=>True):=by
 split
 ·exact Z5 h
 ·trivial
def Tz(H:Hp)(x:AV)(K:Nat->Is->Af):Af:=
 match x with
 |.list m cs=>K m cs
 |.sl sz r o m=>IR H r λx=>Ki x λ_ cs=>EO (Nat.mul m sz) (Dn o cs) λc=>K m c
 |.v (.slice none 0 0)=>K 0 []
 |.v (.string s)=>HK s.data.toList 0 λm=>eY s.data.toList λl=>K m l
 |_=>none
def fu8(cs:Is):(Ha->Af)->Af:=
 @List.rec AV (λ_=>(Ha->Af)->Af) (λK=>K []) (λa _ ih K=>match a with|.v (.int .u8 z)=>iN z λn=>ih λl=>K (UInt8.ofNat n::l)|_=>none) cs
def A1V{r:AV×Hp}:∀(cs:Is)(K:Ha->Af),fu8 cs K=some r->∃b:Hb,cs=b.map (λn=>.v (.int .u8 (n:Int)))/\K (b.map UInt8.ofNat)=some r:=by
 intro cs
 induction cs with
 |nil=>intro K h;exact⟨[],rfl,h⟩
 |cons a cs ih=>
  intro K h;have h:(match(generalizing:=false) a with|.v (.int .u8 z)=>iN z λn=>fu8 cs λl=>K (UInt8.ofNat n::l)|_=>none)=some r:=h;split at h
  ·obtain⟨n,c,h2⟩:=Xl h;obtain⟨b,d,e⟩:=ih _ h2;exact⟨n::b,by rw[c,d];rfl,e⟩
  ·cases h
def vV(a:AV)(H:Hp)(K:K2):Af:=
 match a with
 |.v (.string _)=>none
 |a=>Tz H a λm cs=>HK cs 0 λk=>ck (Nat.beq k m) (fu8 cs λl=>K (.v (.string ⟨⟨l⟩⟩)))
section
variable{T:Ty}{H:Hp}{r:AV×Hp}
def B1P{ty e:TypeId}{l:List (Nat×Nat×AV)}{ps:List (Nat×AV)}{K:KV}(m:T ty=some i)(s:i.d=.slice e esz)(b:T e=some ie)(he:(ps.map λp=>(some (p.1*esz,esz)).map λq=>(q.1,q.2,p.2))=l.map some)(h:FU e esz ie n l H K=some r):
 ∃v c,K v c=some r/\gA T ty n ps H (As H) (λt a=>t=v/\a=c):=by
 rw[FU,CP,Cy]at h;obtain⟨h1,h⟩:=B7 h;rw[YV]at h;obtain⟨f,h2,k⟩:=YX (place:=λj=>some (j*esz,esz)) l ps _ _ he h;rw[Ca]at h2;simp only[KF,rC,l19,kC]at h1;refine⟨_,_,h2,?_⟩;unfold gA;simp only[m,s,b];refine⟨λg=>?_,by omega,?_,by rw[k];simp[Mb]⟩
 ·have:=h1.2.1;rw[g]at this;simp at this
 ·have:=h1.2.2;exact this
def ZB{K:Nat->Is->Af}(h:Tz H x K=some r):∃m cs q,A2A H x=some (m,cs,q)/\K m cs=some r:=by
 unfold Tz at h;split at h
 ·exact⟨_,_,_,rfl,h⟩
 ·obtain⟨q0,e,cs,h1,h2⟩:=JS h;obtain⟨b,a⟩:=LG _ _ _ _ h2;rw[CA]at a;exact⟨_,_,_,by simp only[A2A,h1];rfl,a⟩
 ·exact⟨_,_,_,rfl,h⟩
 ·rename_i s;rw[Cy]at h;rw[Z9]at h;exact⟨_,_,_,rfl,by rw[Kd]at h;exact h⟩
 ·cases h
def A3N:∀(a:Hb)(acc:Ha),(a.map λn:Nat=>(n:Int)).foldl (λ(r:ByteArray)n=>r.push (UInt8.ofNat n.toNat)) ⟨⟨acc⟩⟩=⟨⟨acc++a.map UInt8.ofNat⟩⟩:=by
 intro a
 induction a with
 |nil=>intro acc;simp
 |cons n a ih=>
  intro acc;simp only[XI,List.foldl_cons,mG];have:(⟨⟨acc⟩⟩:ByteArray).push (UInt8.ofNat n)=⟨⟨acc++[UInt8.ofNat n]⟩⟩:=by simp[ByteArray.push]
  rw[this,ih];simp
def A4H{P:Program}{G:Gl}{w0:Base}{C:Ctx}{w:World}{a:AV}{y:Value}{K:K2}(hr:Rel G w0 C H w)(hv:VRel C w a y)(h:vV a H K=some r):(∀s,y≠.string s)/\∃l:Ha,K (.v (.string ⟨⟨l⟩⟩))=some r/\(Conv.bytesToString y).run P w=.ok (.string ⟨⟨l⟩⟩) w:=by
 unfold vV at h;split at h
 ·cases h
 ·rename_i u;obtain⟨m,cs,q,j,h⟩:=ZB h;rw[Cy]at h;obtain⟨J,h⟩:=B7 h;have J:cs.length=m:=by have:=Z5 J;omega
  obtain⟨p,D,B⟩:=A1V _ _ h;subst D;obtain⟨d,vs,A,b⟩:=XC (P:=P) (esz:=1) hr hv j (by omega) (λs L=>absurd L (u s));have b:=b w (λ_ _=>rfl);have k:vs=p.map λn:Nat=>Value.int .u8 (n:Int):=by
   apply l0p;intro i;cases f:(p.map λn:Nat=>AV.v (.int .u8 (n:Int)))[i]? with
   |none=>
    have h1:p.length<=i:=by simpa using List.getElem?_eq_none_iff.1 f
    rw[l1j (by rw[A.1];simpa using h1),l1j (by simpa using h1)]
   |some c=>
    obtain⟨N,M,F⟩:=A.2 i c f;rw[M];rw[yH]at f⊢;cases hn:p[i]? with
    |none=>rw[hn]at f;cases f
    |some n=>
     rw[hn]at f;injection f with f
     subst f;have:=AN.1 F.unsel;rw[this];rfl
  have g:∀s,y≠.string s:=by
   intro s e;subst e;cases hv with
   |v=>exact u s rfl
   |dk=>simp[A2A]at j
  refine⟨g,_,B,?_⟩;cases y with
  |slice t n cap=>
   have hn:n=m:=by
    simp only[Builtin.lenOf,mI]at d;injection d
   subst hn;cases t with
   |none=>
    simp only[Builtin.firstCells,mI]at b;injection b with b
    have:vs=[]:=by
     have:=congrArg Array.toList b;simpa using this.symm
    rw[k]at this;have:p=[]:=by simpa using this
    subst this;rfl
   |some t=>
    have e:(Builtin.firstCells 1 n (.slice (some t) n cap))=loadCells t (n*1):=rfl;rw[e,qZ,k]at b;have:=run_bytesToString w t n cap (p.map λn:Nat=>(n:Int)) (by rw[b];simp[l1y]);rw[this];have:=A3N p [];rw[show(ByteArray.empty:ByteArray)=⟨⟨[]⟩⟩ from rfl,this];rfl
  |string s=>exact absurd rfl (g s)
  |_=>simp[Builtin.lenOf]at d
def VJ(e:TypeId)(esz:Nat)(ie i2:TI)(s x:AV)(H:Hp)(K:KV):Af:=
 Tz H x λm a=>HK a 0 λk=>GY ie.zero λz=>HK z 0 λf=>
  ck (Nat.beq k (Nat.mul m esz)&&(NT a&&(!Nat.beq esz 0&&(Nat.beq f esz&&(dJ i2.d&&T6 esz x)))))
   (match s with
   |.v (.slice none 0 0)=>ck (Nat.ble (Nat.mul m ie.bytes) 70368744177664&&Nat.ble m 70368744177664) (@Bool.rec (λ_=>Af) (Io H λr=>K (.sl esz r 0 m) ((r,.cells false e a)::H)) (K (.v (.slice none 0 0)) H) (Nat.beq m 0))
   |.sl sz r1 o n=>IR H r1 λx=>Ki x λE cs=>HK cs 0 λcl=>
    ck (Nat.beq E e&&(Nat.beq sz esz&&(Nat.beq (Nat.add o (Nat.mul n esz)) cl&&(Nat.ble (Nat.mul (Nat.add n m) ie.bytes) 70368744177664&&Nat.ble (Nat.add n m) 70368744177664))))
     (Za (Dn o cs) a λb=>XA4 H r1 .gone λc=>Io H λr=>fN (Nat.add n m) λnm=>K (.sl esz r 0 nm) ((r,.cells false e b)::c))
   |_=>none)
def E?{t1 t2 e:TypeId}{i1 i2 ie:TI}{s x:AV}{K:KV}(h1:T t1=some i1)(h2:T t2=some i2)(t:i1.d=.slice e esz)(g:T e=some ie)(h:VJ e esz ie i2 s x H K=some r):
 ∃v j,K v j=some r/\Zo T t1 t2 s x H (As H) (λy b=>y=v/\b=j):=by
 unfold VJ at h;obtain⟨m,A,q,a,h⟩:=ZB h;rw[Cy,CP,Cy]at h;obtain⟨hc,h⟩:=B7 h;simp only[KF,rC,FP,l19]at hc;obtain⟨c1,c2,c3,c4,c5,c6⟩:=hc;have p1:esz≠0:=λc=>by rw[c]at c3;simp at c3
 have p2:(B3 ie.zero).length=esz:=by omega
 unfold Zo;simp only[h1,h2,t,g,a,Mb];have pre:=And.intro p1 (And.intro p2 (And.intro (show(match i2.d with|.slice .. =>True|.string=>True|_=>False) from by cases f:i2.d<;>rw[f]at c5<;>first|trivial|cases c5) (A3u c6)));split at h
 ·obtain⟨hb,h⟩:=B7 h;simp only[KF,kC]at hb;by_cases hm:m=0
  ·subst hm;exact⟨_,_,h,pre,⟨by simpa using c1,c2⟩,by simpa using hb,rfl,rfl⟩
  ·have c:Nat.beq m 0=false:=by
    cases m with
    |zero=>exact absurd rfl hm
    |succ m=>rfl
   rw[c]at h;simp only[Ca]at h;simp only[CF hm];exact⟨_,_,h,pre,⟨by simpa using c1,c2⟩,by simpa using hb,rfl,rfl⟩
 ·rename_i sz r1 o n;obtain⟨q0,E,cs,u,h⟩:=JS h;rw[Cy]at h;obtain⟨hb,h⟩:=B7 h;rw[MX,Dg,Ca,Ee,CA]at h;simp only[KF,rC,kC]at hb;obtain⟨b1,b2,k,b4,p⟩:=hb;refine⟨_,_,h,pre,⟨by simpa using c1,c2⟩,?_⟩;simp only[u];exact⟨⟨b1,b2,by simpa using k,b4,p⟩,rfl,rfl⟩
 ·cases h
variable{P:Program}{G:Gl}{w0:Base}{C:Ctx}{w w':World}
def Ctx.addF(C:Ctx)(b:Nat):Ctx:={C with F:=λk i=>C.F k i\/k=b}
def Rel.new_fixed(h:Rel G w0 C H w)(hb:Below w.heap.size w w')(j:w.heap.size<w'.heap.size):Rel G w0 (C.addF w.heap.size) H w'/\Ext w0.own C w (C.addF w.heap.size) w':=by
 have e:Ext w0.own C w (C.addF w.heap.size) w':=⟨λ_ _=>rfl,λ_ _ h=>.inl h,λk i a=>hb.cell (p:=⟨k,i,none⟩) (h.fin k i a),λ_ h=>h,λk a=>hb.block k (h.finB k a),
  λk arr T fz a=>⟨arr,fz,(hb.block k (l1v.1 a).1).trans a,rfl⟩,λk i a=>a.imp id (λe=>.inl (by rw[e];exact h.below.size)),λk a=>.inl a,hb.size⟩
 refine⟨⟨h.glob.mono e,h.below.below hb,h.lt,λs x c=>(h.rows s x c).mono e (λk f d=>hb.block k ((h.rows s x c).block (EC c) d)),λs x k o c d=>?_,h.sep,λk i b=>?_,λk g=>l2r (h.finB k g) hb.size,h.nx⟩,e⟩
 ·have h1:=h.own s x k o c d;have h2:=(h.rows s x c).block (EC c) d;refine⟨h1.1,λi b=>?_,h1.2.2⟩;rcases b with b|b
  ·exact h1.2.1 i b
  ·omega
 ·rcases b with b|b
  ·exact l2r (h.fin k i b) hb.size
  ·omega
def A7X(Z:jX P T){ty e:TypeId}{l:List (Nat×Nat×AV)}{ps:List (Nat×AV)}{D:List (Nat×Value)}{K:K2}(f:T ty=some i)(hd:i.d=.slice e esz)(O:T e=some ie)(he:(ps.map λp=>(some (p.1*esz,esz)).map λq=>(q.1,q.2,p.2))=l.map some)(h:Zh esz ie n l K=some r)(m:ps.length=D.length)(hq:∀(j:Nat)(p:Nat×AV),ps[j]?=some p->∃z,D[j]?=some (p.1,z)/\VRel C w p.2 z)(hr:Rel G w0 C H w):
 ∃v y F w',K v=some r/\(Instr.buildSlice ty n D.toArray).run P w=.ok y w'/\VRel F w' v y/\Rel G w0 F H w'/\Ext w0.own C w F w':=by
 rw[Zh,CP,Cy]at h;obtain⟨h1,h⟩:=B7 h;rw[YV]at h;obtain⟨k,h2,hf⟩:=YX (place:=λj=>some (j*esz,esz)) l ps _ _ he h;obtain⟨N,hK⟩:=B7 h2;simp only[KF,rC,l19,kC]at h1;have s:esz≠0:=λe0=>by have:=h1.2.1;rw[e0]at this;simp at this
 have R:(B3 ie.zero).length=esz:=by omega
 have aa:n*esz<=2^24:=h1.2.2;have ok:=Z ty i f;obtain⟨hu,hc⟩:=ok.elem_slice hd;have Y:=Z e ie O;obtain⟨z,hz,ez⟩:=Y.run_zero (P:=P) w;have hsz:(sizeOf e).run P w=.ok esz w:=by rw[<-hc];exact BZ w (by rw[hc];exact s)
 have A:CG C w (B3 ie.zero) z.cells.toList:=Pu (t:=e) ez;have V:z.cells.size=esz:=by have:=A.1;simp at this;omega
 have X:CG C w (Yq n (B3 ie.zero)) ((List.range n).flatMap λ_=>z.cells.toList):=by rw[gO];exact Zz A n
 obtain⟨b,J,B⟩:=jC (C:=C) (w:=w) ps D _ _ k m hq X hf;have c:¬(n*esz>2^24):=by omega
 have ab:b.length=n*esz:=by rw[B.1,jV _ _ _ hf,Yp,R]
 have M:=fE w (.cells b.toArray e);obtain⟨u,a⟩:=hr.new_fixed M (by simp);refine⟨_,.slice (some ⟨w.heap.size,0,none⟩) n n,_,_,hK,?_,?_,u,a⟩
 ·unfold Instr.buildSlice;rw[Dm,run_underlying hu w];simp only[Gc];rw[Dm,hsz];simp only[Gc,CF c,pure_bind];by_cases L:n*esz=0
  ·have Q:n=0:=by rcases Nat.mul_eq_zero.1 L with h|h;exact h;exact absurd h s
   subst Q;rw[Dq L];simp only[List.range_zero,List.flatMap_nil]at J;rw[show(Array.map (λx=>(#[]:Array Value)[x%(#[]:Array Value).size]!) (Array.range (0*esz)))= #[] from by rw[Nat.zero_mul];apply qI;simp,J];simp[newRow]
  ·rw[CF L,Dm,hz];simp only[Gc];have:=fV z.cells n;rw[V]at this⊢;rw[this,J];simp[newRow]
 ·have g3:CG (C.addF w.heap.size).bare {w with heap:=w.heap.push (.cells b.toArray e)} k b:=CG.mono (C:=C.bare) (CG.down 2 N B rfl rfl) a.bare;refine .list (Mh _) (λi=>b.getD i undef) (λi f=>.inr rfl) (λi f=>?_) (λi f=>?_)
  ·have g:i<b.length:=by rw[B.1];exact f
   rw[cell_of_row _ w.heap.size (0+i) b.toArray e (0,0) (by simp)];simp[UW,g]
  ·have g:i<b.length:=by rw[B.1];exact f
   rw[UW,KL g];exact g3.get i f
end
end
def eMk(e:TypeId)(esz:Nat)(ie:TI)(len cap:AV)(H:Hp)(K:KV):Af:=
 U! len λl=>iN l λn=>U! cap λc=>iN c λm=>GY ie.zero λz=>HK z 0 λk=>
  ck (Nat.beq k esz&&(!Nat.beq esz 0&&(Nat.beq ie.size esz&&(Nat.ble n m&&(Nat.ble (Nat.mul ie.bytes m) 281474976710656&&Nat.ble m 281474976710656)))))
   (YW n z λcs=>Io H λs=>K (.sl esz s 0 n) ((s,.cells false e cs)::H))
section
variable{T:Ty}{H:Hp}{r:AV×Hp}{P:Program}{G:Gl}{w0:Base}{C:Ctx}{w:World}
def A7Q(N:jX P T){ty e:TypeId}{esz:Nat}{i ie:TI}{len cap:AV}{y1 y2:Value}{K:KV}(hi:T ty=some i)(hd:i.d=.slice e esz)(u:T e=some ie)(h1:VRel C w len y1)(h2:VRel C w cap y2)(hr:Rel G w0 C H w)(h:eMk e esz ie len cap H K=some r):
 ∃v J y Q O,K v J=some r/\(Instr.makeSlice ty y1 y2).run P w=.ok y O/\KE G w0 C w v J y Q O:=by
 unfold eMk at h;obtain⟨k1,l,d1,Y⟩:=PZ h;obtain⟨n,b,Z⟩:=Xl Y;obtain⟨k2,c,d2,g3⟩:=PZ Z;obtain⟨m,X,L⟩:=Xl g3;rw[CP,Cy]at L;obtain⟨hb,M⟩:=B7 L;rw[YV,Ca]at M;simp only[KF,rC,l19,kC]at hb;obtain⟨b1,b2,R,b4,V,b6⟩:=hb;subst b X d1 d2;have D:=AN.1 h1;have F:=AN.1 h2;subst D F;obtain⟨hu,hc⟩:=(N ty i hi).elem_slice hd;obtain⟨inf,z,g,x,A,hz,s⟩:=(N e ie u).info;have k:CG C w (B3 ie.zero) z.cells.toList:=Pu (t:=e) s;have p:z.cells.size=esz:=by have:=k.1;simp at this;omega
 have aa:ie.bytes*m<=281474976710656:=V;have q:(inf.bytes:Int)*(m:Int)<=281474976710656:=by
  have:((ie.bytes*m:Nat):Int)<=281474976710656:=by omega
  rw[Int.natCast_mul]at this;rw[A];exact this
 have j:=run_make (P:=P) w ty e inf z hu g hz k1 k2 n m (by omega) (by omega) q (by omega);have B:CG C w (Yq n (B3 ie.zero)) ((List.range n).flatMap λ_=>z.cells.toList):=by rw[gO];exact Zz k n
 have a:(Yq n (B3 ie.zero)).length=n*esz:=by rw[Yp];congr 1;omega
 have f:(madeCells z.cells (m*esz)).toList.take (n*esz)=(List.range n).flatMap λ_=>z.cells.toList:=by
  have b:=congrArg Array.toList (fV z.cells n);rw[p]at b;simp only[Array.toList_map,Array.toList_range]at b;rw[<-b];simp only[madeCells,Array.toList_map,Array.toList_range,p];rw[<-List.map_take]
  congr 1
  rw[List.take_range,l22 (l28 _ b4)]
 have key:=Zx hr (NP w (.cells (madeCells z.cells (m*esz)) e)) e (cs:=Yq n (B3 ie.zero)) (arr:=madeCells z.cells (m*esz)) (fz:=(0,0)) (World.alloc_heap_new w _) (λi _=>by omega) esz n m b4 (by rw[size_madeCells];exact Mh _) (by rw[size_madeCells,a];exact l28 _ b4) (by rw[a,f];exact B);refine⟨_,_,_,_,_,M,?_,key⟩;rw[j];simp only[mG,x,R]
end
def A2a(e:TypeId)(a:AV)(H:Hp)(K:KV):Af:=
 match a with
 |.v (.string s)=>HK s.data.toList 0 λn=>eY s.data.toList λcs=>Io H λr=>K (.sl 1 r 0 n) ((r,.cells false e cs)::H)
 |_=>none
section
variable{H:Hp}{r:AV×Hp}{P:Program}{G:Gl}{w0:Base}{C:Ctx}{w:World}
def B3U(w:World)(e:TypeId)(s:ByteArray):∃(cap:Nat)(arr:Array Value)(w':World),s.size<=cap/\(Conv.stringToBytes e s).run P w=.ok (.slice (some ⟨w.heap.size,0,none⟩) s.size cap) w'/\Below w.heap.size w w'/\
 w'.heap[w.heap.size]?=some (.cells arr e (cap,cap+1))/\arr.size=cap/\arr.toList.take s.size=s.data.toList.map λb=>Value.int .u8 b.toNat:=by
 let q:Question:=.appendCap s.size 0 e
 let c:=q.cut (w.tape w.drawn q)
 have hc:s.size<=c:=by show s.size<=s.size+_;omega
 have hsz:(s.data.map λb=>Value.int .u8 b.toNat).size=s.size:=by rw[Array.size_map];rfl
 have f:(s.data.map λb=>Value.int .u8 b.toNat).toList.length=s.size:=by rw[Array.length_toList];exact hsz
 let arr:Array Value:=(s.data.map λb=>Value.int .u8 b.toNat)++Array.replicate (c-s.size) (.int .u8 0)
 have a:arr.size=c:=by
  show((s.data.map λb=>Value.int .u8 b.toNat)++Array.replicate (c-s.size) (Value.int .u8 0)).size=c;rw[Array.size_append,hsz,Array.size_replicate];omega
 refine⟨c,arr,{w with drawn:=w.drawn+1,heap:=w.heap.push (.cells arr e (c,c+1))},hc,?_,?_,by simp,a,?_⟩
 ·unfold Conv.stringToBytes;rw[Dm,run_choose,CF (by simp[Question.forced])];simp only[Gc];simp only[newRow,Dm,run_newObj,Gc,mI,markStringish];have d:World.shape? {heap:=w.heap.push (Obj.cells arr e),tape:=w.tape,drawn:=w.drawn+1,os:=w.os,output:=w.output} w.heap.size=some (e,c):=by
   simp only[World.shape?,Array.getElem?_push_size];rw[a]
  have i:World.freeze {heap:=w.heap.push (Obj.cells arr e),tape:=w.tape,drawn:=w.drawn+1,os:=w.os,output:=w.output} {block:=w.heap.size,off:=c} 1={heap:=w.heap.push (Obj.cells arr e (c,c+1)),tape:=w.tape,drawn:=w.drawn+1,os:=w.os,output:=w.output}:=by
   unfold World.freeze;rw[CF (by omega)]
   congr 1
   apply Array.ext_getElem?;intro j;rw[l0s];by_cases g:w.heap.size=j
   ·subst g;rw[Dq rfl,Array.getElem?_push_size,Array.getElem?_push_size];rfl
   ·rw[CF g,l2c,l2c,CF (λh=>g h.symm),CF (λh=>g h.symm)]
  rw[run_shape];have m:=d;show(((Result.ok (World.shape? {heap:=w.heap.push (Obj.cells arr e),tape:=w.tape,drawn:=w.drawn+1,os:=w.os,output:=w.output} w.heap.size) _).andThen _).andThen _)=_;rw[d];simp only[Gc,run_freeze];exact congrArg (Result.ok _) i
 ·exact⟨rfl,rfl,rfl,by simp,λk n=>by simp[l2c,Nat.ne_of_lt n]⟩
 ·show((s.data.map λb=>Value.int .u8 b.toNat)++Array.replicate (c-s.size) (Value.int .u8 0)).toList.take s.size=_;rw[Array.toList_append,l32 (Nat.le_of_eq f.symm)];rw[l25 (Nat.le_of_eq f),Array.toList_map]
def A4t{e:TypeId}{a:AV}{y:Value}{K:KV}(hr:Rel G w0 C H w)(hv:VRel C w a y)(h:A2a e a H K=some r):
 ∃s,y=.string s/\∃v d g j c,K v d=some r/\(Conv.stringToBytes e s).run P w=.ok g c/\KE G w0 C w v d g j c:=by
 unfold A2a at h;split at h
 ·rename_i s;have p:=AN.1 hv;refine⟨s,p,?_⟩;rw[Cy,Z9,Ca,Kd]at h;obtain⟨cap,arr,c,h1,h2,k,m,q,n⟩:=B3U (P:=P) w e s;have f:(s.data.toList.map λb=>AV.v (.int .u8 b.toNat)).length=s.size:=by rw[UH];rfl
  have key:=Zx hr k e (cs:=s.data.toList.map λb=>AV.v (.int .u8 b.toNat)) m (λi t=>by omega) 1 s.size cap h1 (by omega) (by rw[f];omega) (by
   rw[f,n];have:=Xe (C:=C.sel false) (w:=w) (s.data.toList.map λb=>Value.int .u8 b.toNat);simpa [l1y] using this)
  exact⟨_,_,_,_,_,h,h2,key⟩
 ·cases h
end
section
variable{q:Bool}{C:Ctx}{es:IH}{ms:List MapEntry}{kt:TypeId}{a b k:Value}{p:Value×AV}{w:World}
def iR:Value->Value->Option Bool
 |.string a,.string b=>some (eqB a.data.toList b.data.toList)
 |.int k a,.int c b=>match decide (k=c) with|true=>some (ieq a b)|false=>none
 |.bool a,.bool b=>some (a==b)
 |_,_=>none
def Yb(xs:Hx):Hx->Option Bool:=
 @List.rec Value (λ_=>Hx->Option Bool) (λd=>match d with|[]=>some true|_=>none)
  (λx _ ih d=>match d with
   |[]=>none
   |y::d=>match iR x y with
    |some b=>(match ih d with|some c=>some (b&&c)|none=>none)
    |none=>none) xs
def keq:Value->Value->Option Bool
 |.agg xs,.agg c=>Yb xs.toList c.toList
 |a,b=>iR a b
def iO(k:Value)(es:IH):Nat->Option (Option (Nat×AV)):=
 @List.rec (Value×AV) (λ_=>Nat->Option (Option (Nat×AV))) (λ_=>some none)
  (λp _ ih i=>match keq k p.1 with|some true=>some (some (i,p.2))|some false=>ih (Nat.succ i)|none=>none) es
def eT(k:Value)(p:Value×AV)(es:IH)(i:Nat):iO k (p::es) i=(match keq k p.1 with|some true=>some (some (i,p.2))|some false=>iO k es (i+1)|none=>none):=rfl
def I9(k:Value)(es:IH)(K:Option (Nat×AV)->Af):Af:=match iO k es 0 with|some x=>K x|none=>none
def dM(cs:Is):(Hx->Af)->Af:=
 @List.rec AV (λ_=>(Hx->Af)->Af) (λK=>K []) (λa _ ih K=>match a with|.v x=>ih λl=>K (x::l)|_=>none) cs
def Mj(a:AV)(K:Value->Af):Af:=match a with|.v (.string s)=>K (.string s)|_=>none
def Xj(q:IntKind)(a:AV)(K:Value->Af):Af:=match a with|.v (.int c n)=>ck (decide (c=q)) (K (.int c n))|_=>none
def B4Z(ks:List LK)(a:AV)(K:Value->Af):Af:=match a with|.agg cs=>dM cs λvs=>ck (fits ks vs) (K (.agg vs.toArray))|_=>none
def QZ(P:Program)(kt:TypeId)(k:Value):Prop:=
 (P.underlying kt=some .string/\∃s,k=.string s)\/(∃q n,P.underlying kt=some (.int q)/\k=.int q n)\/(∃ks xs,EqFlat P kt ks/\fits ks xs=true/\k=.agg xs.toArray)
def zU(h:iR a b=some q):(q=true↔a=b)/\∀c:LK,c.fit a=true->c.fit b=true:=by
 cases a<;>cases b<;>simp[iR]at h
 ·subst h;exact⟨by simp,λc d=>by cases c<;>simp[LK.fit]at d⊢⟩
 ·split at h
  ·rename_i e;injection h with h
   have e:_=_:=l2y e;subst e;refine⟨by rw[<-h,QS];simp,λc d=>?_⟩;cases c<;>simp[LK.fit]at d⊢
   exact d
  ·cases h
 ·rw[QU]at h;refine⟨?_,λc d=>by cases c<;>simp[LK.fit]at d⊢⟩;rename_i x y;obtain⟨⟨x⟩⟩:=x;obtain⟨⟨y⟩⟩:=y;rw[<-h];simp
def A8a(x:Value)(xs:Hx)(ys:Hx):Yb (x::xs) ys=(match ys with|[]=>none|y::ys=>(match iR x y with|some b=>(match Yb xs ys with|some c=>some (b&&c)|none=>none)|none=>none)):=rfl
def VN:∀{xs ys:Hx}{q:Bool},Yb xs ys=some q->(q=true↔xs=ys)/\∀ks,fits ks xs=true->fits ks ys=true:=by
 intro xs
 induction xs with
 |nil=>
  intro ys q h;cases ys with
  |nil=>injection h with h;subst h;exact⟨by simp,λ_ h=>h⟩
  |cons y ys=>cases h
 |cons x xs ih=>
  intro ys q h;rw[A8a]at h;cases ys with
  |nil=>cases h
  |cons y ys=>
   simp only at h;cases h1:iR x y with
   |none=>rw[h1]at h;cases h
   |some b=>
    rw[h1]at h;simp only at h;cases h2:Yb xs ys with
    |none=>rw[h2]at h;cases h
    |some c=>
     rw[h2]at h;injection h with h
     obtain⟨e,f1⟩:=zU h1;obtain⟨f,f2⟩:=ih h2;refine⟨by rw[<-h,KF,e,f,List.cons.injEq],λks d=>?_⟩;cases ks with
     |nil=>simp[fits]at d
     |cons k ks=>
      simp only[fits,KF]at d⊢;exact⟨f1 k d.1,f2 ks d.2⟩
def A1M(h:keq a b=some q):q=true↔a=b:=by
 unfold keq at h;split at h
 ·rename_i xs c;rw[(VN h).1];constructor
  ·intro e;rw[Array.toList_inj.1 e]
  ·intro e;injection e with e;rw[e]
 ·exact(zU h).1
section
variable{P:Program}
def eW{r:AV×Hp}:∀(cs:Is)(K:Hx->Af),dM cs K=some r->∃vs:Hx,cs=vs.map AV.v/\K vs=some r:=by
 intro cs
 induction cs with
 |nil=>intro K h;exact⟨[],rfl,h⟩
 |cons a cs ih=>
  intro K h;have h:(match(generalizing:=false) a with|.v x=>dM cs λl=>K (x::l)|_=>none)=some r:=h;split at h
  ·obtain⟨vs,e,h2⟩:=ih _ h;exact⟨_::vs,by rw[e];rfl,h2⟩
  ·cases h
def sN{vs:Hx}{y:Value}(h:VRel C w (.agg (vs.map AV.v)) y):y=.agg vs.toArray:=by
 obtain⟨f,rfl,d⟩:=ET.1 h
 congr 1
 congr 1
 apply l0p;intro i;cases c:vs[i]? with
 |none=>
  have:=d.1;simp only[UH]at this;have h1:vs.length<=i:=by simpa using List.getElem?_eq_none_iff.1 c
  exact l1j (by omega)
 |some v=>
  obtain⟨y,e,hv⟩:=d.2 i (.v v) (by rw[yH,c];rfl);rw[e,AN.1 hv]
def xH:∀{ks:List LK}{xs:Hx}(n:Nat),fits ks xs=true->((xs.zip xs).all λp=>Instr.sameBits n p.1 p.2)=true:=by
 intro ks
 induction ks with
 |nil=>intro xs n h;cases xs<;>simp[fits]at h;rfl
 |cons k ks ih=>
  intro xs n h;cases xs with
  |nil=>simp[fits]at h
  |cons x xs=>
   simp only[fits,KF]at h;simp only[List.zip_cons_cons,oF,KF];refine⟨?_,ih n h.2⟩;have h1:=h.1;cases k<;>cases x<;>simp[LK.fit]at h1<;>simp[Instr.sameBits,MapKept.bytes_beq]
def QZ.stays(h:QZ P kt k)(w:World):(Instr.keyThatStays k k).run P w=.ok k w:=by
 have:Instr.sameBits 10000 k k=true:=by
  rcases h with⟨_,s,rfl⟩|⟨q,n,_,rfl⟩|⟨ks,xs,_,h,rfl⟩
  ·simp[Instr.sameBits,MapKept.bytes_beq]
  ·simp[Instr.sameBits]
  ·have:=xH 9999 h;show(xs.toArray.size==xs.toArray.size&&(xs.toArray.toList.zip xs.toArray.toList).all λ(x,y)=>Instr.sameBits 9999 x y)=true;simp only[beq_self_eq_true,l1b];exact this
 simp[Instr.keyThatStays,this]
theorem QZ.check(h:QZ P kt k)(em:Bool)(w:World):(Instr.checkKey em 10000 kt k).run P w=.ok () w:=by
 rcases h with⟨c,s,rfl⟩|⟨q,n,c,rfl⟩|⟨ks,xs,he,h,rfl⟩
 ·exact MapKept.run_checkKey c (d:=.string) (by simp[MapKept.IsKey]) em 9999
 ·exact MapKept.run_checkKey c (d:=.int q) (by simp[MapKept.IsKey]) em 9999
 ·exact he.check h em w
def wM(k:Value)(es:IH)(ms:List MapEntry)(c:Nat):Option (Nat×AV)->Option (Nat×Value)->Prop
 |none,r=>r=none/\∀p∈es,p.1≠k
 |some (i,v),r=>∃(j:Nat)(m:MapEntry),i=c+j/\es[j]?=some (k,v)/\ms[j]?=some m/\m.key=k/\r=some (i,m.val)
def LQ.cons_inv(h:LQ C w (p::es) ms):∃m c,ms=m::c/\m.key=p.1/\VRel C w p.2 m.val/\LQ C w es c:=by
 cases ms with
 |nil=>exact absurd h.1 (by simp)
 |cons m ms=>
  obtain⟨f,h1,h2,d⟩:=h.2 0 p rfl;simp at h1;subst h1;exact⟨m,ms,rfl,h2,d,by simpa using h.1,λi x e=>by simpa using h.2 (i+1) x (by simpa using e)⟩
def LQ.nil_inv(h:LQ C w [] ms):ms=[]:=mH (by simpa using h.1)
theorem wM.step{m:MapEntry}{d:Nat}(c:p.1≠k):∀{x:Option (Nat×AV)}{r:Option (Nat×Value)},wM k es ms (d+1) x r->wM k (p::es) (m::ms) d x r
 |none,r,⟨h1,h2⟩=>⟨h1,λq hq=>by
  rcases Xh.1 hq with rfl|hq
  ·exact c
  ·exact h2 q hq⟩
 |some (i,v),r,⟨j,h,h1,h2,e,f,g⟩=>⟨j+1,h,by omega,by simpa using h2,by simpa using e,f,g⟩
def dN{d:TypeDesc}(t:∀v q,keq k v=some q->Instr.sameNow d k v=some q):∀(es:IH)(ms:List MapEntry)(i:Nat)(x:Option (Nat×AV)),LQ C w es ms->iO k es i=some x->∃r,Instr.findNow d k ms i=some r/\wM k es ms i x r:=by
 intro es
 induction es with
 |nil=>
  intro ms i x he h;injection h with h
  subst h;rw[he.nil_inv];exact⟨none,rfl,rfl,by simp⟩
 |cons p es ih=>
  intro ms i x he h;obtain⟨m,n,rfl,g,hv,f⟩:=he.cons_inv;rw[eT]at h;cases hq:keq k p.1 with
  |none=>rw[hq]at h;cases h
  |some q=>
   rw[hq]at h;have s:=t _ _ hq;have c:=A1M hq;cases q with
   |true=>
    injection h with h
    subst h;have:k=p.1:=c.1 rfl;refine⟨some (i,m.val),by simp[Instr.findNow,g,s],0,m,rfl,by rw[this];rfl,rfl,by rw[g,this],rfl⟩
   |false=>
    obtain⟨r,h1,h2⟩:=ih n (i+1) x f h;have j:p.1≠k:=λe=>by have:=c.2 e.symm;cases this
    exact⟨r,by simp[Instr.findNow,g,s,h1],h2.step j⟩
def mT{ks:List LK}(B:EqFlat P kt ks){xs:Hx}(v:fits ks xs=true):∀(es:IH)(ms:List MapEntry)(i:Nat)(x:Option (Nat×AV)),LQ C w es ms->iO (.agg xs.toArray) es i=some x->
 ∃r,(Instr.findAsking kt (.agg xs.toArray) ms i).run P w=.ok r w/\wM (.agg xs.toArray) es ms i x r:=by
 intro es
 induction es with
 |nil=>
  intro ms i x he h;injection h with h
  subst h;rw[he.nil_inv];exact⟨none,rfl,rfl,by simp⟩
 |cons p es ih=>
  intro ms i x he h;obtain⟨m,n,rfl,t,hv,f⟩:=he.cons_inv;rw[eT]at h;cases hq:keq (.agg xs.toArray) p.1 with
  |none=>rw[hq]at h;cases h
  |some q=>
   rw[hq]at h;have c:=A1M hq;have heq:(Op.equal kt (.agg xs.toArray) m.key).run P w=.ok q w:=by
    rw[t];unfold keq at hq;split at hq
    ·rename_i D s d y;injection d with d
     subst d;have g:=(VN hq).2 ks (by simpa using v);have:=B.equal v g w;rw[y];have A:s.toList.toArray=s:=by simp
     rw[A]at this;rw[this]
     congr 1
     rw[vA,(VN hq).1];simp
    ·rename_i h1;cases u:p.1 with
     |agg s=>exact absurd u (h1 _ _ rfl)
     |_=>rw[u]at hq;simp[iR]at hq
   cases q with
   |true=>
    injection h with h
    subst h;have:_=p.1:=c.1 rfl;refine⟨some (i,m.val),by simp[Instr.findAsking,heq],0,m,rfl,by rw[this];rfl,rfl,by rw[t,this],rfl⟩
   |false=>
    obtain⟨r,h1,h2⟩:=ih n (i+1) x f h;have j:p.1≠_:=λe=>by have:=c.2 e.symm;cases this
    exact⟨r,by simp[Instr.findAsking,heq,h1],h2.step j⟩
def QZ.find(t:QZ P kt k){x:Option (Nat×AV)}(he:LQ C w es ms)(h:iO k es 0=some x):∃r,(Instr.findKey kt k ms).run P w=.ok r w/\wM k es ms 0 x r:=by
 rcases t with⟨c,s,rfl⟩|⟨q,n,c,rfl⟩|⟨ks,xs,i,g,rfl⟩
 ·obtain⟨r,h1,h2⟩:=dN (d:=.string) (λv q hq=>by
   cases v<;>simp[keq,iR]at hq
   rename_i u;simp only[Instr.sameNow];rw[<-hq,QU]
   congr 1
   obtain⟨⟨s⟩⟩:=s;obtain⟨⟨u⟩⟩:=u;rw[vA,MapKept.bytes_beq];simp) es ms 0 x he h
  exact⟨r,MapKept.run_findKey c h1,h2⟩
 ·obtain⟨r,h1,h2⟩:=dN (d:=.int q) (λv B hq=>by
   cases v<;>simp[keq,iR]at hq
   rename_i A m;by_cases e:q=A
   ·subst e;simp at hq;simp only[Instr.sameNow,Dq];rw[<-hq,QS]
    congr 1
   ·simp[e]at hq) es ms 0 x he h
  exact⟨r,MapKept.run_findKey c h1,h2⟩
 ·obtain⟨r,h1,h2⟩:=mT i g es ms 0 x he h;refine⟨r,?_,h2⟩;have c:∃u,P.underlying kt=some u/\(∀b,Instr.sameNow u (.agg xs.toArray) b=none):=by
   have f:=i.leaves;unfold leaves at f;split at f
   ·simp at f
   ·simp at f
   ·simp at f
   ·rename_i c;exact⟨_,c,λb=>by cases b<;>rfl⟩
   ·rename_i c;exact⟨_,c,λb=>by cases b<;>rfl⟩
   ·cases f
  obtain⟨u,c,y⟩:=c;unfold Instr.findKey;rw[Dm,run_underlying c w];simp only[Gc];cases ms with
  |nil=>
   have:=he.1;have e:es=[]:=mH (by simpa using this.symm);obtain⟨j,_⟩:r=none/\True:=by
    subst e;have g:x=none:=(l2b h).symm;subst g;exact⟨h2.1,trivial⟩
   rw[j];rfl
  |cons m ms=>
   have:Instr.findNow u (.agg xs.toArray) (m::ms) 0=none:=by simp[Instr.findNow,y]
   rw[this];exact h1
end
end
section
variable{m v:AV}{ms:Array MapEntry}{es es':IH}{f:MapEntry->MapEntry}{clock:Nat}{bo:Option (Hb×Nat)}{ie:TI}{k ym yv:Value}
def wB:Option (Hb×Nat)->Option (Hb×Nat)
 |some (a,c)=>some (a++[c],c+1)
 |none=>none
def C18:Option (Hb×Nat)->Nat->Option (Hb×Nat)
 |some (a,c),i=>some (a.eraseIdx i,c)
 |none,_=>none
def mD:TD->Option (Hb×Nat)
 |.int _=>some ([],0)
 |.slice _ _=>some ([],0)
 |_=>none
def mF(x:Row)(K:IH->Option (Hb×Nat)->Af):Af:=match x with|.map false es bo=>K es bo|_=>none
def LN(ie:TI)(H:Hp)(K:KV):Af:=Io H λs=>K (.mp s) ((s,.map false [] (mD ie.d))::H)
def My(m:AV)(k:Value)(v:AV)(H:Hp)(K:Ru):Af:=
 match m with
 |.mp r=>IR H r λx=>mF x λes bo=>I9 k es λf=>match f with
  |none=>XA4 H r (.map false (es++[(k,v)]) (wB bo)) K
  |some (i,_)=>XA4 H r (.map false (es.set i (k,v)) bo) K
 |_=>none
def yM(m:AV)(H:Hp)(K:IH->Af):Af:=
 match m with
 |.mp r=>IR H r λx=>mF x λes _=>K es
 |.imap es=>K es
 |.v (.map none)=>K []
 |_=>none
def ZE(ie:TI)(ok:Bool)(m:AV)(k:Value)(H:Hp)(K:K2):Af:=
 yM m H λes=>I9 k es λf=>match f,ok with
  |none,true=>K (.tup [ie.zero,.v (.bool false)])
  |none,false=>K ie.zero
  |some (_,v),true=>K (.tup [v,.v (.bool true)])
  |some (_,v),false=>K v
def jH(m:AV)(k:Value)(H:Hp)(K:Ru):Af:=
 match m with
 |.mp r=>IR H r λx=>mF x λes bo=>I9 k es λf=>match f with
  |none=>K H
  |some (i,_)=>XA4 H r (.map false (es.eraseIdx i) (C18 bo i)) K
 |_=>none
def Ze(m:AV)(H:Hp)(K:K2):Af:=yM m H λes=>HK es 0 λn=>K (.v (.int .i64 (.ofNat n)))
def B1B(ie:TI)(m:AV)(k:Value)(H:Hp)(K:KV):Af:=
 match m with
 |.mp r=>IR H r λx=>mF x λes bo=>match bo with
  |some (a,c)=>I9 k es λf=>match f with
   |none=>XA4 H r (.map false (es++[(k,ie.zero)]) (some (a++[c],c+1))) λd=>K (.tup [ie.zero,.v (.int .i64 (.ofNat c))]) d
   |some (i,v)=>(match a[i]? with|some b=>K (.tup [v,.v (.int .i64 (.ofNat b))]) H|none=>none)
  |none=>none
 |_=>none
def B1A(m st v:AV)(H:Hp)(K:Ru):Af:=
 match m with
 |.mp r=>IR H r λx=>mF x λes bo=>U! st λz=>match bo with
  |some (a,c)=>(match a.findIdx? (λb=>ieq (.ofNat b) z) with
   |some i=>(match es[i]? with|some p=>XA4 H r (.map false (es.set i (p.1,v)) (some (a,c))) K|none=>none)
   |none=>none)
  |none=>none
 |_=>none
section
variable{P:Program}{G:Gl}{w0:Base}{C:Ctx}{H:Hp}{w:World}{r:AV×Hp}
def RE{x:Row}{K:IH->Option (Hb×Nat)->Af}(h:mF x K=some r):∃es bo,x=.map false es bo/\K es bo=some r:=by
 unfold mF at h;split at h
 ·exact⟨_,_,rfl,h⟩
 ·cases h
def TC{K:Option (Nat×AV)->Af}(h:I9 k es K=some r):∃x,iO k es 0=some x/\K x=some r:=by
 unfold I9 at h;split at h
 ·exact⟨_,by assumption,h⟩
 ·cases h
def LQ.append{ms ms':List MapEntry}(h:LQ C w es ms)(k:LQ C w es' ms'):LQ C w (es++es') (ms++ms'):=
 ⟨by simp[h.1,k.1],λi p a=>by
  rw[List.getElem?_append]at a⊢;rw[h.1];split at a
  ·rename_i b;rw[Dq b];exact h.2 i p a
  ·rename_i b;rw[CF b];exact k.2 _ p a⟩
def LQ.one{m:MapEntry}(b:m.key=k)(hv:VRel C w v m.val):LQ C w [(k,v)] [m]:=
 ⟨rfl,λi p a=>by
  cases i with
  |zero=>simp at a;subst a;exact⟨m,rfl,b,hv⟩
  |succ i=>simp at a⟩
theorem LQ.modify{ms:List MapEntry}(h:LQ C w es ms)(i:Nat)(d:∀m,ms[i]?=some m->(f m).key=k)(hv:∀m,ms[i]?=some m->VRel C w v (f m).val):LQ C w (es.set i (k,v)) (ms.modify i f):=
 ⟨by simp[h.1],λj p a=>by
  rw[List.getElem?_set]at a;rw[List.getElem?_modify];split at a
  ·rename_i e;subst e;split at a
   ·rename_i g;injection a with a
    subst a;have b:i<ms.length:=by rw[h.1];exact g
    have hm:=KL b;exact⟨f ms[i],by rw[hm];simp,d _ hm,hv _ hm⟩
   ·cases a
  ·rename_i e;obtain⟨m,h1,h2,c⟩:=h.2 j p a;exact⟨m,by rw[h1];simp[e],h2,c⟩⟩
theorem LQ.eraseIdx{ms:List MapEntry}(h:LQ C w es ms)(i:Nat):LQ C w (es.eraseIdx i) (ms.eraseIdx i):=
 ⟨by rw[List.length_eraseIdx,List.length_eraseIdx,h.1],λj p a=>by
  rw[List.getElem?_eraseIdx]at a⊢;split at a
  ·rename_i b;rw[Dq b];exact h.2 j p a
  ·rename_i b;rw[CF b];exact h.2 _ p a⟩
theorem MOk.push(h:MOk ms clock)(k v:Value):MOk (ms.push {key:=k,val:=v,born:=clock}) (clock+1):=
 ⟨by
  rw[l2s,List.pairwise_append];refine⟨h.born,by simp,λa c b hb=>?_⟩;simp at hb;subst hb;have:=h.lt a c;show a.born≠clock;omega,λm hm=>by
  rw[l2s,kB]at hm;rcases hm with hm|hm
  ·have:=h.lt m hm;omega
  ·simp at hm;subst hm;exact Nat.lt_succ_self _⟩
def Zm{ms:List MapEntry}{i:Nat}(a:∀m,(f m).born=m.born):(ms.modify i f).map (·.born)=ms.map (·.born):=by
 apply l0p;intro j;rw[yH,yH,List.getElem?_modify];cases ms[j]? with
 |none=>rfl
 |some m=>by_cases e:i=j<;>simp[e,a]
def A5M:MOk ms clock↔(ms.toList.map (·.born)).Pairwise (λa b=>a≠b)/\∀b∈ms.toList.map (·.born),b<clock:=by
 constructor
 ·intro h;exact⟨by rw[List.pairwise_map];exact h.born,λb hb=>by obtain⟨m,hm,rfl⟩:=Rc.1 hb;exact h.lt m hm⟩
 ·rintro⟨h1,h2⟩;exact⟨by rw[List.pairwise_map]at h1;exact h1,λm hm=>h2 _ (Rc.2 ⟨m,hm,rfl⟩)⟩
theorem MOk.modify(h:MOk ms clock)(i:Nat)(a:∀m,(f m).born=m.born):MOk (ms.modify i f) clock:=by
 rw[A5M,l2t,Zm a];exact A5M.1 h
def Ry(ms:Array MapEntry)(i:Nat):(ms.eraseIdxIfInBounds i).toList=ms.toList.eraseIdx i:=by
 unfold Array.eraseIdxIfInBounds;split
 ·simp only[Array.toList_eraseIdx]
 ·rename_i h;rw[List.eraseIdx_of_length_le (by simpa using h)]
theorem iJ{α β:Type}(f:α->β):∀(l:List α)(i:Nat),(l.eraseIdx i).map f=(l.map f).eraseIdx i
 |[],_=>rfl
 |_::_,0=>rfl
 |a::l,i+1=>by simp[iJ f l i]
def MOk.erase(h:MOk ms clock)(i:Nat):MOk (ms.eraseIdxIfInBounds i) clock:=
 ⟨by rw[Ry];exact h.born.sublist (List.eraseIdx_sublist _ _),λm hm=>by rw[Ry]at hm;exact h.lt m ((List.eraseIdx_sublist _ _).subset hm)⟩
def Zs{r:Nat}{bo bo':Option (Hb×Nat)}{b:Nat}{ms ms':Array MapEntry}{clock clock':Nat}{O:Nat->Prop}(hr:Rel G w0 C H w)(c:Ai H r=some (.map false es bo))(a:C.π r=some (some (b,0)))(hb:w.heap[b]?=some (.map ms clock))(he:LQ C w es' ms'.toList)(hm:MOk ms' clock')(d:BOk bo' ms' clock'):(setObj b (.map ms' clock')).run P w=.ok () {w with heap:=w.heap.setIfInBounds b (.map ms' clock')}/\
  Rel G w0 C (upd H r (.map false es' bo')) {w with heap:=w.heap.setIfInBounds b (.map ms' clock')}/\Ext O C w C {w with heap:=w.heap.setIfInBounds b (.map ms' clock')}:=by
 obtain⟨h1,h2⟩:=MapKept.heap_set (w:=w) (o':=.map ms' clock') hb;have g:SameObj w {w with heap:=w.heap.setIfInBounds b (.map ms' clock')} b (.map ms' clock'):=⟨rfl,rfl,rfl,by simp,h1,h2⟩
 refine⟨MapKept.run_setObj_map _ hb,hr.set_obj (O:=O) c a g (λarr T fz hc=>by rw[hb]at hc;cases hc) (λe=>⟨b,ms',clock',a,h1,hm,he.mono e,d⟩)⟩
def eO{r:Nat}{y:Value}(hr:Rel G w0 C H w)(s:Ai H r=some (.map false es bo))(hv:VRel C w (.mp r) y):
 ∃b ms clock,y=.map (some b)/\C.π r=some (some (b,0))/\w.heap[b]?=some (.map ms clock)/\MOk ms clock/\LQ C w es ms.toList/\BOk bo ms clock:=by
 cases hv with
 |@mp _ _ _ b c d=>
  obtain⟨e,ms,clock,i,j,n,p,q⟩:=hr.rows r _ s;have a:=i.symm.trans d;injection a with a;injection a with a;injection a with g h;subst g h
  exact⟨e,ms,clock,rfl,d,j,n,p,q⟩
def A2d{ty:TypeId}{K:KV}(hr:Rel G w0 C H w)(h:LN ie H K=some r):∃v a y c b,K v a=some r/\(Instr.makeMap ty none).run P w=.ok y b/\KE G w0 C w v a y c b:=by
 unfold LN at h;rw[Ca]at h;have hb:=NP w (.map #[] 0);refine⟨_,_,.map (some w.heap.size),_,w.alloc (.map #[] 0),h,rfl,.mp (C.put_n _ _),hr.new_row hb ⟨w.heap.size,#[],0,C.put_n _ _,World.alloc_heap_new _ _,⟨by simp,by simp⟩,⟨rfl,λi p d=>by simp at d⟩,?_⟩,hr.new_ext hb⟩;unfold mD;split
 ·exact⟨rfl,rfl⟩
 ·exact⟨rfl,rfl⟩
 ·trivial
def vQ{mt Y Z:TypeId}{K:Ru}(X:P.underlying mt=some (.map Y Z))(A:QZ P Y k)(hr:Rel G w0 C H w)(hm:VRel C w m ym)(hv:VRel C w v yv)(h:My m k v H K=some r):
 ∃N M,K N=some r/\(Instr.mapUpdate mt ym k yv).run P w=.ok () M/\Rel G w0 C N M/\Ext w0.own C w C M:=by
 unfold My at h;split at h
 ·rename_i s;obtain⟨x,J,h1⟩:=I0 rfl h;obtain⟨es,bo,rfl,h2⟩:=RE h1;obtain⟨f,hf,a⟩:=TC h2;obtain⟨b,ms,clock,rfl,V,hb,t,he,R⟩:=eO hr J hm;obtain⟨q,hq,d⟩:=A.find he hf;clear h h1 h2;cases f with
  |none=>
   simp only at a;rw[Dg]at a;obtain⟨c,_⟩:=d;subst c;obtain⟨B,D,F⟩:=Zs (P:=P) (O:=w0.own) (es':=es++[(k,v)]) (bo':=wB bo) (ms':=ms.push {key:=k,val:=yv,born:=clock}) (clock':=clock+1) hr J V hb (by rw[l2s];exact he.append (.one rfl hv)) (t.push _ _) (by
    cases bo with
    |none=>trivial
    |some p=>obtain⟨c,y⟩:=R;exact⟨by rw[l2s,Z6,c,y];rfl,by rw[y]⟩)
   refine⟨_,_,a,?_,D,F⟩;unfold Instr.mapUpdate;rw[Dm,run_underlying X w];simp only[Gc];rw[Dm,l2q hb];simp only[Gc];rw[Dm,A.check];simp only[Gc];rw[Dm,hq];simp only[Gc];exact B
  |some p=>
   obtain⟨i,v0⟩:=p;simp only at a;rw[Dg]at a;obtain⟨j,m0,Q,aa,L,g,u⟩:=d;have Q:i=j:=by omega
   subst Q;subst u;have n:ms[i]?=some m0:=by simpa using L
   obtain⟨B,D,F⟩:=Zs (P:=P) (O:=w0.own) (es':=es.set i (k,v)) (bo':=bo) (ms':=ms.modify i λe=>{e with key:=k,val:=yv}) (clock':=clock) hr J V hb (by rw[l2t];exact he.modify i (λ_ _=>rfl) (λ_ _=>hv)) (t.modify i (λ_=>rfl)) (by
    cases bo with
    |none=>trivial
    |some p=>obtain⟨c,y⟩:=R;exact⟨by rw[l2t,Zm (f:=λe=>{e with key:=k,val:=yv}) (λ_=>rfl)];exact c,y⟩)
   refine⟨_,_,a,?_,D,F⟩;unfold Instr.mapUpdate;rw[Dm,run_underlying X w];simp only[Gc];rw[Dm,l2q hb];simp only[Gc];rw[Dm,A.check];simp only[Gc];rw[Dm,hq];simp only[Gc,n,zQ,l1q,g];rw[Dm,A.stays];simp only[Gc];exact B
 ·cases h
def B_{K:IH->Af}(hr:Rel G w0 C H w)(hm:VRel C w m ym)(h:yM m H K=some r):
 ∃es,K es=some r/\((ym=.map none/\es=[])\/∃b ms clock,ym=.map (some b)/\w.heap[b]?=some (.map ms clock)/\LQ C w es ms.toList):=by
 unfold yM at h;split at h
 ·obtain⟨x,c,h1⟩:=I0 rfl h;obtain⟨es,bo,rfl,h2⟩:=RE h1;obtain⟨b,ms,clock,rfl,g,hb,n,he,s⟩:=eO hr c hm;exact⟨es,h2,.inr ⟨b,ms,clock,rfl,hb,he⟩⟩
 ·rename_i es;refine⟨es,h,?_⟩;cases hm with
  |@imap _ _ _ b clock ms q hb c j hn hc hv=>
   refine .inr ⟨b,ms,clock,rfl,hb,by simpa using c,λi p g=>?_⟩;obtain⟨d,rfl⟩:=zT.1 g;have a:i<ms.size:=by omega
   refine⟨ms[i],by simp[a],?_,?_⟩
   ·have:=j i d;simpa [fO,a] using this
   ·have:=hv i d;have e:(ms.getD i default)=ms[i]:=by simp[fO,a]
    rw[e]at this;exact this.up rfl rfl
 ·exact⟨[],h,.inl ⟨AN.1 hm,rfl⟩⟩
 ·cases h
def A7R{mt M F:TypeId}{ok:Bool}{K:K2}(s:P.underlying mt=some (.map M F))(x:TOk1 P F ie)(d:QZ P M k)(hr:Rel G w0 C H w)(hm:VRel C w m ym)(h:ZE ie ok m k H K=some r):
 ∃v y,K v=some r/\(Instr.lookup mt ym k ok).run P w=.ok y w/\VRel C w v y:=by
 unfold ZE at h;obtain⟨es,h1,u⟩:=B_ hr hm h;obtain⟨f,J,h2⟩:=TC h1;obtain⟨z,hz,Q⟩:=x.run_zero w;have D:VRel C w ie.zero z:=by rw[<-Q];exact iA z
 clear h h1;have key:∀(ms:List MapEntry)(q:Option (Nat×Value)),wM k es ms 0 f q->LQ C w es ms->
  ∃v y0 o,K (if ok=true then .tup [v,.v (.bool o)] else v)=some r/\VRel C w v y0/\((q=none/\y0=z/\o=false)\/∃i,q=some (i,y0)/\o=true):=by
  intro ms q a he;cases f with
  |none=>
   obtain⟨O,_⟩:=a;subst O;exact⟨ie.zero,z,false,by cases ok<;>exact h2,D,.inl ⟨rfl,rfl,rfl⟩⟩
  |some p=>
   obtain⟨i,N⟩:=p;obtain⟨j,m0,V,t,A,L,g⟩:=a;have B:VRel C w N m0.val:=by
    obtain⟨X,c,n,e⟩:=he.2 j _ t;rw[A]at c;injection c with c;subst c;exact e
   exact⟨N,m0.val,true,by cases ok<;>exact h2,B,.inr ⟨i,g,rfl⟩⟩
 have rel:∀{v:AV}{y0:Value}(o:Bool),VRel C w v y0->VRel C w (if ok=true then .tup [v,.v (.bool o)] else v) (if ok=true then .tuple #[y0,.bool o] else y0):=by
  intro v y0 o hv;cases ok with
  |true=>exact DO.2 ⟨[y0,.bool o],rfl,.cons hv (.cons (.v _) .nil)⟩
  |false=>exact hv
 rcases u with⟨rfl,rfl⟩|⟨b,ms,clock,rfl,hb,he⟩
 ·have he:LQ C w [] []:=⟨rfl,λi p R=>by simp at R⟩
  obtain⟨q,hq,a⟩:=d.find he J;obtain⟨v,y0,o,c,n,e⟩:=key [] q a he;refine⟨_,_,c,?_,rel o n⟩;rcases e with⟨rfl,rfl,rfl⟩|⟨i,rfl,rfl⟩
  ·simp[Instr.lookup,run_underlying s,d.check,hq,hz,Result.andThen]
  ·simp[Instr.lookup,run_underlying s,d.check,hq,Result.andThen]
 ·obtain⟨q,hq,a⟩:=d.find he J;obtain⟨v,y0,o,c,n,e⟩:=key _ q a he;refine⟨_,_,c,?_,rel o n⟩;rcases e with⟨rfl,rfl,rfl⟩|⟨i,rfl,rfl⟩
  ·simp[Instr.lookup,run_underlying s,l2q hb,d.check,hq,hz,Result.andThen]
  ·simp[Instr.lookup,run_underlying s,l2q hb,d.check,hq,Result.andThen]
def A2i{mt kt et:TypeId}{ts:Array TypeId}{ty:TypeId}{K:Ru}(t:ts[0]?=some mt)(Z:P.underlying mt=some (.map kt et))(D:QZ P kt k)(hr:Rel G w0 C H w)(hm:VRel C w m ym)(h:jH m k H K=some r):
 ∃L c,K L=some r/\(Builtin.delete_ ts ty #[ym,k]).run P w=.ok (.tuple #[]) c/\Rel G w0 C L c/\Ext w0.own C w C c:=by
 unfold jH at h;split at h
 ·rename_i s;obtain⟨x,F,h1⟩:=I0 rfl h;obtain⟨es,bo,rfl,h2⟩:=RE h1;obtain⟨f,hf,y⟩:=TC h2;obtain⟨b,ms,clock,rfl,Y,hb,g,he,X⟩:=eO hr F hm;obtain⟨q,hq,d⟩:=D.find he hf;clear h h1 h2;have a:∀(c:World)(ms':Array MapEntry),(q=none/\ms'=ms\/∃i v,q=some (i,v)/\ms'=ms.eraseIdxIfInBounds i)->(setObj b (.map ms' clock)).run P w=.ok () c->(Builtin.delete_ ts ty #[.map (some b),k]).run P w=.ok (.tuple #[]) c:=by
   intro c ms' J A;rcases J with⟨rfl,rfl⟩|⟨i,v,rfl,rfl⟩
   ·simp[Builtin.delete_,t,run_underlying Z,l2q hb,D.check,hq,A,Result.andThen]
   ·simp[Builtin.delete_,t,run_underlying Z,l2q hb,D.check,hq,A,Result.andThen]
  cases f with
  |none=>
   obtain⟨B,_⟩:=d;subst B;obtain⟨u,N,Q⟩:=Zs (P:=P) (O:=w0.own) (es':=es) (bo':=bo) (ms':=ms) (clock':=clock) hr F Y hb he g X;have A:({w with heap:=w.heap.setIfInBounds b (.map ms clock)}:World)=w:=by
    have:w.heap.setIfInBounds b (.map ms clock)=w.heap:=by
     apply Array.ext_getElem?;intro j;by_cases R:b=j
     ·subst R;rw[(MapKept.heap_set hb).1,hb]
     ·exact(MapKept.heap_set hb).2 j (λe=>R e.symm)
    rw[this]
   rw[A]at u;exact⟨H,w,y,a w ms (.inl ⟨rfl,rfl⟩) u,hr,.refl _ _ _⟩
  |some p=>
   obtain⟨i,v0⟩:=p;simp only at y;rw[Dg]at y;obtain⟨j,m0,M,aa,ab,V,n⟩:=d;have M:i=j:=by omega
   subst M;subst n;obtain⟨u,N,Q⟩:=Zs (P:=P) (O:=w0.own) (es':=es.eraseIdx i) (bo':=C18 bo i) (ms':=ms.eraseIdxIfInBounds i) (clock':=clock) hr F Y hb (by rw[Ry];exact he.eraseIdx i) (g.erase i) (by
    cases bo with
    |none=>trivial
    |some p=>obtain⟨B,e2⟩:=X;exact⟨by rw[Ry,<-B,iJ],e2⟩)
   exact⟨_,_,y,a _ _ (.inr ⟨i,_,rfl,rfl⟩) u,N,Q⟩
 ·cases h
def A2g{mt g e:TypeId}{ts:Array TypeId}{ty:TypeId}{K:K2}(a:ts[0]?=some mt)(d:P.underlying mt=some (.map g e))(hr:Rel G w0 C H w)(hm:VRel C w m ym)(h:Ze m H K=some r):
 ∃v y,K v=some r/\(Builtin.len_ ts ty #[ym]).run P w=.ok y w/\VRel C w v y:=by
 unfold Ze at h;obtain⟨es,h1,c⟩:=B_ hr hm h;rw[Cy,Kd]at h1;refine⟨_,.int .i64 es.length,h1,?_,.v _⟩;rcases c with⟨rfl,rfl⟩|⟨b,ms,clock,rfl,hb,he⟩
 ·simp[Builtin.len_,a,run_underlying d,goInt]
 ·have:=he.1;simp only[Array.length_toList]at this;simp[Builtin.len_,a,run_underlying d,l2q hb,goInt,this]
def A2h{mt N et:TypeId}{K:KV}(hu:P.underlying mt=some (.map N et))(V:TOk1 P et ie)(D:QZ P N k)(hr:Rel G w0 C H w)(hm:VRel C w m ym)(h:B1B ie m k H K=some r):
 ∃v Z y w',K v Z=some r/\(Instr.mapEntry mt ym k).run P w=.ok y w'/\KE G w0 C w v Z y C w':=by
 unfold B1B at h;split at h
 ·rename_i s;obtain⟨x,hl,h1⟩:=I0 rfl h;obtain⟨es,bo,rfl,h2⟩:=RE h1;clear h h1;split at h2
  ·rename_i bs c;obtain⟨f,hf,n⟩:=TC h2;obtain⟨b,ms,clock,rfl,hp,hb,X,he,ho⟩:=eO hr hl hm;obtain⟨o1,o2⟩:=ho;subst o2;obtain⟨q,hq,A⟩:=D.find he hf;obtain⟨z,hz,ez⟩:=V.run_zero w;have L:VRel C w ie.zero z:=by rw[<-ez];exact iA z
   clear h2;have aa:∀(g:Option (Nat×Value)->Sem Value)(res:Result Value),(g q).run P w=res->(do
    Instr.checkKey false 10000 N k
    let x<-Instr.findKey N k ms.toList
    g x:Sem Value).run P w=res:=by
    intro g res hg;rw[Dm,D.check];simp only[Gc];rw[Dm,hq];exact hg
   cases f with
   |none=>
    simp only at n;rw[Dg]at n;obtain⟨e1,_⟩:=A;subst e1;obtain⟨u,g2,M⟩:=Zs (P:=P) (O:=w0.own) (es':=es++[(k,ie.zero)]) (bo':=some (bs++[clock],clock+1)) (ms':=ms.push {key:=k,val:=z,born:=clock}) (clock':=clock+1) hr hl hp hb (by rw[l2s];exact he.append (.one rfl L)) (X.push _ _) ⟨by rw[l2s,Z6,o1];rfl,rfl⟩;refine⟨_,_,.tuple #[z,goInt clock],_,n,?_,DO.2 ⟨[z,goInt clock],rfl,.cons (L.mono M) (.cons (.v _) .nil)⟩,g2,M⟩;unfold Instr.mapEntry;rw[Dm,run_underlying hu w];simp only[Gc];rw[Dm,l2q hb];simp only[Gc];rw[Dm,D.check];simp only[Gc];rw[Dm,hq];simp only[Gc];rw[Dm,hz];simp only[Gc];rw[Dm,u];rfl
   |some p=>
    obtain⟨i,v0⟩:=p;simp only at n;obtain⟨j,m0,e0,R,t,a,J⟩:=A;have e0:i=j:=by omega
    subst e0;subst J;have d:ms[i]?=some m0:=by simpa using t
    have Q:bs[i]?=some m0.born:=by rw[<-o1,yH,t];rfl
    rw[Q]at n;simp only at n;have Y:VRel C w v0 m0.val:=by
     obtain⟨m',u,g2,M⟩:=he.2 i _ R;rw[t]at u;injection u with u;subst u;exact M
    have F:ms.modify i (λe=>{e with key:=k})=ms:=by
     apply Array.ext_getElem?;intro j;rw[l0s];by_cases B:i=j
     ·subst B;rw[d];simp[<-a]
     ·rw[CF B]
    have hw:({w with heap:=w.heap.setIfInBounds b (.map ms clock)}:World)=w:=by
     have:w.heap.setIfInBounds b (.map ms clock)=w.heap:=by
      apply Array.ext_getElem?;intro j;by_cases B:b=j
      ·subst B;rw[(MapKept.heap_set hb).1,hb]
      ·exact(MapKept.heap_set hb).2 j (λe=>B e.symm)
     rw[this]
    refine⟨_,H,.tuple #[m0.val,goInt m0.born],w,n,?_,DO.2 ⟨[m0.val,goInt m0.born],rfl,.cons Y (.cons (.v _) .nil)⟩,hr,.refl _ _ _⟩;unfold Instr.mapEntry;rw[Dm,run_underlying hu w];simp only[Gc];rw[Dm,l2q hb];simp only[Gc];rw[Dm,D.check];simp only[Gc];rw[Dm,hq];simp only[Gc,d,zQ,l1q,a];rw[Dm,D.stays];simp only[Gc,F];rw[Dm,MapKept.run_setObj_map _ hb,hw];rfl
  ·cases h2
 ·cases h
def A2c{mt:TypeId}{m st v:AV}{ym ys yv:Value}{K:Ru}(hr:Rel G w0 C H w)(hm:VRel C w m ym)(Y:VRel C w st ys)(hv:VRel C w v yv)(h:B1A m st v H K=some r):
 ∃A y,K A=some r/\(Instr.entryStore mt ym ys yv).run P w=.ok () y/\Rel G w0 C A y/\Ext w0.own C w C y:=by
 unfold B1A at h;split at h
 ·rename_i s;obtain⟨x,D,h1⟩:=I0 rfl h;obtain⟨es,bo,rfl,h2⟩:=RE h1;obtain⟨q,z,rfl,a⟩:=PZ h2;clear h h1 h2;split at a
  ·rename_i J c;split at a
   ·rename_i i B;split at a
    ·rename_i p X;rw[Dg]at a;obtain⟨b,ms,clock,rfl,t,hb,n,he,V⟩:=eO hr D hm;obtain⟨F,o2⟩:=V;subst o2;have u:=AN.1 Y;subst u;have d:ms.findIdx? (λe=>(e.born:Int)==z)=some i:=by
      have L:∀p:MapEntry->Bool,ms.findIdx? p=ms.toList.findIdx? p:=λp=>by cases ms;simp
      rw[L];rw[<-F,List.findIdx?_map]at B;rw[<-B]
      congr 1
      funext e
      simp only[Function.comp,QS];rw[vA];simp
     obtain⟨m1,j,g,Z⟩:=he.2 i p X;obtain⟨M,N,Q⟩:=Zs (P:=P) (O:=w0.own) (es':=es.set i (p.1,v)) (bo':=some (J,clock)) (ms':=ms.modify i λe=>{e with val:=yv}) (clock':=clock) hr D t hb (by
      rw[l2t];refine he.modify i (λm hm=>?_) (λ_ _=>hv);rw[j]at hm;injection hm with hm;subst hm;exact g) (n.modify i (λ_=>rfl)) ⟨by rw[l2t,Zm (f:=λe=>{e with val:=yv}) (λ_=>rfl)];exact F,rfl⟩
     refine⟨_,_,a,?_,N,Q⟩;unfold Instr.entryStore;simp only;rw[Dm,l2q hb];simp only[Gc];rw[Dm];have R:(asInt (.int q z)).run P w=.ok z w:=rfl;rw[R];simp only[Gc,d];exact M
    ·cases a
   ·cases a
  ·cases a
 ·cases h
end
end
end Go.Abs
end
