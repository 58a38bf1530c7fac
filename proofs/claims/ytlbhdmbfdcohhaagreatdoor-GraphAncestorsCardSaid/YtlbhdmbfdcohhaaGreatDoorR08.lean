import Derived.Lib.UnsafeStr
import Derived.Lib.Builder
import Derived.ScopeJumps
import Derived.Test.YtlbhdmbfdcohhaaGreatDoorR04
import Derived.Test.YtlbhdmbfdcohhaaGreatDoorR07
set_option linter.all false
set_option maxHeartbeats 100000000
noncomputable section
namespace Go.Abs
open Go.RowKit
section
variable {P:Program} {G:Gl} {w0:Base} {C:Ctx} {H:Hp} {w:World} {r:AV×Hp}
theorem Rel.set_row (h:Rel G w0 C H w) {s:Nat} {x y:Row} (hl:Ax H s=some x) (hy:PZ C w s y):Rel G w0 C (upd H s y) w:=by
 have key:∀t z,Ax (upd H s y) t=some z→(t=s∧z=y)∨(t≠s∧Ax H t=some z):= λt z hz=>by
  by_cases hts:t=s
  ·subst hts
   rw[Ec hl] at hz
   exact .inl ⟨rfl,(WE hz).1.symm⟩
  ·rw[Au hts] at hz;exact .inr ⟨hts,hz⟩
 have old:∀t z,Ax (upd H s y) t=some z→∃z',Ax H t=some z':= λt z hz=>by
  rcases key t z hz with⟨rfl,_⟩|⟨_,h⟩
  ·exact⟨x,hl⟩
  ·exact⟨z,h⟩
 refine⟨h.glob,h.below,?_,?_,?_,?_,h.fin,h.finB,λk hk=>h.nx k (by rw[Ck] at hk;exact hk)⟩
 ·intro t z hz
  obtain⟨z',hz'⟩:=old t z hz
  exact h.lt t z' hz'
 ·intro t z hz
  rcases key t z hz with⟨rfl,rfl⟩|⟨_,hz⟩
  ·exact hy
  ·exact h.rows t z hz
 ·intro t z k o1 hz hk
  obtain⟨z',hz'⟩:=old t z hz
  exact h.own t z' k o1 hz' hk
 ·intro t t' z z' k o1 o2 hz hz' hk hk'
  obtain⟨u,hu⟩:=old t z hz
  obtain⟨u',hu'⟩:=old t' z' hz'
  exact h.sep t t' u u' k o1 o2 hu hu' hk hk'
theorem Laid.take {s:Nat} {q:Bool} {T:TypeId} {cs:List AV} {b base:Nat} {arr:Array Value} {fz:Nat×Nat} (h:Laid C w s q T cs b base arr fz) (n:Nat):Laid C w s false T (cs.take n) b base arr fz:=
 ⟨h.at_,h.block,h.free,by have:=h.fits;rw[l0g];omega,by
  have:=h.vals.unsel.take n
  rw[List.take_take] at this
  rw[l0g]
  exact this,λh=>by cases h⟩
theorem PZ.take {s:Nat} {q:Bool} {T:TypeId} {cs:List AV} (h:PZ C w s (.cells q T cs)) (n:Nat):PZ C w s (.cells false T (cs.take n)):=by
 rcases h with⟨rfl,h⟩|⟨b,base,arr,fz,h⟩
 ·exact .inl ⟨by simp,h⟩
 ·exact .inr ⟨b,base,arr,fz,h.take n⟩
def B2D (s:AV) (H:Hp) (K:Hp→Al):Al:=
 match s with
 | .sl sz r o n=>Kj H r λx=>KF x λE cs=>HJ cs 0 λcl=>@Bool.rec (λ_=>Al) (Ti (Nat.add o (Nat.mul n sz)) cs λcs'=>Og H r (.cells false E cs') K) (K H) (Nat.beq (Nat.add o (Nat.mul n sz)) cl)
 |_=>K H
theorem A7N {s:AV} {K:Hp→Al} (h:B2D s H K=some r):∃H1,K H1=some r∧A6 H1=A6 H∧∀{G:Gl} {w0:Base} {C:Ctx} {w:World},Rel G w0 C H w→Rel G w0 C H1 w:=by
 unfold B2D at h
 split at h
 ·rename_i sz r1 o n
  obtain⟨q,E,cs,hl,h1⟩:=J1 h
  rw[Cw,Ln] at h1
  cases hb:Nat.beq (Nat.add o (Nat.mul n sz)) cs.length
  ·rw[hb] at h1
   simp only[NH,D8] at h1
   exact⟨_,h1,Ck _ _ _,λhr=>hr.set_row hl ((hr.rows _ _ hl).take _)⟩
  ·rw[hb] at h1
   exact⟨H,h1,rfl,λhr=>hr⟩
 ·exact⟨H,h,rfl,λhr=>hr⟩
def DN (e:TypeId) (esz:Nat) (ie i2:TI) (s x:AV) (H:Hp) (K:KV):Al:=B2D s H λH1=>Xg e esz ie i2 s x H1 K
def B1E (esz:Nat) (dst src:AV) (H:Hp) (K:KV):Al:=
 Uu H src λm ys=>HJ ys 0 λk=>match dst with
  | .sl sz r o n=>ck (Nat.beq k (Nat.mul m esz)&&(Nat.beq sz esz&&(Nat.blt 0 n&&(Nat.ble m n&&(Qa ys&&TH esz src))))) (Kj H r λx=>A2x x λq E cs=>EG o ys cs λcs'=>Og H r (.cells q E cs') λH'=>K (.v (.int .i64 (.ofNat m))) H')
  |_=>none
def B7V (esz:Nat) (ie:TI) (dst:AV) (H:Hp) (K:Hp→Al):Al:=
 match dst with
 | .v (.slice none 0 0)=>K H
 | .sl _ _ _ 0=>K H
 | .sl sz r o n=>GU ie.zero λz=>HJ z 0 λk=>ck (Nat.beq k esz&&(Nat.beq sz esz&&Qa z)) (WO n z λys=>Kj H r λx=>A2x x λq E cs=>EG o ys cs λcs'=>Og H r (.cells q E cs') K)
 |_=>none
def A6M (n esz:Nat) (x:AV) (lo hi:Option AV) (H:Hp) (K:AV→Al):Al:=
 match x with
 | .ptr s p k=>Kj H s λy=>KF y λ_ cs=>HJ cs 0 λcl=>ck (Nat.ble (Nat.add (Nat.add p k) (Nat.mul n esz)) cl)
  (T2 lo 0 λl=>T2 hi n λh=>ck (Nat.ble l h&&Nat.ble h n) (fN (Nat.add (Nat.add p k) (Nat.mul l esz)) λo'=>fN (Nat.sub h l) λm=>K (.sl esz s o' m)))
 |_=>none
def Uw (ks:List LK) (op:BinOp) (a b:AV) (K:AV→Al):Al:=
 match a,b with
 | .agg aZ,.agg bs=>YL aZ λxs=>YL bs λys=>ck (fits ks xs) (match UC xs ys,op with
  |some q,.eql=>bB q K
  |some q,.neq=>bB (!q) K
  |_,_=>none)
 |_,_=>none
def ZL (i ie:TI) (op:BinOp) (a b:AV) (K:AV→Al):Al:=
 match a,b with
 | .ptr r p k,.ptr r' p' k'=>ck (Nat.beq r r'&&(Nat.beq (Nat.add p k) (Nat.add p' k')&& !Nat.beq ie.size 0)) (match op with| .eql=>K (.v (.bool true))| .neq=>K (.v (.bool false))|_=>none)
 |a,b=>Ak i op a b K
theorem A3i {s o:Nat} {q:Bool} {E:TypeId} {cs ys:List AV} {b base:Nat} {arr:Array Value} {fz:Nat×Nat} {vs:List Value} (hr:Rel G w0 C H w) (hl:Ax H s=some (.cells q E cs)) (hd:Laid C w s q E cs b base arr fz) (hfit:o+ys.length≤cs.length) (hv:Ca C w ys vs) (hone:ys.all AV.one=true):
 ∃w',(storeCells ⟨b,base+o,none⟩ vs 0).run P w= .ok () w'∧Rel G w0 C (upd H s (.cells q E (splice cs o ys))) w'∧Ext w0.own C w C w':=by
 have hf:=hd.fits
 have hlen:vs.length=ys.length:=hv.1
 obtain⟨w',hrun,hs⟩:=KE (P:=P) vs w arr (base+o) 0 hd.block hd.free (by omega) (A6o hv hone)
 have:=hr.store (O:=w0.own) hl hd hfit hv (by simpa using hs)
 exact⟨w',hrun,this.1,this.2⟩
theorem A7X {sz s o n:Nat} {y:Value} {q:Bool} {E:TypeId} {cs:List AV} (hr:Rel G w0 C H w) (hl:Ax H s=some (.cells q E cs)) (hv:VRel C w (.sl sz s o n) y) (hn:n≠0):∃b base arr fz cap,y= .slice (some ⟨b,base+o,none⟩) n cap∧n≤cap∧Laid C w s q E cs b base arr fz∧base+o+cap*sz≤arr.size:=by
 cases hv with
 |slz=>exact absurd rfl hn
 |@sl _ _ _ _ _ _ b base cap arr T fz hp hcap hb hsz=>
  rcases hr.rows s _ hl with⟨_,h6⟩|⟨b',base',arr',fz',hd⟩
  ·rw[h6] at hp;cases hp
  ·have e':=hd.at_.symm.trans hp
   injection e' with e';injection e' with e';injection e' with e1 e2;subst e1 e2
   have e3:=hd.block.symm.trans hb
   injection e3 with e3;injection e3 with e4 e5 e6
   subst e4 e5 e6
   exact⟨b',base',arr',fz',cap,rfl,hcap,hd,hsz⟩
theorem A8X {T:Ty} (hT:Xv P T) {dt ty e:TypeId} {esz:Nat} {i:TI} {ts:Array TypeId} {dst src:AV} {y z:Value} {K:KV} (hts:ts[0]?=some dt) (hi:T dt=some i) (hd:i.d= .slice e esz) (hne:esz≠0) (hr:Rel G w0 C H w) (hv:VRel C w dst y) (hs:VRel C w src z) (h:B1E esz dst src H K=some r):
 ∃v H' u w',K v H'=some r∧(Builtin.copy_ ts ty #[y,z]).run P w= .ok u w'∧Jk G w0 C w v H' u C w':=by
 unfold B1E at h
 obtain⟨m,ys,q0,hsrc,h1⟩:=Yy h
 rw[Cw,Ln] at h1
 split at h1
 ·rename_i sz s o n
  obtain⟨hc,h2⟩:=Br h1
  simp only[Jp,ZZ,Uk,Yf,Gc] at hc
  obtain⟨c1,c2,c3,c4,c5,c6⟩:=hc
  obtain⟨q,E,cs,hl,h3⟩:=UI h2
  obtain⟨hfit,h4⟩:=LO _ _ _ _ _ h3
  rw[D8] at h4
  obtain⟨b,base,arr,fz,cap,rfl,hcap,hd',hsz⟩:=A7X hr hl hv (by omega)
  obtain⟨hlen,vs,hvs,hfirst⟩:=VP (P:=P) (esz:=esz) hr hs hsrc c1 (λq hq=>by subst hq;exact Vm c6)
  obtain⟨w',hrun,hrel,hex⟩:=A3i (P:=P) hr hl hd' hfit hvs c5
  obtain⟨hu,hce⟩:=(hT dt i hi).elem_slice hd
  have hsize:(sizeOf e).run P w= .ok esz w:=by rw[←hce];exact BA w (by rw[hce];exact hne)
  refine⟨_,_,goInt m,w',h4,?_,.v _,hrel,hex⟩
  unfold Builtin.copy_
  simp only[hts,l10,l1w,l0q]
  rw[C4,run_underlying hu w]
  simp only[E3]
  rw[C4,hlen]
  simp only[E3]
  rw[C4,hsize]
  simp only[E3]
  have hmin:Nat.min m n=m:=l1x c4
  rw[C4,hmin,hfirst w (λ_ _=>rfl)]
  simp only[E3]
  rw[C4,hrun]
  rfl
 ·cases h1
theorem A8Z {T:Ty} (hT:Xv P T) {dt ty e:TypeId} {esz:Nat} {i ie:TI} {ts:Array TypeId} {dst:AV} {y:Value} {K:Hp→Al} (hts:ts[0]?=some dt) (hi:T dt=some i) (hd:i.d= .slice e esz) (hie:T e=some ie) (hr:Rel G w0 C H w) (hv:VRel C w dst y) (h:B7V esz ie dst H K=some r):
 ∃H' w',K H'=some r∧(Builtin.clear_ ts ty #[y]).run P w= .ok (.tuple #[]) w'∧Rel G w0 C H' w'∧Ext w0.own C w C w':=by
 obtain⟨hu,hce⟩:=(hT dt i hi).elem_slice hd
 have hz:∀{a:Option Addr} {c:Nat},(Builtin.clear_ ts ty #[.slice a 0 c]).run P w= .ok (.tuple #[]) w:=by
  intro a c
  unfold Builtin.clear_
  simp only[hts,l10,l1w]
  rw[C4,run_underlying hu w]
  simp only[E3]
  cases a<;>rfl
 unfold B7V at h
 split at h
 ·obtain rfl:=AL.1 hv
  exact⟨H,w,h,hz,hr,.refl _ _ _⟩
 ·cases hv with
  |slz=>exact⟨H,w,h,hz,hr,.refl _ _ _⟩
  |sl=>exact⟨H,w,h,hz,hr,.refl _ _ _⟩
 ·rename_i sz s o n hn0
  rw[Dc,Cw,Ln] at h
  obtain⟨hc,h2⟩:=Br h
  simp only[Jp,ZZ,Gc] at hc
  obtain⟨c1,c2,c3⟩:=hc
  rw[Uo] at h2
  obtain⟨q,E,cs,hl,h3⟩:=UI h2
  obtain⟨hfit,h4⟩:=LO _ _ _ _ _ h3
  rw[D8] at h4
  have hn:n≠0:= λe=>hn0 e
  obtain⟨b,base,arr,fz,cap,rfl,hcap,hd',hsz⟩:=A7X hr hl hv hn
  obtain⟨z,hzv,ez⟩:=(hT e ie hie).run_zero w
  have hz0:Ca C w (B6 ie.zero) z.cells.toList:=Mu (t:=e) ez
  have hzz:Ca C w (TL n (B6 ie.zero)) ((List.range n).flatMap λ_=>z.cells.toList):=by rw[Wp];exact UO hz0 n
  have hone:(TL n (B6 ie.zero)).all AV.one=true:=by
   rw[Wp,List.all_flatMap]
   simp[c3]
  obtain⟨w',hrun,hrel,hex⟩:=A3i (P:=P) hr hl hd' hfit hzz hone
  refine⟨_,w',h4,?_,hrel,hex⟩
  obtain⟨n,rfl⟩:∃k,n=k+1:=⟨n-1,by omega⟩
  unfold Builtin.clear_
  simp only[hts,l10,l1w]
  rw[C4,run_underlying hu w]
  simp only[E3]
  have hzc:(Builtin.zeroCells z.cells (n+1)).toList=(List.range (n+1)).flatMap λ_=>z.cells.toList:=congrArg Array.toList (VV z.cells (n+1))
  rw[C4,hzv]
  simp only[E3,hzc]
  rw[C4,hrun]
  rfl
 ·cases h
theorem A8L {T:Ty} (hT:Xv P T) {ty e:TypeId} {n esz:Nat} {i:TI} {x:AV} {lo hi:Option AV} {y:Value} {yl yh:Option Value} {K:AV→Al} (hi':T ty=some i) (hd:i.d= .array n e esz) (hne:esz≠0) (hr:Rel G w0 C H w) (hv:VRel C w x y) (hlo:A5e C w lo yl) (hhi:A5e C w hi yh) (h:A6M n esz x lo hi H K=some r):
 ∃v u,K v=some r∧(Instr.sliceAt ty y yl yh none).run P w= .ok u w∧VRel C w v u:=by
 unfold A6M at h
 split at h
 ·rename_i s p k
  obtain⟨q,E,cs,hl,h1⟩:=J1 h
  rw[Cw,Ln] at h1
  obtain⟨hc,h2⟩:=Br h1
  obtain⟨l,hbl,h3⟩:=GY h2
  obtain⟨m,hbm,h4⟩:=GY h3
  obtain⟨hb,h5⟩:=Br h4
  rw[DI,DI] at h5
  simp only[Jp,Yf] at hb
  rw[Yf] at hc
  have hc:p+k+n*esz≤cs.length:=hc
  obtain⟨hu,hce⟩:=(hT ty i hi').elem_array hd
  have hsize:(sizeOf e).run P w= .ok esz w:=by rw[←hce];exact BA w (by rw[hce];exact hne)
  have hbr:=PW (P:=P) (isS:=false) hlo hhi (mx:=none) (ym:=none) trivial (O8 n) hbl hbm (x:=n) (by simp[UT]) (by omega) (by simp)
  cases hv with
  |@ptr _ _ _ _ _ b base hp=>
   rcases hr.rows s _ hl with⟨_,h6⟩|⟨b',base',arr',fz',hd'⟩
   ·have:=h6.symm.trans hp;cases this
   ·have e':=hd'.at_.symm.trans hp
    injection e' with e';injection e' with e';injection e' with e1 e2;subst e1 e2
    have hf:=hd'.fits
    have hrun:(Instr.sliceAt ty (.pointer (some ⟨b',base'+(p+k),none⟩)) yl yh none).run P w= .ok (.slice (some (if n=l then⟨b',base'+(p+k),none⟩ else⟨b',base'+(p+k)+l*esz,none⟩)) (m-l) (n-l)) w:=by
     unfold Instr.sliceAt
     rw[C4,run_underlying hu w]
     simp only[E3,Instr.sureAddr]
     rw[C4,Yh]
     simp only[E3]
     rw[C4,hbr]
     simp only[E3,Xs]
     rw[C4,hsize]
     simp only[E3,Yh,Ij]
    refine⟨_,_,h5,hrun,?_⟩
    by_cases hnl:n=l
    ·have hml:m-l=0:=by omega
     have hnl':n-l=0:=by omega
     rw[if_pos hnl,hml,hnl']
     have:Nat.sub m l=0:=hml
     rw[this]
     exact .slz (by rw[hp];simp)
    ·rw[if_neg hnl]
     have e4:base'+(p+k)+l*esz=base'+(Nat.add (Nat.add p k) (Nat.mul l esz)):=by show _=base'+(p+k+l*esz);omega
     rw[e4]
     refine .sl hp (Nat.sub_le_sub_right hb.2 l) hd'.block ?_
     show base'+(p+k+l*esz)+(n-l)*esz≤arr'.size
     have:l*esz+(n-l)*esz=n*esz:=by rw[←l19];congr 1;omega
     omega
 ·cases h
theorem A8V {t:TypeId} {ks:List LK} {op:BinOp} {a b:AV} {y z:Value} {K:AV→Al} (x1 x2:Operand) (hf:EqFlat P t ks) (ha:VRel C w a y) (hb:VRel C w b z) (h:Uw ks op a b K=some r):
 ∃v u,K v=some r∧(do eqGuard op t x1 x2 y z;binOp op t y z).run P w= .ok u w∧VRel C w v u:=by
 unfold Uw at h
 split at h
 ·rename_i aZ bs
  obtain⟨xs,rfl,h1⟩:=VI _ _ h
  obtain⟨ys,rfl,h2⟩:=VI _ _ h1
  obtain⟨hx,h3⟩:=Br h2
  have hy:=A0t ha
  have hz:=A0t hb
  subst hy hz
  have hg:=run_eqGuard_agg (P:=P) w op t x1 x2 xs.toArray ys.toArray hf.guard
  split at h3
  ·rename_i q hq
   rw[Ld] at h3
   obtain⟨e1,e2⟩:=RS hq
   refine⟨_,.bool q,h3,?_,.v _⟩
   rw[C4,hg]
   simp only[E3]
   rw[run_eql_struct]
   have:=hf.equal hx (e2 ks hx) w
   have e3:decide (xs=ys)=q:=by rw[Yg,e1];simp
   rw[e3] at this
   have e4:(Op.equalIn 10000 t (.agg xs.toArray) (.agg ys.toArray)).run P w= .ok q w:=this
   rw[e4];rfl
  ·rename_i q hq
   rw[Ld] at h3
   obtain⟨e1,e2⟩:=RS hq
   refine⟨_,.bool (!q),h3,?_,.v _⟩
   rw[C4,hg]
   simp only[E3]
   rw[run_neq_struct]
   have:=hf.equal hx (e2 ks hx) w
   have e3:decide (xs=ys)=q:=by rw[Yg,e1];simp
   rw[e3] at this
   have e4:(Op.equalIn 10000 t (.agg xs.toArray) (.agg ys.toArray)).run P w= .ok q w:=this
   rw[e4];rfl
  ·cases h3
 ·cases h
theorem A8U {T:Ty} (hT:Xv P T) {ty e:TypeId} {i ie:TI} {op:BinOp} {a b:AV} {y z:Value} {K:AV→Al} (x1 x2:Operand) (hi:T ty=some i) (hd:i.d= .pointer e) (hie:T e=some ie) (ha:VRel C w a y) (hb:VRel C w b z) (h:ZL i ie op a b K=some r):
 ∃v u,K v=some r∧(do eqGuard op ty x1 x2 y z;binOp op ty y z).run P w= .ok u w∧VRel C w v u:=by
 unfold ZL at h
 split at h
 ·rename_i s p k s' p' k'
  obtain⟨hc,h1⟩:=Br h
  simp only[Jp,ZZ,l14] at hc
  obtain⟨c1,c2,c3⟩:=hc
  subst c1
  have c2:p+k=p'+k':=c2
  have hyz:y=z∧∃ad,y= .pointer (some ad):=by
   cases ha with
   |ptr hp=>
    cases hb with
    |ptr hp'=>
     have e':=hp.symm.trans hp'
     injection e' with e';injection e' with e';injection e' with e1 e2;subst e1 e2
     exact⟨by rw[c2],_,rfl⟩
  obtain⟨rfl,ad,rfl⟩:=hyz
  obtain⟨u,hu,e1⟩:=(hT ty i hi).under
  rw[hd] at e1
  have hu':u= .pointer e:=by cases u<;>simp[td] at e1;rw[e1]
  subst hu'
  obtain⟨x,z0,hx,hs,_⟩:=(hT e ie hie).info
  have heq:(Op.equal ty (.pointer (some ad)) (.pointer (some ad))).run P w= .ok true w:=by
   show(Op.equalIn (9999+1) ty _ _).run P w=_
   unfold Op.equalIn
   rw[C4,run_underlying hu w]
   simp[sizeOf,typeInfo,hx,sameAddr]
  have hg:=YP (P:=P) (op:=op) (ty:=ty) (x:=x1) (y:=x2) (a:= .pointer (some ad)) (b:= .pointer (some ad)) w ⟨by simp,by simp⟩
  split at h1
  ·exact⟨_,.bool true,h1,by rw[C4,hg];simp[binOp,heq],.v _⟩
  ·exact⟨_,.bool false,h1,by rw[C4,hg];simp[binOp,heq],.v _⟩
  ·cases h1
 ·obtain⟨v,h1,h2⟩:=A3M (T:=T) (ty:=ty) hi h
  obtain⟨v',u,h3,h4,rfl⟩:=A0n hT x1 x2 ha hb h2
  exact⟨v',u,h1,h3,h4⟩
end
def B7g (l:List Lie) (e n o u:Nat):Bool:=@List.rec Lie (λ_=>Bool) false (λp _ ih=>@Bool.rec (λ_=>Bool) ih true (Nat.beq p.1 e&&(Nat.beq p.2.1 n&&(Nat.beq p.2.2.1 o&&Nat.beq p.2.2.2 u)))) l
def B1w (ie:TI) (v:AV) (H:Hp) (K:AV→Al):Al:=
 match v with
 | .ptr s p k=>Kj H s λx=>KF x λ_ cs=>HJ cs 0 λcl=>ck (Nat.blt (Nat.add p k) cl&& !Nat.beq ie.size 0) (K (.ptr s p k))
 |_=>none
def B1s (l:List Lie) (u:TypeId) (v:AV) (H:Hp) (K:AV→Al):Al:=
 match v with
 | .ptr s p k=>Kj H s λx=>A2x x λq E cs=>HJ cs 0 λcl=>ck (q&&B7g l E cl (Nat.add p k) u) (K (.ptr s p k))
 |_=>none
def B4t (s:AV) (K:AV→Al):Al:=
 match s with
 | .sl sz r o n=>ck (Nat.beq sz 1&&Nat.blt 0 n) (K (.ptr r o 0))
 |_=>none
def B1r (e:TypeId) (p n:AV) (H:Hp) (K:KV):Al:=
 match p with
 | .ptr s o k=>A4M n λz=>iN z λn=>Kj H s λx=>KF x λE cs=>ck (Nat.beq E e&&(Nat.blt 0 n&&Nat.blt n 9223372036854775807)) (FT n (Dp (Nat.add o k) cs) λbs=>fu8 bs λl=>Og H s .gone λH'=>K (.v (.string ⟨⟨l⟩⟩)) H')
 |_=>none
theorem B3U {l:List Lie} {e n o u:Nat} (h:B7g l e n o u=true):(e,n,o,u)∈l:=by
 induction l with
 |nil=>cases h
 |cons p l ih=>
  have h:@Bool.rec (λ_=>Bool) (B7g l e n o u) true (Nat.beq p.1 e&&(Nat.beq p.2.1 n&&(Nat.beq p.2.2.1 o&&Nat.beq p.2.2.2 u)))=true:=h
  cases hq:(Nat.beq p.1 e&&(Nat.beq p.2.1 n&&(Nat.beq p.2.2.1 o&&Nat.beq p.2.2.2 u)))
  ·rw[hq] at h;exact List.mem_cons_of_mem _ (ih h)
  ·simp only[Jp,ZZ] at hq
   obtain⟨h1,h2,h3,h4⟩:=hq
   obtain⟨a,b,c,d⟩:=p
   simp only at h1 h2 h3 h4
   subst h1 h2 h3 h4
   exact List.mem_cons_self
section
variable {P:Program} {G:Gl} {w0:Base} {C:Ctx} {H:Hp} {w w':World} {r:AV×Hp}
theorem A8P {T:Ty} (hT:Xv P T) {s d e:TypeId} {i ie:TI} {v:AV} {y:Value} {K:AV→Al} (hi:T s=some i) (hd:i.d= .pointer e) (hie:T e=some ie) (hup:P.underlying d=some .unsafePointer) (hr:Rel G w0 C H w) (hv:VRel C w v y) (h:B1w ie v H K=some r):
 K v=some r∧(convert s d y).run P w= .ok y w:=by
 unfold B1w at h
 split at h
 ·rename_i t p k
  obtain⟨q,E,cs,hl,h1⟩:=J1 h
  rw[Cw,Ln] at h1
  obtain⟨hc,h2⟩:=Br h1
  simp only[Jp,Uk,l14] at hc
  obtain⟨c1,c2⟩:=hc
  have c1:p+k<cs.length:=c1
  refine⟨h2,?_⟩
  cases hv with
  |@ptr _ _ _ _ _ b base hp=>
   rcases hr.rows t _ hl with⟨_,h6⟩|⟨b',base',arr',fz',hd'⟩
   ·have:=h6.symm.trans hp;cases this
   ·have e':=hd'.at_.symm.trans hp
    injection e' with e';injection e' with e';injection e' with e1 e2;subst e1 e2
    have hf:=hd'.fits
    obtain⟨u,hu,eu⟩:=(hT s i hi).under
    rw[hd] at eu
    have hu':u= .pointer e:=by cases u<;>simp[td] at eu;rw[eu]
    subst hu'
    obtain⟨x,z0,hx,hs,_⟩:=(hT e ie hie).info
    have hsz:x.size≠0:= λe0=>by rw[hs] at e0;rw[e0] at c2;simp at c2
    exact Lib.run_to_unsafe w ⟨b',base'+(p+k),none⟩ hu hup hx hsz (e:=E) (cells:=arr'.size) (by simp[World.shape?,hd'.block]) (by show base'+(p+k)<arr'.size;omega)
 ·cases h
theorem A8J {l:List Lie} (hlie:∀e n o u,(e,n,o,u)∈l→liesAt P P.depth e (n/P.cellsOf e) o u 1=true∧(P.info? u).isSome=true) {s d u:TypeId} {v:AV} {y:Value} {K:AV→Al} (hup:P.underlying s=some .unsafePointer) (hd:P.underlying d=some (.pointer u)) (hr:Rel G w0 C H w) (hv:VRel C w v y) (h:B1s l u v H K=some r):
 K v=some r∧(convert s d y).run P w= .ok y w:=by
 unfold B1s at h
 split at h
 ·rename_i t p k
  obtain⟨q,E,cs,hl,h1⟩:=UI h
  rw[Cw,Ln] at h1
  obtain⟨hc,h2⟩:=Br h1
  simp only[Jp] at hc
  obtain⟨c1,c2⟩:=hc
  obtain⟨hlies,hsome⟩:=hlie _ _ _ _ (B3U c2)
  refine⟨h2,?_⟩
  cases hv with
  |@ptr _ _ _ _ _ b base hp=>
   rcases hr.rows t _ hl with⟨_,h6⟩|⟨b',base',arr',fz',hd'⟩
   ·have:=h6.symm.trans hp;cases this
   ·have e':=hd'.at_.symm.trans hp
    injection e' with e';injection e' with e';injection e' with e1 e2;subst e1 e2
    obtain⟨x1,x2⟩:=hd'.exact c1
    subst x1
    obtain⟨j,hj⟩:=Option.isSome_iff_exists.1 hsome
    refine Lib.run_from_unsafe w ⟨b',0+(p+k),none⟩ hup hd hj (e:=E) (cells:=arr'.size) (by simp[World.shape?,hd'.block]) ?_
    rw[x2,Ln]
    exact hlies
 ·cases h
theorem Rel.change (h:Rel G w0 C H w) {s b base:Nat} {x:Row} (hl:Ax H s=some x) (hp:C.π s=some (some (b,base))) (ho:w'.os=w.os) (ht:w'.tape=w.tape) (hop:w'.output=w.output) (hsz:w'.heap.size=w.heap.size) (hoth:∀k,k≠b→w'.heap[k]?=w.heap[k]?)
 (hb:∀arr T fz,w.heap[b]?=some (.cells arr T fz)→∃arr' fz',w'.heap[b]?=some (.cells arr' T fz')∧arr'.size=arr.size):Rel G w0 C (cut H s) w'∧Ext w0.own C w C w':=by
 have hown:=h.own s x b base hl hp
 have e:Ext w0.own C w C w':=by
  refine⟨λ_ _=>rfl,λ_ _ h=>h,λk i h=> ?_,λ_ h=>h,λk h=>hoth k (λe=>hown.2.2 (e▸h)),λk a t f h=> ?_,λ_ _ h=> .inl h,λ_ h=> .inl h,Nat.le_of_eq hsz.symm⟩
  ·exact l0s (hoth k (λe=>hown.2.1 i (e▸h)))
  ·by_cases hk:k=b
   ·subst hk;exact hb a t f h
   ·exact⟨a,f,(hoth k hk).trans h,rfl⟩
 have hsub:∀t z,Ax (cut H s) t=some z→t≠s∧Ax H t=some z:= λt z hz=>by
  by_cases hts:t=s
  ·subst hts;rw[Ku] at hz;cases hz
  ·rw[NB hts] at hz;exact⟨hts,hz⟩
 refine⟨⟨h.glob.mono e,⟨ho.trans h.below.os,ht.trans h.below.tape,hop.trans h.below.output,by rw[hsz];exact h.below.size,λk hk hU=>(hoth k (λe=> ?_)).trans (h.below.block k hk hU)⟩,λt z hz=>h.lt t z (hsub t z hz).2,λt z hz=>(h.rows t z (hsub t z hz).2).mono e (λk base' hpk=>hoth k (λek=> ?_)),
  λt z k o hz=>h.own t z k o (hsub t z hz).2,λt t' z z' k o1 o2 hz hz'=>h.sep t t' z z' k o1 o2 (hsub t z hz).2 (hsub t' z' hz').2,λk i hF=>hsz▸h.fin k i hF,λk hB=>hsz▸h.finB k hB,λk hk=>h.nx k (by rw[cut,Ck] at hk;exact hk)⟩,e⟩
 ·subst e
  rcases hown.1 with ho|ho
  ·omega
  ·exact hU ho
 ·subst ek
  exact(hsub t z hz).1 (h.sep t s z x _ _ _ (hsub t z hz).2 hl hpk hp)
theorem A2W {e:TypeId} (hc:P.cellsOf e=1) (count off n:Nat) (hn:off+n≤count):liesAt P P.depth e count off e n=true:=by
 have hd:P.depth=(2*(P.types.size+Made.depth)+1)+1:=rfl
 rw[hd]
 simp only[liesAt,l1d]
 left
 rw[hd]
 simp[rowAt,hc,hn,sameLayout,Nat.mod_one]
theorem A8I {T:Ty} (hT:Xv P T) {e pt it ty:TypeId} {ipt ie:TI} {p n:AV} {y z:Value} {K:KV} (hpt:T pt=some ipt) (hd:ipt.d= .pointer e) (hie:T e=some ie) (h1c:ie.size=1) (hr:Rel G w0 C H w) (hv:VRel C w p y) (hn:VRel C w n z) (h:B1r e p n H K=some r):
 ∃v H' u w',K v H'=some r∧(Builtin.unsafeString_ #[pt,it] ty #[y,z]).run P w= .ok u w'∧Jk G w0 C w v H' u C w':=by
 unfold B1r at h
 split at h
 ·rename_i s o k
  obtain⟨kk,zz,rfl,h1⟩:=MR h
  obtain⟨m,rfl,h2⟩:=SO h1
  obtain⟨q,E,cs,hl,h3⟩:=J1 h2
  obtain⟨hc,h4⟩:=Br h3
  simp only[Jp,ZZ,Uk] at hc
  obtain⟨c1,c2,c3⟩:=hc
  subst c1
  obtain⟨hlen,h5⟩:=NI _ _ _ _ h4
  rw[C8] at hlen h5
  obtain⟨ns,hns,h6⟩:=A6B _ _ h5
  rw[D8] at h6
  obtain rfl:=AL.1 hn
  have hok:o+k+m≤cs.length:=by
   have:m≤(cs.drop (o+k)).length:=hlen
   simp at this
   omega
  cases hv with
  |@ptr _ _ _ _ _ b base hp=>
   rcases hr.rows s _ hl with⟨_,h7⟩|⟨b',base',arr',fz',hd'⟩
   ·have:=h7.symm.trans hp;cases this
   ·have e':=hd'.at_.symm.trans hp
    injection e' with e';injection e' with e';injection e' with e1 e2;subst e1 e2
    have hf:=hd'.fits
    have hnl:ns.length=m:=by
     have:=congrArg List.length hns
     simp at this
     have:(cs.drop (o+k)).length=cs.length-(o+k):=by simp
     simp_all
    have hcell:∀j (hj:j<ns.length),w.cell? ⟨b',base'+(o+k)+j,none⟩=some (.int .u8 (ns[j]:Int)):= λj hj=>by
     have hcj:cs[o+k+j]?=some (.v (.int .u8 (ns[j]:Int))):=by
      have:=congrArg (λl=>l[j]?) hns
      simp only[l0m,l0d,l0a] at this
      rw[if_pos (by omega),JV hj] at this
      simpa using this
     obtain⟨hi,hci⟩:=l0j.1 hcj
     obtain⟨y,hy,hvy⟩:=hd'.get _ hi
     rw[hci] at hvy
     rw[←AL.1 hvy]
     rw[←hy]
     congr 2
     omega
    obtain⟨hu,hcc⟩:P.underlying pt=some (.pointer E)∧P.cellsOf E=1:=by
     obtain⟨u,hu,eu⟩:=(hT pt ipt hpt).under
     rw[hd] at eu
     have hu':u= .pointer E:=by cases u<;>simp[td] at eu;rw[eu]
     subst hu'
     exact⟨hu,by rw[(hT E ie hie).cellsOf,h1c]⟩
    have hload:∀(ns:List Nat) (off:Nat) (acc:ByteArray),(∀j (hj:j<ns.length),w.cell? ⟨b',off+j,none⟩=some (.int .u8 (ns[j]:Int)))→
     (loadBytes ⟨b',off,none⟩ acc ns.length).run P w= .ok ⟨acc.data++(ns.map UInt8.ofNat).toArray⟩ w:=by
     intro ns
     induction ns with
     |nil=>intro off acc _;simp[loadBytes]
     |cons n ns ih=>
      intro off acc hc
      have h0:w.cell? ⟨b',off,none⟩=some (.int .u8 (n:Int)):=hc 0 (by simp)
      have ih':=ih (off+1) (acc.push (UInt8.ofNat n)) (λj hj=>by
       have:=hc (j+1) (by simpa using hj)
       simpa [Xt,Nat.add_comm 1 j] using this)
      have hx:((n:Int).toNat).toUInt8=UInt8.ofNat n:=by simp
      simp only[Lj,loadBytes,C4,run_load,h0,Result.andThen,hx,Ij]
      rw[ih']
      congr 1
      apply ByteArray.ext
      simp[ByteArray.push]
    have hlb:=hload ns (base'+(o+k)) .empty hcell
    rw[hnl] at hlb
    have hlies:liesAt P P.depth E (arr'.size/P.cellsOf E) (base'+(o+k)) E m=true:=A2W hcc _ _ _ (by rw[hcc,Nat.div_one];omega)
    have hch:=hr.change (w':=w.freeze ⟨b',base'+(o+k),none⟩ m) hl hp (by unfold World.freeze;split<;>rfl) (by unfold World.freeze;split<;>rfl) (by unfold World.freeze;split<;>rfl) (by unfold World.freeze;split<;>simp) (λk' hk'=>by
     unfold World.freeze
     split
     ·rfl
     ·simp only[l0r];rw[if_neg (λe=>hk' e.symm)]) (λarr T0 fz0 hb0=>by
     unfold World.freeze
     rw[if_neg (by omega)]
     simp only[l0r,if_true,hb0,l0x]
     exact⟨arr,_,rfl,rfl⟩)
    refine⟨_,_,.string ⟨⟨ns.map UInt8.ofNat⟩⟩,_,h6,?_,.v _,hch.1,hch.2⟩
    have hmax:IntKind.i64.max=9223372036854775807:=rfl
    have hdef:Builtin.unsafeString_ #[pt,it] ty #[.pointer (some ⟨b',base'+(o+k),none⟩),.int kk m]=
     (do
      let n←asInt (.int kk m)
      if n<0 then runtimePanic (.error "unsafe.String: len out of range")
      if n>IntKind.i64.max then unsupported (.unsafePointer "String: a length above the largest int")
      if n=0 then pure (.string .empty)
      else if←variablesAt ⟨b',base'+(o+k),none⟩ (←elemOf pt) n.toNat then do
       let s←loadBytes ⟨b',base'+(o+k),none⟩ .empty n.toNat
       freeze ⟨b',base'+(o+k),none⟩ n.toNat
       pure (.string s)
      else unsupported (.unsafePointer "String: not so many bytes at ptr")):=rfl
    rw[hdef]
    have hneg:¬(m:Int)<0:=by omega
    have hbig:¬(9223372036854775807:Int)<(m:Int):=by omega
    have hz:¬m=0:=by omega
    have hsh:w.shape? b'=some (E,arr'.size):=by simp[World.shape?,hd'.block]
    simp[asInt,asIntOf,hmax,hneg,hbig,hz,variablesAt,hsh,elemOf,run_underlying hu,hlies,hlb]
 ·cases h
theorem B89 {t:Tm} {N:Nat} {ro:Option Nat} {o:Oper} {c:Call} {f:FuncId} {fv:Operand} {first cap:List AV} {v:AV} {K:AV→Hp→Prop} (hf:Xr P f) (ho:o.op= .call c) (hcal:c.callee= .value fv) (hfv:JX G t fv= .fn (.func f) first cap) (ha:first++c.args.toList.map (JX G t)++cap=[v]) (hK:K v H):RW P G ro N o t H K:=by
 refine Ri (λc hc=>by rw[ho] at hc;cases hc) λw0 s0 C N a w s=> ?_
 have hv:=AT s fv
 rw[hfv] at hv
 obtain⟨ys,zs,he,hys,hzs⟩:=GZ.1 hv
 have hall:=(hys.append (A2b s c.args.toList)).append hzs
 rw[ha] at hall
 obtain⟨y,ys',e1,hvy,hl'⟩:=hall.cons_inv
 have e2:=hl'.nil_inv
 subst e2
 refine⟨v,H,y,C,w,hK,.inl ?_,hvy,s.rel,.refl _ _ _⟩
 have:(ys++c.args.toList.map a.eval++zs).toArray= #[y]:=by rw[e1]
 have hr:=hf y w
 simp only[execOp,ho,resolve,hcal,he,Deferred.ofValue,C4,Yh,E3,invoke]
 rw[←hr]
 congr 2
 rw[←this]
 apply l0c
 simp
end
def A0a (P:Program) (c rest:Code) (Q:Exit→Act→World→Prop) (a:Act) (w:World):Prop:=
 ∀(b:Frame) (k:List Item) (cs:List Frame),∃e a' w',Q e a' w'∧Arrives P (lone (b.at a (.code rest:: .inScope c::k)) cs w) b k cs e a' w'
theorem A8C {P:Program} {c rest:Code} {Q Q':Exit→Act→World→Prop} {a:Act} {w:World} (hg:∀l a w,Q' (.goto l) a w→∃rest',findLabel c l=some rest'∧A0a P c rest' Q a w) (hq:∀e a w,(∀l,e≠.goto l)→Q' e a w→Q e a w)
 (h:rest.wp P Q' a w):A0a P c rest Q a w:=by
 intro b k cs
 obtain⟨e,a₁,w₁,h1,harr⟩:=h b (.inScope c::k) cs
 cases e with
 |normal=>exact⟨.normal,a₁,w₁,hq _ _ _ (by simp) h1,Steps.trans harr (.one step_inScope)⟩
 |exit id=>exact⟨.exit id,a₁,w₁,hq _ _ _ (by simp) h1,λk' hk=>harr k' (by simp[exitTo,hk])⟩
 |goto l=>
  obtain⟨rest',hf,hs⟩:=hg l a₁ w₁ h1
  have hgo:gotoIn l (.inScope c::k)=some (.code rest':: .inScope c::k):=by simp[gotoIn,hf]
  obtain⟨e₂,a₂,w₂,hq₂,harr₂⟩:=hs b k cs
  exact⟨e₂,a₂,w₂,hq₂,.of_steps (harr _ hgo) harr₂⟩
 |ret=>exact⟨_,a₁,w₁,hq _ _ _ (by simp) h1,harr⟩
 |panic ch=>exact⟨_,a₁,w₁,hq _ _ _ (by simp) h1,harr⟩
 |outgrown=>exact⟨_,a₁,w₁,hq _ _ _ (by simp) h1,harr⟩
theorem A5x {P:Program} {c:Code} {Q:Exit→Act→World→Prop} {a:Act} {w:World} (h:A0a P c c Q a w):(Code.scope c).wp P Q a w:=by
 intro b k cs
 obtain⟨e,a₁,w₁,hq,harr⟩:=h b k cs
 exact⟨e,a₁,w₁,hq,.of_steps (.one step_scope) harr⟩
section
variable {P:Program} {G:Gl} {m N:Nat} {t:Tm} {H:Hp} {Q:Exit→Tm→Hp→Prop}
def A5h (P:Program) (G:Gl) (m N:Nat) (c rest:Code) (Q:Exit→Tm→Hp→Prop) (t:Tm) (H:Hp):Prop:=
 ∀w0 s0 C a w,St G w0 s0 C N t H a w→A0a P c rest (Ky G w0 s0 m C N w Q) a w
theorem B1P {c:Code} (h:A5h P G m N c c Q t H):Qn P G none m N (.scope c) Q t H:= λw0 s0 C a w s=>wpIn_wide.2 (A5x (h w0 s0 C a w s))
theorem A3Q {c rest:Code} {Q':Exit→Tm→Hp→Prop} (hg:∀l t H,Q' (.goto l) t H→∃rest',findLabel c l=some rest'∧A5h P G m N c rest' Q t H) (hq:∀e t H,(∀l,e≠.goto l)→Q' e t H→Q e t H)
 (h:Qn P G none m N rest Q' t H):A5h P G m N c rest Q t H:=by
 intro w0 s0 C a w s
 refine A8C ?_ ?_ (wpIn_wide.1 (h w0 s0 C a w s))
 ·rintro l a' w' ⟨C',t',H',s',hx,hk⟩
  obtain⟨rest',hf,hs⟩:=hg l t' H' hk
  refine⟨rest',hf,?_⟩
  intro b k cs
  obtain⟨e2,a2,w2,hq2,harr⟩:=hs w0 s0 C' a' w' s' b k cs
  exact⟨e2,a2,w2,hq2.later hx,harr⟩
 ·rintro e a' w' hne ⟨C',t',H',s',hx,hk⟩
  exact⟨C',t',H',s',hx,hq e t' H' hne hk⟩
end
def Iq (E:XE) (t:Tm) (x:Operand) (K:AV→Al):Al:=
 match x with
 | .tmp i=>gtm t i K
 | .const v=>K (ofV v)
 | .global g=>E.gl.getK g λcs=>K (.iptr cs)
 | .func f=>K (.fn (.func f) [] [])
def A0f (E:XE) (t:Tm) (l:List Operand):(List AV→Al)→Al:=
 @List.rec Operand (λ_=>(List AV→Al)→Al) (λK=>K []) (λx _ ih K=>Iq E t x λv=>ih λvs=>K (v::vs)) l
def A0c (E:XE) (t:Tm) (x:Option Operand) (K:Option AV→Al):Al:=
 match x with
 |none=>K none
 |some x=>Iq E t x λv=>K (some v)
def plK (i:TI) (j:Nat) (K:Nat→Nat→Al):Al:=(λ(_:Unit)=>match O2 i j with|some (o,s)=>fNS o λo=>K o s|none=>none) Gx
def Xx (E:XE) (t:Tm) (i:TI) (l:List (Nat×Operand)):(List (Nat×Nat×AV)→Al)→Al:=
 @List.rec (Nat×Operand) (λ_=>(List (Nat×Nat×AV)→Al)→Al) (λK=>K []) (λp _ ih K=>plK i p.1 λo s=>Iq E t p.2 λv=>ih λl'=>K ((o,s,v)::l')) l
def B7K (i:TI) (f:Nat) (K:Nat→Nat→TypeId→Al):Al:=(λ(_:Unit)=>match i.d with| .struct fs=>(match fs[f]? with|some (o,s,ft)=>K o s ft|none=>none)|_=>none) Gx
def A4c (i:TI) (K:TypeId→Nat→Al):Al:=(λ(_:Unit)=>match i.d with| .slice e esz=>K e esz|_=>none) Gx
def B05 (i:TI):TypeId:=match i.d with| .slice e _=>e|_=>0
def elK (E:XE) (i:TI) (K:TI→Al):Al:=(λ(_:Unit)=>match Xa i with|some e=>E.ty.getK e K|none=>K i) Gx
def IM (v:AV) (K:AV→Al):Al:=match v with| .ptr r p k=>K (.ptr r p k)| .iptr cs=>K (.iptr cs)| .fn (.func f) a b=>K (.fn (.func f) a b)|_=>none
def AJ (q a b:AV) (K:AV→Al):Al:=match q with| .v (.bool true)=>K a| .v (.bool false)=>K b|_=>none
def A8A:TD→Bool
 | .int .u8=>true
 |_=>false
def cvK (E:XE) (s d:TypeId) (i j:TI) (a:AV) (H:Hp) (K:AV→Al):Al:=
 (λ(_:Unit)=>match i.d with
  | .slice e _=>(match j.d with
   | .string=>E.ty.getK e λie=>ckS (A8A ie.d) (A22 a H K)
   |_=>none)
  | .pointer e=>ckS (Nat.beq d E.up&& !E.lie.isEmpty) (E.ty.getK e λie=>B1w ie a H K)
  | .other=>(match j.d with
   | .pointer u=>ckS (Nat.beq s E.up&& !E.lie.isEmpty) (B1s E.lie u a H K)
   |_=>none)
  |_=>Fg i j a K) Gx
def A4B (i:TI) (K:TypeId→TypeId→Al):Al:=(λ(_:Unit)=>match i.d with| .map k e=>K k e|_=>none) Gx
def B1d (E:XE) (kt:TypeId) (a:AV) (K:Value→Al):Al:=
 E.ty.getK kt λik=>(λ(_:Unit)=>match ik.d with
  | .string=>Mp a K
  | .int q=>A6t q a K
  | .struct _=>E.eqt.getK kt λks=>B1e ks a K
  | .array .. =>E.eqt.getK kt λks=>B1e ks a K
  |_=>none) Gx
def A8B:Operand→Bool
 | .const .nilIface=>true
 |_=>false
def B8N (op:BinOp) (a:AV) (K:AV→Al):Al:=
 match a,op with
 | .v .nilIface,.eql=>K (.v (.bool true))
 | .v .nilIface,.neq=>K (.v (.bool false))
 |_,_=>none
def C3a (E:XE) (op:BinOp) (ty:TypeId) (nc:Bool) (a b:AV) (K:AV→Al):Al:=
 E.ty.getK ty λi=>(λ(_:Unit)=>match i.d with
  | .struct _=>E.eqt.getK ty λks=>Uw ks op a b K
  | .array .. =>E.eqt.getK ty λks=>Uw ks op a b K
  | .pointer e=>E.ty.getK e λie=>ZL i ie op a b K
  | .iface=>ckS nc (B8N op a K)
  |_=>Ak i op a b K) Gx
def A7k (i:TI) (v:AV) (l h m:Option AV) (H:Hp) (K:AV→Al):Al:=
 (λ(_:Unit)=>match i.d with
  | .array n _ esz=>(match m with|none=>A6M n esz v l h H K|some _=>none)
  |_=>EW i v l h m K) Gx
def B5p (i:TI) (v:AV) (H:Hp) (K:AV→Al):Al:=
 (λ(_:Unit)=>match i.d with
  | .map .. =>B07 v H K
  |_=>AP i v K) Gx
def B2f (E:XE) (R:Rt) (f:AV) (aZ:List AV) (H:Hp) (K:AV→Al):Al:=
 match f with
 | .fn (.func g) first cap=>ckS (!E.imp g) (WR aZ cap λas'=>WR first as' λall=>Ah R g all H K)
 |_=>none
def A3X (E:XE) (R:Rt) (t:Tm) (H:Hp) (c:Call) (K:AV→Al):Al:=
 match c.callee with
 | .value fv=>Iq E t fv λf=>A0f E t c.args.toList λaZ=>B2f E R f aZ H K
 | .builtin .len=>match c.args.toList,c.argTypes.toList with
  |[x],[ty]=>Iq E t x λv=>E.ty.getK ty λi=>B5p i v H K
  |_,_=>none
 | .builtin .unsafeSliceData=>match c.args.toList with
  |[x]=>Iq E t x λv=>B4t v K
  |_=>none
 | .builtin .min=>match c.args.toList with
  |[x,y]=>Iq E t x λa=>Iq E t y λb=>eMM true a b K
  |_=>none
 | .builtin .max=>match c.args.toList with
  |[x,y]=>Iq E t x λa=>Iq E t y λb=>eMM false a b K
  |_=>none
 |_=>none
def OO (E:XE) (R:Rt) (t:Tm) (H:Hp) (o:Op) (K:AV→Al):Al:=
 match o with
 | .move x=>Iq E t x K
 | .assign x=>Iq E t x K
 | .pick c a b=>Iq E t c λq=>Iq E t a λa=>Iq E t b λb=>AJ q a b K
 | .load ty x=>Iq E t x λv=>E.ty.getK ty λi=>Aq i v H K
 | .nilCheck x=>Iq E t x λv=>IM v K
 | .binOp op ty x y _=>Iq E t x λa=>Iq E t y λb=>C3a E op ty (A8B y) a b K
 | .unOp op _ x=>Iq E t x λa=>F8 op a K
 | .convert s d x=>Iq E t x λa=>E.ty.getK s λi=>E.ty.getK d λj=>cvK E s d i j a H K
 | .makeFunc fn first cap=>A0f E t first.toList λfs=>A0f E t cap.toList λcs=>K (.fn fn fs cs)
 | .fieldAddr ty x f=>Iq E t x λv=>E.ty.getK ty λi=>B7K i f λoff sz _=>ckS (!Nat.beq sz 0) (AN off v K)
 | .field ty x f=>Iq E t x λv=>E.ty.getK ty λi=>B7K i f λoff _ ft=>E.ty.getK ft λj=>A50 off j v K
 | .indexAddr ty x ix=>Iq E t x λv=>Iq E t ix λn=>E.ty.getK ty λi=>B0 i v n K
 | .index ty x ix=>Iq E t x λv=>Iq E t ix λn=>E.ty.getK ty λi=>elK E i λj=>Ta i j v n K
 | .slice ty x lo hi mx=>Iq E t x λv=>A0c E t lo λl=>A0c E t hi λh=>A0c E t mx λm=>E.ty.getK ty λi=>A7k i v l h m H K
 | .extract x k=>Iq E t x λv=>AD v k K
 | .build ty parts=>E.ty.getK ty λi=>ckS (A56 i) (Xx E t i parts.toList λl=>Bk i l K)
 | .call c=>A3X E R t H c K
 | .buildSlice ty n parts=>E.ty.getK ty λi=>A4c i λ_ esz=>E.ty.getK (B05 i) λie=>Xx E t i parts.toList λl=>RN esz ie n l K
 | .lookup ty x ix ok=>Iq E t x λm=>Iq E t ix λk=>E.ty.getK ty λi=>A4B i λkt et=>B1d E kt k λkv=>E.ty.getK et λie=>Xu ie ok m kv H K
 | .entry it=>Iq E t it λv=>A6U v H K
 |_=>none
section
variable {D:XE→Cf→Nat→List Oper→Bool} {E:XE} {P:Program} {R:Rt} {t:Tm} {H:Hp} {r:AV×Hp} {ro:Option Nat} {N:Nat}
theorem B8c {cs:List AV} (h:cs.all isV=true):(cs.map unV).map AV.v=cs:=by
 induction cs with
 |nil=>rfl
 |cons c cs ih=>
  simp only[l2j,Jp] at h
  simp only[ZY,ih h.2]
  cases c<;>simp[isV] at h
  rfl
theorem AS (hE:XE.Ok D E P) {x:Operand} {K:AV→Al} (h:Iq E t x K=some r):K (JX E.G t x)=some r:=by
 unfold Iq at h
 split at h
 ·rwa[SP] at h
 ·exact h
 ·obtain⟨cs,h1,h2⟩:=AW h
  have:=hE.gl _ _ h1
  simp only[JX,XE.G,h1,l0x,B8c this]
  exact h2
 ·exact h
theorem OP (hE:XE.Ok D E P):∀(l:List Operand) (K:List AV→Al),A0f E t l K=some r→K (l.map (JX E.G t))=some r:=by
 intro l
 induction l with
 |nil=>intro K h;exact h
 |cons x l ih=>
  intro K h
  have h:(Iq E t x λv=>A0f E t l λvs=>K (v::vs))=some r:=h
  exact ih _ (AS hE h)
theorem Xy (hE:XE.Ok D E P) {x:Option Operand} {K:Option AV→Al} (h:A0c E t x K=some r):K (x.map (JX E.G t))=some r:=by
 unfold A0c at h
 split at h
 ·exact h
 ·exact AS hE h
theorem T8 (hE:XE.Ok D E P) {i:TI}:∀(l:List (Nat×Operand)) (K:List (Nat×Nat×AV)→Al),Xx E t i l K=some r→
 ∃l',K l'=some r∧((l.map λp=>(p.1,JX E.G t p.2)).map λp=>(O2 i p.1).map λq=>(q.1,q.2,p.2))=l'.map some:=by
 intro l
 induction l with
 |nil=>intro K h;exact⟨[],h,rfl⟩
 |cons p l ih=>
  intro K h
  have h:(plK i p.1 λo s=>Iq E t p.2 λv=>Xx E t i l λl'=>K ((o,s,v)::l'))=some r:=h
  unfold plK at h
  split at h
  ·rename_i o s hp
   simp only[B4k] at h
   obtain⟨l',h1,h2⟩:=ih _ (AS hE h)
   refine⟨_,h1,?_⟩
   simp only[ZY,hp,l0x,h2]
  ·cases h
theorem rd (hE:XE.Ok D E P) {o:Oper} {v:AV} {K:AV→Al} (hd:∀c,o.op≠.defer c) (hx:xop (E.env P) o.op t H (λv' H'=>v'=v∧H'=H)) (hK:K v=some r):RW P E.G ro N o t H (λv H'=>H'=H∧K v=some r):=
 RW.mono (Ri hd (A37 (E:=E.env P) hE.env hx)) (by rintro _ _ ⟨rfl,rfl⟩;exact⟨rfl,hK⟩)
theorem MN {i:TI} {K:TypeId→TypeId→Al} (h:A4B i K=some r):∃k e,i.d= .map k e∧K k e=some r:=by
 unfold A4B at h
 split at h
 ·rename_i hd;exact⟨_,_,hd,h⟩
 ·cases h
theorem MM (hE:XE.Ok D E P) {mt kt et:TypeId} {i:TI} (hi:E.ty.get mt=some i) (hd:i.d= .map kt et):P.underlying mt=some (.map kt et):=by
 obtain⟨u,hu,e⟩:=(hE.ty mt i hi).under
 rw[hd] at e
 cases u<;>simp[td] at e
 rw[hu,e.1,e.2]
theorem RF (hE:XE.Ok D E P) {kt:TypeId} {a:AV} {K:Value→Al} (h:B1d E kt a K=some r):∃k,On P kt k∧K k=some r∧∀{C:Ctx} {w:World} {y:Value},VRel C w a y→y=k:=by
 obtain⟨ik,hik,h⟩:=AW h
 obtain⟨u,hu,e⟩:=(hE.ty kt ik hik).under
 have fl:∀ks,E.eqt.get kt=some ks→B1e ks a K=some r→∃k,On P kt k∧K k=some r∧∀{C:Ctx} {w:World} {y:Value},VRel C w a y→y=k:= λks hks h=>by
  unfold B1e at h
  split at h
  ·obtain⟨vs,rfl,h1⟩:=VI _ _ h
   obtain⟨h2,h3⟩:=JD h1
   exact⟨_,.inr (.inr ⟨ks,vs,hE.eq kt ks hks,h2,rfl⟩),h3,λhv=>A0t hv⟩
  ·cases h
 simp only at h
 split at h
 ·rename_i hd
  rw[hd] at e
  have hu':u= .string:=by cases u<;>simp[td] at e;rfl
  subst hu'
  unfold Mp at h
  split at h
  ·exact⟨_,.inl ⟨hu,_,rfl⟩,h,λhv=>AL.1 hv⟩
  ·cases h
 ·rename_i q hd
  rw[hd] at e
  have hu':u= .int q:=by cases u<;>simp[td] at e;rw[e]
  subst hu'
  unfold A6t at h
  split at h
  ·obtain⟨h1,h2⟩:=JD h
   have h1:_=q:=of_decide_eq_true h1
   subst h1
   exact⟨_,.inr (.inl ⟨_,_,hu,rfl⟩),h2,λhv=>AL.1 hv⟩
  ·cases h
 ·obtain⟨ks,hks,h⟩:=AW h;exact fl ks hks h
 ·obtain⟨ks,hks,h⟩:=AW h;exact fl ks hks h
 ·cases h
theorem No {o:Oper} {K:AV→Al} (hd:∀c,o.op≠.defer c) (h:∀(w0:Base) (s0:Nat) (C:Ctx) (N:Nat) (a:Act) (w:World),St E.G w0 s0 C N t H a w→∃v y,K v=some r∧(execOp a.eval o).run P w= .ok (.value y) w∧VRel C w v y):RW P E.G ro N o t H (λv H'=>H'=H∧K v=some r):=
 Ri hd λw0 s0 C N a w s=>let⟨v,y,h1,h2,h3⟩:=h w0 s0 C N a w s;⟨v,H,y,C,w,⟨rfl,h1⟩,.inl h2,h3,s.rel,.refl _ _ _⟩
theorem A7v (hE:XE.Ok D E P) {o:Oper} {op:BinOp} {ty yt:TypeId} {x y:Operand} (ho:o.op= .binOp op ty x y yt) {K:AV→Al} (h:C3a E op ty (A8B y) (JX E.G t x) (JX E.G t y) K=some r):RW P E.G ro N o t H (λv H'=>H'=H∧K v=some r):=by
 obtain⟨i,hi,h⟩:=AW h
 have nd:∀c,o.op≠.defer c:= λc hc=>by rw[ho] at hc;cases hc
 have fl:∀ks,E.eqt.get ty=some ks→Uw ks op (JX E.G t x) (JX E.G t y) K=some r→RW P E.G ro N o t H (λv H'=>H'=H∧K v=some r):= λks hks h=>by
  refine No nd λw0 s0 C N a w s=> ?_
  obtain⟨v,u,h1,h2,h3⟩:=A8V (P:=P) x y (hE.eq ty ks hks) (AT s x) (AT s y) h
  refine⟨v,u,h1,?_,h3⟩
  simp only[execOp,ho]
  rw[C4,h2];rfl
 simp only at h
 split at h
 ·obtain⟨ks,hks,h⟩:=AW h;exact fl ks hks h
 ·obtain⟨ks,hks,h⟩:=AW h;exact fl ks hks h
 ·rename_i e hd
  obtain⟨ie,hie,h⟩:=AW h
  refine No nd λw0 s0 C N a w s=> ?_
  obtain⟨v,u,h1,h2,h3⟩:=A8U (P:=P) (T:=E.T) hE.ty x y hi hd hie (AT s x) (AT s y) h
  refine⟨v,u,h1,?_,h3⟩
  simp only[execOp,ho]
  rw[C4,h2];rfl
 ·rename_i hd
  obtain⟨hc,h⟩:=JD h
  have hy:y= .const .nilIface:=by
   unfold A8B at hc
   split at hc
   ·rfl
   ·cases hc
  subst hy
  obtain⟨u,hu,e⟩:=(hE.ty ty i hi).under
  rw[hd] at e
  obtain⟨ms,rfl⟩:∃ms,u= .interface ms:=by cases u<;>simp[td] at e;exact⟨_,rfl⟩
  have he:∀w,(Op.equal ty .nilIface .nilIface).run P w= .ok true w:= λw=>by
   show(Op.equalIn (9999+1) ty _ _).run P w=_
   unfold Op.equalIn;rw[C4,run_underlying hu w];rfl
  have hg:∀(op:BinOp) (z:Operand) (w:World),(eqGuard op ty z (.const .nilIface) .nilIface .nilIface).run P w= .ok () w:= λop z w=>by
   unfold eqGuard
   rw[Sem.run_ite]
   refine B48 (by simp) ?_
   simp
  refine No nd λw0 s0 C N a w s=> ?_
  have hv:=AT s x
  have hz:a.eval (.const .nilIface)= .nilIface:=rfl
  unfold B8N at h
  split at h
  ·rename_i hq _ _
   rw[hq] at hv
   have hv:=AL.1 hv
   refine⟨_,.bool true,h,?_,.v _⟩
   simp only[execOp,ho]
   rw[hv,hz,C4,C4,hg]
   simp[binOp,he]
  ·rename_i hq _ _
   rw[hq] at hv
   have hv:=AL.1 hv
   refine⟨_,.bool false,h,?_,.v _⟩
   simp only[execOp,ho]
   rw[hv,hz,C4,C4,hg]
   simp[binOp,he]
  ·cases h
 ·obtain⟨u,hu,hx⟩:=A3M (T:=E.T) (ty:=ty) hi h
  exact rd hE nd (by rw[ho];simpa [xop,XE.env] using hx) hu
theorem OJ {i:TI} {K:TypeId→Nat→Al} (h:A4c i K=some r):∃e esz,i.d= .slice e esz∧K e esz=some r:=by
 unfold A4c at h
 split at h
 ·rename_i hd;exact⟨_,_,hd,h⟩
 ·cases h
theorem B1M (hE:XE.Ok D E P) {o:Oper} {ty:TypeId} {n:Nat} {parts:Array (Nat×Operand)} (ho:o.op= .buildSlice ty n parts) {K:AV→Al} (h:(E.ty.getK ty λi=>A4c i λ_ esz=>E.ty.getK (B05 i) λie=>Xx E t i parts.toList λl=>RN esz ie n l K)=some r):RW P E.G ro N o t H (λv H'=>H'=H∧K v=some r):=by
 obtain⟨i,hi,h⟩:=AW h
 obtain⟨e,esz,hd,h⟩:=OJ h
 have he:B05 i=e:=by simp[B05,hd]
 rw[he] at h
 obtain⟨ie,hie,h⟩:=AW h
 obtain⟨l,h1,h2⟩:=T8 hE _ _ h
 refine Ri (λc hc=>by rw[ho] at hc;cases hc) λw0 s0 C N a w s=> ?_
 obtain⟨hl,hq⟩:=XT s parts
 obtain⟨v,y,C',w',hK,hrun,hv,hr,hx⟩:=B1H (P:=P) (T:=E.T) hE.ty hi hd hie (by rw[←h2];simp[O2,hd]) h1 hl hq s.rel
 refine⟨v,H,y,C',w',⟨rfl,hK⟩,.inl ?_,hv,hr,hx⟩
 have:(parts.map λ(i,x)=>(i,a.eval x))=(parts.toList.map λp=>(p.1,a.eval p.2)).toArray:=by apply l0c;simp
 simp only[execOp,ho]
 rw[this,C4,hrun]
 rfl
theorem B1O (hE:XE.Ok D E P) {o:Oper} {s d:TypeId} {x:Operand} (ho:o.op= .convert s d x) {i j ie:TI} {e z:Nat} (hi:E.ty.get s=some i) (hj:E.ty.get d=some j) (hd:i.d= .slice e z) (hd2:j.d= .string) (hie:E.ty.get e=some ie) (hu8:A8A ie.d=true) {K:AV→Al} (h:A22 (JX E.G t x) H K=some r):RW P E.G ro N o t H (λv H'=>H'=H∧K v=some r):=by
 refine Ri (λc hc=>by rw[ho] at hc;cases hc) λw0 s0 C N a w st=> ?_
 obtain⟨h1,l,hK,hrun⟩:=A91 (P:=P) st.rel (AT st x) h
 refine⟨.v (.string ⟨⟨l⟩⟩),H,.string ⟨⟨l⟩⟩,C,w,⟨rfl,hK⟩,.inl ?_,.v _,st.rel,.refl _ _ _⟩
 have hcv:(convert s d (a.eval x)).run P w= .ok (.string ⟨⟨l⟩⟩) w:=by
  obtain⟨hu1,_⟩:=(hE.ty s i hi).elem_slice hd
  obtain⟨u2,hu2,e2⟩:=(hE.ty d j hj).under
  obtain⟨u3,hu3,e3⟩:=(hE.ty e ie hie).under
  rw[hd2] at e2
  have hu2':u2= .string:=by cases u2<;>simp[td] at e2;rfl
  subst hu2'
  have hu3':u3= .int .u8:=by
   cases hq:ie.d with
   |int k=>
    rw[hq] at hu8 e3
    cases k<;>simp[A8A] at hu8
    cases u3<;>simp[td] at e3
    rw[e3]
   |_=>rw[hq] at hu8;simp[A8A] at hu8
  subst hu3'
  unfold convert
  rw[C4,run_underlying hu1 w]
  simp only[E3]
  rw[C4,run_underlying hu2 w]
  simp only[E3]
  generalize a.eval x=y at h1 hrun
  cases y with
  |slice ad n cap=>
   simp only
   rw[C4,run_underlying hu3 w]
   simp only[E3]
   exact hrun
  |string s=>exact absurd rfl (h1 s)
  |_=>simp[Conv.bytesToString] at hrun
 simp only[execOp,ho]
 rw[C4,hcv]
 rfl
theorem A3x {i:TI} {f:Nat} {K:Nat→Nat→TypeId→Al} (h:B7K i f K=some r):∃fs o s ft,i.d= .struct fs∧fs[f]?=some (o,s,ft)∧K o s ft=some r:=by
 unfold B7K at h
 split at h
 ·rename_i fs hd
  split at h
  ·rename_i hf;exact⟨fs,_,_,_,hd,hf,h⟩
  ·cases h
 ·cases h
theorem VZ (hE:XE.Ok D E P) (hR:RSound D E P R) {o:Oper} {c:Call} (ho:o.op= .call c) {K:AV→Al} (h:A3X E R t H c K=some r):RW P E.G ro N o t H (λv H'=>H'=H∧K v=some r):=by
 have nd:∀c,o.op≠.defer c:= λc hc=>by rw[ho] at hc;cases hc
 unfold A3X at h
 split at h
 ·rename_i fv hcal
  have h:=OP hE _ _ (AS hE h)
  unfold B2f at h
  split at h
  ·rename_i g first cap hf
   obtain⟨_,h⟩:=Br h
   rw[NJ,NJ,←l0k] at h
   obtain⟨⟨fn,h1,h2,h3⟩,hc⟩:=YT hR h
   exact RW.mono (Xl ho hcal hf h1 h2 h3 hc) (λ_ _ h=>h)
  ·cases h
 ·rename_i hcal
  split at h
  ·rename_i x ty hx hty
   obtain⟨i,hi,h⟩:=AW (AS hE h)
   unfold B5p at h
   split at h
   ·rename_i kt et hd
    refine No nd λw0 s0 C N a w s=> ?_
    obtain⟨v,y,h1,h2,h3⟩:=A6Q (P:=P) (ty:=o.type) (ts:=c.argTypes) (by rw[←l21,hty];rfl) (MM hE hi hd) s.rel (AT s x) h
    refine⟨v,y,h1,?_,h3⟩
    have hargs:c.args.map a.eval= #[a.eval x]:=by apply l0c;simp[hx]
    rw[Hw ho _ hcal,hargs]
    show(do pure (Next.value (←Builtin.len_ c.argTypes o.type #[a.eval x]))).run P w=_
    rw[C4,h2];rfl
   ·obtain⟨u,hu,hxl⟩:=B1z (T:=E.T) hi h
    exact rd hE nd (by rw[ho];simp only[xop,hcal,hx,hty];simpa [XE.env] using hxl) hu
  ·cases h
 ·rename_i hcal
  split at h
  ·rename_i x hx
   have h:=AS hE h
   unfold B4t at h
   split at h
   ·rename_i sz rr oo n hq
    obtain⟨hc,h1⟩:=Br h
    simp only[Jp,ZZ,Uk] at hc
    refine No nd λw0 s0 C N a w s=> ?_
    have hv:=AT s x
    rw[hq] at hv
    have hargs:c.args.map a.eval= #[a.eval x]:=by apply l0c;simp[hx]
    rw[Hw ho _ hcal,hargs]
    generalize a.eval x=y at hv
    cases hv with
    |slz=>exact absurd hc.2 (by simp)
    |@sl _ _ _ _ _ _ b base cap arr T fz hp hcap hb hsz=>
     refine⟨_,.pointer (some ⟨b,base+oo,none⟩),h1,?_,.ptr hp⟩
     show(do pure (Next.value (←Builtin.unsafeSliceData_ c.argTypes o.type #[.slice (some ⟨b,base+oo,none⟩) n cap]))).run P w=_
     rw[C4,Lib.run_unsafeSliceData_row _ _ _ _ _ _ (by omega)]
     rfl
   ·cases h
  ·cases h
 ·rename_i hcal
  split at h
  ·rename_i x y hx
   obtain⟨u,hu,hxl⟩:=A6P (AS hE (AS hE h))
   exact rd hE nd (by rw[ho];simp only[xop,hcal,hx];simpa [XE.env] using hxl) hu
  ·cases h
 ·rename_i hcal
  split at h
  ·rename_i x y hx
   obtain⟨u,hu,hxl⟩:=A6P (AS hE (AS hE h))
   exact rd hE nd (by rw[ho];simp only[xop,hcal,hx];simpa [XE.env] using hxl) hu
  ·cases h
 ·cases h
theorem Qo (hE:XE.Ok D E P) (hR:RSound D E P R) {o:Oper} {K:AV→Al} (h:OO E R t H o.op K=some r):RW P E.G ro N o t H (λv H'=>H'=H∧K v=some r):=by
 unfold OO at h
 split at h
 all_goals try (cases h;done)
 case h_1 x ho=>exact rd hE (λc hc=>by rw[ho] at hc;cases hc) (by rw[ho];exact⟨rfl,rfl⟩) (AS hE h)
 case h_2 x ho=>exact rd hE (λc hc=>by rw[ho] at hc;cases hc) (by rw[ho];exact⟨rfl,rfl⟩) (AS hE h)
 case h_3 c a b ho=>
  have h:=AS hE (AS hE (AS hE h))
  unfold AJ at h
  split at h
  ·rename_i hq
   exact rd hE (λc hc=>by rw[ho] at hc;cases hc) (by rw[ho];simp[xop,XE.env,hq]) h
  ·rename_i hq
   exact rd hE (λc hc=>by rw[ho] at hc;cases hc) (by rw[ho];simp[xop,XE.env,hq]) h
  ·cases h
 case h_4 ty x ho=>
  obtain⟨i,hi,h⟩:=AW (AS hE h)
  obtain⟨u,hu,hx⟩:=A6T (T:=E.T) (ty:=ty) hi h
  exact rd hE (λc hc=>by rw[ho] at hc;cases hc) (by rw[ho];simpa [xop,XE.env] using hx) hu
 case h_5 x ho=>
  have h:=AS hE h
  unfold IM at h
  split at h
  ·rename_i hq;exact rd hE (λc hc=>by rw[ho] at hc;cases hc) (by rw[ho];simp[xop,XE.env,hq,B2h]) h
  ·rename_i hq;exact rd hE (λc hc=>by rw[ho] at hc;cases hc) (by rw[ho];simp[xop,XE.env,hq,B2h]) h
  ·rename_i hq;exact rd hE (λc hc=>by rw[ho] at hc;cases hc) (by rw[ho];simp[xop,XE.env,hq,B2h]) h
  ·cases h
 case h_6 op ty x y yt ho=>exact A7v hE ho (AS hE (AS hE h))
 case h_7 op ty x ho=>
  obtain⟨u,hu,hx⟩:=B4s (AS hE h)
  exact rd hE (λc hc=>by rw[ho] at hc;cases hc) (by rw[ho];simpa [xop,XE.env] using hx) hu
 case h_8 s d x ho=>
  obtain⟨i,hi,h⟩:=AW (AS hE h)
  obtain⟨j,hj,h⟩:=AW h
  unfold cvK at h
  simp only at h
  split at h
  ·rename_i e z hd
   split at h
   ·rename_i hd2
    obtain⟨ie,hie,h⟩:=AW h
    obtain⟨hu,h⟩:=JD h
    exact B1O hE ho hi hj hd hd2 hie hu h
   ·cases h
  ·rename_i e hd
   obtain⟨hc,h⟩:=JD h
   simp only[Jp,ZZ,l14] at hc
   obtain⟨ie,hie,h⟩:=AW h
   refine No (λc hc=>by rw[ho] at hc;cases hc) λw0 s0 C N a w st=> ?_
   obtain⟨h1,h2⟩:=A8P (P:=P) (T:=E.T) hE.ty hi hd hie (d:=d) (by rw[hc.1];exact hE.up hc.2) st.rel (AT st x) h
   refine⟨_,_,h1,?_,AT st x⟩
   simp only[execOp,ho]
   rw[C4,h2];rfl
  ·rename_i hd
   split at h
   ·rename_i u hd2
    obtain⟨hc,h⟩:=JD h
    simp only[Jp,ZZ,l14] at hc
    have hdu:P.underlying d=some (.pointer u):=by
     obtain⟨u',hu',e'⟩:=(hE.ty d j hj).under
     rw[hd2] at e'
     cases u'<;>simp[td] at e'
     rw[hu',e']
    refine No (λc hc=>by rw[ho] at hc;cases hc) λw0 s0 C N a w st=> ?_
    obtain⟨h1,h2⟩:=A8J (P:=P) hE.lie (s:=s) (by rw[hc.1];exact hE.up hc.2) hdu st.rel (AT st x) h
    refine⟨_,_,h1,?_,AT st x⟩
    simp only[execOp,ho]
    rw[C4,h2];rfl
   ·cases h
  ·obtain⟨u,hu,hx⟩:=A8Y (T:=E.T) hi hj h
   exact rd hE (λc hc=>by rw[ho] at hc;cases hc) (by rw[ho];simpa [xop,XE.env] using hx) hu
 case h_9 fn first cap ho=>
  have h:=OP hE _ _ (OP hE _ _ h)
  exact rd hE (λc hc=>by rw[ho] at hc;cases hc) (by rw[ho];exact⟨rfl,rfl⟩) h
 case h_10 ty x f ho=>
  obtain⟨i,hi,h⟩:=AW (AS hE h)
  obtain⟨fs,off,s,ft,h1,h2,h⟩:=A3x h
  obtain⟨hz,h⟩:=Br h
  obtain⟨u,hu,hx⟩:=B4E (T:=E.T) (ty:=ty) hi h1 h2 (λe=>by rw[e] at hz;simp at hz) h
  exact rd hE (λc hc=>by rw[ho] at hc;cases hc) (by rw[ho];simpa [xop,XE.env] using hx) hu
 case h_11 ty x f ho=>
  obtain⟨i,hi,h⟩:=AW (AS hE h)
  obtain⟨fs,off,s,ft,h1,h2,h⟩:=A3x h
  obtain⟨j,hj,h⟩:=AW h
  obtain⟨u,hu,hx⟩:=B1B (T:=E.T) (ty:=ty) hi h1 h2 hj h
  exact rd hE (λc hc=>by rw[ho] at hc;cases hc) (by rw[ho];simpa [xop,XE.env] using hx) hu
 case h_12 ty x ix ho=>
  obtain⟨i,hi,h⟩:=AW (AS hE (AS hE h))
  obtain⟨u,hu,hx⟩:=B4C (T:=E.T) (ty:=ty) hi h
  exact rd hE (λc hc=>by rw[ho] at hc;cases hc) (by rw[ho];simpa [xop,XE.env] using hx) hu
 case h_13 ty x ix ho=>
  obtain⟨i,hi,h⟩:=AW (AS hE (AS hE h))
  unfold elK at h
  have fin:∀j,(∀e,Xa i=some e→E.T e=some j)→Ta i j (JX E.G t x) (JX E.G t ix) K=some r→RW P E.G ro N o t H (λv H'=>H'=H∧K v=some r):= λj hj h=>by
   obtain⟨u,hu,hx⟩:=B1A (T:=E.T) (ty:=ty) hi hj h
   exact rd hE (λc hc=>by rw[ho] at hc;cases hc) (by rw[ho];simpa [xop,XE.env] using hx) hu
  split at h
  ·rename_i e he
   obtain⟨j,hj,h⟩:=AW h
   exact fin j (λe' he'=>by rw[he] at he';injection he' with he';subst he';exact hj) h
  ·rename_i he
   exact fin i (λe' he'=>by rw[he] at he';cases he') h
 case h_14 ty x lo hi mx ho=>
  have h0:=AW (Xy hE (Xy hE (Xy hE (AS hE h))))
  clear h
  obtain⟨i,hi',h⟩:=h0
  unfold A7k at h
  split at h
  ·rename_i n e esz hd
   split at h
   ·rename_i hm
    have hmx:mx=none:=by cases mx with
     |none=>rfl
     |some _=>cases hm
    subst hmx
    refine No (λc hc=>by rw[ho] at hc;cases hc) λw0 s0 C N a w st=> ?_
    obtain⟨v,u,h1,h2,h3⟩:=A8L (P:=P) (T:=E.T) hE.ty hi' hd (hE.pos ty i e esz hi' (.inr ⟨n,hd⟩)) st.rel (AT st x) (TW st lo) (TW st hi) h
    refine⟨v,u,h1,?_,h3⟩
    simp only[execOp,ho]
    rw[C4]
    have:(Instr.sliceAt ty (a.eval x) (lo.map a.eval) (hi.map a.eval) (Option.map a.eval none)).run P w= .ok u w:=h2
    rw[this];rfl
   ·cases h
  ·obtain⟨u,hu,hx⟩:=A6K (T:=E.T) (ty:=ty) hi' h
   exact rd hE (λc hc=>by rw[ho] at hc;cases hc) (by rw[ho];simpa [xop,XE.env] using hx) hu
 case h_15 x k ho=>
  obtain⟨vs,u,h1,h2,h3⟩:=B1C (AS hE h)
  exact rd hE (λc hc=>by rw[ho] at hc;cases hc) (by rw[ho];simp only[xop,XE.env,h1,h2,JN];exact⟨trivial,trivial⟩) h3
 case h_16 ty parts ho=>
  obtain⟨i,hi,h⟩:=AW h
  obtain⟨hb,h⟩:=Br h
  obtain⟨l,h1,h2⟩:=T8 hE _ _ h
  obtain⟨u,hu,hx⟩:=A6W (T:=E.T) (ty:=ty) hi hb h2 h1
  exact rd hE (λc hc=>by rw[ho] at hc;cases hc) (by rw[ho];simpa [xop,XE.env] using hx) hu
 case h_17 c ho=>exact VZ hE hR ho h
 case h_18 ty n parts ho=>exact B1M hE ho h
 case h_19 ty x ix ok ho=>
  obtain⟨i,hi,h⟩:=AW (AS hE (AS hE h))
  obtain⟨kt,et,hd,h⟩:=MN h
  obtain⟨kv,hk,h,hkv⟩:=RF hE h
  obtain⟨ie,hie,h⟩:=AW h
  refine No (λc hc=>by rw[ho] at hc;cases hc) λw0 s0 C N a w st=> ?_
  obtain⟨v,y,h1,h2,h3⟩:=B1y (P:=P) (MM hE hi hd) (hE.ty et ie hie) hk st.rel (AT st x) h
  refine⟨v,y,h1,?_,h3⟩
  simp only[execOp,ho]
  rw[C4,hkv (AT st ix),h2];rfl
 case h_20 it ho=>
  have h:=AS hE h
  refine No (λc hc=>by rw[ho] at hc;cases hc) λw0 s0 C N a w st=> ?_
  obtain⟨v,y,h1,h2,h3⟩:=A8W (P:=P) st.rel (AT st it) h
  refine⟨v,y,h1,?_,h3⟩
  simp only[execOp,ho]
  rw[C4,h2];rfl
end
end Go.Abs
end
