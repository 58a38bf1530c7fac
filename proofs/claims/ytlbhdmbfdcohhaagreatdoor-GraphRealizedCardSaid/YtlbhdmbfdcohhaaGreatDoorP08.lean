import Derived.Lib.UnsafeStr
import Derived.Lib.Builder
import Derived.ScopeJumps
import Derived.Test.YtlbhdmbfdcohhaaGreatDoorP04
import Derived.Test.YtlbhdmbfdcohhaaGreatDoorP07
set_option linter.all false
set_option maxHeartbeats 100000000
noncomputable section
namespace Go.Abs
open Go.RowKit
section
variable {P:Program} {G:Gl} {w0:Base} {C:Ctx} {H:Hp} {w:World} {r:AV×Hp}
theorem Rel.set_row (h:Rel G w0 C H w) {s:Nat} {x y:Row} (hl:Aw H s=some x) (hy:OY C w s y):Rel G w0 C (upd H s y) w:=by
 have key:∀t z,Aw (upd H s y) t=some z→(t=s∧z=y)∨(t≠s∧Aw H t=some z):= λt z hz=>by
  by_cases hts:t=s
  ·subst hts
   rw[FJ hl] at hz
   exact .inl ⟨rfl,(VP hz).1.symm⟩
  ·rw[As hts] at hz;exact .inr ⟨hts,hz⟩
 have old:∀t z,Aw (upd H s y) t=some z→∃z',Aw H t=some z':= λt z hz=>by
  rcases key t z hz with⟨rfl,_⟩|⟨_,h⟩
  ·exact⟨x,hl⟩
  ·exact⟨z,h⟩
 refine⟨h.glob,h.below,?_,?_,?_,?_,h.fin,h.finB,λk hk=>h.nx k (by rw[Ee] at hk;exact hk)⟩
 ·intro t z hz
  obtain⟨z',hz'⟩:=old t z hz
  exact h.lt t z' hz'
 ·intro t z hz
  rcases key t z hz with⟨rfl,rfl⟩|⟨_,hz⟩
  ·exact hy
  ·exact h.rows t z hz
 ·intro t z k o1 hz hk
  obtain⟨z',hz'⟩:=old t z hz
  exact h.own t z' k o1 hz' hk
 ·intro t t' z z' k o1 o2 hz hz' hk hk'
  obtain⟨u,hu⟩:=old t z hz
  obtain⟨u',hu'⟩:=old t' z' hz'
  exact h.sep t t' u u' k o1 o2 hu hu' hk hk'
theorem Laid.take {s:Nat} {q:Bool} {T:TypeId} {cs:List AV} {b base:Nat} {arr:Array Value} {fz:Nat×Nat} (h:Laid C w s q T cs b base arr fz) (n:Nat):Laid C w s false T (cs.take n) b base arr fz:=
 ⟨h.at_,h.block,h.free,by have:=h.fits;rw[l0g];omega,by
  have:=h.vals.unsel.take n
  rw[List.take_take] at this
  rw[l0g]
  exact this,λh=>by cases h⟩
theorem OY.take {s:Nat} {q:Bool} {T:TypeId} {cs:List AV} (h:OY C w s (.cells q T cs)) (n:Nat):OY C w s (.cells false T (cs.take n)):=by
 rcases h with⟨rfl,h⟩|⟨b,base,arr,fz,h⟩
 ·exact .inl ⟨by simp,h⟩
 ·exact .inr ⟨b,base,arr,fz,h.take n⟩
def B1M (s:AV) (H:Hp) (K:Hp→Am):Am:=
 match s with
 | .sl sz r o n=>Lf H r λx=>L2 x λE cs=>Hw cs 0 λcl=>@Bool.rec (λ_=>Am) (QQ (Nat.add o (Nat.mul n sz)) cs λcs'=>Qf H r (.cells false E cs') K) (K H) (Nat.beq (Nat.add o (Nat.mul n sz)) cl)
 |_=>K H
theorem A6S {s:AV} {K:Hp→Am} (h:B1M s H K=some r):∃H1,K H1=some r∧A7 H1=A7 H∧∀{G:Gl} {w0:Base} {C:Ctx} {w:World},Rel G w0 C H w→Rel G w0 C H1 w:=by
 unfold B1M at h
 split at h
 ·rename_i sz r1 o n
  obtain⟨q,E,cs,hl,h1⟩:=IW h
  rw[C4,Le] at h1
  cases hb:Nat.beq (Nat.add o (Nat.mul n sz)) cs.length
  ·rw[hb] at h1
   simp only[Lh,Ez] at h1
   exact⟨_,h1,Ee _ _ _,λhr=>hr.set_row hl ((hr.rows _ _ hl).take _)⟩
  ·rw[hb] at h1
   exact⟨H,h1,rfl,λhr=>hr⟩
 ·exact⟨H,h,rfl,λhr=>hr⟩
def Ea (e:TypeId) (esz:Nat) (ie i2:TI) (s x:AV) (H:Hp) (K:KV):Am:=B1M s H λH1=>A46 e esz ie i2 s x H1 K
def B0S (esz:Nat) (dst src:AV) (H:Hp) (K:KV):Am:=
 Vb H src λm ys=>Hw ys 0 λk=>match dst with
  | .sl sz r o n=>ck (Nat.beq k (Nat.mul m esz)&&(Nat.beq sz esz&&(Nat.blt 0 n&&(Nat.ble m n&&(PK ys&&V2 esz src))))) (Lf H r λx=>A1E x λq E cs=>EH o ys cs λcs'=>Qf H r (.cells q E cs') λH'=>K (.v (.int .i64 (.ofNat m))) H')
  |_=>none
def B6R (esz:Nat) (ie:TI) (dst:AV) (H:Hp) (K:Hp→Am):Am:=
 match dst with
 | .v (.slice none 0 0)=>K H
 | .sl _ _ _ 0=>K H
 | .sl sz r o n=>Gv ie.zero λz=>Hw z 0 λk=>ck (Nat.beq k esz&&(Nat.beq sz esz&&PK z)) (Wa n z λys=>Lf H r λx=>A1E x λq E cs=>EH o ys cs λcs'=>Qf H r (.cells q E cs') K)
 |_=>none
def A5P (n esz:Nat) (x:AV) (lo hi:Option AV) (H:Hp) (K:AV→Am):Am:=
 match x with
 | .ptr s p k=>Lf H s λy=>L2 y λ_ cs=>Hw cs 0 λcl=>ck (Nat.ble (Nat.add (Nat.add p k) (Nat.mul n esz)) cl)
  (QW lo 0 λl=>QW hi n λh=>ck (Nat.ble l h&&Nat.ble h n) (fN (Nat.add (Nat.add p k) (Nat.mul l esz)) λo'=>fN (Nat.sub h l) λm=>K (.sl esz s o' m)))
 |_=>none
def T8 (ks:List LK) (op:BinOp) (a b:AV) (K:AV→Am):Am:=
 match a,b with
 | .agg aZ,.agg bs=>XR aZ λxs=>XR bs λys=>ck (fits ks xs) (match TG xs ys,op with
  |some q,.eql=>bB q K
  |some q,.neq=>bB (!q) K
  |_,_=>none)
 |_,_=>none
def YO (i ie:TI) (op:BinOp) (a b:AV) (K:AV→Am):Am:=
 match a,b with
 | .ptr r p k,.ptr r' p' k'=>ck (Nat.beq r r'&&(Nat.beq (Nat.add p k) (Nat.add p' k')&& !Nat.beq ie.size 0)) (match op with| .eql=>K (.v (.bool true))| .neq=>K (.v (.bool false))|_=>none)
 |a,b=>Aj i op a b K
theorem A2t {s o:Nat} {q:Bool} {E:TypeId} {cs ys:List AV} {b base:Nat} {arr:Array Value} {fz:Nat×Nat} {vs:List Value} (hr:Rel G w0 C H w) (hl:Aw H s=some (.cells q E cs)) (hd:Laid C w s q E cs b base arr fz) (hfit:o+ys.length≤cs.length) (hv:BV C w ys vs) (hone:ys.all AV.one=true):
 ∃w',(storeCells ⟨b,base+o,none⟩ vs 0).run P w= .ok () w'∧Rel G w0 C (upd H s (.cells q E (splice cs o ys))) w'∧Ext w0.own C w C w':=by
 have hf:=hd.fits
 have hlen:vs.length=ys.length:=hv.1
 obtain⟨w',hrun,hs⟩:=Kf (P:=P) vs w arr (base+o) 0 hd.block hd.free (by omega) (A5q hv hone)
 have:=hr.store (O:=w0.own) hl hd hfit hv (by simpa using hs)
 exact⟨w',hrun,this.1,this.2⟩
theorem A72 {sz s o n:Nat} {y:Value} {q:Bool} {E:TypeId} {cs:List AV} (hr:Rel G w0 C H w) (hl:Aw H s=some (.cells q E cs)) (hv:VRel C w (.sl sz s o n) y) (hn:n≠0):∃b base arr fz cap,y= .slice (some ⟨b,base+o,none⟩) n cap∧n≤cap∧Laid C w s q E cs b base arr fz∧base+o+cap*sz≤arr.size:=by
 cases hv with
 |slz=>exact absurd rfl hn
 |@sl _ _ _ _ _ _ b base cap arr T fz hp hcap hb hsz=>
  rcases hr.rows s _ hl with⟨_,h6⟩|⟨b',base',arr',fz',hd⟩
  ·rw[h6] at hp;cases hp
  ·have e':=hd.at_.symm.trans hp
   injection e' with e';injection e' with e';injection e' with e1 e2;subst e1 e2
   have e3:=hd.block.symm.trans hb
   injection e3 with e3;injection e3 with e4 e5 e6
   subst e4 e5 e6
   exact⟨b',base',arr',fz',cap,rfl,hcap,hd,hsz⟩
theorem A83 {T:Ty} (hT:WD P T) {dt ty e:TypeId} {esz:Nat} {i:TI} {ts:Array TypeId} {dst src:AV} {y z:Value} {K:KV} (hts:ts[0]?=some dt) (hi:T dt=some i) (hd:i.d= .slice e esz) (hne:esz≠0) (hr:Rel G w0 C H w) (hv:VRel C w dst y) (hs:VRel C w src z) (h:B0S esz dst src H K=some r):
 ∃v H' u w',K v H'=some r∧(Builtin.copy_ ts ty #[y,z]).run P w= .ok u w'∧Jk G w0 C w v H' u C w':=by
 unfold B0S at h
 obtain⟨m,ys,q0,hsrc,h1⟩:=X7 h
 rw[C4,Le] at h1
 split at h1
 ·rename_i sz s o n
  obtain⟨hc,h2⟩:=Bm h1
  simp only[Iv,Zb,TS,Xu,G9] at hc
  obtain⟨c1,c2,c3,c4,c5,c6⟩:=hc
  obtain⟨q,E,cs,hl,h3⟩:=TM h2
  obtain⟨hfit,h4⟩:=Li _ _ _ _ _ h3
  rw[Ez] at h4
  obtain⟨b,base,arr,fz,cap,rfl,hcap,hd',hsz⟩:=A72 hr hl hv (by omega)
  obtain⟨hlen,vs,hvs,hfirst⟩:=Vf (P:=P) (esz:=esz) hr hs hsrc c1 (λq hq=>by subst hq;exact Uq c6)
  obtain⟨w',hrun,hrel,hex⟩:=A2t (P:=P) hr hl hd' hfit hvs c5
  obtain⟨hu,hce⟩:=(hT dt i hi).elem_slice hd
  have hsize:(sizeOf e).run P w= .ok esz w:=by rw[←hce];exact B6 w (by rw[hce];exact hne)
  refine⟨_,_,goInt m,w',h4,?_,.v _,hrel,hex⟩
  unfold Builtin.copy_
  simp only[hts,l10,l1w,l0q]
  rw[Cp,run_underlying hu w]
  simp only[Ek]
  rw[Cp,hlen]
  simp only[Ek]
  rw[Cp,hsize]
  simp only[Ek]
  have hmin:Nat.min m n=m:=l1x c4
  rw[Cp,hmin,hfirst w (λ_ _=>rfl)]
  simp only[Ek]
  rw[Cp,hrun]
  rfl
 ·cases h1
theorem A85 {T:Ty} (hT:WD P T) {dt ty e:TypeId} {esz:Nat} {i ie:TI} {ts:Array TypeId} {dst:AV} {y:Value} {K:Hp→Am} (hts:ts[0]?=some dt) (hi:T dt=some i) (hd:i.d= .slice e esz) (hie:T e=some ie) (hr:Rel G w0 C H w) (hv:VRel C w dst y) (h:B6R esz ie dst H K=some r):
 ∃H' w',K H'=some r∧(Builtin.clear_ ts ty #[y]).run P w= .ok (.tuple #[]) w'∧Rel G w0 C H' w'∧Ext w0.own C w C w':=by
 obtain⟨hu,hce⟩:=(hT dt i hi).elem_slice hd
 have hz:∀{a:Option Addr} {c:Nat},(Builtin.clear_ ts ty #[.slice a 0 c]).run P w= .ok (.tuple #[]) w:=by
  intro a c
  unfold Builtin.clear_
  simp only[hts,l10,l1w]
  rw[Cp,run_underlying hu w]
  simp only[Ek]
  cases a<;>rfl
 unfold B6R at h
 split at h
 ·obtain rfl:=AK.1 hv
  exact⟨H,w,h,hz,hr,.refl _ _ _⟩
 ·cases hv with
  |slz=>exact⟨H,w,h,hz,hr,.refl _ _ _⟩
  |sl=>exact⟨H,w,h,hz,hr,.refl _ _ _⟩
 ·rename_i sz s o n hn0
  rw[Dq,C4,Le] at h
  obtain⟨hc,h2⟩:=Bm h
  simp only[Iv,Zb,G9] at hc
  obtain⟨c1,c2,c3⟩:=hc
  rw[Tz] at h2
  obtain⟨q,E,cs,hl,h3⟩:=TM h2
  obtain⟨hfit,h4⟩:=Li _ _ _ _ _ h3
  rw[Ez] at h4
  have hn:n≠0:= λe=>hn0 e
  obtain⟨b,base,arr,fz,cap,rfl,hcap,hd',hsz⟩:=A72 hr hl hv hn
  obtain⟨z,hzv,ez⟩:=(hT e ie hie).run_zero w
  have hz0:BV C w (B7 ie.zero) z.cells.toList:=LF (t:=e) ez
  have hzz:BV C w (SX n (B7 ie.zero)) ((List.range n).flatMap λ_=>z.cells.toList):=by rw[V6];exact TR hz0 n
  have hone:(SX n (B7 ie.zero)).all AV.one=true:=by
   rw[V6,List.all_flatMap]
   simp[c3]
  obtain⟨w',hrun,hrel,hex⟩:=A2t (P:=P) hr hl hd' hfit hzz hone
  refine⟨_,w',h4,?_,hrel,hex⟩
  obtain⟨n,rfl⟩:∃k,n=k+1:=⟨n-1,by omega⟩
  unfold Builtin.clear_
  simp only[hts,l10,l1w]
  rw[Cp,run_underlying hu w]
  simp only[Ek]
  have hzc:(Builtin.zeroCells z.cells (n+1)).toList=(List.range (n+1)).flatMap λ_=>z.cells.toList:=congrArg Array.toList (Vl z.cells (n+1))
  rw[Cp,hzv]
  simp only[Ek,hzc]
  rw[Cp,hrun]
  rfl
 ·cases h
theorem A7P {T:Ty} (hT:WD P T) {ty e:TypeId} {n esz:Nat} {i:TI} {x:AV} {lo hi:Option AV} {y:Value} {yl yh:Option Value} {K:AV→Am} (hi':T ty=some i) (hd:i.d= .array n e esz) (hne:esz≠0) (hr:Rel G w0 C H w) (hv:VRel C w x y) (hlo:A4i C w lo yl) (hhi:A4i C w hi yh) (h:A5P n esz x lo hi H K=some r):
 ∃v u,K v=some r∧(Instr.sliceAt ty y yl yh none).run P w= .ok u w∧VRel C w v u:=by
 unfold A5P at h
 split at h
 ·rename_i s p k
  obtain⟨q,E,cs,hl,h1⟩:=IW h
  rw[C4,Le] at h1
  obtain⟨hc,h2⟩:=Bm h1
  obtain⟨l,hbl,h3⟩:=Gy h2
  obtain⟨m,hbm,h4⟩:=Gy h3
  obtain⟨hb,h5⟩:=Bm h4
  rw[DX,DX] at h5
  simp only[Iv,Xu] at hb
  rw[Xu] at hc
  have hc:p+k+n*esz≤cs.length:=hc
  obtain⟨hu,hce⟩:=(hT ty i hi').elem_array hd
  have hsize:(sizeOf e).run P w= .ok esz w:=by rw[←hce];exact B6 w (by rw[hce];exact hne)
  have hbr:=OV (P:=P) (isS:=false) hlo hhi (mx:=none) (ym:=none) trivial (NV n) hbl hbm (x:=n) (by simp[TW]) (by omega) (by simp)
  cases hv with
  |@ptr _ _ _ _ _ b base hp=>
   rcases hr.rows s _ hl with⟨_,h6⟩|⟨b',base',arr',fz',hd'⟩
   ·have:=h6.symm.trans hp;cases this
   ·have e':=hd'.at_.symm.trans hp
    injection e' with e';injection e' with e';injection e' with e1 e2;subst e1 e2
    have hf:=hd'.fits
    have hrun:(Instr.sliceAt ty (.pointer (some ⟨b',base'+(p+k),none⟩)) yl yh none).run P w= .ok (.slice (some (if n=l then⟨b',base'+(p+k),none⟩ else⟨b',base'+(p+k)+l*esz,none⟩)) (m-l) (n-l)) w:=by
     unfold Instr.sliceAt
     rw[Cp,run_underlying hu w]
     simp only[Ek,Instr.sureAddr]
     rw[Cp,Xv]
     simp only[Ek]
     rw[Cp,hbr]
     simp only[Ek,WB]
     rw[Cp,hsize]
     simp only[Ek,Xv,HB]
    refine⟨_,_,h5,hrun,?_⟩
    by_cases hnl:n=l
    ·have hml:m-l=0:=by omega
     have hnl':n-l=0:=by omega
     rw[if_pos hnl,hml,hnl']
     have:Nat.sub m l=0:=hml
     rw[this]
     exact .slz (by rw[hp];simp)
    ·rw[if_neg hnl]
     have e4:base'+(p+k)+l*esz=base'+(Nat.add (Nat.add p k) (Nat.mul l esz)):=by show _=base'+(p+k+l*esz);omega
     rw[e4]
     refine .sl hp (Nat.sub_le_sub_right hb.2 l) hd'.block ?_
     show base'+(p+k+l*esz)+(n-l)*esz≤arr'.size
     have:l*esz+(n-l)*esz=n*esz:=by rw[←l19];congr 1;omega
     omega
 ·cases h
theorem A81 {t:TypeId} {ks:List LK} {op:BinOp} {a b:AV} {y z:Value} {K:AV→Am} (x1 x2:Operand) (hf:EqFlat P t ks) (ha:VRel C w a y) (hb:VRel C w b z) (h:T8 ks op a b K=some r):
 ∃v u,K v=some r∧(do eqGuard op t x1 x2 y z;binOp op t y z).run P w= .ok u w∧VRel C w v u:=by
 unfold T8 at h
 split at h
 ·rename_i aZ bs
  obtain⟨xs,rfl,h1⟩:=UX _ _ h
  obtain⟨ys,rfl,h2⟩:=UX _ _ h1
  obtain⟨hx,h3⟩:=Bm h2
  have hy:=ZB ha
  have hz:=ZB hb
  subst hy hz
  have hg:=run_eqGuard_agg (P:=P) w op t x1 x2 xs.toArray ys.toArray hf.guard
  split at h3
  ·rename_i q hq
   rw[Lz] at h3
   obtain⟨e1,e2⟩:=Rf hq
   refine⟨_,.bool q,h3,?_,.v _⟩
   rw[Cp,hg]
   simp only[Ek]
   rw[run_eql_struct]
   have:=hf.equal hx (e2 ks hx) w
   have e3:decide (xs=ys)=q:=by rw[YK,e1];simp
   rw[e3] at this
   have e4:(Op.equalIn 10000 t (.agg xs.toArray) (.agg ys.toArray)).run P w= .ok q w:=this
   rw[e4];rfl
  ·rename_i q hq
   rw[Lz] at h3
   obtain⟨e1,e2⟩:=Rf hq
   refine⟨_,.bool (!q),h3,?_,.v _⟩
   rw[Cp,hg]
   simp only[Ek]
   rw[run_neq_struct]
   have:=hf.equal hx (e2 ks hx) w
   have e3:decide (xs=ys)=q:=by rw[YK,e1];simp
   rw[e3] at this
   have e4:(Op.equalIn 10000 t (.agg xs.toArray) (.agg ys.toArray)).run P w= .ok q w:=this
   rw[e4];rfl
  ·cases h3
 ·cases h
theorem A80 {T:Ty} (hT:WD P T) {ty e:TypeId} {i ie:TI} {op:BinOp} {a b:AV} {y z:Value} {K:AV→Am} (x1 x2:Operand) (hi:T ty=some i) (hd:i.d= .pointer e) (hie:T e=some ie) (ha:VRel C w a y) (hb:VRel C w b z) (h:YO i ie op a b K=some r):
 ∃v u,K v=some r∧(do eqGuard op ty x1 x2 y z;binOp op ty y z).run P w= .ok u w∧VRel C w v u:=by
 unfold YO at h
 split at h
 ·rename_i s p k s' p' k'
  obtain⟨hc,h1⟩:=Bm h
  simp only[Iv,Zb,l14] at hc
  obtain⟨c1,c2,c3⟩:=hc
  subst c1
  have c2:p+k=p'+k':=c2
  have hyz:y=z∧∃ad,y= .pointer (some ad):=by
   cases ha with
   |ptr hp=>
    cases hb with
    |ptr hp'=>
     have e':=hp.symm.trans hp'
     injection e' with e';injection e' with e';injection e' with e1 e2;subst e1 e2
     exact⟨by rw[c2],_,rfl⟩
  obtain⟨rfl,ad,rfl⟩:=hyz
  obtain⟨u,hu,e1⟩:=(hT ty i hi).under
  rw[hd] at e1
  have hu':u= .pointer e:=by cases u<;>simp[td] at e1;rw[e1]
  subst hu'
  obtain⟨x,z0,hx,hs,_⟩:=(hT e ie hie).info
  have heq:(Op.equal ty (.pointer (some ad)) (.pointer (some ad))).run P w= .ok true w:=by
   show(Op.equalIn (9999+1) ty _ _).run P w=_
   unfold Op.equalIn
   rw[Cp,run_underlying hu w]
   simp[sizeOf,typeInfo,hx,sameAddr]
  have hg:=XV (P:=P) (op:=op) (ty:=ty) (x:=x1) (y:=x2) (a:= .pointer (some ad)) (b:= .pointer (some ad)) w ⟨by simp,by simp⟩
  split at h1
  ·exact⟨_,.bool true,h1,by rw[Cp,hg];simp[binOp,heq],.v _⟩
  ·exact⟨_,.bool false,h1,by rw[Cp,hg];simp[binOp,heq],.v _⟩
  ·cases h1
 ·obtain⟨v,h1,h2⟩:=A2Y (T:=T) (ty:=ty) hi h
  obtain⟨v',u,h3,h4,rfl⟩:=Zy hT x1 x2 ha hb h2
  exact⟨v',u,h1,h3,h4⟩
end
def B6i (l:List Lie) (e n o u:Nat):Bool:=@List.rec Lie (λ_=>Bool) false (λp _ ih=>@Bool.rec (λ_=>Bool) ih true (Nat.beq p.1 e&&(Nat.beq p.2.1 n&&(Nat.beq p.2.2.1 o&&Nat.beq p.2.2.2 u)))) l
def B0K (ie:TI) (v:AV) (H:Hp) (K:AV→Am):Am:=
 match v with
 | .ptr s p k=>Lf H s λx=>L2 x λ_ cs=>Hw cs 0 λcl=>ck (Nat.blt (Nat.add p k) cl&& !Nat.beq ie.size 0) (K (.ptr s p k))
 |_=>none
def B0F (l:List Lie) (u:TypeId) (v:AV) (H:Hp) (K:AV→Am):Am:=
 match v with
 | .ptr s p k=>Lf H s λx=>A1E x λq E cs=>Hw cs 0 λcl=>ck (q&&B6i l E cl (Nat.add p k) u) (K (.ptr s p k))
 |_=>none
def B3G (s:AV) (K:AV→Am):Am:=
 match s with
 | .sl sz r o n=>ck (Nat.beq sz 1&&Nat.blt 0 n) (K (.ptr r o 0))
 |_=>none
def B0E (e:TypeId) (p n:AV) (H:Hp) (K:KV):Am:=
 match p with
 | .ptr s o k=>A3V n λz=>iN z λn=>Lf H s λx=>L2 x λE cs=>ck (Nat.beq E e&&(Nat.blt 0 n&&Nat.blt n 9223372036854775807)) (F2 n (Da (Nat.add o k) cs) λbs=>fu8 bs λl=>Qf H s .gone λH'=>K (.v (.string ⟨⟨l⟩⟩)) H')
 |_=>none
theorem B34 {l:List Lie} {e n o u:Nat} (h:B6i l e n o u=true):(e,n,o,u)∈l:=by
 induction l with
 |nil=>cases h
 |cons p l ih=>
  have h:@Bool.rec (λ_=>Bool) (B6i l e n o u) true (Nat.beq p.1 e&&(Nat.beq p.2.1 n&&(Nat.beq p.2.2.1 o&&Nat.beq p.2.2.2 u)))=true:=h
  cases hq:(Nat.beq p.1 e&&(Nat.beq p.2.1 n&&(Nat.beq p.2.2.1 o&&Nat.beq p.2.2.2 u)))
  ·rw[hq] at h;exact List.mem_cons_of_mem _ (ih h)
  ·simp only[Iv,Zb] at hq
   obtain⟨h1,h2,h3,h4⟩:=hq
   obtain⟨a,b,c,d⟩:=p
   simp only at h1 h2 h3 h4
   subst h1 h2 h3 h4
   exact List.mem_cons_self
section
variable {P:Program} {G:Gl} {w0:Base} {C:Ctx} {H:Hp} {w w':World} {r:AV×Hp}
theorem A7U {T:Ty} (hT:WD P T) {s d e:TypeId} {i ie:TI} {v:AV} {y:Value} {K:AV→Am} (hi:T s=some i) (hd:i.d= .pointer e) (hie:T e=some ie) (hup:P.underlying d=some .unsafePointer) (hr:Rel G w0 C H w) (hv:VRel C w v y) (h:B0K ie v H K=some r):
 K v=some r∧(convert s d y).run P w= .ok y w:=by
 unfold B0K at h
 split at h
 ·rename_i t p k
  obtain⟨q,E,cs,hl,h1⟩:=IW h
  rw[C4,Le] at h1
  obtain⟨hc,h2⟩:=Bm h1
  simp only[Iv,TS,l14] at hc
  obtain⟨c1,c2⟩:=hc
  have c1:p+k<cs.length:=c1
  refine⟨h2,?_⟩
  cases hv with
  |@ptr _ _ _ _ _ b base hp=>
   rcases hr.rows t _ hl with⟨_,h6⟩|⟨b',base',arr',fz',hd'⟩
   ·have:=h6.symm.trans hp;cases this
   ·have e':=hd'.at_.symm.trans hp
    injection e' with e';injection e' with e';injection e' with e1 e2;subst e1 e2
    have hf:=hd'.fits
    obtain⟨u,hu,eu⟩:=(hT s i hi).under
    rw[hd] at eu
    have hu':u= .pointer e:=by cases u<;>simp[td] at eu;rw[eu]
    subst hu'
    obtain⟨x,z0,hx,hs,_⟩:=(hT e ie hie).info
    have hsz:x.size≠0:= λe0=>by rw[hs] at e0;rw[e0] at c2;simp at c2
    exact Lib.run_to_unsafe w ⟨b',base'+(p+k),none⟩ hu hup hx hsz (e:=E) (cells:=arr'.size) (by simp[World.shape?,hd'.block]) (by show base'+(p+k)<arr'.size;omega)
 ·cases h
theorem A7N {l:List Lie} (hlie:∀e n o u,(e,n,o,u)∈l→liesAt P P.depth e (n/P.cellsOf e) o u 1=true∧(P.info? u).isSome=true) {s d u:TypeId} {v:AV} {y:Value} {K:AV→Am} (hup:P.underlying s=some .unsafePointer) (hd:P.underlying d=some (.pointer u)) (hr:Rel G w0 C H w) (hv:VRel C w v y) (h:B0F l u v H K=some r):
 K v=some r∧(convert s d y).run P w= .ok y w:=by
 unfold B0F at h
 split at h
 ·rename_i t p k
  obtain⟨q,E,cs,hl,h1⟩:=TM h
  rw[C4,Le] at h1
  obtain⟨hc,h2⟩:=Bm h1
  simp only[Iv] at hc
  obtain⟨c1,c2⟩:=hc
  obtain⟨hlies,hsome⟩:=hlie _ _ _ _ (B34 c2)
  refine⟨h2,?_⟩
  cases hv with
  |@ptr _ _ _ _ _ b base hp=>
   rcases hr.rows t _ hl with⟨_,h6⟩|⟨b',base',arr',fz',hd'⟩
   ·have:=h6.symm.trans hp;cases this
   ·have e':=hd'.at_.symm.trans hp
    injection e' with e';injection e' with e';injection e' with e1 e2;subst e1 e2
    obtain⟨x1,x2⟩:=hd'.exact c1
    subst x1
    obtain⟨j,hj⟩:=Option.isSome_iff_exists.1 hsome
    refine Lib.run_from_unsafe w ⟨b',0+(p+k),none⟩ hup hd hj (e:=E) (cells:=arr'.size) (by simp[World.shape?,hd'.block]) ?_
    rw[x2,Le]
    exact hlies
 ·cases h
theorem Rel.change (h:Rel G w0 C H w) {s b base:Nat} {x:Row} (hl:Aw H s=some x) (hp:C.π s=some (some (b,base))) (ho:w'.os=w.os) (ht:w'.tape=w.tape) (hop:w'.output=w.output) (hsz:w'.heap.size=w.heap.size) (hoth:∀k,k≠b→w'.heap[k]?=w.heap[k]?)
 (hb:∀arr T fz,w.heap[b]?=some (.cells arr T fz)→∃arr' fz',w'.heap[b]?=some (.cells arr' T fz')∧arr'.size=arr.size):Rel G w0 C (cut H s) w'∧Ext w0.own C w C w':=by
 have hown:=h.own s x b base hl hp
 have e:Ext w0.own C w C w':=by
  refine⟨λ_ _=>rfl,λ_ _ h=>h,λk i h=> ?_,λ_ h=>h,λk h=>hoth k (λe=>hown.2.2 (e▸h)),λk a t f h=> ?_,λ_ _ h=> .inl h,λ_ h=> .inl h,Nat.le_of_eq hsz.symm⟩
  ·exact l0s (hoth k (λe=>hown.2.1 i (e▸h)))
  ·by_cases hk:k=b
   ·subst hk;exact hb a t f h
   ·exact⟨a,f,(hoth k hk).trans h,rfl⟩
 have hsub:∀t z,Aw (cut H s) t=some z→t≠s∧Aw H t=some z:= λt z hz=>by
  by_cases hts:t=s
  ·subst hts;rw[MG] at hz;cases hz
  ·rw[Pp hts] at hz;exact⟨hts,hz⟩
 refine⟨⟨h.glob.mono e,⟨ho.trans h.below.os,ht.trans h.below.tape,hop.trans h.below.output,by rw[hsz];exact h.below.size,λk hk hU=>(hoth k (λe=> ?_)).trans (h.below.block k hk hU)⟩,λt z hz=>h.lt t z (hsub t z hz).2,λt z hz=>(h.rows t z (hsub t z hz).2).mono e (λk base' hpk=>hoth k (λek=> ?_)),
  λt z k o hz=>h.own t z k o (hsub t z hz).2,λt t' z z' k o1 o2 hz hz'=>h.sep t t' z z' k o1 o2 (hsub t z hz).2 (hsub t' z' hz').2,λk i hF=>hsz▸h.fin k i hF,λk hB=>hsz▸h.finB k hB,λk hk=>h.nx k (by rw[cut,Ee] at hk;exact hk)⟩,e⟩
 ·subst e
  rcases hown.1 with ho|ho
  ·omega
  ·exact hU ho
 ·subst ek
  exact(hsub t z hz).1 (h.sep t s z x _ _ _ (hsub t z hz).2 hl hpk hp)
theorem A22 {e:TypeId} (hc:P.cellsOf e=1) (count off n:Nat) (hn:off+n≤count):liesAt P P.depth e count off e n=true:=by
 have hd:P.depth=(2*(P.types.size+Made.depth)+1)+1:=rfl
 rw[hd]
 simp only[liesAt,l1d]
 left
 rw[hd]
 simp[rowAt,hc,hn,sameLayout,Nat.mod_one]
theorem A7M {T:Ty} (hT:WD P T) {e pt it ty:TypeId} {ipt ie:TI} {p n:AV} {y z:Value} {K:KV} (hpt:T pt=some ipt) (hd:ipt.d= .pointer e) (hie:T e=some ie) (h1c:ie.size=1) (hr:Rel G w0 C H w) (hv:VRel C w p y) (hn:VRel C w n z) (h:B0E e p n H K=some r):
 ∃v H' u w',K v H'=some r∧(Builtin.unsafeString_ #[pt,it] ty #[y,z]).run P w= .ok u w'∧Jk G w0 C w v H' u C w':=by
 unfold B0E at h
 split at h
 ·rename_i s o k
  obtain⟨kk,zz,rfl,h1⟩:=Mi h
  obtain⟨m,rfl,h2⟩:=RW h1
  obtain⟨q,E,cs,hl,h3⟩:=IW h2
  obtain⟨hc,h4⟩:=Bm h3
  simp only[Iv,Zb,TS] at hc
  obtain⟨c1,c2,c3⟩:=hc
  subst c1
  obtain⟨hlen,h5⟩:=MV _ _ _ _ h4
  rw[Ct] at hlen h5
  obtain⟨ns,hns,h6⟩:=A5F _ _ h5
  rw[Ez] at h6
  obtain rfl:=AK.1 hn
  have hok:o+k+m≤cs.length:=by
   have:m≤(cs.drop (o+k)).length:=hlen
   simp at this
   omega
  cases hv with
  |@ptr _ _ _ _ _ b base hp=>
   rcases hr.rows s _ hl with⟨_,h7⟩|⟨b',base',arr',fz',hd'⟩
   ·have:=h7.symm.trans hp;cases this
   ·have e':=hd'.at_.symm.trans hp
    injection e' with e';injection e' with e';injection e' with e1 e2;subst e1 e2
    have hf:=hd'.fits
    have hnl:ns.length=m:=by
     have:=congrArg List.length hns
     simp at this
     have:(cs.drop (o+k)).length=cs.length-(o+k):=by simp
     simp_all
    have hcell:∀j (hj:j<ns.length),w.cell? ⟨b',base'+(o+k)+j,none⟩=some (.int .u8 (ns[j]:Int)):= λj hj=>by
     have hcj:cs[o+k+j]?=some (.v (.int .u8 (ns[j]:Int))):=by
      have:=congrArg (λl=>l[j]?) hns
      simp only[l0m,l0d,l0a] at this
      rw[if_pos (by omega),Jw hj] at this
      simpa using this
     obtain⟨hi,hci⟩:=l0j.1 hcj
     obtain⟨y,hy,hvy⟩:=hd'.get _ hi
     rw[hci] at hvy
     rw[←AK.1 hvy]
     rw[←hy]
     congr 2
     omega
    obtain⟨hu,hcc⟩:P.underlying pt=some (.pointer E)∧P.cellsOf E=1:=by
     obtain⟨u,hu,eu⟩:=(hT pt ipt hpt).under
     rw[hd] at eu
     have hu':u= .pointer E:=by cases u<;>simp[td] at eu;rw[eu]
     subst hu'
     exact⟨hu,by rw[(hT E ie hie).cellsOf,h1c]⟩
    have hload:∀(ns:List Nat) (off:Nat) (acc:ByteArray),(∀j (hj:j<ns.length),w.cell? ⟨b',off+j,none⟩=some (.int .u8 (ns[j]:Int)))→
     (loadBytes ⟨b',off,none⟩ acc ns.length).run P w= .ok ⟨acc.data++(ns.map UInt8.ofNat).toArray⟩ w:=by
     intro ns
     induction ns with
     |nil=>intro off acc _;simp[loadBytes]
     |cons n ns ih=>
      intro off acc hc
      have h0:w.cell? ⟨b',off,none⟩=some (.int .u8 (n:Int)):=hc 0 (by simp)
      have ih':=ih (off+1) (acc.push (UInt8.ofNat n)) (λj hj=>by
       have:=hc (j+1) (by simpa using hj)
       simpa [WC,Nat.add_comm 1 j] using this)
      have hx:((n:Int).toNat).toUInt8=UInt8.ofNat n:=by simp
      simp only[L0,loadBytes,Cp,run_load,h0,Result.andThen,hx,HB]
      rw[ih']
      congr 1
      apply ByteArray.ext
      simp[ByteArray.push]
    have hlb:=hload ns (base'+(o+k)) .empty hcell
    rw[hnl] at hlb
    have hlies:liesAt P P.depth E (arr'.size/P.cellsOf E) (base'+(o+k)) E m=true:=A22 hcc _ _ _ (by rw[hcc,Nat.div_one];omega)
    have hch:=hr.change (w':=w.freeze ⟨b',base'+(o+k),none⟩ m) hl hp (by unfold World.freeze;split<;>rfl) (by unfold World.freeze;split<;>rfl) (by unfold World.freeze;split<;>rfl) (by unfold World.freeze;split<;>simp) (λk' hk'=>by
     unfold World.freeze
     split
     ·rfl
     ·simp only[l0r];rw[if_neg (λe=>hk' e.symm)]) (λarr T0 fz0 hb0=>by
     unfold World.freeze
     rw[if_neg (by omega)]
     simp only[l0r,if_true,hb0,l0x]
     exact⟨arr,_,rfl,rfl⟩)
    refine⟨_,_,.string ⟨⟨ns.map UInt8.ofNat⟩⟩,_,h6,?_,.v _,hch.1,hch.2⟩
    have hmax:IntKind.i64.max=9223372036854775807:=rfl
    have hdef:Builtin.unsafeString_ #[pt,it] ty #[.pointer (some ⟨b',base'+(o+k),none⟩),.int kk m]=
     (do
      let n←asInt (.int kk m)
      if n<0 then runtimePanic (.error "unsafe.String: len out of range")
      if n>IntKind.i64.max then unsupported (.unsafePointer "String: a length above the largest int")
      if n=0 then pure (.string .empty)
      else if←variablesAt ⟨b',base'+(o+k),none⟩ (←elemOf pt) n.toNat then do
       let s←loadBytes ⟨b',base'+(o+k),none⟩ .empty n.toNat
       freeze ⟨b',base'+(o+k),none⟩ n.toNat
       pure (.string s)
      else unsupported (.unsafePointer "String: not so many bytes at ptr")):=rfl
    rw[hdef]
    have hneg:¬(m:Int)<0:=by omega
    have hbig:¬(9223372036854775807:Int)<(m:Int):=by omega
    have hz:¬m=0:=by omega
    have hsh:w.shape? b'=some (E,arr'.size):=by simp[World.shape?,hd'.block]
    simp[asInt,asIntOf,hmax,hneg,hbig,hz,variablesAt,hsh,elemOf,run_underlying hu,hlies,hlb]
 ·cases h
theorem B74 {t:Tm} {N:Nat} {ro:Option Nat} {o:Oper} {c:Call} {f:FuncId} {fv:Operand} {first cap:List AV} {v:AV} {K:AV→Hp→Prop} (hf:WA P f) (ho:o.op= .call c) (hcal:c.callee= .value fv) (hfv:J0 G t fv= .fn (.func f) first cap) (ha:first++c.args.toList.map (J0 G t)++cap=[v]) (hK:K v H):Rg P G ro N o t H K:=by
 refine Qs (λc hc=>by rw[ho] at hc;cases hc) λw0 s0 C N a w s=> ?_
 have hv:=AQ s fv
 rw[hfv] at hv
 obtain⟨ys,zs,he,hys,hzs⟩:=Gz.1 hv
 have hall:=(hys.append (A1h s c.args.toList)).append hzs
 rw[ha] at hall
 obtain⟨y,ys',e1,hvy,hl'⟩:=hall.cons_inv
 have e2:=hl'.nil_inv
 subst e2
 refine⟨v,H,y,C,w,hK,.inl ?_,hvy,s.rel,.refl _ _ _⟩
 have:(ys++c.args.toList.map a.eval++zs).toArray= #[y]:=by rw[e1]
 have hr:=hf y w
 simp only[execOp,ho,resolve,hcal,he,Deferred.ofValue,Cp,Xv,Ek,invoke]
 rw[←hr]
 congr 2
 rw[←this]
 apply Zc
 simp
end
def Zl (P:Program) (c rest:Code) (Q:Exit→Act→World→Prop) (a:Act) (w:World):Prop:=
 ∀(b:Frame) (k:List Item) (cs:List Frame),∃e a' w',Q e a' w'∧Arrives P (lone (b.at a (.code rest:: .inScope c::k)) cs w) b k cs e a' w'
theorem A7H {P:Program} {c rest:Code} {Q Q':Exit→Act→World→Prop} {a:Act} {w:World} (hg:∀l a w,Q' (.goto l) a w→∃rest',findLabel c l=some rest'∧Zl P c rest' Q a w) (hq:∀e a w,(∀l,e≠.goto l)→Q' e a w→Q e a w)
 (h:rest.wp P Q' a w):Zl P c rest Q a w:=by
 intro b k cs
 obtain⟨e,a₁,w₁,h1,harr⟩:=h b (.inScope c::k) cs
 cases e with
 |normal=>exact⟨.normal,a₁,w₁,hq _ _ _ (by simp) h1,Steps.trans harr (.one step_inScope)⟩
 |exit id=>exact⟨.exit id,a₁,w₁,hq _ _ _ (by simp) h1,λk' hk=>harr k' (by simp[exitTo,hk])⟩
 |goto l=>
  obtain⟨rest',hf,hs⟩:=hg l a₁ w₁ h1
  have hgo:gotoIn l (.inScope c::k)=some (.code rest':: .inScope c::k):=by simp[gotoIn,hf]
  obtain⟨e₂,a₂,w₂,hq₂,harr₂⟩:=hs b k cs
  exact⟨e₂,a₂,w₂,hq₂,.of_steps (harr _ hgo) harr₂⟩
 |ret=>exact⟨_,a₁,w₁,hq _ _ _ (by simp) h1,harr⟩
 |panic ch=>exact⟨_,a₁,w₁,hq _ _ _ (by simp) h1,harr⟩
 |outgrown=>exact⟨_,a₁,w₁,hq _ _ _ (by simp) h1,harr⟩
theorem A4z {P:Program} {c:Code} {Q:Exit→Act→World→Prop} {a:Act} {w:World} (h:Zl P c c Q a w):(Code.scope c).wp P Q a w:=by
 intro b k cs
 obtain⟨e,a₁,w₁,hq,harr⟩:=h b k cs
 exact⟨e,a₁,w₁,hq,.of_steps (.one step_scope) harr⟩
section
variable {P:Program} {G:Gl} {m N:Nat} {t:Tm} {H:Hp} {Q:Exit→Tm→Hp→Prop}
def A4l (P:Program) (G:Gl) (m N:Nat) (c rest:Code) (Q:Exit→Tm→Hp→Prop) (t:Tm) (H:Hp):Prop:=
 ∀w0 s0 C a w,St G w0 s0 C N t H a w→Zl P c rest (JQ G w0 s0 m C N w Q) a w
theorem B13 {c:Code} (h:A4l P G m N c c Q t H):Pj P G none m N (.scope c) Q t H:= λw0 s0 C a w s=>wpIn_wide.2 (A4z (h w0 s0 C a w s))
theorem A33 {c rest:Code} {Q':Exit→Tm→Hp→Prop} (hg:∀l t H,Q' (.goto l) t H→∃rest',findLabel c l=some rest'∧A4l P G m N c rest' Q t H) (hq:∀e t H,(∀l,e≠.goto l)→Q' e t H→Q e t H)
 (h:Pj P G none m N rest Q' t H):A4l P G m N c rest Q t H:=by
 intro w0 s0 C a w s
 refine A7H ?_ ?_ (wpIn_wide.1 (h w0 s0 C a w s))
 ·rintro l a' w' ⟨C',t',H',s',hx,hk⟩
  obtain⟨rest',hf,hs⟩:=hg l t' H' hk
  refine⟨rest',hf,?_⟩
  intro b k cs
  obtain⟨e2,a2,w2,hq2,harr⟩:=hs w0 s0 C' a' w' s' b k cs
  exact⟨e2,a2,w2,hq2.later hx,harr⟩
 ·rintro e a' w' hne ⟨C',t',H',s',hx,hk⟩
  exact⟨C',t',H',s',hx,hq e t' H' hne hk⟩
end
def HH (E:XE) (t:Tm) (x:Operand) (K:AV→Am):Am:=
 match x with
 | .tmp i=>gtm t i K
 | .const v=>K (ofV v)
 | .global g=>E.gl.getK g λcs=>K (.iptr cs)
 | .func f=>K (.fn (.func f) [] [])
def Zq (E:XE) (t:Tm) (l:List Operand):(List AV→Am)→Am:=
 @List.rec Operand (λ_=>(List AV→Am)→Am) (λK=>K []) (λx _ ih K=>HH E t x λv=>ih λvs=>K (v::vs)) l
def Zn (E:XE) (t:Tm) (x:Option Operand) (K:Option AV→Am):Am:=
 match x with
 |none=>K none
 |some x=>HH E t x λv=>K (some v)
def plK (i:TI) (j:Nat) (K:Nat→Nat→Am):Am:=(λ(_:Unit)=>match XA6 i j with|some (o,s)=>fNS o λo=>K o s|none=>none) FV
def WE (E:XE) (t:Tm) (i:TI) (l:List (Nat×Operand)):(List (Nat×Nat×AV)→Am)→Am:=
 @List.rec (Nat×Operand) (λ_=>(List (Nat×Nat×AV)→Am)→Am) (λK=>K []) (λp _ ih K=>plK i p.1 λo s=>HH E t p.2 λv=>ih λl'=>K ((o,s,v)::l')) l
def B6L (i:TI) (f:Nat) (K:Nat→Nat→TypeId→Am):Am:=(λ(_:Unit)=>match i.d with| .struct fs=>(match fs[f]? with|some (o,s,ft)=>K o s ft|none=>none)|_=>none) FV
def A3n (i:TI) (K:TypeId→Nat→Am):Am:=(λ(_:Unit)=>match i.d with| .slice e esz=>K e esz|_=>none) FV
def A9f (i:TI):TypeId:=match i.d with| .slice e _=>e|_=>0
def elK (E:XE) (i:TI) (K:TI→Am):Am:=(λ(_:Unit)=>match Wn i with|some e=>E.ty.getK e K|none=>K i) FV
def Ik (v:AV) (K:AV→Am):Am:=match v with| .ptr r p k=>K (.ptr r p k)| .iptr cs=>K (.iptr cs)| .fn (.func f) a b=>K (.fn (.func f) a b)|_=>none
def AC (q a b:AV) (K:AV→Am):Am:=match q with| .v (.bool true)=>K a| .v (.bool false)=>K b|_=>none
def A7F:TD→Bool
 | .int .u8=>true
 |_=>false
def cvK (E:XE) (s d:TypeId) (i j:TI) (a:AV) (H:Hp) (K:AV→Am):Am:=
 (λ(_:Unit)=>match i.d with
  | .slice e _=>(match j.d with
   | .string=>E.ty.getK e λie=>ckS (A7F ie.d) (A1b a H K)
   |_=>none)
  | .pointer e=>ckS (Nat.beq d E.up&& !E.lie.isEmpty) (E.ty.getK e λie=>B0K ie a H K)
  | .other=>(match j.d with
   | .pointer u=>ckS (Nat.beq s E.up&& !E.lie.isEmpty) (B0F E.lie u a H K)
   |_=>none)
  |_=>EO i j a K) FV
def A3L (i:TI) (K:TypeId→TypeId→Am):Am:=(λ(_:Unit)=>match i.d with| .map k e=>K k e|_=>none) FV
def B0o (E:XE) (kt:TypeId) (a:AV) (K:Value→Am):Am:=
 E.ty.getK kt λik=>(λ(_:Unit)=>match ik.d with
  | .string=>NL a K
  | .int q=>A5y q a K
  | .struct _=>E.eqt.getK kt λks=>B0p ks a K
  | .array .. =>E.eqt.getK kt λks=>B0p ks a K
  |_=>none) FV
def A7G:Operand→Bool
 | .const .nilIface=>true
 |_=>false
def B7I (op:BinOp) (a:AV) (K:AV→Am):Am:=
 match a,op with
 | .v .nilIface,.eql=>K (.v (.bool true))
 | .v .nilIface,.neq=>K (.v (.bool false))
 |_,_=>none
def C24 (E:XE) (op:BinOp) (ty:TypeId) (nc:Bool) (a b:AV) (K:AV→Am):Am:=
 E.ty.getK ty λi=>(λ(_:Unit)=>match i.d with
  | .struct _=>E.eqt.getK ty λks=>T8 ks op a b K
  | .array .. =>E.eqt.getK ty λks=>T8 ks op a b K
  | .pointer e=>E.ty.getK e λie=>YO i ie op a b K
  | .iface=>ckS nc (B7I op a K)
  |_=>Aj i op a b K) FV
def A6q (i:TI) (v:AV) (l h m:Option AV) (H:Hp) (K:AV→Am):Am:=
 (λ(_:Unit)=>match i.d with
  | .array n _ esz=>(match m with|none=>A5P n esz v l h H K|some _=>none)
  |_=>Ei i v l h m K) FV
def B4x (i:TI) (v:AV) (H:Hp) (K:AV→Am):Am:=
 (λ(_:Unit)=>match i.d with
  | .map .. =>A9h v H K
  |_=>AM i v K) FV
def B1o (E:XE) (R:Rt) (f:AV) (aZ:List AV) (H:Hp) (K:AV→Am):Am:=
 match f with
 | .fn (.func g) first cap=>ckS (!E.imp g) (Wd aZ cap λas'=>Wd first as' λall=>Ah R g all H K)
 |_=>none
def A39 (E:XE) (R:Rt) (t:Tm) (H:Hp) (c:Call) (K:AV→Am):Am:=
 match c.callee with
 | .value fv=>HH E t fv λf=>Zq E t c.args.toList λaZ=>B1o E R f aZ H K
 | .builtin .len=>match c.args.toList,c.argTypes.toList with
  |[x],[ty]=>HH E t x λv=>E.ty.getK ty λi=>B4x i v H K
  |_,_=>none
 | .builtin .unsafeSliceData=>match c.args.toList with
  |[x]=>HH E t x λv=>B3G v K
  |_=>none
 | .builtin .min=>match c.args.toList with
  |[x,y]=>HH E t x λa=>HH E t y λb=>eMM true a b K
  |_=>none
 | .builtin .max=>match c.args.toList with
  |[x,y]=>HH E t x λa=>HH E t y λb=>eMM false a b K
  |_=>none
 |_=>none
def NY (E:XE) (R:Rt) (t:Tm) (H:Hp) (o:Op) (K:AV→Am):Am:=
 match o with
 | .move x=>HH E t x K
 | .assign x=>HH E t x K
 | .pick c a b=>HH E t c λq=>HH E t a λa=>HH E t b λb=>AC q a b K
 | .load ty x=>HH E t x λv=>E.ty.getK ty λi=>Ap i v H K
 | .nilCheck x=>HH E t x λv=>Ik v K
 | .binOp op ty x y _=>HH E t x λa=>HH E t y λb=>C24 E op ty (A7G y) a b K
 | .unOp op _ x=>HH E t x λa=>EP op a K
 | .convert s d x=>HH E t x λa=>E.ty.getK s λi=>E.ty.getK d λj=>cvK E s d i j a H K
 | .makeFunc fn first cap=>Zq E t first.toList λfs=>Zq E t cap.toList λcs=>K (.fn fn fs cs)
 | .fieldAddr ty x f=>HH E t x λv=>E.ty.getK ty λi=>B6L i f λoff sz _=>ckS (!Nat.beq sz 0) (AH off v K)
 | .field ty x f=>HH E t x λv=>E.ty.getK ty λi=>B6L i f λoff _ ft=>E.ty.getK ft λj=>A7Z off j v K
 | .indexAddr ty x ix=>HH E t x λv=>HH E t ix λn=>E.ty.getK ty λi=>B1 i v n K
 | .index ty x ix=>HH E t x λv=>HH E t ix λn=>E.ty.getK ty λi=>elK E i λj=>Sh i j v n K
 | .slice ty x lo hi mx=>HH E t x λv=>Zn E t lo λl=>Zn E t hi λh=>Zn E t mx λm=>E.ty.getK ty λi=>A6q i v l h m H K
 | .extract x k=>HH E t x λv=>A9 v k K
 | .build ty parts=>E.ty.getK ty λi=>ckS (A4c i) (WE E t i parts.toList λl=>Bg i l K)
 | .call c=>A39 E R t H c K
 | .buildSlice ty n parts=>E.ty.getK ty λi=>A3n i λ_ esz=>E.ty.getK (A9f i) λie=>WE E t i parts.toList λl=>QZ esz ie n l K
 | .lookup ty x ix ok=>HH E t x λm=>HH E t ix λk=>E.ty.getK ty λi=>A3L i λkt et=>B0o E kt k λkv=>E.ty.getK et λie=>Zg ie ok m kv H K
 | .entry it=>HH E t it λv=>B3Q v H K
 |_=>none
section
variable {D:XE→Cf→Nat→List Oper→Bool} {E:XE} {P:Program} {R:Rt} {t:Tm} {H:Hp} {r:AV×Hp} {ro:Option Nat} {N:Nat}
theorem B75 {cs:List AV} (h:cs.all isV=true):(cs.map unV).map AV.v=cs:=by
 induction cs with
 |nil=>rfl
 |cons c cs ih=>
  simp only[l2j,Iv] at h
  simp only[l1i,ih h.2]
  cases c<;>simp[isV] at h
  rfl
theorem AO (hE:XE.Ok D E P) {x:Operand} {K:AV→Am} (h:HH E t x K=some r):K (J0 E.G t x)=some r:=by
 unfold HH at h
 split at h
 ·rwa[RX] at h
 ·exact h
 ·obtain⟨cs,h1,h2⟩:=AT h
  have:=hE.gl _ _ h1
  simp only[J0,XE.G,h1,l0x,B75 this]
  exact h2
 ·exact h
theorem NZ (hE:XE.Ok D E P):∀(l:List Operand) (K:List AV→Am),Zq E t l K=some r→K (l.map (J0 E.G t))=some r:=by
 intro l
 induction l with
 |nil=>intro K h;exact h
 |cons x l ih=>
  intro K h
  have h:(HH E t x λv=>Zq E t l λvs=>K (v::vs))=some r:=h
  exact ih _ (AO hE h)
theorem XA8 (hE:XE.Ok D E P) {x:Option Operand} {K:Option AV→Am} (h:Zn E t x K=some r):K (x.map (J0 E.G t))=some r:=by
 unfold Zn at h
 split at h
 ·exact h
 ·exact AO hE h
theorem SN (hE:XE.Ok D E P) {i:TI}:∀(l:List (Nat×Operand)) (K:List (Nat×Nat×AV)→Am),WE E t i l K=some r→
 ∃l',K l'=some r∧((l.map λp=>(p.1,J0 E.G t p.2)).map λp=>(XA6 i p.1).map λq=>(q.1,q.2,p.2))=l'.map some:=by
 intro l
 induction l with
 |nil=>intro K h;exact⟨[],h,rfl⟩
 |cons p l ih=>
  intro K h
  have h:(plK i p.1 λo s=>HH E t p.2 λv=>WE E t i l λl'=>K ((o,s,v)::l'))=some r:=h
  unfold plK at h
  split at h
  ·rename_i o s hp
   simp only[B3x] at h
   obtain⟨l',h1,h2⟩:=ih _ (AO hE h)
   refine⟨_,h1,?_⟩
   simp only[l1i,hp,l0x,h2]
  ·cases h
theorem rd (hE:XE.Ok D E P) {o:Oper} {v:AV} {K:AV→Am} (hd:∀c,o.op≠.defer c) (hx:Zt (E.env P) o.op t H (λv' H'=>v'=v∧H'=H)) (hK:K v=some r):Rg P E.G ro N o t H (λv H'=>H'=H∧K v=some r):=
 Rg.mono (Qs hd (A2i (E:=E.env P) hE.env hx)) (by rintro _ _ ⟨rfl,rfl⟩;exact⟨rfl,hK⟩)
theorem Me {i:TI} {K:TypeId→TypeId→Am} (h:A3L i K=some r):∃k e,i.d= .map k e∧K k e=some r:=by
 unfold A3L at h
 split at h
 ·rename_i hd;exact⟨_,_,hd,h⟩
 ·cases h
theorem Mb (hE:XE.Ok D E P) {mt kt et:TypeId} {i:TI} (hi:E.ty.get mt=some i) (hd:i.d= .map kt et):P.underlying mt=some (.map kt et):=by
 obtain⟨u,hu,e⟩:=(hE.ty mt i hi).under
 rw[hd] at e
 cases u<;>simp[td] at e
 rw[hu,e.1,e.2]
theorem QO (hE:XE.Ok D E P) {kt:TypeId} {a:AV} {K:Value→Am} (h:B0o E kt a K=some r):∃k,Ny P kt k∧K k=some r∧∀{C:Ctx} {w:World} {y:Value},VRel C w a y→y=k:=by
 obtain⟨ik,hik,h⟩:=AT h
 obtain⟨u,hu,e⟩:=(hE.ty kt ik hik).under
 have fl:∀ks,E.eqt.get kt=some ks→B0p ks a K=some r→∃k,Ny P kt k∧K k=some r∧∀{C:Ctx} {w:World} {y:Value},VRel C w a y→y=k:= λks hks h=>by
  unfold B0p at h
  split at h
  ·obtain⟨vs,rfl,h1⟩:=UX _ _ h
   obtain⟨h2,h3⟩:=Ji h1
   exact⟨_,.inr (.inr ⟨ks,vs,hE.eq kt ks hks,h2,rfl⟩),h3,λhv=>ZB hv⟩
  ·cases h
 simp only at h
 split at h
 ·rename_i hd
  rw[hd] at e
  have hu':u= .string:=by cases u<;>simp[td] at e;rfl
  subst hu'
  unfold NL at h
  split at h
  ·exact⟨_,.inl ⟨hu,_,rfl⟩,h,λhv=>AK.1 hv⟩
  ·cases h
 ·rename_i q hd
  rw[hd] at e
  have hu':u= .int q:=by cases u<;>simp[td] at e;rw[e]
  subst hu'
  unfold A5y at h
  split at h
  ·obtain⟨h1,h2⟩:=Ji h
   have h1:_=q:=of_decide_eq_true h1
   subst h1
   exact⟨_,.inr (.inl ⟨_,_,hu,rfl⟩),h2,λhv=>AK.1 hv⟩
  ·cases h
 ·obtain⟨ks,hks,h⟩:=AT h;exact fl ks hks h
 ·obtain⟨ks,hks,h⟩:=AT h;exact fl ks hks h
 ·cases h
theorem MD {o:Oper} {K:AV→Am} (hd:∀c,o.op≠.defer c) (h:∀(w0:Base) (s0:Nat) (C:Ctx) (N:Nat) (a:Act) (w:World),St E.G w0 s0 C N t H a w→∃v y,K v=some r∧(execOp a.eval o).run P w= .ok (.value y) w∧VRel C w v y):Rg P E.G ro N o t H (λv H'=>H'=H∧K v=some r):=
 Qs hd λw0 s0 C N a w s=>let⟨v,y,h1,h2,h3⟩:=h w0 s0 C N a w s;⟨v,H,y,C,w,⟨rfl,h1⟩,.inl h2,h3,s.rel,.refl _ _ _⟩
theorem A6B (hE:XE.Ok D E P) {o:Oper} {op:BinOp} {ty yt:TypeId} {x y:Operand} (ho:o.op= .binOp op ty x y yt) {K:AV→Am} (h:C24 E op ty (A7G y) (J0 E.G t x) (J0 E.G t y) K=some r):Rg P E.G ro N o t H (λv H'=>H'=H∧K v=some r):=by
 obtain⟨i,hi,h⟩:=AT h
 have nd:∀c,o.op≠.defer c:= λc hc=>by rw[ho] at hc;cases hc
 have fl:∀ks,E.eqt.get ty=some ks→T8 ks op (J0 E.G t x) (J0 E.G t y) K=some r→Rg P E.G ro N o t H (λv H'=>H'=H∧K v=some r):= λks hks h=>by
  refine MD nd λw0 s0 C N a w s=> ?_
  obtain⟨v,u,h1,h2,h3⟩:=A81 (P:=P) x y (hE.eq ty ks hks) (AQ s x) (AQ s y) h
  refine⟨v,u,h1,?_,h3⟩
  simp only[execOp,ho]
  rw[Cp,h2];rfl
 simp only at h
 split at h
 ·obtain⟨ks,hks,h⟩:=AT h;exact fl ks hks h
 ·obtain⟨ks,hks,h⟩:=AT h;exact fl ks hks h
 ·rename_i e hd
  obtain⟨ie,hie,h⟩:=AT h
  refine MD nd λw0 s0 C N a w s=> ?_
  obtain⟨v,u,h1,h2,h3⟩:=A80 (P:=P) (T:=E.T) hE.ty x y hi hd hie (AQ s x) (AQ s y) h
  refine⟨v,u,h1,?_,h3⟩
  simp only[execOp,ho]
  rw[Cp,h2];rfl
 ·rename_i hd
  obtain⟨hc,h⟩:=Ji h
  have hy:y= .const .nilIface:=by
   unfold A7G at hc
   split at hc
   ·rfl
   ·cases hc
  subst hy
  obtain⟨u,hu,e⟩:=(hE.ty ty i hi).under
  rw[hd] at e
  obtain⟨ms,rfl⟩:∃ms,u= .interface ms:=by cases u<;>simp[td] at e;exact⟨_,rfl⟩
  have he:∀w,(Op.equal ty .nilIface .nilIface).run P w= .ok true w:= λw=>by
   show(Op.equalIn (9999+1) ty _ _).run P w=_
   unfold Op.equalIn;rw[Cp,run_underlying hu w];rfl
  have hg:∀(op:BinOp) (z:Operand) (w:World),(eqGuard op ty z (.const .nilIface) .nilIface .nilIface).run P w= .ok () w:= λop z w=>by
   unfold eqGuard
   rw[Sem.run_ite]
   refine B3g (by simp) ?_
   simp
  refine MD nd λw0 s0 C N a w s=> ?_
  have hv:=AQ s x
  have hz:a.eval (.const .nilIface)= .nilIface:=rfl
  unfold B7I at h
  split at h
  ·rename_i hq _ _
   rw[hq] at hv
   have hv:=AK.1 hv
   refine⟨_,.bool true,h,?_,.v _⟩
   simp only[execOp,ho]
   rw[hv,hz,Cp,Cp,hg]
   simp[binOp,he]
  ·rename_i hq _ _
   rw[hq] at hv
   have hv:=AK.1 hv
   refine⟨_,.bool false,h,?_,.v _⟩
   simp only[execOp,ho]
   rw[hv,hz,Cp,Cp,hg]
   simp[binOp,he]
  ·cases h
 ·obtain⟨u,hu,hx⟩:=A2Y (T:=E.T) (ty:=ty) hi h
  exact rd hE nd (by rw[ho];simpa [Zt,XE.env] using hx) hu
theorem NU {i:TI} {K:TypeId→Nat→Am} (h:A3n i K=some r):∃e esz,i.d= .slice e esz∧K e esz=some r:=by
 unfold A3n at h
 split at h
 ·rename_i hd;exact⟨_,_,hd,h⟩
 ·cases h
theorem B10 (hE:XE.Ok D E P) {o:Oper} {ty:TypeId} {n:Nat} {parts:Array (Nat×Operand)} (ho:o.op= .buildSlice ty n parts) {K:AV→Am} (h:(E.ty.getK ty λi=>A3n i λ_ esz=>E.ty.getK (A9f i) λie=>WE E t i parts.toList λl=>QZ esz ie n l K)=some r):Rg P E.G ro N o t H (λv H'=>H'=H∧K v=some r):=by
 obtain⟨i,hi,h⟩:=AT h
 obtain⟨e,esz,hd,h⟩:=NU h
 have he:A9f i=e:=by simp[A9f,hd]
 rw[he] at h
 obtain⟨ie,hie,h⟩:=AT h
 obtain⟨l,h1,h2⟩:=SN hE _ _ h
 refine Qs (λc hc=>by rw[ho] at hc;cases hc) λw0 s0 C N a w s=> ?_
 obtain⟨hl,hq⟩:=Xi s parts
 obtain⟨v,y,C',w',hK,hrun,hv,hr,hx⟩:=B0U (P:=P) (T:=E.T) hE.ty hi hd hie (by rw[←h2];simp[XA6,hd]) h1 hl hq s.rel
 refine⟨v,H,y,C',w',⟨rfl,hK⟩,.inl ?_,hv,hr,hx⟩
 have:(parts.map λ(i,x)=>(i,a.eval x))=(parts.toList.map λp=>(p.1,a.eval p.2)).toArray:=by apply Zc;simp
 simp only[execOp,ho]
 rw[this,Cp,hrun]
 rfl
theorem B12 (hE:XE.Ok D E P) {o:Oper} {s d:TypeId} {x:Operand} (ho:o.op= .convert s d x) {i j ie:TI} {e z:Nat} (hi:E.ty.get s=some i) (hj:E.ty.get d=some j) (hd:i.d= .slice e z) (hd2:j.d= .string) (hie:E.ty.get e=some ie) (hu8:A7F ie.d=true) {K:AV→Am} (h:A1b (J0 E.G t x) H K=some r):Rg P E.G ro N o t H (λv H'=>H'=H∧K v=some r):=by
 refine Qs (λc hc=>by rw[ho] at hc;cases hc) λw0 s0 C N a w st=> ?_
 obtain⟨h1,l,hK,hrun⟩:=A86 (P:=P) st.rel (AQ st x) h
 refine⟨.v (.string ⟨⟨l⟩⟩),H,.string ⟨⟨l⟩⟩,C,w,⟨rfl,hK⟩,.inl ?_,.v _,st.rel,.refl _ _ _⟩
 have hcv:(convert s d (a.eval x)).run P w= .ok (.string ⟨⟨l⟩⟩) w:=by
  obtain⟨hu1,_⟩:=(hE.ty s i hi).elem_slice hd
  obtain⟨u2,hu2,e2⟩:=(hE.ty d j hj).under
  obtain⟨u3,hu3,e3⟩:=(hE.ty e ie hie).under
  rw[hd2] at e2
  have hu2':u2= .string:=by cases u2<;>simp[td] at e2;rfl
  subst hu2'
  have hu3':u3= .int .u8:=by
   cases hq:ie.d with
   |int k=>
    rw[hq] at hu8 e3
    cases k<;>simp[A7F] at hu8
    cases u3<;>simp[td] at e3
    rw[e3]
   |_=>rw[hq] at hu8;simp[A7F] at hu8
  subst hu3'
  unfold convert
  rw[Cp,run_underlying hu1 w]
  simp only[Ek]
  rw[Cp,run_underlying hu2 w]
  simp only[Ek]
  generalize a.eval x=y at h1 hrun
  cases y with
  |slice ad n cap=>
   simp only
   rw[Cp,run_underlying hu3 w]
   simp only[Ek]
   exact hrun
  |string s=>exact absurd rfl (h1 s)
  |_=>simp[Conv.bytesToString] at hrun
 simp only[execOp,ho]
 rw[Cp,hcv]
 rfl
theorem A2I {i:TI} {f:Nat} {K:Nat→Nat→TypeId→Am} (h:B6L i f K=some r):∃fs o s ft,i.d= .struct fs∧fs[f]?=some (o,s,ft)∧K o s ft=some r:=by
 unfold B6L at h
 split at h
 ·rename_i fs hd
  split at h
  ·rename_i hf;exact⟨fs,_,_,_,hd,hf,h⟩
  ·cases h
 ·cases h
theorem Vp (hE:XE.Ok D E P) (hR:RSound D E P R) {o:Oper} {c:Call} (ho:o.op= .call c) {K:AV→Am} (h:A39 E R t H c K=some r):Rg P E.G ro N o t H (λv H'=>H'=H∧K v=some r):=by
 have nd:∀c,o.op≠.defer c:= λc hc=>by rw[ho] at hc;cases hc
 unfold A39 at h
 split at h
 ·rename_i fv hcal
  have h:=NZ hE _ _ (AO hE h)
  unfold B1o at h
  split at h
  ·rename_i g first cap hf
   obtain⟨_,h⟩:=Bm h
   rw[MW,MW,←l0k] at h
   obtain⟨⟨fn,h1,h2,h3⟩,hc⟩:=XY hR h
   exact Rg.mono (Wx ho hcal hf h1 h2 h3 hc) (λ_ _ h=>h)
  ·cases h
 ·rename_i hcal
  split at h
  ·rename_i x ty hx hty
   obtain⟨i,hi,h⟩:=AT (AO hE h)
   unfold B4x at h
   split at h
   ·rename_i kt et hd
    refine MD nd λw0 s0 C N a w s=> ?_
    obtain⟨v,y,h1,h2,h3⟩:=A5T (P:=P) (ty:=o.type) (ts:=c.argTypes) (by rw[←l21,hty];rfl) (Mb hE hi hd) s.rel (AQ s x) h
    refine⟨v,y,h1,?_,h3⟩
    have hargs:c.args.map a.eval= #[a.eval x]:=by apply Zc;simp[hx]
    rw[GL ho _ hcal,hargs]
    show(do pure (Next.value (←Builtin.len_ c.argTypes o.type #[a.eval x]))).run P w=_
    rw[Cp,h2];rfl
   ·obtain⟨u,hu,hxl⟩:=B0O (T:=E.T) hi h
    exact rd hE nd (by rw[ho];simp only[Zt,hcal,hx,hty];simpa [XE.env] using hxl) hu
  ·cases h
 ·rename_i hcal
  split at h
  ·rename_i x hx
   have h:=AO hE h
   unfold B3G at h
   split at h
   ·rename_i sz rr oo n hq
    obtain⟨hc,h1⟩:=Bm h
    simp only[Iv,Zb,TS] at hc
    refine MD nd λw0 s0 C N a w s=> ?_
    have hv:=AQ s x
    rw[hq] at hv
    have hargs:c.args.map a.eval= #[a.eval x]:=by apply Zc;simp[hx]
    rw[GL ho _ hcal,hargs]
    generalize a.eval x=y at hv
    cases hv with
    |slz=>exact absurd hc.2 (by simp)
    |@sl _ _ _ _ _ _ b base cap arr T fz hp hcap hb hsz=>
     refine⟨_,.pointer (some ⟨b,base+oo,none⟩),h1,?_,.ptr hp⟩
     show(do pure (Next.value (←Builtin.unsafeSliceData_ c.argTypes o.type #[.slice (some ⟨b,base+oo,none⟩) n cap]))).run P w=_
     rw[Cp,Lib.run_unsafeSliceData_row _ _ _ _ _ _ (by omega)]
     rfl
   ·cases h
  ·cases h
 ·rename_i hcal
  split at h
  ·rename_i x y hx
   obtain⟨u,hu,hxl⟩:=A5S (AO hE (AO hE h))
   exact rd hE nd (by rw[ho];simp only[Zt,hcal,hx];simpa [XE.env] using hxl) hu
  ·cases h
 ·rename_i hcal
  split at h
  ·rename_i x y hx
   obtain⟨u,hu,hxl⟩:=A5S (AO hE (AO hE h))
   exact rd hE nd (by rw[ho];simp only[Zt,hcal,hx];simpa [XE.env] using hxl) hu
  ·cases h
 ·cases h
theorem Pk (hE:XE.Ok D E P) (hR:RSound D E P R) {o:Oper} {K:AV→Am} (h:NY E R t H o.op K=some r):Rg P E.G ro N o t H (λv H'=>H'=H∧K v=some r):=by
 unfold NY at h
 split at h
 all_goals try (cases h;done)
 case h_1 x ho=>exact rd hE (λc hc=>by rw[ho] at hc;cases hc) (by rw[ho];exact⟨rfl,rfl⟩) (AO hE h)
 case h_2 x ho=>exact rd hE (λc hc=>by rw[ho] at hc;cases hc) (by rw[ho];exact⟨rfl,rfl⟩) (AO hE h)
 case h_3 c a b ho=>
  have h:=AO hE (AO hE (AO hE h))
  unfold AC at h
  split at h
  ·rename_i hq
   exact rd hE (λc hc=>by rw[ho] at hc;cases hc) (by rw[ho];simp[Zt,XE.env,hq]) h
  ·rename_i hq
   exact rd hE (λc hc=>by rw[ho] at hc;cases hc) (by rw[ho];simp[Zt,XE.env,hq]) h
  ·cases h
 case h_4 ty x ho=>
  obtain⟨i,hi,h⟩:=AT (AO hE h)
  obtain⟨u,hu,hx⟩:=A5W (T:=E.T) (ty:=ty) hi h
  exact rd hE (λc hc=>by rw[ho] at hc;cases hc) (by rw[ho];simpa [Zt,XE.env] using hx) hu
 case h_5 x ho=>
  have h:=AO hE h
  unfold Ik at h
  split at h
  ·rename_i hq;exact rd hE (λc hc=>by rw[ho] at hc;cases hc) (by rw[ho];simp[Zt,XE.env,hq,B1q]) h
  ·rename_i hq;exact rd hE (λc hc=>by rw[ho] at hc;cases hc) (by rw[ho];simp[Zt,XE.env,hq,B1q]) h
  ·rename_i hq;exact rd hE (λc hc=>by rw[ho] at hc;cases hc) (by rw[ho];simp[Zt,XE.env,hq,B1q]) h
  ·cases h
 case h_6 op ty x y yt ho=>exact A6B hE ho (AO hE (AO hE h))
 case h_7 op ty x ho=>
  obtain⟨u,hu,hx⟩:=B3F (AO hE h)
  exact rd hE (λc hc=>by rw[ho] at hc;cases hc) (by rw[ho];simpa [Zt,XE.env] using hx) hu
 case h_8 s d x ho=>
  obtain⟨i,hi,h⟩:=AT (AO hE h)
  obtain⟨j,hj,h⟩:=AT h
  unfold cvK at h
  simp only at h
  split at h
  ·rename_i e z hd
   split at h
   ·rename_i hd2
    obtain⟨ie,hie,h⟩:=AT h
    obtain⟨hu,h⟩:=Ji h
    exact B12 hE ho hi hj hd hd2 hie hu h
   ·cases h
  ·rename_i e hd
   obtain⟨hc,h⟩:=Ji h
   simp only[Iv,Zb,l14] at hc
   obtain⟨ie,hie,h⟩:=AT h
   refine MD (λc hc=>by rw[ho] at hc;cases hc) λw0 s0 C N a w st=> ?_
   obtain⟨h1,h2⟩:=A7U (P:=P) (T:=E.T) hE.ty hi hd hie (d:=d) (by rw[hc.1];exact hE.up hc.2) st.rel (AQ st x) h
   refine⟨_,_,h1,?_,AQ st x⟩
   simp only[execOp,ho]
   rw[Cp,h2];rfl
  ·rename_i hd
   split at h
   ·rename_i u hd2
    obtain⟨hc,h⟩:=Ji h
    simp only[Iv,Zb,l14] at hc
    have hdu:P.underlying d=some (.pointer u):=by
     obtain⟨u',hu',e'⟩:=(hE.ty d j hj).under
     rw[hd2] at e'
     cases u'<;>simp[td] at e'
     rw[hu',e']
    refine MD (λc hc=>by rw[ho] at hc;cases hc) λw0 s0 C N a w st=> ?_
    obtain⟨h1,h2⟩:=A7N (P:=P) hE.lie (s:=s) (by rw[hc.1];exact hE.up hc.2) hdu st.rel (AQ st x) h
    refine⟨_,_,h1,?_,AQ st x⟩
    simp only[execOp,ho]
    rw[Cp,h2];rfl
   ·cases h
  ·obtain⟨u,hu,hx⟩:=A84 (T:=E.T) hi hj h
   exact rd hE (λc hc=>by rw[ho] at hc;cases hc) (by rw[ho];simpa [Zt,XE.env] using hx) hu
 case h_9 fn first cap ho=>
  have h:=NZ hE _ _ (NZ hE _ _ h)
  exact rd hE (λc hc=>by rw[ho] at hc;cases hc) (by rw[ho];exact⟨rfl,rfl⟩) h
 case h_10 ty x f ho=>
  obtain⟨i,hi,h⟩:=AT (AO hE h)
  obtain⟨fs,off,s,ft,h1,h2,h⟩:=A2I h
  obtain⟨hz,h⟩:=Bm h
  obtain⟨u,hu,hx⟩:=B3O (T:=E.T) (ty:=ty) hi h1 h2 (λe=>by rw[e] at hz;simp at hz) h
  exact rd hE (λc hc=>by rw[ho] at hc;cases hc) (by rw[ho];simpa [Zt,XE.env] using hx) hu
 case h_11 ty x f ho=>
  obtain⟨i,hi,h⟩:=AT (AO hE h)
  obtain⟨fs,off,s,ft,h1,h2,h⟩:=A2I h
  obtain⟨j,hj,h⟩:=AT h
  obtain⟨u,hu,hx⟩:=B0Q (T:=E.T) (ty:=ty) hi h1 h2 hj h
  exact rd hE (λc hc=>by rw[ho] at hc;cases hc) (by rw[ho];simpa [Zt,XE.env] using hx) hu
 case h_12 ty x ix ho=>
  obtain⟨i,hi,h⟩:=AT (AO hE (AO hE h))
  obtain⟨u,hu,hx⟩:=B3M (T:=E.T) (ty:=ty) hi h
  exact rd hE (λc hc=>by rw[ho] at hc;cases hc) (by rw[ho];simpa [Zt,XE.env] using hx) hu
 case h_13 ty x ix ho=>
  obtain⟨i,hi,h⟩:=AT (AO hE (AO hE h))
  unfold elK at h
  have fin:∀j,(∀e,Wn i=some e→E.T e=some j)→Sh i j (J0 E.G t x) (J0 E.G t ix) K=some r→Rg P E.G ro N o t H (λv H'=>H'=H∧K v=some r):= λj hj h=>by
   obtain⟨u,hu,hx⟩:=B0P (T:=E.T) (ty:=ty) hi hj h
   exact rd hE (λc hc=>by rw[ho] at hc;cases hc) (by rw[ho];simpa [Zt,XE.env] using hx) hu
  split at h
  ·rename_i e he
   obtain⟨j,hj,h⟩:=AT h
   exact fin j (λe' he'=>by rw[he] at he';injection he' with he';subst he';exact hj) h
  ·rename_i he
   exact fin i (λe' he'=>by rw[he] at he';cases he') h
 case h_14 ty x lo hi mx ho=>
  have h0:=AT (XA8 hE (XA8 hE (XA8 hE (AO hE h))))
  clear h
  obtain⟨i,hi',h⟩:=h0
  unfold A6q at h
  split at h
  ·rename_i n e esz hd
   split at h
   ·rename_i hm
    have hmx:mx=none:=by cases mx with
     |none=>rfl
     |some _=>cases hm
    subst hmx
    refine MD (λc hc=>by rw[ho] at hc;cases hc) λw0 s0 C N a w st=> ?_
    obtain⟨v,u,h1,h2,h3⟩:=A7P (P:=P) (T:=E.T) hE.ty hi' hd (hE.pos ty i e esz hi' (.inr ⟨n,hd⟩)) st.rel (AQ st x) (Ti st lo) (Ti st hi) h
    refine⟨v,u,h1,?_,h3⟩
    simp only[execOp,ho]
    rw[Cp]
    have:(Instr.sliceAt ty (a.eval x) (lo.map a.eval) (hi.map a.eval) (Option.map a.eval none)).run P w= .ok u w:=h2
    rw[this];rfl
   ·cases h
  ·obtain⟨u,hu,hx⟩:=A5N (T:=E.T) (ty:=ty) hi' h
   exact rd hE (λc hc=>by rw[ho] at hc;cases hc) (by rw[ho];simpa [Zt,XE.env] using hx) hu
 case h_15 x k ho=>
  obtain⟨vs,u,h1,h2,h3⟩:=B0R (AO hE h)
  exact rd hE (λc hc=>by rw[ho] at hc;cases hc) (by rw[ho];simp only[Zt,XE.env,h1,h2,Jt];exact⟨trivial,trivial⟩) h3
 case h_16 ty parts ho=>
  obtain⟨i,hi,h⟩:=AT h
  obtain⟨hb,h⟩:=Bm h
  obtain⟨l,h1,h2⟩:=SN hE _ _ h
  obtain⟨u,hu,hx⟩:=A5Y (T:=E.T) (ty:=ty) hi hb h2 h1
  exact rd hE (λc hc=>by rw[ho] at hc;cases hc) (by rw[ho];simpa [Zt,XE.env] using hx) hu
 case h_17 c ho=>exact Vp hE hR ho h
 case h_18 ty n parts ho=>exact B10 hE ho h
 case h_19 ty x ix ok ho=>
  obtain⟨i,hi,h⟩:=AT (AO hE (AO hE h))
  obtain⟨kt,et,hd,h⟩:=Me h
  obtain⟨kv,hk,h,hkv⟩:=QO hE h
  obtain⟨ie,hie,h⟩:=AT h
  refine MD (λc hc=>by rw[ho] at hc;cases hc) λw0 s0 C N a w st=> ?_
  obtain⟨v,y,h1,h2,h3⟩:=B0N (P:=P) (Mb hE hi hd) (hE.ty et ie hie) hk st.rel (AQ st x) h
  refine⟨v,y,h1,?_,h3⟩
  simp only[execOp,ho]
  rw[Cp,hkv (AQ st ix),h2];rfl
 case h_20 it ho=>
  have h:=AO hE h
  refine MD (λc hc=>by rw[ho] at hc;cases hc) λw0 s0 C N a w st=> ?_
  obtain⟨v,y,h1,h2,h3⟩:=A82 (P:=P) st.rel (AQ st it) h
  refine⟨v,y,h1,?_,h3⟩
  simp only[execOp,ho]
  rw[Cp,h2];rfl
end
end Go.Abs
end
