import Derived.CallsIn
import Derived.Below
import Derived.Laws.Rows
/- Proved: GraphOrderCardSaid, the card of the law GraphOrder as the given rows state it (every draw that the row admits is answered as the law says). Conditions: none beyond the given statement's own; nothing is assumed ahead of it. -/
set_option linter.all false
set_option maxHeartbeats 100000000
noncomputable section
theorem l00:type_of% @List.flatMap_cons:=@List.flatMap_cons
theorem Zl:type_of% @List.map_append:=@List.map_append
theorem Fl:type_of% @List.length_append:=@List.length_append
theorem KF:type_of% @Nat.zero_add:=@Nat.zero_add
theorem l04:type_of% @List.take_succ_eq_append_getElem:=@List.take_succ_eq_append_getElem
theorem QE:type_of% @List.getElem_mem:=@List.getElem_mem
theorem l06:type_of% @List.take_length:=@List.take_length
theorem CI:type_of% @Go.Sem.run_bind:=@Go.Sem.run_bind
theorem EO:type_of% @Go.Result.andThen_ok:=@Go.Result.andThen_ok
theorem Xk:type_of% @Nat.add_assoc:=@Nat.add_assoc
theorem l0a:type_of% @List.getElem?_map:=@List.getElem?_map
theorem Y9:type_of% @Go.Sem.run_pure:=@Go.Sem.run_pure
theorem l0c:type_of% @Array.ext':=@Array.ext'
theorem l0d:type_of% @List.getElem?_drop:=@List.getElem?_drop
theorem TW:type_of% @List.getD_eq_getElem?_getD:=@List.getD_eq_getElem?_getD
theorem Kq:type_of% @List.getElem?_eq_getElem:=@List.getElem?_eq_getElem
theorem l0g:type_of% @List.length_take:=@List.length_take
theorem HB:type_of% @List.all_eq_true:=@List.all_eq_true
theorem Ju:type_of% @List.mem_range:=@List.mem_range
theorem l0j:type_of% @List.getElem?_eq_some_iff:=@List.getElem?_eq_some_iff
theorem l0k:type_of% @List.append_assoc:=@List.append_assoc
theorem l0l:type_of% @List.getElem?_append_left:=@List.getElem?_append_left
theorem l0m:type_of% @List.getElem?_take:=@List.getElem?_take
theorem l0n:type_of% @List.getElem?_append_right:=@List.getElem?_append_right
theorem l0o:type_of% @List.ext_getElem?:=@List.ext_getElem?
theorem K9:type_of% @List.length_cons:=@List.length_cons
theorem l0q:type_of% @List.getElem?_cons_succ:=@List.getElem?_cons_succ
theorem l0r:type_of% @Array.getElem?_modify:=@Array.getElem?_modify
theorem l0s:type_of% @Go.World.cell?_of_block:=@Go.World.cell?_of_block
theorem l0t:type_of% @List.length_drop:=@List.length_drop
theorem OV:type_of% @Nat.le_refl:=@Nat.le_refl
theorem Jm:type_of% @Bool.and_eq_true:=@Bool.and_eq_true
theorem l0w:type_of% @Bool.eq_iff_iff:=@Bool.eq_iff_iff
theorem l0x:type_of% @Option.map_some:=@Option.map_some
theorem l0y:type_of% @Option.some.injEq:=@Option.some.injEq
theorem l0z:type_of% @Bool.false_eq_true:=@Bool.false_eq_true
theorem l10:type_of% @List.getElem?_toArray:=@List.getElem?_toArray
theorem l11:type_of% @List.drop_eq_getElem_cons:=@List.drop_eq_getElem_cons
theorem OU:type_of% @List.length_nil:=@List.length_nil
theorem l13:type_of% @Nat.beq_eq:=@Nat.beq_eq
theorem l14:type_of% @Bool.not_eq_true':=@Bool.not_eq_true'
theorem l15:type_of% @List.drop_drop:=@List.drop_drop
theorem l16:type_of% @Bool.true_and:=@Bool.true_and
theorem l17:type_of% @List.replicate_succ:=@List.replicate_succ
theorem l18:type_of% @List.flatten_cons:=@List.flatten_cons
theorem l19:type_of% @Nat.add_mul:=@Nat.add_mul
theorem l1a:type_of% @List.length_eq_one_iff:=@List.length_eq_one_iff
theorem l1b:type_of% @Bool.and_true:=@Bool.and_true
theorem l1c:type_of% @Nat.zero_le:=@Nat.zero_le
theorem l1d:type_of% @Bool.or_eq_true:=@Bool.or_eq_true
theorem l1e:type_of% @List.getElem?_eq_none:=@List.getElem?_eq_none
theorem UK:type_of% @Nat.blt_eq:=@Nat.blt_eq
theorem l1g:type_of% @Nat.lt_irrefl:=@Nat.lt_irrefl
theorem l1h:type_of% @List.mem_of_getElem?:=@List.mem_of_getElem?
theorem XS:type_of% @List.map_cons:=@List.map_cons
theorem Zk:type_of% @Array.getD_eq_getD_getElem?:=@Array.getD_eq_getD_getElem?
theorem l1k:type_of% @Array.getElem?_eq_getElem:=@Array.getElem?_eq_getElem
theorem l1l:type_of% @Option.getD_some:=@Option.getD_some
theorem l1m:type_of% @Nat.le_trans:=@Nat.le_trans
theorem l1n:type_of% @List.drop_zero:=@List.drop_zero
theorem XR:type_of% @List.append_nil:=@List.append_nil
theorem l1p:type_of% @Nat.le_succ:=@Nat.le_succ
theorem l1q:type_of% @Array.getElem?_eq_some_iff:=@Array.getElem?_eq_some_iff
theorem XQ:type_of% @Nat.ble_eq:=@Nat.ble_eq
theorem l1s:type_of% @List.eq_nil_of_length_eq_zero:=@List.eq_nil_of_length_eq_zero
theorem l1t:type_of% @Function.comp_def:=@Function.comp_def
theorem Wv:type_of% @List.length_map:=@List.length_map
theorem VC:type_of% @Nat.eq_of_beq_eq_true:=@Nat.eq_of_beq_eq_true
theorem l1w:type_of% @List.getElem?_cons_zero:=@List.getElem?_cons_zero
theorem l1x:type_of% @Nat.min_eq_left:=@Nat.min_eq_left
theorem XP:type_of% @Int.toNat_natCast:=@Int.toNat_natCast
theorem l1z:type_of% @List.take_of_length_le:=@List.take_of_length_le
theorem l20:type_of% @List.pairwise_iff_getElem:=@List.pairwise_iff_getElem
theorem l21:type_of% @Array.getElem?_toList:=@Array.getElem?_toList
theorem l22:type_of% @Nat.mul_le_mul_right:=@Nat.mul_le_mul_right
theorem l24:type_of% @List.mem_of_mem_take:=@List.mem_of_mem_take
theorem UJ:type_of% @List.mem_cons:=@List.mem_cons
theorem l26:type_of% @Option.some.inj:=@Option.some.inj
theorem l27:type_of% @Array.getElem?_push:=@Array.getElem?_push
theorem l28:type_of% @Nat.mul_one:=@Nat.mul_one
theorem Zj:type_of% @Nat.beq_refl:=@Nat.beq_refl
theorem l2a:type_of% @List.mem_map:=@List.mem_map
theorem Sw:type_of% @List.getD_cons_zero:=@List.getD_cons_zero
theorem Sv:type_of% @List.getD_cons_succ:=@List.getD_cons_succ
theorem l2d:type_of% @Eq.trans:=@Eq.trans
theorem Zi:type_of% @List.mem_append:=@List.mem_append
theorem l2f:type_of% @List.mem_singleton:=@List.mem_singleton
theorem l2g:type_of% @List.flatMap_append:=@List.flatMap_append
theorem l2h:type_of% @List.filter_cons:=@List.filter_cons
theorem l2i:type_of% @List.getElem_map:=@List.getElem_map
theorem l2j:type_of% @List.all_cons:=@List.all_cons
theorem l2k:type_of% @List.pairwise_cons:=@List.pairwise_cons
theorem l2l:type_of% @Go.MapKept.run_getObj_map:=@Go.MapKept.run_getObj_map
theorem l2m:type_of% @Nat.lt_of_lt_of_le:=@Nat.lt_of_lt_of_le
theorem l2n:type_of% @Array.toList_push:=@Array.toList_push
theorem l2o:type_of% @Array.toList_modify:=@Array.toList_modify
namespace Go.Abs
open Go.RowKit
inductive AV where
 |v (x:Value)
 |ptr (r p k:Nat)
 |iptr (cs:List AV)
 |list (n:Nat) (cs:List AV)
 |sl (sz r o n:Nat)
 |fn (f:Fn) (first cap:List AV)
 |agg (cs:List AV)
 |tup (vs:List AV)
 |mp (r:Nat)
 |imap (es:List (Value×AV))
 |yl (r:Nat)
 |it (r:Nat)
 |dk
structure Ctx where
 π:Nat→Option (Option (Nat×Nat))
 F:Nat→Nat→Prop
 B:Nat→Prop
def Ctx.bare (C:Ctx):Ctx:={π:= λ_=>none,F:=C.F,B:=C.B}
inductive VRel:Ctx→World→AV→Value→Prop
 |v {C:Ctx} {w:World} (x:Value):VRel C w (.v x) x
 |ptr {C:Ctx} {w:World} {r p k b base:Nat} (h:C.π r=some (some (b,base))):VRel C w (.ptr r p k) (.pointer (some ⟨b,base+(p+k),none⟩))
 |iptr {C:Ctx} {w:World} {cs:List AV} {b o:Nat} (vs:Nat→Value) (hF:∀i,i<cs.length→C.F b (o+i)) (hc:∀i,i<cs.length→w.cell? ⟨b,o+i,none⟩=some (vs i))
  (hv:∀i (hi:i<cs.length),VRel C.bare w cs[i] (vs i)):VRel C w (.iptr cs) (.pointer (some ⟨b,o,none⟩))
 |list0 {C:Ctx} {w:World} {cap:Nat} {a:Option Addr}:VRel C w (.list 0 []) (.slice a 0 cap)
 |list {C:Ctx} {w:World} {n cap:Nat} {cs:List AV} {b o:Nat} (h:n≤cap) (vs:Nat→Value) (hF:∀i,i<cs.length→C.F b (o+i)) (hc:∀i,i<cs.length→w.cell? ⟨b,o+i,none⟩=some (vs i))
  (hv:∀i (hi:i<cs.length),VRel C.bare w cs[i] (vs i)):VRel C w (.list n cs) (.slice (some ⟨b,o,none⟩) n cap)
 |sl {C:Ctx} {w:World} {sz r o n b base cap:Nat} {arr:Array Value} {T:TypeId} {fz:Nat×Nat} (h:C.π r=some (some (b,base))) (hcap:n≤cap) (hb:w.heap[b]?=some (.cells arr T fz))
  (hsz:base+o+cap*sz≤arr.size):VRel C w (.sl sz r o n) (.slice (some ⟨b,base+o,none⟩) n cap)
 |slz {C:Ctx} {w:World} {sz r o:Nat} {a:Option Addr} (hr:C.π r≠none):VRel C w (.sl sz r o 0) (.slice a 0 0)
 |fn {C:Ctx} {w:World} {f:Fn} {fs cs:List AV} (ys zs:Array Value) (hl:ys.size=fs.length) (hl':zs.size=cs.length) (hy:∀i (hi:i<fs.length),VRel C w fs[i] (ys.getD i undef))
  (hz:∀i (hi:i<cs.length),VRel C w cs[i] (zs.getD i undef)):VRel C w (.fn f fs cs) (.func f ys zs)
 |agg {C:Ctx} {w:World} {cs:List AV} (ys:Array Value) (hl:ys.size=cs.length) (hy:∀i (hi:i<cs.length),VRel C w cs[i] (ys.getD i undef)):VRel C w (.agg cs) (.agg ys)
 |tup {C:Ctx} {w:World} {cs:List AV} (ys:Array Value) (hl:ys.size=cs.length) (hy:∀i (hi:i<cs.length),VRel C w cs[i] (ys.getD i undef)):VRel C w (.tup cs) (.tuple ys)
 |mp {C:Ctx} {w:World} {r b base:Nat} (h:C.π r=some (some (b,base))):VRel C w (.mp r) (.map (some b))
 |imap {C:Ctx} {w:World} {es:List (Value×AV)} {b clock:Nat} (ms:Array MapEntry) (hB:C.B b) (hb:w.heap[b]?=some (.map ms clock)) (hl:ms.size=es.length) (hk:∀i (hi:i<es.length),(ms.getD i default).key=es[i].1)
  (hn:∀i j,i<j→j<ms.size→(ms.getD i default).born≠(ms.getD j default).born) (hc:∀i,i<ms.size→(ms.getD i default).born<clock)
  (hv:∀i (hi:i<es.length),VRel C.bare w es[i].2 (ms.getD i default).val):VRel C w (.imap es) (.map (some b))
 |yl {C:Ctx} {w:World} {r b base:Nat} (h:C.π r=some (some (b,base))):VRel C w (.yl r) (.func (.yield b) #[] #[])
 |it {C:Ctx} {w:World} {r b base:Nat} (h:C.π r=some (some (b,base))):VRel C w (.it r) (.pointer (some ⟨b,0,none⟩))
 |dk {C:Ctx} {w:World} (y:Value):VRel C w .dk y
structure Ext (O:Nat→Prop) (C:Ctx) (w:World) (C':Ctx) (w':World):Prop where
 π:∀r,C.π r≠none→C'.π r=C.π r
 F:∀b i,C.F b i→C'.F b i
 keep:∀b i,C.F b i→w'.cell? ⟨b,i,none⟩=w.cell? ⟨b,i,none⟩
 B:∀b,C.B b→C'.B b
 keepB:∀b,C.B b→w'.heap[b]?=w.heap[b]?
 size:∀(b:Nat) (arr:Array Value) (T:TypeId) (fz:Nat×Nat),w.heap[b]?=some (.cells arr T fz)→∃(arr':Array Value) (fz':Nat×Nat),w'.heap[b]?=some (.cells arr' T fz')∧arr'.size=arr.size
 new:∀b i,C'.F b i→C.F b i∨O b
 newB:∀b,C'.B b→C.B b∨O b
 grow:w.heap.size≤w'.heap.size
structure Frm (m:Nat) (O:Nat→Prop) (C:Ctx) (w:World) (C':Ctx) (w':World):Prop where
 π:∀r,r<m→C.π r≠none→C'.π r=C.π r
 F:∀b i,C.F b i→C'.F b i
 keep:∀b i,C.F b i→w'.cell? ⟨b,i,none⟩=w.cell? ⟨b,i,none⟩
 B:∀b,C.B b→C'.B b
 keepB:∀b,C.B b→w'.heap[b]?=w.heap[b]?
 size:∀(b:Nat) (arr:Array Value) (T:TypeId) (fz:Nat×Nat),w.heap[b]?=some (.cells arr T fz)→∃(arr':Array Value) (fz':Nat×Nat),w'.heap[b]?=some (.cells arr' T fz')∧arr'.size=arr.size
 new:∀b i,C'.F b i→C.F b i∨O b
 newB:∀b,C'.B b→C.B b∨O b
 grow:w.heap.size≤w'.heap.size
theorem Ext.refl (O:Nat→Prop) (C:Ctx) (w:World):Ext O C w C w:=
 ⟨λ_ _=>rfl,λ_ _ h=>h,λ_ _ _=>rfl,λ_ h=>h,λ_ _=>rfl,λ_ arr _ fz h=>⟨arr,fz,h,rfl⟩,λ_ _ h=> .inl h,λ_ h=> .inl h,OV _⟩
theorem A16 {w w' w'':World} (h:∀(b:Nat) (arr:Array Value) (T:TypeId) (fz:Nat×Nat),w.heap[b]?=some (.cells arr T fz)→∃(arr':Array Value) (fz':Nat×Nat),w'.heap[b]?=some (.cells arr' T fz')∧arr'.size=arr.size)
 (k:∀(b:Nat) (arr:Array Value) (T:TypeId) (fz:Nat×Nat),w'.heap[b]?=some (.cells arr T fz)→∃(arr':Array Value) (fz':Nat×Nat),w''.heap[b]?=some (.cells arr' T fz')∧arr'.size=arr.size):
 ∀(b:Nat) (arr:Array Value) (T:TypeId) (fz:Nat×Nat),w.heap[b]?=some (.cells arr T fz)→∃(arr':Array Value) (fz':Nat×Nat),w''.heap[b]?=some (.cells arr' T fz')∧arr'.size=arr.size:= λb arr T fz hb=>by
 obtain⟨a1,f1,h1,e1⟩:=h b arr T fz hb
 obtain⟨a2,f2,h2,e2⟩:=k b a1 T f1 h1
 exact⟨a2,f2,h2,e2.trans e1⟩
theorem Ext.trans {O:Nat→Prop} {C C' C'':Ctx} {w w' w'':World} (h:Ext O C w C' w') (k:Ext O C' w' C'' w''):Ext O C w C'' w'':=
 ⟨λr hr=>(k.π r (by rw[h.π r hr];exact hr)).trans (h.π r hr),λb i hf=>k.F b i (h.F b i hf),
  λb i hf=>(k.keep b i (h.F b i hf)).trans (h.keep b i hf),λb hb=>k.B b (h.B b hb),λb hb=>(k.keepB b (h.B b hb)).trans (h.keepB b hb),
  A16 h.size k.size,
  λb i hf=>by
   rcases k.new b i hf with h1|h1
   ·exact h.new b i h1
   ·exact .inr h1,
  λb hf=>by
   rcases k.newB b hf with h1|h1
   ·exact h.newB b h1
   ·exact .inr h1,l1m h.grow k.grow⟩
theorem Ext.frm {m:Nat} {O:Nat→Prop} {C C':Ctx} {w w':World} (h:Ext O C w C' w'):Frm m O C w C' w':=
 ⟨λr _ hr=>h.π r hr,h.F,h.keep,h.B,h.keepB,h.size,h.new,h.newB,h.grow⟩
theorem Frm.refl {m:Nat} (O:Nat→Prop) {C:Ctx} (w:World):Frm m O C w C w:=(Ext.refl O C w).frm
theorem Frm.trans {m:Nat} {O:Nat→Prop} {C C' C'':Ctx} {w w' w'':World} (h:Frm m O C w C' w') (k:Frm m O C' w' C'' w''):Frm m O C w C'' w'':=
 ⟨λr hm hr=>(k.π r hm (by rw[h.π r hm hr];exact hr)).trans (h.π r hm hr),λb i hf=>k.F b i (h.F b i hf),
  λb i hf=>(k.keep b i (h.F b i hf)).trans (h.keep b i hf),λb hb=>k.B b (h.B b hb),λb hb=>(k.keepB b (h.B b hb)).trans (h.keepB b hb),
  A16 h.size k.size,
  λb i hf=>by
   rcases k.new b i hf with h1|h1
   ·exact h.new b i h1
   ·exact .inr h1,
  λb hf=>by
   rcases k.newB b hf with h1|h1
   ·exact h.newB b h1
   ·exact .inr h1,l1m h.grow k.grow⟩
theorem Frm.ext {m:Nat} {O:Nat→Prop} {C C':Ctx} {w w':World} (h:Frm m O C w C' w') (hm:∀r,C.π r≠none→r<m):Ext O C w C' w':=
 ⟨λr hr=>h.π r (hm r hr) hr,h.F,h.keep,h.B,h.keepB,h.size,h.new,h.newB,h.grow⟩
theorem Frm.le {m m':Nat} {O:Nat→Prop} {C C':Ctx} {w w':World} (h:Frm m O C w C' w') (hm:m'≤m):Frm m' O C w C' w':=
 ⟨λr hr=>h.π r (l2m hr hm),h.F,h.keep,h.B,h.keepB,h.size,h.new,h.newB,h.grow⟩
theorem Ext.bare {O:Nat→Prop} {C C':Ctx} {w w':World} (h:Ext O C w C' w'):Ext O C.bare w C'.bare w':=
 ⟨λ_ _=>rfl,h.F,h.keep,h.B,h.keepB,h.size,h.new,h.newB,h.grow⟩
theorem Frm.bare {m:Nat} {O:Nat→Prop} {C C':Ctx} {w w':World} (h:Frm m O C w C' w'):Ext O C.bare w C'.bare w':=
 ⟨λ_ _=>rfl,h.F,h.keep,h.B,h.keepB,h.size,h.new,h.newB,h.grow⟩
theorem Ext.at {O:Nat→Prop} {C C':Ctx} {w w':World} (e:Ext O C w C' w') {r:Nat} {x:Option (Nat×Nat)} (h:C.π r=some x):C'.π r=some x:=
 (e.π r (by rw[h];simp)).trans h
theorem VRel.mono {O:Nat→Prop} {C C':Ctx} {w w':World} {a:AV} {y:Value} (h:VRel C w a y) (e:Ext O C w C' w'):VRel C' w' a y:=by
 induction h generalizing C' with
 |v x=>exact .v x
 |ptr h=>exact .ptr (e.at h)
 |iptr vs hF hc _ ih=>exact .iptr vs (λi hi=>e.F _ _ (hF i hi)) (λi hi=>(e.keep _ _ (hF i hi)).trans (hc i hi)) (λi hi=>ih i hi e.bare)
 |list0=>exact .list0
 |list h vs hF hc _ ih=>exact .list h vs (λi hi=>e.F _ _ (hF i hi)) (λi hi=>(e.keep _ _ (hF i hi)).trans (hc i hi)) (λi hi=>ih i hi e.bare)
 |sl h hcap hb hsz=>
  obtain⟨a1,f1,h1,e1⟩:=e.size _ _ _ _ hb
  exact .sl (e.at h) hcap h1 (by rw[e1];exact hsz)
 |slz hr=>exact .slz (by rw[e.π _ hr];exact hr)
 |fn ys zs hl hl' _ _ ihy ihz=>exact .fn ys zs hl hl' (λi hi=>ihy i hi e) (λi hi=>ihz i hi e)
 |agg ys hl _ ih=>exact .agg ys hl (λi hi=>ih i hi e)
 |tup ys hl _ ih=>exact .tup ys hl (λi hi=>ih i hi e)
 |mp h=>exact .mp (e.at h)
 |imap ms hB hb hl hk hn hc _ ih=>exact .imap ms (e.B _ hB) ((e.keepB _ hB).trans hb) hl hk hn hc (λi hi=>ih i hi e.bare)
 |yl h=>exact .yl (e.at h)
 |it h=>exact .it (e.at h)
 |dk y=>exact .dk y
theorem VRel.up {C C':Ctx} {w:World} {a:AV} {y:Value} (h:VRel C.bare w a y) (hF:C'.F=C.F) (hB:C'.B=C.B):VRel C' w a y:=by
 generalize hc:C.bare=D at h
 induction h generalizing C C' with
 |v x=>exact .v x
 |ptr h=>subst hc;cases h
 |iptr vs hF' hcl hv _=>subst hc;exact .iptr vs (λi hi=>by rw[hF];exact hF' i hi) hcl (λi hi=>by have:=hv i hi;simpa [Ctx.bare,hF,hB] using this)
 |list0=>exact .list0
 |list h vs hF' hcl hv _=>subst hc;exact .list h vs (λi hi=>by rw[hF];exact hF' i hi) hcl (λi hi=>by have:=hv i hi;simpa [Ctx.bare,hF,hB] using this)
 |sl h=>subst hc;cases h
 |slz hr=>subst hc;exact absurd rfl hr
 |fn ys zs hl hl' _ _ ihy ihz=>exact .fn ys zs hl hl' (λi hi=>ihy i hi hF hB hc) (λi hi=>ihz i hi hF hB hc)
 |agg ys hl _ ih=>exact .agg ys hl (λi hi=>ih i hi hF hB hc)
 |tup ys hl _ ih=>exact .tup ys hl (λi hi=>ih i hi hF hB hc)
 |mp h=>subst hc;cases h
 |imap ms hB' hb hl hk hn hcl hv _=>subst hc;exact .imap ms (by rw[hB];exact hB') hb hl hk hn hcl (λi hi=>by have:=hv i hi;simpa [Ctx.bare,hF,hB] using this)
 |yl h=>subst hc;cases h
 |it h=>subst hc;cases h
 |dk y=>exact .dk y
def cl0:Nat→AV→Bool
 |_,.v _=>true
 |_,.iptr _=>true
 |_,.list _ _=>true
 |_,.imap _=>true
 |_,.dk=>true
 |k+1,.fn _ fs cs=>fs.all (cl0 k)&&cs.all (cl0 k)
 |k+1,.agg cs=>cs.all (cl0 k)
 |k+1,.tup cs=>cs.all (cl0 k)
 |_,_=>false
theorem VRel.down {C C':Ctx} {w:World} (hF:C'.F=C.F) (hB:C'.B=C.B):∀(k:Nat) (a:AV) (y:Value),cl0 k a=true→VRel C w a y→VRel C' w a y:=by
 intro k
 induction k with
 |zero=>
  intro a y hc h
  cases h with
  |v=>exact .v _
  |iptr vs hF' hcl hv=>exact .iptr vs (λi hi=>by rw[hF];exact hF' i hi) hcl (λi hi=>by have:=hv i hi;simpa [Ctx.bare,hF,hB] using this)
  |list0=>exact .list0
  |list h vs hF' hcl hv=>exact .list h vs (λi hi=>by rw[hF];exact hF' i hi) hcl (λi hi=>by have:=hv i hi;simpa [Ctx.bare,hF,hB] using this)
  |imap ms hB' hb hl hk hn hcl hv=>exact .imap ms (by rw[hB];exact hB') hb hl hk hn hcl (λi hi=>by have:=hv i hi;simpa [Ctx.bare,hF,hB] using this)
  |dk y=>exact .dk y
  |_=>simp[cl0] at hc
 |succ k ih=>
  intro a y hc h
  cases h with
  |v=>exact .v _
  |iptr vs hF' hcl hv=>exact .iptr vs (λi hi=>by rw[hF];exact hF' i hi) hcl (λi hi=>by have:=hv i hi;simpa [Ctx.bare,hF,hB] using this)
  |list0=>exact .list0
  |list h vs hF' hcl hv=>exact .list h vs (λi hi=>by rw[hF];exact hF' i hi) hcl (λi hi=>by have:=hv i hi;simpa [Ctx.bare,hF,hB] using this)
  |imap ms hB' hb hl hk hn hcl hv=>exact .imap ms (by rw[hB];exact hB') hb hl hk hn hcl (λi hi=>by have:=hv i hi;simpa [Ctx.bare,hF,hB] using this)
  |dk y=>exact .dk y
  |fn ys zs hl hl' hy hz=>
   simp only[cl0,Jm,HB] at hc
   exact .fn ys zs hl hl' (λi hi=>ih _ _ (hc.1 _ (QE hi)) (hy i hi)) (λi hi=>ih _ _ (hc.2 _ (QE hi)) (hz i hi))
  |agg ys hl hy=>
   simp only[cl0,HB] at hc
   exact .agg ys hl (λi hi=>ih _ _ (hc _ (QE hi)) (hy i hi))
  |tup ys hl hy=>
   simp only[cl0,HB] at hc
   exact .tup ys hl (λi hi=>ih _ _ (hc _ (QE hi)) (hy i hi))
  |_=>simp[cl0] at hc
def Cj (C:Ctx) (w:World) (aZ:List AV) (ys:List Value):Prop:=ys.length=aZ.length∧∀(i:Nat) (a:AV),aZ[i]?=some a→∃y,ys[i]?=some y∧VRel C w a y
theorem Cj.mono {O:Nat→Prop} {C C':Ctx} {w w':World} {aZ:List AV} {ys:List Value} (h:Cj C w aZ ys) (e:Ext O C w C' w'):Cj C' w' aZ ys:=
 ⟨h.1,λi a ha=>let⟨y,hy,hv⟩:=h.2 i a ha;⟨y,hy,hv.mono e⟩⟩
theorem Cj.up {C C':Ctx} {w:World} {aZ:List AV} {ys:List Value} (h:Cj C.bare w aZ ys) (hF:C'.F=C.F) (hB:C'.B=C.B):Cj C' w aZ ys:=
 ⟨h.1,λi a ha=>let⟨y,hy,hv⟩:=h.2 i a ha;⟨y,hy,hv.up hF hB⟩⟩
theorem Cj.down {C C':Ctx} {w:World} {aZ:List AV} {ys:List Value} (k:Nat) (hc:aZ.all (cl0 k)=true) (h:Cj C w aZ ys) (hF:C'.F=C.F) (hB:C'.B=C.B):Cj C' w aZ ys:=
 ⟨h.1,λi a ha=>let⟨y,hy,hv⟩:=h.2 i a ha;⟨y,hy,hv.down hF hB k _ _ (HB.1 hc _ (l1h ha))⟩⟩
theorem Cj.nil {C:Ctx} {w:World}:Cj C w [] []:=⟨rfl,λ_ _ h=>by simp at h⟩
theorem Cj.cons {C:Ctx} {w:World} {a:AV} {y:Value} {aZ:List AV} {ys:List Value} (h:VRel C w a y) (hs:Cj C w aZ ys):Cj C w (a::aZ) (y::ys):=
 ⟨by simp[hs.1],λi b hb=>by
  cases i with
  |zero=>simp at hb;subst hb;exact⟨y,rfl,h⟩
  |succ i=>simpa using hs.2 i b (by simpa using hb)⟩
theorem Cj.cons_inv {C:Ctx} {w:World} {a:AV} {aZ:List AV} {ys:List Value} (h:Cj C w (a::aZ) ys):∃y ys',ys=y::ys'∧VRel C w a y∧Cj C w aZ ys':=by
 cases ys with
 |nil=>simp[Cj] at h
 |cons y ys=>
  obtain⟨z,hz,hv⟩:=h.2 0 a rfl
  simp at hz
  subst hz
  exact⟨y,ys,rfl,hv,by simpa using h.1,λi b hb=>by simpa using h.2 (i+1) b (by simpa using hb)⟩
theorem Cj.nil_inv {C:Ctx} {w:World} {ys:List Value} (h:Cj C w [] ys):ys=[]:=l1s (by simpa using h.1)
theorem Cj.get {C:Ctx} {w:World} {aZ:List AV} {ys:List Value} (h:Cj C w aZ ys) (i:Nat) (hi:i<aZ.length):VRel C w aZ[i] (ys[i]'(by rw[h.1];exact hi)):=by
 obtain⟨y,hy,hv⟩:=h.2 i aZ[i] (Kq hi)
 rw[Kq (by rw[h.1];exact hi)] at hy
 injection hy with hy
 rw[hy];exact hv
theorem Cj.take {C:Ctx} {w:World} {aZ:List AV} {ys:List Value} (h:Cj C w aZ ys) (k:Nat):Cj C w (aZ.take k) (ys.take k):=
 ⟨by simp[h.1],λi a ha=>by
  rw[l0m] at ha⊢
  split at ha
  ·rename_i hk;rw[if_pos hk];exact h.2 i a ha
  ·simp at ha⟩
theorem Cj.drop {C:Ctx} {w:World} {aZ:List AV} {ys:List Value} (h:Cj C w aZ ys) (k:Nat):Cj C w (aZ.drop k) (ys.drop k):=
 ⟨by simp[h.1],λi a ha=>by
  rw[l0d] at ha⊢
  exact h.2 _ a ha⟩
theorem Cj.append {C:Ctx} {w:World} {aZ bs:List AV} {ys zs:List Value} (h:Cj C w aZ ys) (k:Cj C w bs zs):Cj C w (aZ++bs) (ys++zs):=
 ⟨by simp[h.1,k.1],λi a ha=>by
  rw[List.getElem?_append] at ha⊢
  rw[h.1]
  split at ha
  ·rename_i hi;rw[if_pos hi];exact h.2 i a ha
  ·rename_i hi;rw[if_neg hi];exact k.2 _ a ha⟩
theorem Cj.set {C:Ctx} {w:World} {aZ:List AV} {ys:List Value} (h:Cj C w aZ ys) (k:Nat) {a:AV} {y:Value} (hv:VRel C w a y):Cj C w (aZ.set k a) (ys.set k y):=
 ⟨by simp[h.1],λi b hb=>by
  rw[List.getElem?_set] at hb⊢
  rw[h.1]
  split at hb
  ·rename_i hk
   rw[if_pos hk]
   split at hb
   ·rename_i hl;rw[if_pos hl];simp at hb;subst hb;exact⟨y,rfl,hv⟩
   ·simp at hb
  ·rename_i hk;rw[if_neg hk];exact h.2 i b hb⟩
theorem ER {C:Ctx} {w:World} {cs:List AV} {y:Value}:VRel C w (.agg cs) y↔∃ys:List Value,y= .agg ys.toArray∧Cj C w cs ys:=by
 constructor
 ·intro h
  cases h with
  |agg ys hl hy=>
   refine⟨ys.toList,by simp,by simpa using hl,λi a ha=> ?_⟩
   obtain⟨hi,rfl⟩:=l0j.1 ha
   have h1:=hy i hi
   refine⟨_,?_,h1⟩
   simp[hl,hi]
 ·rintro⟨ys,rfl,hl,h⟩
  refine .agg _ (by simpa using hl) λi hi=> ?_
  obtain⟨y,hy,hv⟩:=h i _ (Kq hi)
  have:ys.toArray.getD i undef=y:=by simp[Zk,hy]
  rw[this];exact hv
theorem DI {C:Ctx} {w:World} {cs:List AV} {y:Value}:VRel C w (.tup cs) y↔∃ys:List Value,y= .tuple ys.toArray∧Cj C w cs ys:=by
 constructor
 ·intro h
  cases h with
  |tup ys hl hy=>
   refine⟨ys.toList,by simp,by simpa using hl,λi a ha=> ?_⟩
   obtain⟨hi,rfl⟩:=l0j.1 ha
   have h1:=hy i hi
   refine⟨_,?_,h1⟩
   simp[hl,hi]
 ·rintro⟨ys,rfl,hl,h⟩
  refine .tup _ (by simpa using hl) λi hi=> ?_
  obtain⟨y,hy,hv⟩:=h i _ (Kq hi)
  have:ys.toArray.getD i undef=y:=by simp[Zk,hy]
  rw[this];exact hv
theorem AI {C:Ctx} {w:World} {x y:Value}:VRel C w (.v x) y↔y=x:=⟨λh=>by cases h;rfl,λh=>by subst h;exact .v _⟩
theorem HH {C:Ctx} {w:World} {f:Fn} {fs cs:List AV} {y:Value}:VRel C w (.fn f fs cs) y↔∃ys zs:List Value,y= .func f ys.toArray zs.toArray∧Cj C w fs ys∧Cj C w cs zs:=by
 constructor
 ·intro h
  cases h with
  |fn ys zs hl hl' hy hz=>
   refine⟨ys.toList,zs.toList,by simp,⟨by simpa using hl,λi a ha=> ?_⟩,by simpa using hl',λi a ha=> ?_⟩
   ·obtain⟨hi,rfl⟩:=l0j.1 ha
    have h1:=hy i hi
    refine⟨_,?_,h1⟩
    simp[hl,hi]
   ·obtain⟨hi,rfl⟩:=l0j.1 ha
    have h1:=hz i hi
    refine⟨_,?_,h1⟩
    simp[hl',hi]
 ·rintro⟨ys,zs,rfl,⟨hl,h⟩,hl',h'⟩
  refine .fn _ _ (by simpa using hl) (by simpa using hl') (λi hi=> ?_) λi hi=> ?_
  ·obtain⟨y,hy,hv⟩:=h i _ (Kq hi)
   have:ys.toArray.getD i undef=y:=by simp[Zk,hy]
   rw[this];exact hv
  ·obtain⟨y,hy,hv⟩:=h' i _ (Kq hi)
   have:zs.toArray.getD i undef=y:=by simp[Zk,hy]
   rw[this];exact hv
end Go.Abs
end
noncomputable section
namespace Go.Abs
open Go.RowKit
abbrev Tm:=List (Nat×AV)
def Gn:Tm→Nat→AV
 |[],_=> .dk
 |(k,v)::t,i=>if i=k then v else Gn t i
def Tx (C:Ctx) (w:World) (t:Tm) (tmps:Array Value):Prop:=∀i,VRel C w (Gn t i) (tmps.getD i undef)
theorem Tx.mono {O:Nat→Prop} {C C':Ctx} {w w':World} {t:Tm} {tmps:Array Value} (h:Tx C w t tmps) (e:Ext O C w C' w'):Tx C' w' t tmps:= λi=>(h i).mono e
inductive Row where
 |cells (q:Bool) (T:TypeId) (cs:List AV)
 |map (q:Bool) (es:List (Value×AV)) (bo:Option (List Nat×Nat))
 |loop (N:Nat) (t:Tm) (ps:Array Tmp) (aZ bd:Code) (pend:Option (Option Code))
 |iter (left:List (Value×AV)) (last:Option (Value×AV))
 |gone
def Row.live:Row→Option Row
 | .gone=>none
 |x=>some x
abbrev Hp:=List (Nat×Row)
def Aq:Hp→Nat→Option Row
 |[],_=>none
 |(k,x)::l,r=>if r=k then x.live else Aq l r
def upd:Hp→Nat→Row→Hp
 |[],_,_=>[]
 |(k,x)::l,r,y=>if r=k then(k,y)::l else(k,x)::upd l r y
def cut (H:Hp) (r:Nat):Hp:=upd H r .gone
def A2:Hp→Nat
 |[]=>0
 |(k,_)::_=>k+1
theorem BY (H:Hp) (r:Nat) (y:Row):A2 (upd H r y)=A2 H:=by
 cases H with
 |nil=>rfl
 |cons p H=>
  obtain⟨k,z⟩:=p
  by_cases hk:r=k<;>simp[upd,hk,A2]
theorem Ed {H:Hp} {r:Nat} {x y:Row} (h:Aq H r=some x):Aq (upd H r y) r=y.live:=by
 induction H with
 |nil=>simp[Aq] at h
 |cons p H ih=>
  obtain⟨k,z⟩:=p
  simp only[Aq] at h
  by_cases hk:r=k
  ·simp[upd,hk,Aq]
  ·simp only[if_neg hk] at h;simp[upd,hk,Aq,ih h]
theorem Ap {H:Hp} {r s:Nat} {y:Row} (h:s≠r):Aq (upd H r y) s=Aq H s:=by
 induction H with
 |nil=>rfl
 |cons p H ih=>
  obtain⟨k,z⟩:=p
  by_cases hk:r=k
  ·subst hk;simp[upd,Aq,h]
  ·simp only[upd,if_neg hk,Aq,ih]
theorem KO {H:Hp} {r:Nat}:Aq (cut H r) r=none:=by
 induction H with
 |nil=>rfl
 |cons p H ih=>
  obtain⟨k,z⟩:=p
  by_cases hk:r=k
  ·simp[cut,upd,hk,Aq,Row.live]
  ·simp only[cut,upd,if_neg hk,Aq];exact ih
theorem Ol {H:Hp} {r s:Nat} (h:s≠r):Aq (cut H r) s=Aq H s:=Ap h
theorem Xi {x y:Row} (h:x.live=some y):x=y∧y≠.gone:=by cases x<;>simp[Row.live] at h<;>subst h<;>simp
theorem Fa {H:Hp} {r:Nat} {x:Row} (h:Aq H r=some x):x≠.gone:=by
 induction H with
 |nil=>simp[Aq] at h
 |cons p H ih=>
  obtain⟨k,z⟩:=p
  simp only[Aq] at h
  split at h
  ·exact(Xi h).2
  ·exact ih h
def Ctx.sel (C:Ctx) (_:Bool):Ctx:=C
theorem VRel.unsel {C:Ctx} {w:World} {q:Bool} {a:AV} {y:Value} (h:VRel (C.sel q) w a y):VRel C w a y:=h
theorem Cj.unsel {C:Ctx} {w:World} {q:Bool} {aZ:List AV} {ys:List Value} (h:Cj (C.sel q) w aZ ys):Cj C w aZ ys:=h
theorem Ext.sel {O:Nat→Prop} {C C':Ctx} {w w':World} (h:Ext O C w C' w') (q:Bool):Ext O (C.sel q) w (C'.sel q) w':=h
structure Base where
 w:World
 U:Nat→Prop
def Base.own (B:Base) (b:Nat):Prop:=B.w.heap.size≤b∨B.U b
structure Keep (B:Base) (w:World):Prop where
 os:w.os=B.w.os
 tape:w.tape=B.w.tape
 output:w.output=B.w.output
 size:B.w.heap.size≤w.heap.size
 block:∀b,b<B.w.heap.size→¬B.U b→w.heap[b]?=B.w.heap[b]?
theorem Keep.refl (w:World) (U:Nat→Prop):Keep ⟨w,U⟩ w:=⟨rfl,rfl,rfl,OV _,λ_ _ _=>rfl⟩
theorem Keep.below {B:Base} {w w':World} (h:Keep B w) (hb:Below w.heap.size w w'):Keep B w':=
 ⟨hb.os.trans h.os,hb.tape.trans h.tape,hb.output.trans h.output,l1m h.size hb.size,λb hlt hU=>(hb.block b (l2m hlt h.size)).trans (h.block b hlt hU)⟩
structure Laid (C:Ctx) (w:World) (r:Nat) (q:Bool) (T:TypeId) (cs:List AV) (b base:Nat) (arr:Array Value) (fz:Nat×Nat):Prop where
 at_:C.π r=some (some (b,base))
 block:w.heap[b]?=some (.cells arr T fz)
 free:∀i,i<arr.size→¬(fz.1≤i∧i<fz.2)
 fits:base+cs.length≤arr.size
 vals:Cj (C.sel q) w cs ((arr.toList.drop base).take cs.length)
 exact:q=true→base=0∧arr.size=cs.length
def Kg (C:Ctx) (w:World) (es:List (Value×AV)) (ms:List MapEntry):Prop:=
 ms.length=es.length∧∀(i:Nat) (p:Value×AV),es[i]?=some p→∃m:MapEntry,ms[i]?=some m∧m.key=p.1∧VRel C w p.2 m.val
structure MOk (ms:Array MapEntry) (clock:Nat):Prop where
 born:ms.toList.Pairwise λa b=>a.born≠b.born
 lt:∀m∈ms.toList,m.born<clock
def BOk:Option (List Nat×Nat)→Array MapEntry→Nat→Prop
 |none,_,_=>True
 |some (bs,c),ms,clock=>ms.toList.map (·.born)=bs∧clock=c
theorem Kg.mono {O:Nat→Prop} {C C':Ctx} {w w':World} {es:List (Value×AV)} {ms:List MapEntry} (h:Kg C w es ms) (e:Ext O C w C' w'):Kg C' w' es ms:=
 ⟨h.1,λi p hp=>let⟨m,hm,hk,hv⟩:=h.2 i p hp;⟨m,hm,hk,hv.mono e⟩⟩
def Wt (C:Ctx) (w:World) (ms:Array MapEntry) (seen:Array Nat):Option (Value×AV)→Prop
 |none=>True
 |some p=>∃m∈ms.toList,seen.back?=some m.born∧m.key=p.1∧VRel C w p.2 m.val
theorem Wt.mono {O:Nat→Prop} {C C':Ctx} {w w':World} {ms:Array MapEntry} {seen:Array Nat}:∀{x:Option (Value×AV)},Wt C w ms seen x→Ext O C w C' w'→Wt C' w' ms seen x
 |none,_,_=>trivial
 |some _,⟨m,h1,h2,h3,h4⟩,e=>⟨m,h1,h2,h3,h4.mono e⟩
def B6P:Option (Option Code)→LoopState
 |none=> .busy
 |some none=> .ready
 |some (some _)=> .done
def QA (C:Ctx) (w:World) (r:Nat):Row→Prop
 | .cells q T cs=>(cs=[]∧C.π r=some none)∨∃b base arr fz,Laid C w r q T cs b base arr fz
 | .map q es bo=>∃(b:Nat) (ms:Array MapEntry) (clock:Nat),C.π r=some (some (b,0))∧w.heap[b]?=some (.map ms clock)∧MOk ms clock∧Kg (C.sel q) w es ms.toList∧BOk bo ms clock
 | .loop N t ps aZ bd pend=>∃(b:Nat) (l:Loop),C.π r=some (some (b,0))∧w.heap[b]?=some (.loop l)∧l.state=B6P pend∧l.pending=pend.join∧l.tmps.size=N∧l.params=ps∧l.assign=aZ∧l.body=bd∧Tx C w t l.tmps
 | .iter left lst=>∃(b:Nat) (mo:Option Nat) (since:Nat) (seen:Array Nat) (last:Nat),C.π r=some (some (b,0))∧w.heap[b]?=some (.mapIter mo since seen last)∧
  ((mo=none∧left=[]∧lst=none)∨∃(m:Nat) (ms:Array MapEntry) (clock:Nat),mo=some m∧since=clock∧last=clock∧C.B m∧w.heap[m]?=some (.map ms clock)∧MOk ms clock∧Kg C.bare w left (ms.toList.filter λe=> !seen.contains e.born)∧Wt C.bare w ms seen lst)
 | .gone=>True
def B8N (G:Nat→Option (List Value)) (F:Nat→Nat→Prop) (w:World):Prop:=∀(g:Nat) (cs:List Value),G g=some cs→∀(i:Nat) (v:Value),cs[i]?=some v→F g i∧w.cell? ⟨g,i,none⟩=some v
structure Rel (G:Nat→Option (List Value)) (w0:Base) (C:Ctx) (H:Hp) (w:World):Prop where
 glob:B8N G C.F w
 below:Keep w0 w
 lt:∀r x,Aq H r=some x→C.π r≠none
 rows:∀r x,Aq H r=some x→QA C w r x
 own:∀r x b o,Aq H r=some x→C.π r=some (some (b,o))→w0.own b∧(∀i,¬C.F b i)∧¬C.B b
 sep:∀r r' x x' b o o',Aq H r=some x→Aq H r'=some x'→C.π r=some (some (b,o))→C.π r'=some (some (b,o'))→r=r'
 fin:∀b i,C.F b i→b<w.heap.size
 finB:∀b,C.B b→b<w.heap.size
 nx:∀r,A2 H≤r→C.π r=none
section
variable {G:Nat→Option (List Value)} {w0:Base} {C C':Ctx} {H H':Hp} {w w':World} {O:Nat→Prop} {r:Nat} {q:Bool} {T:TypeId} {cs:List AV} {b base:Nat} {arr:Array Value} {fz:Nat×Nat}
theorem B8N.mono (h:B8N G C.F w) (e:Ext O C w C' w'):B8N G C'.F w':= λg cs hg i v hv=>⟨e.F _ _ (h g cs hg i v hv).1,(e.keep _ _ (h g cs hg i v hv).1).trans (h g cs hg i v hv).2⟩
theorem Laid.lt (h:Laid C w r q T cs b base arr fz):b<w.heap.size:=(l1q.1 h.block).1
theorem Laid.cell (h:Laid C w r q T cs b base arr fz) (i:Nat):w.cell? ⟨b,i,none⟩=arr[i]?:=cell_of_row w b i arr T fz h.block
theorem Laid.get (h:Laid C w r q T cs b base arr fz) (i:Nat) (hi:i<cs.length):∃v,w.cell? ⟨b,base+i,none⟩=some v∧VRel C w cs[i] v:=by
 obtain⟨y,hy,hv⟩:=h.vals.2 i _ (Kq hi)
 refine⟨y,?_,hv.unsel⟩
 rw[h.cell]
 rw[l0m,if_pos hi,l0d] at hy
 simpa using hy
theorem Laid.frozen (h:Laid C w r q T cs b base arr fz) (i:Nat) (hi:i<arr.size):w.frozen? ⟨b,i,none⟩=false:=by
 have:=h.free i hi
 simp only[World.frozen?,h.block]
 simp
 intro h1
 omega
theorem Laid.mono (h:Laid C w r q T cs b base arr fz) (e:Ext O C w C' w') (hb:w'.heap[b]?=w.heap[b]?):Laid C' w' r q T cs b base arr fz:=
 ⟨e.at h.at_,hb.trans h.block,h.free,h.fits,h.vals.mono (e.sel q),h.exact⟩
theorem QA.mono {x:Row} (h:QA C w r x) (e:Ext O C w C' w') (hb:∀b base,C.π r=some (some (b,base))→w'.heap[b]?=w.heap[b]?):QA C' w' r x:=by
 cases x with
 |cells q T cs=>
  rcases h with⟨h1,h2⟩|⟨b,base,arr,fz,h⟩
  ·exact .inl ⟨h1,e.at h2⟩
  ·exact .inr ⟨b,base,arr,fz,h.mono e (hb b base h.at_)⟩
 |map q es bo=>
  obtain⟨b,ms,clock,h1,h3,h4,h5,h6⟩:=h
  exact⟨b,ms,clock,e.at h1,(hb b 0 h1).trans h3,h4,h5.mono (e.sel q),h6⟩
 |loop N t ps aZ bd pend=>
  obtain⟨b,l,h1,h2,h3,h4,h5,h6,h7,h8,h9⟩:=h
  exact⟨b,l,e.at h1,(hb b 0 h1).trans h2,h3,h4,h5,h6,h7,h8,h9.mono e⟩
 |iter left lst=>
  obtain⟨b,mo,since,seen,last,h1,h2,h3⟩:=h
  refine⟨b,mo,since,seen,last,e.at h1,(hb b 0 h1).trans h2,?_⟩
  rcases h3 with h3|⟨m,ms,clock,e1,e2,e3,h4,h5,h6,h7,h8⟩
  ·exact .inl h3
  ·exact .inr ⟨m,ms,clock,e1,e2,e3,e.B _ h4,(e.keepB _ h4).trans h5,h6,h7.mono e.bare,h8.mono e.bare⟩
 |gone=>trivial
theorem QA.block {x:Row} (h:QA C w r x) (hx:x≠.gone) (hb:C.π r=some (some (b,base))):b<w.heap.size:=by
 have key:∀{b':Nat} {o:Nat} {ob:Obj},C.π r=some (some (b',o))→w.heap[b']?=some ob→b<w.heap.size:= λh1 h2=>by
  have:=h1.symm.trans hb
  injection this with this
  injection this with this
  injection this with e1 e2
  subst e1
  exact(l1q.1 h2).1
 cases x with
 |cells q T cs=>
  rcases h with⟨h1,h2⟩|⟨b',base',arr,fz,h⟩
  ·rw[h2] at hb;cases hb
  ·exact key h.at_ h.block
 |map q es bo=>
  obtain⟨b',ms,clock,h1,h3,h4,h5,_⟩:=h
  exact key h1 h3
 |loop N t ps aZ bd pend=>
  obtain⟨b',l,h1,h2,_⟩:=h
  exact key h1 h2
 |iter left lst=>
  obtain⟨b',mo,since,seen,last,h1,h2,h3⟩:=h
  exact key h1 h2
 |gone=>exact absurd rfl hx
theorem Rel.sub (h:Rel G w0 C H w) (hs:∀r x,Aq H' r=some x→Aq H r=some x) (hl:A2 H≤A2 H'):Rel G w0 C H' w:=
 ⟨h.glob,h.below,λr x hx=>h.lt r x (hs r x hx),λr x hx=>h.rows r x (hs r x hx),λr x b o hx=>h.own r x b o (hs r x hx),λr r' x x' b o o' hx hx'=>h.sep r r' x x' b o o' (hs r x hx) (hs r' x' hx'),h.fin,h.finB,λr hr=>h.nx r (l1m hl hr)⟩
theorem Rel.cut_row (h:Rel G w0 C H w) (r:Nat):Rel G w0 C (cut H r) w:=
 h.sub (λs x hx=>by
  by_cases hs:s=r
  ·subst hs;rw[KO] at hx;cases hx
  ·rwa[Ol hs] at hx) (by rw[cut,BY];exact OV _)
theorem Ext.of_below (hb:Below w.heap.size w w') (hf:∀b i,C.F b i→b<w.heap.size) (hfB:∀b,C.B b→b<w.heap.size):Ext O C w C w':=
 ⟨λ_ _=>rfl,λ_ _ h=>h,λb i h=>hb.cell (p:=⟨b,i,none⟩) (hf b i h),λ_ h=>h,λb h=>hb.block b (hfB b h),
  λb arr T fz h=>⟨arr,fz,(hb.block b (l1q.1 h).1).trans h,rfl⟩,λ_ _ h=> .inl h,λ_ h=> .inl h,hb.size⟩
theorem Rel.ext_below (h:Rel G w0 C H w) (hb:Below w.heap.size w w'):Ext O C w C w':=Ext.of_below hb h.fin h.finB
theorem Rel.of_below (h:Rel G w0 C H w) (hb:Below w.heap.size w w'):Rel G w0 C H w':=
 have e:Ext (λ_=>False) C w C w':=h.ext_below hb
 ⟨h.glob.mono e,h.below.below hb,h.lt,λr x hx=>(h.rows r x hx).mono e (λb base hp=>hb.block b ((h.rows r x hx).block (Fa hx) hp)),
  h.own,h.sep,λb i hF=>l2m (h.fin b i hF) hb.size,λb hB=>l2m (h.finB b hB) hb.size,h.nx⟩
def Ctx.put (C:Ctx) (r:Nat) (p:Option (Nat×Nat)):Ctx:={π:= λs=>if s=r then some p else C.π s,F:=C.F,B:=C.B}
theorem Ctx.put_n (C:Ctx) (r:Nat) (p:Option (Nat×Nat)):(C.put r p).π r=some p:=by simp[Ctx.put]
theorem Ctx.put_ne (C:Ctx) {r s:Nat} (p:Option (Nat×Nat)) (h:s≠r):(C.put r p).π s=C.π s:=by simp[Ctx.put,h]
theorem Ctx.put_ext {p:Option (Nat×Nat)} (hr:C.π r=none) (e:Ext O C w C w'):Ext O C w (C.put r p) w':=
 ⟨λs hs=>C.put_ne p (λe=>hs (e▸hr)),e.F,e.keep,e.B,e.keepB,e.size,e.new,e.newB,e.grow⟩
theorem A3H (h:Rel G w0 C H w) {r:Nat} (hr:C.π r≠none):r<A2 H:=by
 rcases Nat.lt_or_ge r (A2 H) with h1|h1
 ·exact h1
 ·exact absurd (h.nx r h1) hr
theorem Rel.new_row (h:Rel G w0 C H w) {x:Row} (hb:Below w.heap.size w w') (hnew:QA (C.put (A2 H) (some (w.heap.size,0))) w' (A2 H) x):Rel G w0 (C.put (A2 H) (some (w.heap.size,0))) ((A2 H,x)::H) w':=by
 have hfr:C.π (A2 H)=none:=h.nx _ (OV _)
 have e:Ext (λ_=>False) C w (C.put (A2 H) (some (w.heap.size,0))) w':=Ctx.put_ext hfr (h.ext_below hb)
 have hat:(C.put (A2 H) (some (w.heap.size,0))).π (A2 H)=some (some (w.heap.size,0)):=C.put_n _ _
 have hold:∀r x,Aq H r=some x→r≠A2 H:= λr x hx e=>h.lt r x hx (e▸hfr)
 refine⟨h.glob.mono e,h.below.below hb,?_,?_,?_,?_,λb i hF=>l2m (h.fin b i hF) hb.size,λb hB=>l2m (h.finB b hB) hb.size,?_⟩
 ·intro r x hx
  simp only[Aq] at hx
  split at hx
  ·rename_i hr;subst hr;rw[hat];simp
  ·rw[e.π r (h.lt r x hx)];exact h.lt r x hx
 ·intro r x hx
  simp only[Aq] at hx
  split at hx
  ·rename_i hr;subst hr;rw[←(Xi hx).1];exact hnew
  ·exact(h.rows r x hx).mono e (λb base hp=>hb.block b ((h.rows r x hx).block (Fa hx) hp))
 ·intro r x b o hx hp
  simp only[Aq] at hx
  split at hx
  ·rename_i hr;subst hr
   rw[hat] at hp
   injection hp with hp;injection hp with hp;injection hp with h1 h2;subst h1
   exact⟨.inl h.below.size,λi hF=>l1g _ (h.fin _ _ hF),λhB=>l1g _ (h.finB _ hB)⟩
  ·rw[C.put_ne _ (hold r x hx)] at hp
   exact h.own r x b o hx hp
 ·intro r r' x x' b o o' hx hx' hp hp'
  simp only[Aq] at hx hx'
  split at hx<;>split at hx'
  ·rename_i h1 h2;exact h1.trans h2.symm
  ·rename_i h1 h2;subst h1
   rw[hat] at hp
   rw[C.put_ne _ h2] at hp'
   injection hp with hp;injection hp with hp;injection hp with e1 e2;subst e1
   exact absurd ((h.rows r' x' hx').block (Fa hx') hp') (l1g _)
  ·rename_i h1 h2;subst h2
   rw[hat] at hp'
   rw[C.put_ne _ h1] at hp
   injection hp' with hp';injection hp' with hp';injection hp' with e1 e2;subst e1
   exact absurd ((h.rows r x hx).block (Fa hx) hp) (l1g _)
  ·rename_i h1 h2
   rw[C.put_ne _ h1] at hp
   rw[C.put_ne _ h2] at hp'
   exact h.sep r r' x x' b o o' hx hx' hp hp'
 ·intro r hr
  have hr:A2 H+1≤r:=hr
  rw[C.put_ne _ (by omega)]
  exact h.nx r (by omega)
theorem Rel.new_ext (h:Rel G w0 C H w) (hb:Below w.heap.size w w'):Ext O C w (C.put (A2 H) (some (w.heap.size,0))) w':=Ctx.put_ext (h.nx _ (OV _)) (h.ext_below hb)
theorem Rel.new (h:Rel G w0 C H w) (hb:Below w.heap.size w w') (hk:w'.heap[w.heap.size]?=some (.cells arr T fz)) (QO:∀i,i<arr.size→¬(fz.1≤i∧i<fz.2)) (hfit:cs.length≤arr.size)
 (hv:Cj (C.sel q) w cs (arr.toList.take cs.length)) (hq:q=true→arr.size=cs.length):Rel G w0 (C.put (A2 H) (some (w.heap.size,0))) ((A2 H,.cells q T cs)::H) w':=by
 have e:Ext (λ_=>False) C w (C.put (A2 H) (some (w.heap.size,0))) w':=h.new_ext hb
 exact h.new_row hb (Or.inr ⟨w.heap.size,0,arr,fz,C.put_n _ _,hk,QO,by omega,by simpa using hv.mono (e.sel q),λh=>⟨rfl,hq h⟩⟩)
end
def AV.one:AV→Bool
 | .v x=>x.oneCell'
 | .agg _=>false
 | .tup _=>false
 | .dk=>false
 |_=>true
def B8:AV→List AV
 | .agg cs=>cs
 |a=>[a]
theorem VRel.one {C:Ctx} {w:World} {a:AV} {y:Value} (h:VRel C w a y) (h1:a.one=true):y.oneCell'=true:=by
 cases h<;>first|exact h1|rfl|(simp[AV.one] at h1)
theorem B24 {y:Value} (h:y.oneCell'=true):y.cells= #[y]:=by cases y<;>first|rfl|(simp[Value.oneCell'] at h)
theorem VRel.cells {C:Ctx} {w:World} {a:AV} {y:Value} (h:VRel C w a y) (h1:(B8 a).all AV.one=true):Cj C w (B8 a) y.cells.toList∧∀v∈y.cells.toList,v.oneCell'=true:=by
 have key:∀(b:AV) (y:Value),VRel C w b y→B8 b=[b]→(B8 b).all AV.one=true→Cj C w (B8 b) y.cells.toList∧∀v∈y.cells.toList,v.oneCell'=true:=by
  intro b y hb e h1
  rw[e] at h1⊢
  have ho:y.oneCell'=true:=hb.one (by simpa using h1)
  rw[B24 ho]
  exact⟨.cons hb .nil,by simpa using ho⟩
 cases a with
 |agg cs=>
  obtain⟨ys,rfl,hl⟩:=ER.1 h
  refine⟨by simpa [B8,Value.cells] using hl,λv hv=> ?_⟩
  simp only[Value.cells] at hv
  obtain⟨i,hi⟩:=List.getElem?_of_mem hv
  have hlt:i<cs.length:=by
   have:=(l0j.1 hi).1
   rw[←hl.1];simpa using this
  have:=hl.get i hlt
  have h2:ys[i]'(by rw[hl.1];exact hlt)=v:=by simpa [l0j,hl.1,hlt] using hi
  rw[h2] at this
  exact this.one (HB.1 (by simpa [B8] using h1) _ (QE hlt))
 |v x=>exact key _ _ h rfl h1
 |ptr r p k=>exact key _ _ h rfl h1
 |iptr cs=>exact key _ _ h rfl h1
 |list n cs=>exact key _ _ h rfl h1
 |sl sz r o n=>exact key _ _ h rfl h1
 |fn f a b=>exact key _ _ h rfl h1
 |tup vs=>exact key _ _ h rfl h1
 |mp r=>exact key _ _ h rfl h1
 |imap es=>exact key _ _ h rfl h1
 |yl r=>exact key _ _ h rfl h1
 |it r=>exact key _ _ h rfl h1
 |dk=>exact key _ _ h rfl h1
def splice {α:Type} (l:List α) (o:Nat) (vs:List α):List α:=l.take o++vs++l.drop (o+vs.length)
theorem EN {α:Type} {l:List α} {o:Nat} {vs:List α} (h:o+vs.length≤l.length):(splice l o vs).length=l.length:=by simp[splice];omega
theorem Nk {α:Type} {l:List α} {o:Nat} {vs:List α} (h:o+vs.length≤l.length) (i:Nat):(splice l o vs)[i]?=if i<o then l[i]? else if i<o+vs.length then vs[i-o]? else l[i]?:=by
 unfold splice
 by_cases h1:i<o
 ·rw[if_pos h1,l0k,l0l (by simp;omega),l0m,if_pos h1]
 ·rw[if_neg h1]
  by_cases h2:i<o+vs.length
  ·rw[if_pos h2,l0k,l0n (by simp;omega),l0l (by simp;omega)]
   congr 1
   simp;omega
  ·rw[if_neg h2,l0n (by simp;omega),l0d]
   congr 1
   simp;omega
theorem A15 {α:Type} (l:List α) (o:Nat):splice l o []=l:=by simp[splice]
theorem Zb {α:Type} {l:List α} {o:Nat} {v:α} {vs:List α} (h:o+(v::vs).length≤l.length):splice (l.set o v) (o+1) vs=splice l o (v::vs):=by
 apply l0o
 intro i
 rw[Nk (by simp at h⊢;omega),Nk h]
 simp only[K9] at h⊢
 by_cases h1:i<o
 ·rw[if_pos h1,if_pos (by omega),List.getElem?_set_ne (by omega)]
 ·by_cases h2:i=o
  ·subst h2
   rw[if_pos (by omega),if_neg (by omega),if_pos (by omega),List.getElem?_set_self (by omega)]
   simp
  ·rw[if_neg h1,if_neg (by omega)]
   by_cases h3:i<o+(vs.length+1)
   ·rw[if_pos h3,if_pos (by omega)]
    have:i-o=(i-(o+1))+1:=by omega
    rw[this,l0q]
   ·rw[if_neg h3,if_neg (by omega),List.getElem?_set_ne (by omega)]
structure SameBut (w w':World) (b:Nat) (T:TypeId) (arr':Array Value) (fz:Nat×Nat):Prop where
 os:w'.os=w.os
 tape:w'.tape=w.tape
 output:w'.output=w.output
 size:w'.heap.size=w.heap.size
 here:w'.heap[b]?=some (.cells arr' T fz)
 others:∀k,k≠b→w'.heap[k]?=w.heap[k]?
theorem Lm {P:Program} {T:TypeId} {fz:Nat×Nat} {b:Nat} (vs:List Value):∀(w:World) (arr:Array Value) (o i:Nat),w.heap[b]?=some (.cells arr T fz)→(∀i,i<arr.size→¬(fz.1≤i∧i<fz.2))→
 o+i+vs.length≤arr.size→(∀v∈vs,v.oneCell'=true)→∃w',(storeCells ⟨b,o,none⟩ vs i).run P w= .ok () w'∧SameBut w w' b T (splice arr.toList (o+i) vs).toArray fz:=by
 induction vs with
 |nil=>intro w arr o i hb _ _ _;exact⟨w,rfl,rfl,rfl,rfl,rfl,by simp[A15,hb],λ_ _=>rfl⟩
 |cons v vs ih=>
  intro w arr o i hb QO hfit hone
  have hlt:o+i<arr.size:=by simp at hfit;omega
  have hadd:(⟨b,o,none⟩:Addr).add i=⟨b,o+i,none⟩:=by unfold Addr.add;split<;>simp_all
  have hcell:w.cell? ⟨b,o+i,none⟩=some arr[o+i]:=by simp[World.cell?,hb,hlt]
  have hfz:w.frozen? ⟨b,o+i,none⟩=false:=by
   have:=QO _ hlt
   simp only[World.frozen?,hb]
   simp;intro h1;omega
  have hb':(w.setCell ⟨b,o+i,none⟩ v).heap[b]?=some (.cells (arr.setIfInBounds (o+i) v) T fz):=by simp[World.setCell,l0r,hb]
  have hoth:∀k,k≠b→(w.setCell ⟨b,o+i,none⟩ v).heap[k]?=w.heap[k]?:= λk hk=>Below.heap_setCell w _ v k hk
  obtain⟨w',hr,hs⟩:=ih (w.setCell ⟨b,o+i,none⟩ v) (arr.setIfInBounds (o+i) v) o (i+1) hb' (by simpa using QO) (by simp at hfit⊢;omega) (λx hx=>hone x (by simp[hx]))
  refine⟨w',?_,hs.os.trans rfl,hs.tape.trans rfl,hs.output.trans rfl,hs.size.trans (by simp[World.setCell]),?_,λk hk=>(hs.others k hk).trans (hoth k hk)⟩
  ·simp only[storeCells,CI,hadd,run_store P w _ v _ (hone v (by simp)),hcell,hfz]
   simpa using hr
  ·rw[hs.here]
   have e:=Zb (l:=arr.toList) (o:=o+i) (v:=v) (vs:=vs) (by simpa using hfit)
   rw[←e]
   simp[Xk]
theorem Keep.same {B:Base} {w w':World} {b:Nat} {T:TypeId} {arr':Array Value} {fz:Nat×Nat} (h:Keep B w) (hs:SameBut w w' b T arr' fz) (ho:B.own b):Keep B w':=
 ⟨hs.os.trans h.os,hs.tape.trans h.tape,hs.output.trans h.output,by rw[hs.size];exact h.size,λk hk hU=>(hs.others k (λe=>by
  subst e
  rcases ho with ho|ho
  ·omega
  ·exact hU ho)).trans (h.block k hk hU)⟩
section
variable {G:Nat→Option (List Value)} {w0:Base} {C:Ctx} {H:Hp} {w w':World} {O:Nat→Prop} {r:Nat} {q:Bool} {T:TypeId} {cs aZ:List AV} {b base o:Nat} {arr:Array Value} {fz:Nat×Nat} {ys:List Value}
theorem SameBut.ext {arr':Array Value} (hs:SameBut w w' b T arr' fz) (hb:w.heap[b]?=some (.cells arr T fz)) (hsz:arr'.size=arr.size) (hF:∀i,¬C.F b i) (hB:¬C.B b):Ext O C w C w':=by
 refine⟨λ_ _=>rfl,λ_ _ h=>h,λk i h=> ?_,λ_ h=>h,λk h=>hs.others k (λe=>hB (e▸h)),λk a t f h=> ?_,λ_ _ h=> .inl h,λ_ h=> .inl h,Nat.le_of_eq hs.size.symm⟩
 ·have:k≠b:= λe=>hF i (e▸h)
  exact l0s (hs.others k this)
 ·by_cases e:k=b
  ·subst e
   rw[hb] at h
   injection h with h;injection h with h1 h2 h3
   subst h1 h2 h3
   exact⟨arr',fz,hs.here,hsz⟩
  ·exact⟨a,f,(hs.others k e).trans h,rfl⟩
theorem Rel.store (h:Rel G w0 C H w) (hl:Aq H r=some (.cells q T cs)) (hd:Laid C w r q T cs b base arr fz) (hfit:o+aZ.length≤cs.length) (hv:Cj (C.sel q) w aZ ys)
 (hs:SameBut w w' b T (splice arr.toList (base+o) ys).toArray fz):Rel G w0 C (upd H r (.cells q T (splice cs o aZ))) w'∧Ext O C w C w':=by
 have hown:=h.own r _ b base hl hd.at_
 have hyl:ys.length=aZ.length:=hv.1
 have hfit':=hd.fits
 have hsz:(splice arr.toList (base+o) ys).toArray.size=arr.size:=by
  simp only[List.size_toArray]
  rw[EN (by simp;omega)];simp
 have e:Ext O C w C w':=hs.ext hd.block hsz hown.2.1 hown.2.2
 refine⟨⟨h.glob.mono e,?_,?_,?_,?_,?_,λk i hF=>hs.size▸h.fin k i hF,λk hB=>hs.size▸h.finB k hB,λk hk=>h.nx k (by rw[BY] at hk;exact hk)⟩,e⟩
 ·exact h.below.same hs hown.1
 ·intro s x hx
  by_cases hsr:s=r
  ·subst hsr;exact h.lt s _ hl
  ·rw[Ap hsr] at hx;exact h.lt s x hx
 ·intro s x hx
  by_cases hsr:s=r
  ·subst hsr
   rw[Ed hl] at hx
   injection hx with hx;subst hx
   refine Or.inr ⟨b,base,_,fz,hd.at_,hs.here,by rw[hsz];exact hd.free,by rw[hsz,EN hfit];exact hd.fits,?_,by rw[hsz,EN hfit];exact hd.exact⟩
   have hall:=(hd.vals.mono (e.sel q))
   have hv':=hv.mono (e.sel q)
   refine⟨by rw[EN hfit,l0g,l0t,EN (by simp;omega)];simp;omega,λi a ha=> ?_⟩
   have hil:i<cs.length:=by
    have:=(l0j.1 ha).1
    rwa[EN hfit] at this
   rw[Nk hfit] at ha
   rw[EN hfit,l0m,if_pos hil,l0d,Nk (by simp;omega)]
   have hold:∀a,cs[i]?=some a→∃y,arr.toList[base+i]?=some y∧VRel (C.sel q) w' a y:= λa ha=>by
    obtain⟨y,hy,hva⟩:=hall.2 i a ha
    rw[l0m,if_pos hil,l0d] at hy
    exact⟨y,hy,hva⟩
   by_cases h1:i<o
   ·rw[if_pos h1] at ha
    rw[if_pos (by omega)]
    exact hold a ha
   ·rw[if_neg h1] at ha
    rw[if_neg (by omega)]
    by_cases h2:i<o+aZ.length
    ·rw[if_pos h2] at ha
     rw[if_pos (by omega)]
     have:base+i-(base+o)=i-o:=by omega
     rw[this]
     exact hv'.2 _ a ha
    ·rw[if_neg h2] at ha
     rw[if_neg (by omega)]
     exact hold a ha
  ·rw[Ap hsr] at hx
   refine(h.rows s x hx).mono e (λk base' hp=>hs.others k (λek=> ?_))
   subst ek
   exact hsr (h.sep s r x _ _ _ _ hx hl hp hd.at_)
 ·intro s x k o' hx hp
  by_cases hsr:s=r
  ·subst hsr;exact h.own s _ k o' hl hp
  ·rw[Ap hsr] at hx;exact h.own s x k o' hx hp
 ·intro s s' x x' k o1 o2 hx hx' hp hp'
  have key:∀p z,Aq (upd H r (.cells q T (splice cs o aZ))) p=some z→∃z',Aq H p=some z':= λp z hz=>by
   by_cases hq:p=r
   ·subst hq;exact⟨_,hl⟩
   ·rw[Ap hq] at hz;exact⟨z,hz⟩
  obtain⟨z,hz⟩:=key s x hx
  obtain⟨z',hz'⟩:=key s' x' hx'
  exact h.sep s s' z z' k o1 o2 hz hz' hp hp'
def Ctx.fix (C:Ctx) (b:Nat):Ctx:={C with F:= λk i=>C.F k i∨k=b}
theorem Ctx.fix_ext (hB:O b):Ext O C w (C.fix b) w:=
 ⟨λ_ _=>rfl,λ_ _ h=> .inl h,λ_ _ _=>rfl,λ_ h=>h,λ_ _=>rfl,λ_ a _ f h=>⟨a,f,h,rfl⟩,λk i h=>by rcases h with h|h;exact .inl h;exact .inr (h▸hB),λ_ h=> .inl h,OV _⟩
theorem Rel.freeze (h:Rel G w0 C H w) (hl:Aq H r=some (.cells q T cs)) (hd:Laid C w r q T cs b base arr fz):Rel G w0 (C.fix b) (cut H r) w∧Ext w0.own C w (C.fix b) w:=by
 have hown:=h.own r _ b base hl hd.at_
 have e:Ext w0.own C w (C.fix b) w:=Ctx.fix_ext hown.1
 have hsub:∀s x,Aq (cut H r) s=some x→s≠r∧Aq H s=some x:= λs x hx=>by
  by_cases hs:s=r
  ·subst hs;rw[KO] at hx;cases hx
  ·rw[Ol hs] at hx;exact⟨hs,hx⟩
 refine⟨⟨h.glob.mono e,h.below,λs x hx=>h.lt s x (hsub s x hx).2,λs x hx=>(h.rows s x (hsub s x hx).2).mono e (λ_ _ _=>rfl),?_,?_,?_,h.finB,?_⟩,e⟩
 ·intro s x k o' hx hp
  have hk:=h.own s x k o' (hsub s x hx).2 hp
  refine⟨hk.1,λi hF=> ?_,hk.2.2⟩
  rcases hF with hF|hF
  ·exact hk.2.1 i hF
  ·subst hF
   exact(hsub s x hx).1 (h.sep s r x _ _ _ _ (hsub s x hx).2 hl hp hd.at_)
 ·intro s s' x x' k o1 o2 hx hx' hp hp'
  exact h.sep s s' x x' k o1 o2 (hsub s x hx).2 (hsub s' x' hx').2 hp hp'
 ·intro k i hF
  rcases hF with hF|hF
  ·exact h.fin k i hF
  ·subst hF;exact hd.lt
 ·intro k hk
  rw[cut,BY] at hk
  exact h.nx k hk
end
end Go.Abs
end
