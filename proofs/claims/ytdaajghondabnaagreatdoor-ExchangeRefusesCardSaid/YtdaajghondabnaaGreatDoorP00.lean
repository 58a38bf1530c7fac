import Derived.CallsIn
import Derived.Below
import Derived.Laws.Rows
import Derived.TacticsIn
/- Proved: ExchangeRefusesCardSaid, the card of the law ExchangeRefuses. Conditions: none beyond the given statement's own. -/
set_option linter.all false
set_option maxHeartbeats 100000000
noncomputable section
abbrev r_{p:Prop}(h:p):p:=h
theorem rE:type_of% @List.flatMap_cons:=@List.flatMap_cons
theorem Z6:type_of% @List.map_append:=@List.map_append
theorem EK:type_of% @List.length_append:=@List.length_append
theorem Kd:type_of% @Nat.zero_add:=@Nat.zero_add
theorem oH:type_of% @List.take_succ_eq_append_getElem:=@List.take_succ_eq_append_getElem
theorem Qk:type_of% @List.getElem_mem:=@List.getElem_mem
theorem wQ:type_of% @List.take_length:=@List.take_length
theorem Dm:type_of% @Go.Sem.run_bind:=@Go.Sem.run_bind
theorem Gc:type_of% @Go.Result.andThen_ok:=@Go.Result.andThen_ok
theorem kD:type_of% @Nat.add_assoc:=@Nat.add_assoc
theorem yH:type_of% @List.getElem?_map:=@List.getElem?_map
theorem mI:type_of% @Go.Sem.run_pure:=@Go.Sem.run_pure
theorem qI:type_of% @Array.ext':=@Array.ext'
theorem qH:type_of% @List.getElem?_drop:=@List.getElem?_drop
theorem UW:type_of% @List.getD_eq_getElem?_getD:=@List.getD_eq_getElem?_getD
theorem KL:type_of% @List.getElem?_eq_getElem:=@List.getElem?_eq_getElem
theorem l0h:type_of% @List.length_take:=@List.length_take
theorem GG:type_of% @List.all_eq_true:=@List.all_eq_true
theorem KR:type_of% @List.mem_range:=@List.mem_range
theorem zT:type_of% @List.getElem?_eq_some_iff:=@List.getElem?_eq_some_iff
theorem fQ:type_of% @List.append_assoc:=@List.append_assoc
theorem l0m:type_of% @List.getElem?_append_left:=@List.getElem?_append_left
theorem zR:type_of% @List.getElem?_take:=@List.getElem?_take
theorem l0o:type_of% @List.getElem?_append_right:=@List.getElem?_append_right
theorem l0p:type_of% @List.ext_getElem?:=@List.ext_getElem?
theorem Mi:type_of% @List.length_cons:=@List.length_cons
theorem l0r:type_of% @List.getElem?_cons_succ:=@List.getElem?_cons_succ
theorem l0s:type_of% @Array.getElem?_modify:=@Array.getElem?_modify
theorem l0t:type_of% @Go.World.cell?_of_block:=@Go.World.cell?_of_block
theorem l0u:type_of% @List.length_drop:=@List.length_drop
theorem Mh:type_of% @Nat.le_refl:=@Nat.le_refl
theorem KF:type_of% @Bool.and_eq_true:=@Bool.and_eq_true
theorem vA:type_of% @Bool.eq_iff_iff:=@Bool.eq_iff_iff
theorem zQ:type_of% @Option.map_some:=@Option.map_some
theorem l0z:type_of% @Option.some.injEq:=@Option.some.injEq
theorem yG:type_of% @Bool.false_eq_true:=@Bool.false_eq_true
theorem l15:type_of% @List.getElem?_toArray:=@List.getElem?_toArray
theorem uZ:type_of% @List.drop_eq_getElem_cons:=@List.drop_eq_getElem_cons
theorem Re:type_of% @List.length_nil:=@List.length_nil
theorem rC:type_of% @Nat.beq_eq:=@Nat.beq_eq
theorem l19:type_of% @Bool.not_eq_true':=@Bool.not_eq_true'
theorem l1a:type_of% @List.drop_drop:=@List.drop_drop
theorem l1b:type_of% @Bool.true_and:=@Bool.true_and
theorem l1c:type_of% @List.replicate_succ:=@List.replicate_succ
theorem l1d:type_of% @List.flatten_cons:=@List.flatten_cons
theorem l1e:type_of% @Nat.add_mul:=@Nat.add_mul
theorem l1f:type_of% @List.length_eq_one_iff:=@List.length_eq_one_iff
theorem l1g:type_of% @Bool.and_true:=@Bool.and_true
theorem l1h:type_of% @Nat.zero_le:=@Nat.zero_le
theorem l1i:type_of% @Bool.or_eq_true:=@Bool.or_eq_true
theorem l1j:type_of% @List.getElem?_eq_none:=@List.getElem?_eq_none
theorem Xi:type_of% @Nat.blt_eq:=@Nat.blt_eq
theorem l1l:type_of% @Nat.lt_irrefl:=@Nat.lt_irrefl
theorem l1m:type_of% @List.mem_of_getElem?:=@List.mem_of_getElem?
theorem XI:type_of% @List.map_cons:=@List.map_cons
theorem fO:type_of% @Array.getD_eq_getD_getElem?:=@Array.getD_eq_getD_getElem?
theorem l1p:type_of% @Array.getElem?_eq_getElem:=@Array.getElem?_eq_getElem
theorem l1q:type_of% @Option.getD_some:=@Option.getD_some
theorem XV:type_of% @Nat.le_trans:=@Nat.le_trans
theorem rB:type_of% @List.drop_zero:=@List.drop_zero
theorem V0:type_of% @List.append_nil:=@List.append_nil
theorem l1u:type_of% @Nat.le_succ:=@Nat.le_succ
theorem l1v:type_of% @Array.getElem?_eq_some_iff:=@Array.getElem?_eq_some_iff
theorem kC:type_of% @Nat.ble_eq:=@Nat.ble_eq
theorem mH:type_of% @List.eq_nil_of_length_eq_zero:=@List.eq_nil_of_length_eq_zero
theorem l1y:type_of% @Function.comp_def:=@Function.comp_def
theorem UH:type_of% @List.length_map:=@List.length_map
theorem Z5:type_of% @Nat.eq_of_beq_eq_true:=@Nat.eq_of_beq_eq_true
theorem l21:type_of% @List.getElem?_cons_zero:=@List.getElem?_cons_zero
theorem l22:type_of% @Nat.min_eq_left:=@Nat.min_eq_left
theorem mG:type_of% @Int.toNat_natCast:=@Int.toNat_natCast
theorem l25:type_of% @List.take_of_length_le:=@List.take_of_length_le
theorem l26:type_of% @List.pairwise_iff_getElem:=@List.pairwise_iff_getElem
theorem l27:type_of% @Array.getElem?_toList:=@Array.getElem?_toList
theorem l28:type_of% @Nat.mul_le_mul_right:=@Nat.mul_le_mul_right
theorem l29:type_of% @List.mem_of_mem_take:=@List.mem_of_mem_take
theorem Xh:type_of% @List.mem_cons:=@List.mem_cons
theorem l2b:type_of% @Option.some.inj:=@Option.some.inj
theorem l2c:type_of% @Array.getElem?_push:=@Array.getElem?_push
theorem qZ:type_of% @Nat.mul_one:=@Nat.mul_one
theorem oG:type_of% @Nat.beq_refl:=@Nat.beq_refl
theorem Rc:type_of% @List.mem_map:=@List.mem_map
theorem VQ:type_of% @List.getD_cons_zero:=@List.getD_cons_zero
theorem VP:type_of% @List.getD_cons_succ:=@List.getD_cons_succ
theorem T_:type_of% @Eq.trans:=@Eq.trans
theorem kB:type_of% @List.mem_append:=@List.mem_append
theorem YR:type_of% @List.mem_singleton:=@List.mem_singleton
theorem l2l:type_of% @List.flatMap_append:=@List.flatMap_append
theorem l2m:type_of% @List.filter_cons:=@List.filter_cons
theorem l2n:type_of% @List.getElem_map:=@List.getElem_map
theorem oF:type_of% @List.all_cons:=@List.all_cons
theorem l2p:type_of% @List.pairwise_cons:=@List.pairwise_cons
theorem l2q:type_of% @Go.MapKept.run_getObj_map:=@Go.MapKept.run_getObj_map
theorem l2r:type_of% @Nat.lt_of_lt_of_le:=@Nat.lt_of_lt_of_le
theorem l2s:type_of% @Array.toList_push:=@Array.toList_push
theorem l2t:type_of% @Array.toList_modify:=@Array.toList_modify
theorem HR:type_of% @decide_eq_true:=@decide_eq_true
theorem HW:type_of% @decide_eq_false:=@decide_eq_false
theorem CF:type_of% @if_neg:=@if_neg
theorem Dq:type_of% @if_pos:=@if_pos
theorem l2y:type_of% @of_decide_eq_true:=@of_decide_eq_true
theorem l2z:type_of% @List.mem_filter:=@List.mem_filter
theorem l30:type_of% @List.length_filter_le:=@List.length_filter_le
theorem l32:type_of% @List.take_append_of_le_length:=@List.take_append_of_le_length
theorem l34:type_of% @List.drop_append_of_le_length:=@List.drop_append_of_le_length
theorem l35:type_of% @List.perm_ext_iff_of_nodup:=@List.perm_ext_iff_of_nodup
theorem l36:type_of% @List.nodup_append:=@List.nodup_append
theorem l37:type_of% @Classical.byContradiction:=@Classical.byContradiction
theorem l38:type_of% @List.take_append_drop:=@List.take_append_drop
theorem l39:type_of% @List.mem_flatMap:=@List.mem_flatMap
theorem l3a:type_of% @List.all_nil:=@List.all_nil
theorem l3b:type_of% @List.nil_append:=@List.nil_append
namespace Go.Abs
open Go.RowKit
abbrev Hx:=List Value
abbrev Hb:=List Nat
abbrev Ha:=List UInt8
inductive AV where
 |v (x:Value)
 |ptr (r p k:Nat)
 |iptr (cs:List AV)
 |list (n:Nat) (cs:List AV)
 |sl (sz r o n:Nat)
 |fn (f:Fn) (first cap:List AV)
 |agg (cs:List AV)
 |tup (vs:List AV)
 |mp (r:Nat)
 |imap (es:List (Value×AV))
 |yl (r:Nat)
 |it (r:Nat)
 |dk
abbrev IH:=List (Value×AV)
abbrev Is:=List AV
structure Ctx where
 π:Nat->Option (Option (Nat×Nat))
 F:Nat->Nat->Prop
 B:Nat->Prop
def Ctx.bare(C:Ctx):Ctx:={π:=λ_=>none,F:=C.F,B:=C.B}
inductive VRel:Ctx->World->AV->Value->Prop
 |v {C:Ctx} {w:World} (x:Value):VRel C w (.v x) x
 |ptr {C:Ctx} {w:World} {r p k b base:Nat} (h:C.π r=some (some (b,base))):VRel C w (.ptr r p k) (.pointer (some ⟨b,base+(p+k),none⟩))
 |iptr {C:Ctx} {w:World} {cs:Is} {b o:Nat} (vs:Nat->Value) (hF:∀i,i<cs.length->C.F b (o+i)) (hc:∀i,i<cs.length->w.cell? ⟨b,o+i,none⟩=some (vs i))
  (hv:∀i(hi:i<cs.length),VRel C.bare w cs[i] (vs i)):VRel C w (.iptr cs) (.pointer (some ⟨b,o,none⟩))
 |list0 {C:Ctx} {w:World} {cap:Nat} {a:Option Addr}:VRel C w (.list 0 []) (.slice a 0 cap)
 |list {C:Ctx} {w:World} {n cap:Nat} {cs:Is} {b o:Nat} (h:n<=cap) (vs:Nat->Value) (hF:∀i,i<cs.length->C.F b (o+i)) (hc:∀i,i<cs.length->w.cell? ⟨b,o+i,none⟩=some (vs i))
  (hv:∀i(hi:i<cs.length),VRel C.bare w cs[i] (vs i)):VRel C w (.list n cs) (.slice (some ⟨b,o,none⟩) n cap)
 |sl {C:Ctx} {w:World} {sz r o n b base cap:Nat} {arr:Array Value} {T:TypeId} {fz:Nat×Nat} (h:C.π r=some (some (b,base))) (hcap:n<=cap) (hb:w.heap[b]?=some (.cells arr T fz))
  (hsz:base+o+cap*sz<=arr.size):VRel C w (.sl sz r o n) (.slice (some ⟨b,base+o,none⟩) n cap)
 |slz {C:Ctx} {w:World} {sz r o:Nat} {a:Option Addr} (hr:C.π r≠none):VRel C w (.sl sz r o 0) (.slice a 0 0)
 |fn {C:Ctx} {w:World} {f:Fn} {fs cs:Is} (ys zs:Array Value) (hl:ys.size=fs.length) (hl':zs.size=cs.length) (hy:∀i(hi:i<fs.length),VRel C w fs[i] (ys.getD i undef))
  (hz:∀i(hi:i<cs.length),VRel C w cs[i] (zs.getD i undef)):VRel C w (.fn f fs cs) (.func f ys zs)
 |agg {C:Ctx} {w:World} {cs:Is} (ys:Array Value) (hl:ys.size=cs.length) (hy:∀i(hi:i<cs.length),VRel C w cs[i] (ys.getD i undef)):VRel C w (.agg cs) (.agg ys)
 |tup {C:Ctx} {w:World} {cs:Is} (ys:Array Value) (hl:ys.size=cs.length) (hy:∀i(hi:i<cs.length),VRel C w cs[i] (ys.getD i undef)):VRel C w (.tup cs) (.tuple ys)
 |mp {C:Ctx} {w:World} {r b base:Nat} (h:C.π r=some (some (b,base))):VRel C w (.mp r) (.map (some b))
 |imap {C:Ctx} {w:World} {es:IH} {b clock:Nat} (ms:Array MapEntry) (hB:C.B b) (hb:w.heap[b]?=some (.map ms clock)) (hl:ms.size=es.length) (hk:∀i(hi:i<es.length),(ms.getD i default).key=es[i].1)
  (hn:∀i j,i<j->j<ms.size->(ms.getD i default).born≠(ms.getD j default).born) (hc:∀i,i<ms.size->(ms.getD i default).born<clock)
  (hv:∀i(hi:i<es.length),VRel C.bare w es[i].2 (ms.getD i default).val):VRel C w (.imap es) (.map (some b))
 |yl {C:Ctx} {w:World} {r b base:Nat} (h:C.π r=some (some (b,base))):VRel C w (.yl r) (.func (.yield b) #[] #[])
 |it {C:Ctx} {w:World} {r b base:Nat} (h:C.π r=some (some (b,base))):VRel C w (.it r) (.pointer (some ⟨b,0,none⟩))
 |dk {C:Ctx} {w:World} (y:Value):VRel C w .dk y
structure Ext(O:Nat->Prop)(C:Ctx)(w:World)(C':Ctx)(w':World):Prop where
 π:∀r,C.π r≠none->C'.π r=C.π r
 F:∀b i,C.F b i->C'.F b i
 keep:∀b i,C.F b i->w'.cell? ⟨b,i,none⟩=w.cell? ⟨b,i,none⟩
 B:∀b,C.B b->C'.B b
 keepB:∀b,C.B b->w'.heap[b]?=w.heap[b]?
 size:∀(b:Nat)(arr:Array Value)(T:TypeId)(fz:Nat×Nat),w.heap[b]?=some (.cells arr T fz)->∃(arr':Array Value)(fz':Nat×Nat),w'.heap[b]?=some (.cells arr' T fz')/\arr'.size=arr.size
 new:∀b i,C'.F b i->C.F b i\/O b
 newB:∀b,C'.B b->C.B b\/O b
 grow:w.heap.size<=w'.heap.size
structure Frm(m:Nat)(O:Nat->Prop)(C:Ctx)(w:World)(C':Ctx)(w':World):Prop where
 π:∀r,r<m->C.π r≠none->C'.π r=C.π r
 F:∀b i,C.F b i->C'.F b i
 keep:∀b i,C.F b i->w'.cell? ⟨b,i,none⟩=w.cell? ⟨b,i,none⟩
 B:∀b,C.B b->C'.B b
 keepB:∀b,C.B b->w'.heap[b]?=w.heap[b]?
 size:∀(b:Nat)(arr:Array Value)(T:TypeId)(fz:Nat×Nat),w.heap[b]?=some (.cells arr T fz)->∃(arr':Array Value)(fz':Nat×Nat),w'.heap[b]?=some (.cells arr' T fz')/\arr'.size=arr.size
 new:∀b i,C'.F b i->C.F b i\/O b
 newB:∀b,C'.B b->C.B b\/O b
 grow:w.heap.size<=w'.heap.size
theorem Ext.refl(O:Nat->Prop)(C:Ctx)(w:World):Ext O C w C w:=
 ⟨λ_ _=>rfl,λ_ _ h=>h,λ_ _ _=>rfl,λ_ h=>h,λ_ _=>rfl,λ_ arr _ fz h=>⟨arr,fz,h,rfl⟩,λ_ _ h=>.inl h,λ_ h=>.inl h,Mh _⟩
theorem sY{w w' d:World}(h:∀(b:Nat)(arr:Array Value)(T:TypeId)(fz:Nat×Nat),w.heap[b]?=some (.cells arr T fz)->∃(a:Array Value)(c:Nat×Nat),w'.heap[b]?=some (.cells a T c)/\a.size=arr.size)(k:∀(b:Nat)(arr:Array Value)(T:TypeId)(fz:Nat×Nat),w'.heap[b]?=some (.cells arr T fz)->∃(a:Array Value)(c:Nat×Nat),d.heap[b]?=some (.cells a T c)/\a.size=arr.size):
 ∀(b:Nat)(arr:Array Value)(T:TypeId)(fz:Nat×Nat),w.heap[b]?=some (.cells arr T fz)->∃(a:Array Value)(c:Nat×Nat),d.heap[b]?=some (.cells a T c)/\a.size=arr.size:=λb arr T fz hb=>by
 obtain⟨a1,f1,h1,e⟩:=h b arr T fz hb;obtain⟨a2,f2,h2,f⟩:=k b a1 T f1 h1;exact⟨a2,f2,h2,f.trans e⟩
theorem Ext.trans{O:Nat->Prop}{C C' c:Ctx}{w w' d:World}(h:Ext O C w C' w')(k:Ext O C' w' c d):Ext O C w c d:=
 ⟨λr hr=>(k.π r (by rw[h.π r hr];exact hr)).trans (h.π r hr),λb i a=>k.F b i (h.F b i a),
  λb i a=>(k.keep b i (h.F b i a)).trans (h.keep b i a),λb hb=>k.B b (h.B b hb),λb hb=>(k.keepB b (h.B b hb)).trans (h.keepB b hb),
  sY h.size k.size,
  λb i a=>by
   rcases k.new b i a with h1|h1
   ·exact h.new b i h1
   ·exact .inr h1,
  λb a=>by
   rcases k.newB b a with h1|h1
   ·exact h.newB b h1
   ·exact .inr h1,XV h.grow k.grow⟩
theorem Ext.frm{m:Nat}{O:Nat->Prop}{C C':Ctx}{w w':World}(h:Ext O C w C' w'):Frm m O C w C' w':=
 ⟨λr _ hr=>h.π r hr,h.F,h.keep,h.B,h.keepB,h.size,h.new,h.newB,h.grow⟩
theorem Frm.refl{m:Nat}(O:Nat->Prop){C:Ctx}(w:World):Frm m O C w C w:=(Ext.refl O C w).frm
theorem Frm.trans{m:Nat}{O:Nat->Prop}{C C' c:Ctx}{w w' d:World}(h:Frm m O C w C' w')(k:Frm m O C' w' c d):Frm m O C w c d:=
 ⟨λr hm hr=>(k.π r hm (by rw[h.π r hm hr];exact hr)).trans (h.π r hm hr),λb i a=>k.F b i (h.F b i a),
  λb i a=>(k.keep b i (h.F b i a)).trans (h.keep b i a),λb hb=>k.B b (h.B b hb),λb hb=>(k.keepB b (h.B b hb)).trans (h.keepB b hb),
  sY h.size k.size,
  λb i a=>by
   rcases k.new b i a with h1|h1
   ·exact h.new b i h1
   ·exact .inr h1,
  λb a=>by
   rcases k.newB b a with h1|h1
   ·exact h.newB b h1
   ·exact .inr h1,XV h.grow k.grow⟩
theorem Frm.ext{m:Nat}{O:Nat->Prop}{C C':Ctx}{w w':World}(h:Frm m O C w C' w')(hm:∀r,C.π r≠none->r<m):Ext O C w C' w':=
 ⟨λr hr=>h.π r (hm r hr) hr,h.F,h.keep,h.B,h.keepB,h.size,h.new,h.newB,h.grow⟩
theorem Ext.bare{O:Nat->Prop}{C C':Ctx}{w w':World}(h:Ext O C w C' w'):Ext O C.bare w C'.bare w':=
 ⟨λ_ _=>rfl,h.F,h.keep,h.B,h.keepB,h.size,h.new,h.newB,h.grow⟩
theorem Ext.at{O:Nat->Prop}{C C':Ctx}{w w':World}(e:Ext O C w C' w'){r:Nat}{x:Option (Nat×Nat)}(h:C.π r=some x):C'.π r=some x:=
 (e.π r (by rw[h];simp)).trans h
theorem VRel.mono{O:Nat->Prop}{C C':Ctx}{w w':World}{a:AV}{y:Value}(h:VRel C w a y)(e:Ext O C w C' w'):VRel C' w' a y:=by
 induction h generalizing C' with
 |v x=>exact .v x
 |ptr h=>exact .ptr (e.at h)
 |iptr vs d hc _ ih=>exact .iptr vs (λi b=>e.F _ _ (d i b)) (λi b=>(e.keep _ _ (d i b)).trans (hc i b)) (λi b=>ih i b e.bare)
 |list0=>exact .list0
 |list h vs d hc _ ih=>exact .list h vs (λi b=>e.F _ _ (d i b)) (λi b=>(e.keep _ _ (d i b)).trans (hc i b)) (λi b=>ih i b e.bare)
 |sl h f hb hsz=>
  obtain⟨a1,f1,h1,p⟩:=e.size _ _ _ _ hb;exact .sl (e.at h) f h1 (by rw[p];exact hsz)
 |slz hr=>exact .slz (by rw[e.π _ hr];exact hr)
 |fn g r c j _ _ k m=>exact .fn g r c j (λi b=>k i b e) (λi b=>m i b e)
 |agg g c _ ih=>exact .agg g c (λi b=>ih i b e)
 |tup g c _ ih=>exact .tup g c (λi b=>ih i b e)
 |mp h=>exact .mp (e.at h)
 |imap ms n hb c q hn hc _ ih=>exact .imap ms (e.B _ n) ((e.keepB _ n).trans hb) c q hn hc (λi b=>ih i b e.bare)
 |yl h=>exact .yl (e.at h)
 |it h=>exact .it (e.at h)
 |dk y=>exact .dk y
theorem VRel.up{C C':Ctx}{w:World}{a:AV}{y:Value}(h:VRel C.bare w a y)(d:C'.F=C.F)(e:C'.B=C.B):VRel C' w a y:=by
 generalize hc:C.bare=D at h
 induction h generalizing C C' with
 |v x=>exact .v x
 |ptr h=>subst hc;cases h
 |iptr vs f c hv _=>subst hc;exact .iptr vs (λi b=>by rw[d];exact f i b) c (λi b=>by have:=hv i b;simpa [Ctx.bare,d,e] using this)
 |list0=>exact .list0
 |list h vs f c hv _=>subst hc;exact .list h vs (λi b=>by rw[d];exact f i b) c (λi b=>by have:=hv i b;simpa [Ctx.bare,d,e] using this)
 |sl h=>subst hc;cases h
 |slz hr=>subst hc;exact absurd rfl hr
 |fn j r g m _ _ n p=>exact .fn j r g m (λi b=>n i b d e hc) (λi b=>p i b d e hc)
 |agg j g _ ih=>exact .agg j g (λi b=>ih i b d e hc)
 |tup j g _ ih=>exact .tup j g (λi b=>ih i b d e hc)
 |mp h=>subst hc;cases h
 |imap ms k hb g q hn c hv _=>subst hc;exact .imap ms (by rw[e];exact k) hb g q hn c (λi b=>by have:=hv i b;simpa [Ctx.bare,d,e] using this)
 |yl h=>subst hc;cases h
 |it h=>subst hc;cases h
 |dk y=>exact .dk y
def fB:Nat->AV->Bool
 |_,.v _=>true
 |_,.iptr _=>true
 |_,.list _ _=>true
 |_,.imap _=>true
 |_,.dk=>true
 |k+1,.fn _ a cs=>a.all (fB k)&&cs.all (fB k)
 |k+1,.agg cs=>cs.all (fB k)
 |k+1,.tup cs=>cs.all (fB k)
 |_,_=>false
theorem VRel.down{C C':Ctx}{w:World}(e:C'.F=C.F)(g:C'.B=C.B):∀(k:Nat)(a:AV)(y:Value),fB k a=true->VRel C w a y->VRel C' w a y:=by
 intro k
 induction k with
 |zero=>
  intro a y hc h;cases h with
  |v=>exact .v _
  |iptr vs d c hv=>exact .iptr vs (λi b=>by rw[e];exact d i b) c (λi b=>by have:=hv i b;simpa [Ctx.bare,e,g] using this)
  |list0=>exact .list0
  |list h vs d c hv=>exact .list h vs (λi b=>by rw[e];exact d i b) c (λi b=>by have:=hv i b;simpa [Ctx.bare,e,g] using this)
  |imap ms j hb f p hn c hv=>exact .imap ms (by rw[g];exact j) hb f p hn c (λi b=>by have:=hv i b;simpa [Ctx.bare,e,g] using this)
  |dk y=>exact .dk y
  |_=>simp[fB]at hc
 |succ k ih=>
  intro a y hc h;cases h with
  |v=>exact .v _
  |iptr vs d c hv=>exact .iptr vs (λi b=>by rw[e];exact d i b) c (λi b=>by have:=hv i b;simpa [Ctx.bare,e,g] using this)
  |list0=>exact .list0
  |list h vs d c hv=>exact .list h vs (λi b=>by rw[e];exact d i b) c (λi b=>by have:=hv i b;simpa [Ctx.bare,e,g] using this)
  |imap ms j hb f p hn c hv=>exact .imap ms (by rw[g];exact j) hb f p hn c (λi b=>by have:=hv i b;simpa [Ctx.bare,e,g] using this)
  |dk y=>exact .dk y
  |fn n r f q m hz=>
   simp only[fB,KF,GG]at hc;exact .fn n r f q (λi b=>ih _ _ (hc.1 _ (Qk b)) (m i b)) (λi b=>ih _ _ (hc.2 _ (Qk b)) (hz i b))
  |agg n f m=>
   simp only[fB,GG]at hc;exact .agg n f (λi b=>ih _ _ (hc _ (Qk b)) (m i b))
  |tup n f m=>
   simp only[fB,GG]at hc;exact .tup n f (λi b=>ih _ _ (hc _ (Qk b)) (m i b))
  |_=>simp[fB]at hc
def CG(C:Ctx)(w:World)(b:Is)(ys:Hx):Prop:=ys.length=b.length/\∀(i:Nat)(a:AV),b[i]?=some a->∃y,ys[i]?=some y/\VRel C w a y
theorem CG.mono{O:Nat->Prop}{C C':Ctx}{w w':World}{b:Is}{ys:Hx}(h:CG C w b ys)(e:Ext O C w C' w'):CG C' w' b ys:=
 ⟨h.1,λi a c=>let⟨y,d,hv⟩:=h.2 i a c;⟨y,d,hv.mono e⟩⟩
theorem CG.up{C C':Ctx}{w:World}{b:Is}{ys:Hx}(h:CG C.bare w b ys)(d:C'.F=C.F)(c:C'.B=C.B):CG C' w b ys:=
 ⟨h.1,λi a e=>let⟨y,f,hv⟩:=h.2 i a e;⟨y,f,hv.up d c⟩⟩
theorem CG.down{C C':Ctx}{w:World}{b:Is}{ys:Hx}(k:Nat)(hc:b.all (fB k)=true)(h:CG C w b ys)(e:C'.F=C.F)(d:C'.B=C.B):CG C' w b ys:=
 ⟨h.1,λi a c=>let⟨y,f,hv⟩:=h.2 i a c;⟨y,f,hv.down e d k _ _ (GG.1 hc _ (l1m c))⟩⟩
theorem CG.nil{C:Ctx}{w:World}:CG C w [] []:=⟨rfl,λ_ _ h=>by simp at h⟩
theorem CG.cons{C:Ctx}{w:World}{a:AV}{y:Value}{c:Is}{ys:Hx}(h:VRel C w a y)(d:CG C w c ys):CG C w (a::c) (y::ys):=
 ⟨by simp[d.1],λi b hb=>by
  cases i with
  |zero=>simp at hb;subst hb;exact⟨y,rfl,h⟩
  |succ i=>simpa using d.2 i b (by simpa using hb)⟩
theorem CG.cons_inv{C:Ctx}{w:World}{a:AV}{d:Is}{ys:Hx}(h:CG C w (a::d) ys):∃y c,ys=y::c/\VRel C w a y/\CG C w d c:=by
 cases ys with
 |nil=>simp[CG]at h
 |cons y ys=>
  obtain⟨z,hz,hv⟩:=h.2 0 a rfl;simp at hz;subst hz;exact⟨y,ys,rfl,hv,by simpa using h.1,λi b hb=>by simpa using h.2 (i+1) b (by simpa using hb)⟩
theorem CG.nil_inv{C:Ctx}{w:World}{ys:Hx}(h:CG C w [] ys):ys=[]:=mH (by simpa using h.1)
theorem CG.get{C:Ctx}{w:World}{a:Is}{ys:Hx}(h:CG C w a ys)(i:Nat)(c:i<a.length):VRel C w a[i] (ys[i]'(by rw[h.1];exact c)):=by
 obtain⟨y,b,hv⟩:=h.2 i a[i] (KL c);rw[KL (by rw[h.1];exact c)]at b;injection b with b
 rw[b];exact hv
theorem CG.take{C:Ctx}{w:World}{c:Is}{ys:Hx}(h:CG C w c ys)(k:Nat):CG C w (c.take k) (ys.take k):=
 ⟨by simp[h.1],λi a b=>by
  rw[zR]at b⊢;split at b
  ·rename_i d;rw[Dq d];exact h.2 i a b
  ·simp at b⟩
theorem CG.drop{C:Ctx}{w:World}{b:Is}{ys:Hx}(h:CG C w b ys)(k:Nat):CG C w (b.drop k) (ys.drop k):=
 ⟨by simp[h.1],λi a c=>by
  rw[qH]at c⊢;exact h.2 _ a c⟩
theorem CG.append{C:Ctx}{w:World}{d e:Is}{ys zs:Hx}(h:CG C w d ys)(k:CG C w e zs):CG C w (d++e) (ys++zs):=
 ⟨by simp[h.1,k.1],λi a b=>by
  rw[List.getElem?_append]at b⊢;rw[h.1];split at b
  ·rename_i c;rw[Dq c];exact h.2 i a b
  ·rename_i c;rw[CF c];exact k.2 _ a b⟩
theorem ET{C:Ctx}{w:World}{cs:Is}{y:Value}:VRel C w (.agg cs) y↔∃b:Hx,y=.agg b.toArray/\CG C w cs b:=by
 constructor
 ·intro h;cases h with
  |agg b d e=>
   refine⟨b.toList,by simp,by simpa using d,λi a f=>?_⟩;obtain⟨c,rfl⟩:=zT.1 f;have h1:=e i c;refine⟨_,?_,h1⟩;simp[d,c]
 ·rintro⟨b,rfl,d,h⟩;refine .agg _ (by simpa using d) λi c=>?_;obtain⟨y,e,hv⟩:=h i _ (KL c);have:b.toArray.getD i undef=y:=by simp[fO,e]
  rw[this];exact hv
theorem DO{C:Ctx}{w:World}{cs:Is}{y:Value}:VRel C w (.tup cs) y↔∃b:Hx,y=.tuple b.toArray/\CG C w cs b:=by
 constructor
 ·intro h;cases h with
  |tup b d e=>
   refine⟨b.toList,by simp,by simpa using d,λi a f=>?_⟩;obtain⟨c,rfl⟩:=zT.1 f;have h1:=e i c;refine⟨_,?_,h1⟩;simp[d,c]
 ·rintro⟨b,rfl,d,h⟩;refine .tup _ (by simpa using d) λi c=>?_;obtain⟨y,e,hv⟩:=h i _ (KL c);have:b.toArray.getD i undef=y:=by simp[fO,e]
  rw[this];exact hv
theorem AN{C:Ctx}{w:World}{x y:Value}:VRel C w (.v x) y↔y=x:=⟨λh=>by cases h;rfl,λh=>by subst h;exact .v _⟩
theorem Ju{C:Ctx}{w:World}{f:Fn}{m cs:Is}{y:Value}:VRel C w (.fn f m cs) y↔∃d e:Hx,y=.func f d.toArray e.toArray/\CG C w m d/\CG C w cs e:=by
 constructor
 ·intro h;cases h with
  |fn d e j c g hz=>
   refine⟨d.toList,e.toList,by simp,⟨by simpa using j,λi a k=>?_⟩,by simpa using c,λi a k=>?_⟩
   ·obtain⟨b,rfl⟩:=zT.1 k;have h1:=g i b;refine⟨_,?_,h1⟩;simp[j,b]
   ·obtain⟨b,rfl⟩:=zT.1 k;have h1:=hz i b;refine⟨_,?_,h1⟩;simp[c,b]
 ·rintro⟨d,e,rfl,⟨j,h⟩,c,n⟩;refine .fn _ _ (by simpa using j) (by simpa using c) (λi b=>?_) λi b=>?_
  ·obtain⟨y,g,hv⟩:=h i _ (KL b);have:d.toArray.getD i undef=y:=by simp[fO,g]
   rw[this];exact hv
  ·obtain⟨y,g,hv⟩:=n i _ (KL b);have:e.toArray.getD i undef=y:=by simp[fO,g]
   rw[this];exact hv
end Go.Abs
end
noncomputable section
namespace Go.Abs
open Go.RowKit
section
variable{s:Nat}
abbrev Tm:=List (Nat×AV)
def HS:Tm->Nat->AV
 |[],_=>.dk
 |(k,v)::t,i=>if i=k then v else HS t i
def XF(C:Ctx)(w:World)(t:Tm)(tmps:Array Value):Prop:=∀i,VRel C w (HS t i) (tmps.getD i undef)
theorem XF.mono{O:Nat->Prop}{C C':Ctx}{w w':World}{t:Tm}{tmps:Array Value}(h:XF C w t tmps)(e:Ext O C w C' w'):XF C' w' t tmps:=λi=>(h i).mono e
inductive Row where
 |cells (q:Bool) (T:TypeId) (cs:Is)
 |map (q:Bool) (es:IH) (bo:Option (Hb×Nat))
 |loop (N:Nat) (t:Tm) (ps:Array Tmp) (aZ bd:Code) (pend:Option (Option Code))
 |iter (left:IH) (last:Option (Value×AV))
 |gone
def Row.live:Row->Option Row
 |.gone=>none
 |x=>some x
abbrev Hp:=List (Nat×Row)
def Ai:Hp->Nat->Option Row
 |[],_=>none
 |(k,x)::l,r=>if r=k then x.live else Ai l r
def upd:Hp->Nat->Row->Hp
 |[],_,_=>[]
 |(k,x)::l,r,y=>if r=k then(k,y)::l else(k,x)::upd l r y
def cut(H:Hp)(r:Nat):Hp:=upd H r .gone
def As:Hp->Nat
 |[]=>0
 |(k,_)::_=>k+1
def B4(H:Hp)(r:Nat)(y:Row):As (upd H r y)=As H:=by
 cases H with
 |nil=>rfl
 |cons p H=>
  obtain⟨k,z⟩:=p;by_cases a:r=k<;>simp[upd,a,As]
def BH{H:Hp}{r:Nat}{x y:Row}(h:Ai H r=some x):Ai (upd H r y) r=y.live:=by
 induction H with
 |nil=>simp[Ai]at h
 |cons p H ih=>
  obtain⟨k,z⟩:=p;simp only[Ai]at h;by_cases a:r=k
  ·simp[upd,a,Ai]
  ·simp only[CF a]at h;simp[upd,a,Ai,ih h]
def Ag{H:Hp}{r s:Nat}{y:Row}(h:s≠r):Ai (upd H r y) s=Ai H s:=by
 induction H with
 |nil=>rfl
 |cons p H ih=>
  obtain⟨k,z⟩:=p;by_cases a:r=k
  ·subst a;simp[upd,Ai,h]
  ·simp only[upd,CF a,Ai,ih]
def ML{H:Hp}{r:Nat}:Ai (cut H r) r=none:=by
 induction H with
 |nil=>rfl
 |cons p H ih=>
  obtain⟨k,z⟩:=p;by_cases a:r=k
  ·simp[cut,upd,a,Ai,Row.live]
  ·simp only[cut,upd,CF a,Ai];exact ih
def Qw{H:Hp}{r s:Nat}(h:s≠r):Ai (cut H r) s=Ai H s:=Ag h
def iK{x y:Row}(h:x.live=some y):x=y/\y≠.gone:=by cases x<;>simp[Row.live]at h<;>subst h<;>simp
def EC{H:Hp}{r:Nat}{x:Row}(h:Ai H r=some x):x≠.gone:=by
 induction H with
 |nil=>simp[Ai]at h
 |cons p H ih=>
  obtain⟨k,z⟩:=p;simp only[Ai]at h;split at h
  ·exact(iK h).2
  ·exact ih h
def Ctx.sel(C:Ctx)(_:Bool):Ctx:=C
def VRel.unsel{C:Ctx}{w:World}{q:Bool}{a:AV}{y:Value}(h:VRel (C.sel q) w a y):VRel C w a y:=h
def CG.unsel{C:Ctx}{w:World}{q:Bool}{a:Is}{ys:Hx}(h:CG (C.sel q) w a ys):CG C w a ys:=h
theorem Ext.sel{O:Nat->Prop}{C C':Ctx}{w w':World}(h:Ext O C w C' w')(q:Bool):Ext O (C.sel q) w (C'.sel q) w':=h
structure Base where
 w:World
 U:Nat->Prop
def Base.own(B:Base)(b:Nat):Prop:=B.w.heap.size<=b\/B.U b
structure Keep(B:Base)(w:World):Prop where
 os:w.os=B.w.os
 tape:w.tape=B.w.tape
 output:w.output=B.w.output
 size:B.w.heap.size<=w.heap.size
 block:∀b,b<B.w.heap.size->¬B.U b->w.heap[b]?=B.w.heap[b]?
def Keep.refl(w:World)(U:Nat->Prop):Keep ⟨w,U⟩ w:=⟨rfl,rfl,rfl,Mh _,λ_ _ _=>rfl⟩
def Keep.below{B:Base}{w w':World}(h:Keep B w)(hb:Below w.heap.size w w'):Keep B w':=
 ⟨hb.os.trans h.os,hb.tape.trans h.tape,hb.output.trans h.output,XV h.size hb.size,λb a c=>(hb.block b (l2r a h.size)).trans (h.block b a c)⟩
structure Laid(C:Ctx)(w:World)(r:Nat)(q:Bool)(T:TypeId)(cs:Is)(b base:Nat)(arr:Array Value)(fz:Nat×Nat):Prop where
 at_:C.π r=some (some (b,base))
 block:w.heap[b]?=some (.cells arr T fz)
 free:∀i,i<arr.size->¬(fz.1<=i/\i<fz.2)
 fits:base+cs.length<=arr.size
 vals:CG (C.sel q) w cs ((arr.toList.drop base).take cs.length)
 exact:q=true->base=0/\arr.size=cs.length
def LQ(C:Ctx)(w:World)(es:IH)(ms:List MapEntry):Prop:=
 ms.length=es.length/\∀(i:Nat)(p:Value×AV),es[i]?=some p->∃m:MapEntry,ms[i]?=some m/\m.key=p.1/\VRel C w p.2 m.val
structure MOk(ms:Array MapEntry)(clock:Nat):Prop where
 born:ms.toList.Pairwise λa b=>a.born≠b.born
 lt:∀m∈ms.toList,m.born<clock
def BOk:Option (Hb×Nat)->Array MapEntry->Nat->Prop
 |none,_,_=>True
 |some (a,c),ms,clock=>ms.toList.map (·.born)=a/\clock=c
theorem LQ.mono{O:Nat->Prop}{C C':Ctx}{w w':World}{es:IH}{ms:List MapEntry}(h:LQ C w es ms)(e:Ext O C w C' w'):LQ C' w' es ms:=
 ⟨h.1,λi p c=>let⟨m,hm,a,hv⟩:=h.2 i p c;⟨m,hm,a,hv.mono e⟩⟩
def fK(C:Ctx)(w:World)(ms:Array MapEntry)(seen:Array Nat):Option (Value×AV)->Prop
 |none=>True
 |some p=>∃m∈ms.toList,seen.back?=some m.born/\m.key=p.1/\VRel C w p.2 m.val
theorem fK.mono{O:Nat->Prop}{C C':Ctx}{w w':World}{ms:Array MapEntry}{seen:Array Nat}:∀{x:Option (Value×AV)},fK C w ms seen x->Ext O C w C' w'->fK C' w' ms seen x
 |none,_,_=>trivial
 |some _,⟨m,h1,h2,a,c⟩,e=>⟨m,h1,h2,a,c.mono e⟩
def B3P:Option (Option Code)->LoopState
 |none=>.busy
 |some none=>.ready
 |some (some _)=>.done
def To(C:Ctx)(w:World)(r:Nat):Row->Prop
 |.cells q T cs=>(cs=[]/\C.π r=some none)\/∃b base arr fz,Laid C w r q T cs b base arr fz
 |.map q i h=>∃(b:Nat)(ms:Array MapEntry)(clock:Nat),C.π r=some (some (b,0))/\w.heap[b]?=some (.map ms clock)/\MOk ms clock/\LQ (C.sel q) w i ms.toList/\BOk h ms clock
 |.loop N t ps f g a=>∃(b:Nat)(l:Loop),C.π r=some (some (b,0))/\w.heap[b]?=some (.loop l)/\l.state=B3P a/\l.pending=a.join/\l.tmps.size=N/\l.params=ps/\l.assign=f/\l.body=g/\XF C w t l.tmps
 |.iter left c=>∃(b:Nat)(d:Option Nat)(since:Nat)(seen:Array Nat)(last:Nat),C.π r=some (some (b,0))/\w.heap[b]?=some (.mapIter d since seen last)/\
  ((d=none/\left=[]/\c=none)\/∃(m:Nat)(ms:Array MapEntry)(clock:Nat),d=some m/\since=clock/\last=clock/\C.B m/\w.heap[m]?=some (.map ms clock)/\MOk ms clock/\LQ C.bare w left (ms.toList.filter λe=>!seen.contains e.born)/\fK C.bare w ms seen c)
 |.gone=>True
def B5U(G:Nat->Option Hx)(F:Nat->Nat->Prop)(w:World):Prop:=∀(g:Nat)(cs:Hx),G g=some cs->∀(i:Nat)(v:Value),cs[i]?=some v->F g i/\w.cell? ⟨g,i,none⟩=some v
structure Rel(G:Nat->Option Hx)(w0:Base)(C:Ctx)(H:Hp)(w:World):Prop where
 glob:B5U G C.F w
 below:Keep w0 w
 lt:∀r x,Ai H r=some x->C.π r≠none
 rows:∀r x,Ai H r=some x->To C w r x
 own:∀r x b o,Ai H r=some x->C.π r=some (some (b,o))->w0.own b/\(∀i,¬C.F b i)/\¬C.B b
 sep:∀r r' x x' b o o',Ai H r=some x->Ai H r'=some x'->C.π r=some (some (b,o))->C.π r'=some (some (b,o'))->r=r'
 fin:∀b i,C.F b i->b<w.heap.size
 finB:∀b,C.B b->b<w.heap.size
 nx:∀r,As H<=r->C.π r=none
section
variable{G:Nat->Option Hx}{w0:Base}{C C':Ctx}{H H':Hp}{w w':World}{O:Nat->Prop}{r:Nat}{q:Bool}{T:TypeId}{cs:Is}{b base:Nat}{arr:Array Value}{fz:Nat×Nat}
def B5U.mono(h:B5U G C.F w)(e:Ext O C w C' w'):B5U G C'.F w':=λg cs a i v hv=>⟨e.F _ _ (h g cs a i v hv).1,(e.keep _ _ (h g cs a i v hv).1).trans (h g cs a i v hv).2⟩
def Laid.lt(h:Laid C w r q T cs b base arr fz):b<w.heap.size:=(l1v.1 h.block).1
def Laid.cell(h:Laid C w r q T cs b base arr fz)(i:Nat):w.cell? ⟨b,i,none⟩=arr[i]?:=cell_of_row w b i arr T fz h.block
def Laid.get(h:Laid C w r q T cs b base arr fz)(i:Nat)(a:i<cs.length):∃v,w.cell? ⟨b,base+i,none⟩=some v/\VRel C w cs[i] v:=by
 obtain⟨y,c,hv⟩:=h.vals.2 i _ (KL a);refine⟨y,?_,hv.unsel⟩;rw[h.cell];rw[zR,Dq a,qH]at c;simpa using c
def Laid.frozen(h:Laid C w r q T cs b base arr fz)(i:Nat)(a:i<arr.size):w.frozen? ⟨b,i,none⟩=false:=by
 have:=h.free i a;simp only[World.frozen?,h.block];simp;intro h1;omega
theorem Laid.mono(h:Laid C w r q T cs b base arr fz)(e:Ext O C w C' w')(hb:w'.heap[b]?=w.heap[b]?):Laid C' w' r q T cs b base arr fz:=
 ⟨e.at h.at_,hb.trans h.block,h.free,h.fits,h.vals.mono (e.sel q),h.exact⟩
theorem To.mono{x:Row}(h:To C w r x)(e:Ext O C w C' w')(hb:∀b base,C.π r=some (some (b,base))->w'.heap[b]?=w.heap[b]?):To C' w' r x:=by
 cases x with
 |cells q T cs=>
  rcases h with⟨h1,h2⟩|⟨b,base,arr,fz,h⟩
  ·exact .inl ⟨h1,e.at h2⟩
  ·exact .inr ⟨b,base,arr,fz,h.mono e (hb b base h.at_)⟩
 |map q J F=>
  obtain⟨b,ms,clock,h1,a,c,d,f⟩:=h;exact⟨b,ms,clock,e.at h1,(hb b 0 h1).trans a,c,d.mono (e.sel q),f⟩
 |loop N t ps A D j=>
  obtain⟨b,l,h1,h2,a,c,d,f,g,i,u⟩:=h;exact⟨b,l,e.at h1,(hb b 0 h1).trans h2,a,c,d,f,g,i,u.mono e⟩
 |iter left v=>
  obtain⟨b,y,since,seen,last,h1,h2,a⟩:=h;refine⟨b,y,since,seen,last,e.at h1,(hb b 0 h1).trans h2,?_⟩;rcases a with a|⟨m,ms,clock,k,n,p,c,d,f,g,i⟩
  ·exact .inl a
  ·exact .inr ⟨m,ms,clock,k,n,p,e.B _ c,(e.keepB _ c).trans d,f,g.mono e.bare,i.mono e.bare⟩
 |gone=>trivial
theorem To.block{x:Row}(h:To C w r x)(g:x≠.gone)(hb:C.π r=some (some (b,base))):b<w.heap.size:=by
 have key:∀{a:Nat}{o:Nat}{j:Obj},C.π r=some (some (a,o))->w.heap[a]?=some j->b<w.heap.size:=λh1 h2=>by
  have:=h1.symm.trans hb;injection this with this
  injection this with this
  injection this with f p
  subst f;exact(l1v.1 h2).1
 cases x with
 |cells q T cs=>
  rcases h with⟨h1,h2⟩|⟨a,c,arr,fz,h⟩
  ·rw[h2]at hb;cases hb
  ·exact key h.at_ h.block
 |map q u n=>
  obtain⟨a,ms,clock,h1,d,v,y,_⟩:=h;exact key h1 d
 |loop N t ps k m e=>
  obtain⟨a,l,h1,h2,_⟩:=h;exact key h1 h2
 |iter left i=>
  obtain⟨a,A,since,seen,last,h1,h2,d⟩:=h;exact key h1 h2
 |gone=>exact absurd rfl g
def Rel.sub(h:Rel G w0 C H w)(c:∀r x,Ai H' r=some x->Ai H r=some x)(g:As H<=As H'):Rel G w0 C H' w:=
 ⟨h.glob,h.below,λr x a=>h.lt r x (c r x a),λr x a=>h.rows r x (c r x a),λr x b o a=>h.own r x b o (c r x a),λr e x f b o i a d=>h.sep r e x f b o i (c r x a) (c e f d),h.fin,h.finB,λr hr=>h.nx r (XV g hr)⟩
def Rel.cut_row(h:Rel G w0 C H w)(r:Nat):Rel G w0 C (cut H r) w:=
 h.sub (λs x a=>by
  by_cases c:s=r
  ·subst c;rw[ML]at a;cases a
  ·rwa[Qw c]at a) (by rw[cut,B4];exact Mh _)
def Ext.of_below(hb:Below w.heap.size w w')(c:∀b i,C.F b i->b<w.heap.size)(a:∀b,C.B b->b<w.heap.size):Ext O C w C w':=
 ⟨λ_ _=>rfl,λ_ _ h=>h,λb i h=>hb.cell (p:=⟨b,i,none⟩) (c b i h),λ_ h=>h,λb h=>hb.block b (a b h),
  λb arr T fz h=>⟨arr,fz,(hb.block b (l1v.1 h).1).trans h,rfl⟩,λ_ _ h=>.inl h,λ_ h=>.inl h,hb.size⟩
def Rel.ext_below(h:Rel G w0 C H w)(hb:Below w.heap.size w w'):Ext O C w C w':=Ext.of_below hb h.fin h.finB
def Rel.of_below(h:Rel G w0 C H w)(hb:Below w.heap.size w w'):Rel G w0 C H w':=
 have e:Ext (λ_=>False) C w C w':=h.ext_below hb
 ⟨h.glob.mono e,h.below.below hb,h.lt,λr x a=>(h.rows r x a).mono e (λb base f=>hb.block b ((h.rows r x a).block (EC a) f)),
  h.own,h.sep,λb i d=>l2r (h.fin b i d) hb.size,λb c=>l2r (h.finB b c) hb.size,h.nx⟩
def Ctx.put(C:Ctx)(r:Nat)(p:Option (Nat×Nat)):Ctx:={π:=λs=>if s=r then some p else C.π s,F:=C.F,B:=C.B}
def Ctx.put_n(C:Ctx)(r:Nat)(p:Option (Nat×Nat)):(C.put r p).π r=some p:=by simp[Ctx.put]
def Ctx.put_ne(C:Ctx)(p:Option (Nat×Nat))(h:s≠r):(C.put r p).π s=C.π s:=by simp[Ctx.put,h]
def Ctx.put_ext{p:Option (Nat×Nat)}(hr:C.π r=none)(e:Ext O C w C w'):Ext O C w (C.put r p) w':=
 ⟨λs a=>C.put_ne p (λe=>a (e▸hr)),e.F,e.keep,e.B,e.keepB,e.size,e.new,e.newB,e.grow⟩
def zN(h:Rel G w0 C H w)(hr:C.π r≠none):r<As H:=by
 rcases Nat.lt_or_ge r (As H) with h1|h1
 ·exact h1
 ·exact absurd (h.nx r h1) hr
def Rel.new_row(h:Rel G w0 C H w){x:Row}(hb:Below w.heap.size w w')(k:To (C.put (As H) (some (w.heap.size,0))) w' (As H) x):Rel G w0 (C.put (As H) (some (w.heap.size,0))) ((As H,x)::H) w':=by
 have j:C.π (As H)=none:=h.nx _ (Mh _);have e:Ext (λ_=>False) C w (C.put (As H) (some (w.heap.size,0))) w':=Ctx.put_ext j (h.ext_below hb);have g:(C.put (As H) (some (w.heap.size,0))).π (As H)=some (some (w.heap.size,0)):=C.put_n _ _;have m:∀r x,Ai H r=some x->r≠As H:=λr x a e=>h.lt r x a (e▸j);refine⟨h.glob.mono e,h.below.below hb,?_,?_,?_,?_,λb i t=>l2r (h.fin b i t) hb.size,λb p=>l2r (h.finB b p) hb.size,?_⟩
 ·intro r x a;simp only[Ai]at a;split at a
  ·rename_i hr;subst hr;rw[g];simp
  ·rw[e.π r (h.lt r x a)];exact h.lt r x a
 ·intro r x a;simp only[Ai]at a;split at a
  ·rename_i hr;subst hr;rw[<-(iK a).1];exact k
  ·exact(h.rows r x a).mono e (λb base c=>hb.block b ((h.rows r x a).block (EC a) c))
 ·intro r x b o a c;simp only[Ai]at a;split at a
  ·rename_i hr;subst hr;rw[g]at c;injection c with c;injection c with c;injection c with h1 h2;subst h1
   exact⟨.inl h.below.size,λi t=>l1l _ (h.fin _ _ t),λp=>l1l _ (h.finB _ p)⟩
  ·rw[C.put_ne _ (m r x a)]at c;exact h.own r x b o a c
 ·intro r u x v b o A a f c d;simp only[Ai]at a f;split at a<;>split at f
  ·rename_i h1 h2;exact h1.trans h2.symm
  ·rename_i h1 h2;subst h1;rw[g]at c;rw[C.put_ne _ h2]at d;injection c with c;injection c with c;injection c with n y;subst n
   exact absurd ((h.rows u v f).block (EC f) d) (l1l _)
  ·rename_i h1 h2;subst h2;rw[g]at d;rw[C.put_ne _ h1]at c;injection d with d;injection d with d;injection d with n y;subst n
   exact absurd ((h.rows r x a).block (EC a) c) (l1l _)
  ·rename_i h1 h2;rw[C.put_ne _ h1]at c;rw[C.put_ne _ h2]at d;exact h.sep r u x v b o A a f c d
 ·intro r hr;have hr:As H+1<=r:=hr;rw[C.put_ne _ (by omega)];exact h.nx r (by omega)
def Rel.new_ext(h:Rel G w0 C H w)(hb:Below w.heap.size w w'):Ext O C w (C.put (As H) (some (w.heap.size,0))) w':=Ctx.put_ext (h.nx _ (Mh _)) (h.ext_below hb)
def Rel.new(h:Rel G w0 C H w)(hb:Below w.heap.size w w')(c:w'.heap[w.heap.size]?=some (.cells arr T fz))(Rf:∀i,i<arr.size->¬(fz.1<=i/\i<fz.2))(a:cs.length<=arr.size)(hv:CG (C.sel q) w cs (arr.toList.take cs.length))(hq:q=true->arr.size=cs.length):Rel G w0 (C.put (As H) (some (w.heap.size,0))) ((As H,.cells q T cs)::H) w':=by
 have e:Ext (λ_=>False) C w (C.put (As H) (some (w.heap.size,0))) w':=h.new_ext hb;exact h.new_row hb (Or.inr ⟨w.heap.size,0,arr,fz,C.put_n _ _,c,Rf,by omega,by simpa using hv.mono (e.sel q),λh=>⟨rfl,hq h⟩⟩)
end
end
section
variable{arr':Array Value}{α:Type}{y:Value}
def AV.one:AV->Bool
 |.v x=>x.oneCell'
 |.agg _=>false
 |.tup _=>false
 |.dk=>false
 |_=>true
def B3:AV->Is
 |.agg cs=>cs
 |a=>[a]
theorem VRel.one{C:Ctx}{w:World}{a:AV}(h:VRel C w a y)(h1:a.one=true):y.oneCell'=true:=by
 cases h<;>first|exact h1|rfl|(simp[AV.one]at h1)
def A80(h:y.oneCell'=true):y.cells= #[y]:=by cases y<;>first|rfl|(simp[Value.oneCell']at h)
theorem VRel.cells{C:Ctx}{w:World}{a:AV}(h:VRel C w a y)(h1:(B3 a).all AV.one=true):CG C w (B3 a) y.cells.toList/\∀v∈y.cells.toList,v.oneCell'=true:=by
 have key:∀(b:AV)(y:Value),VRel C w b y->B3 b=[b]->(B3 b).all AV.one=true->CG C w (B3 b) y.cells.toList/\∀v∈y.cells.toList,v.oneCell'=true:=by
  intro b y hb e h1;rw[e]at h1⊢;have j:y.oneCell'=true:=hb.one (by simpa using h1);rw[A80 j];exact⟨.cons hb .nil,by simpa using j⟩
 cases a with
 |agg cs=>
  obtain⟨ys,rfl,d⟩:=ET.1 h;refine⟨by simpa [B3,Value.cells] using d,λv hv=>?_⟩;simp only[Value.cells]at hv;obtain⟨i,g⟩:=List.getElem?_of_mem hv;have c:i<cs.length:=by
   have:=(zT.1 g).1;rw[<-d.1];simpa using this
  have:=d.get i c;have h2:ys[i]'(by rw[d.1];exact c)=v:=by simpa [zT,d.1,c] using g
  rw[h2]at this;exact this.one (GG.1 (by simpa [B3] using h1) _ (Qk c))
 |v x=>exact key _ _ h rfl h1
 |ptr r p k=>exact key _ _ h rfl h1
 |iptr cs=>exact key _ _ h rfl h1
 |list n cs=>exact key _ _ h rfl h1
 |sl sz r o n=>exact key _ _ h rfl h1
 |fn f a b=>exact key _ _ h rfl h1
 |tup vs=>exact key _ _ h rfl h1
 |mp r=>exact key _ _ h rfl h1
 |imap m=>exact key _ _ h rfl h1
 |yl r=>exact key _ _ h rfl h1
 |it r=>exact key _ _ h rfl h1
 |dk=>exact key _ _ h rfl h1
def splice(l:List α)(o:Nat)(vs:List α):List α:=l.take o++vs++l.drop (o+vs.length)
def Gb{l:List α}{o:Nat}{vs:List α}(h:o+vs.length<=l.length):(splice l o vs).length=l.length:=by simp[splice];omega
def Py{l:List α}{o:Nat}{vs:List α}(h:o+vs.length<=l.length)(i:Nat):(splice l o vs)[i]?=if i<o then l[i]? else if i<o+vs.length then vs[i-o]? else l[i]?:=by
 unfold splice;by_cases h1:i<o
 ·rw[Dq h1,fQ,l0m (by simp;omega),zR,Dq h1]
 ·rw[CF h1];by_cases h2:i<o+vs.length
  ·rw[Dq h2,fQ,l0o (by simp;omega),l0m (by simp;omega)]
   congr 1
   simp;omega
  ·rw[CF h2,l0o (by simp;omega),qH]
   congr 1
   simp;omega
def sX(l:List α)(o:Nat):splice l o []=l:=by simp[splice]
def oA{l:List α}{o:Nat}{v:α}{vs:List α}(h:o+(v::vs).length<=l.length):splice (l.set o v) (o+1) vs=splice l o (v::vs):=by
 apply l0p;intro i;rw[Py (by simp at h⊢;omega),Py h];simp only[Mi]at h⊢;by_cases h1:i<o
 ·rw[Dq h1,Dq (by omega),List.getElem?_set_ne (by omega)]
 ·by_cases h2:i=o
  ·subst h2;rw[Dq (by omega),CF (by omega),Dq (by omega),List.getElem?_set_self (by omega)];simp
  ·rw[CF h1,CF (by omega)];by_cases a:i<o+(vs.length+1)
   ·rw[Dq a,Dq (by omega)];have:i-o=(i-(o+1))+1:=by omega
    rw[this,l0r]
   ·rw[CF a,CF (by omega),List.getElem?_set_ne (by omega)]
structure SameBut(w w':World)(b:Nat)(T:TypeId)(arr':Array Value)(fz:Nat×Nat):Prop where
 os:w'.os=w.os
 tape:w'.tape=w.tape
 output:w'.output=w.output
 size:w'.heap.size=w.heap.size
 here:w'.heap[b]?=some (.cells arr' T fz)
 others:∀k,k≠b->w'.heap[k]?=w.heap[k]?
def Nf{P:Program}{T:TypeId}{fz:Nat×Nat}{b:Nat}(vs:Hx):∀(w:World)(arr:Array Value)(o i:Nat),w.heap[b]?=some (.cells arr T fz)->(∀i,i<arr.size->¬(fz.1<=i/\i<fz.2))->
 o+i+vs.length<=arr.size->(∀v∈vs,v.oneCell'=true)->∃w',(storeCells ⟨b,o,none⟩ vs i).run P w=.ok () w'/\SameBut w w' b T (splice arr.toList (o+i) vs).toArray fz:=by
 induction vs with
 |nil=>intro w arr o i hb _ _ _;exact⟨w,rfl,rfl,rfl,rfl,rfl,by simp[sX,hb],λ_ _=>rfl⟩
 |cons v vs ih=>
  intro w arr o i hb Rf a c;have h:o+i<arr.size:=by simp at a;omega
  have g:(⟨b,o,none⟩:Addr).add i=⟨b,o+i,none⟩:=by unfold Addr.add;split<;>simp_all
  have d:w.cell? ⟨b,o+i,none⟩=some arr[o+i]:=by simp[World.cell?,hb,h]
  have p:w.frozen? ⟨b,o+i,none⟩=false:=by
   have:=Rf _ h;simp only[World.frozen?,hb];simp;intro h1;omega
  have n:(w.setCell ⟨b,o+i,none⟩ v).heap[b]?=some (.cells (arr.setIfInBounds (o+i) v) T fz):=by simp[World.setCell,l0s,hb]
  have j:∀k,k≠b->(w.setCell ⟨b,o+i,none⟩ v).heap[k]?=w.heap[k]?:=λk m=>Below.heap_setCell w _ v k m;obtain⟨w',hr,f⟩:=ih (w.setCell ⟨b,o+i,none⟩ v) (arr.setIfInBounds (o+i) v) o (i+1) n (by simpa using Rf) (by simp at a⊢;omega) (λx s=>c x (by simp[s]));refine⟨w',?_,f.os.trans rfl,f.tape.trans rfl,f.output.trans rfl,f.size.trans (by simp[World.setCell]),?_,λk m=>(f.others k m).trans (j k m)⟩
  ·simp only[storeCells,Dm,g,run_store P w _ v _ (c v (by simp)),d,p];simpa using hr
  ·rw[f.here];have e:=oA (l:=arr.toList) (o:=o+i) (v:=v) (vs:=vs) (by simpa using a);rw[<-e];simp[kD]
def Keep.same{B:Base}{w w':World}{b:Nat}{T:TypeId}{fz:Nat×Nat}(h:Keep B w)(a:SameBut w w' b T arr' fz)(c:B.own b):Keep B w':=
 ⟨a.os.trans h.os,a.tape.trans h.tape,a.output.trans h.output,by rw[a.size];exact h.size,λk f d=>(a.others k (λe=>by
  subst e;rcases c with c|c
  ·omega
  ·exact d c)).trans (h.block k f d)⟩
section
variable{G:Nat->Option Hx}{w0:Base}{C:Ctx}{H:Hp}{w w':World}{O:Nat->Prop}{r:Nat}{q:Bool}{T:TypeId}{cs aZ:Is}{b base o:Nat}{arr:Array Value}{fz:Nat×Nat}{ys:Hx}
def SameBut.ext(c:SameBut w w' b T arr' fz)(hb:w.heap[b]?=some (.cells arr T fz))(hsz:arr'.size=arr.size)(j:∀i,¬C.F b i)(g:¬C.B b):Ext O C w C w':=by
 refine⟨λ_ _=>rfl,λ_ _ h=>h,λk i h=>?_,λ_ h=>h,λk h=>c.others k (λe=>g (e▸h)),λk a t f h=>?_,λ_ _ h=>.inl h,λ_ h=>.inl h,Nat.le_of_eq c.size.symm⟩
 ·have:k≠b:=λe=>j i (e▸h);exact l0t (c.others k this)
 ·by_cases e:k=b
  ·subst e;rw[hb]at h;injection h with h;injection h with h1 h2 d
   subst h1 h2 d;exact⟨arr',fz,c.here,hsz⟩
  ·exact⟨a,f,(c.others k e).trans h,rfl⟩
def Rel.store(h:Rel G w0 C H w)(t:Ai H r=some (.cells q T cs))(m:Laid C w r q T cs b base arr fz)(c:o+aZ.length<=cs.length)(hv:CG (C.sel q) w aZ ys)(v:SameBut w w' b T (splice arr.toList (base+o) ys).toArray fz):Rel G w0 C (upd H r (.cells q T (splice cs o aZ))) w'/\Ext O C w C w':=by
 have j:=h.own r _ b base t m.at_;have aa:ys.length=aZ.length:=hv.1;have F:=m.fits;have hsz:(splice arr.toList (base+o) ys).toArray.size=arr.size:=by
  simp only[List.size_toArray];rw[Gb (by simp;omega)];simp
 have e:Ext O C w C w':=v.ext m.block hsz j.2.1 j.2.2;refine⟨⟨h.glob.mono e,?_,?_,?_,?_,?_,λk i hF=>v.size▸h.fin k i hF,λk Z=>v.size▸h.finB k Z,λk Q=>h.nx k (by rw[B4]at Q;exact Q)⟩,e⟩
 ·exact h.below.same v j.1
 ·intro s x f;by_cases d:s=r
  ·subst d;exact h.lt s _ t
  ·rw[Ag d]at f;exact h.lt s x f
 ·intro s x f;by_cases d:s=r
  ·subst d;rw[BH t]at f;injection f with f;subst f
   refine Or.inr ⟨b,base,_,fz,m.at_,v.here,by rw[hsz];exact m.free,by rw[hsz,Gb c];exact m.fits,?_,by rw[hsz,Gb c];exact m.exact⟩;have A:=(m.vals.mono (e.sel q))
   have K:=hv.mono (e.sel q);refine⟨by rw[Gb c,l0h,l0u,Gb (by simp;omega)];simp;omega,λi a g=>?_⟩;have B:i<cs.length:=by
    have:=(zT.1 g).1
    rwa[Gb c]at this
   rw[Py c]at g;rw[Gb c,zR,Dq B,qH,Py (by simp;omega)];have n:∀a,cs[i]?=some a->∃y,arr.toList[base+i]?=some y/\VRel (C.sel q) w' a y:=λa g=>by
    obtain⟨y,R,L⟩:=A.2 i a g;rw[zR,Dq B,qH]at R;exact⟨y,R,L⟩
   by_cases h1:i<o
   ·rw[Dq h1]at g;rw[Dq (by omega)];exact n a g
   ·rw[CF h1]at g;rw[CF (by omega)];by_cases h2:i<o+aZ.length
    ·rw[Dq h2]at g;rw[Dq (by omega)];have:base+i-(base+o)=i-o:=by omega
     rw[this];exact K.2 _ a g
    ·rw[CF h2]at g;rw[CF (by omega)];exact n a g
  ·rw[Ag d]at f;refine(h.rows s x f).mono e (λk D u=>v.others k (λY=>?_));subst Y;exact d (h.sep s r x _ _ _ _ f t u m.at_)
 ·intro s x k V f u;by_cases d:s=r
  ·subst d;exact h.own s _ k V t u
  ·rw[Ag d]at f;exact h.own s x k V f u
 ·intro s X x x' k o1 o2 f M u J;have key:∀p z,Ai (upd H r (.cells q T (splice cs o aZ))) p=some z->∃P,Ai H p=some P:=λp z hz=>by
   by_cases hq:p=r
   ·subst hq;exact⟨_,t⟩
   ·rw[Ag hq]at hz;exact⟨z,hz⟩
  obtain⟨z,hz⟩:=key s x f;obtain⟨P,N⟩:=key X x' M;exact h.sep s X z P k o1 o2 hz N u J
def Ctx.fix(C:Ctx)(b:Nat):Ctx:={C with F:=λk i=>C.F k i\/k=b}
def Ctx.fix_ext(c:O b):Ext O C w (C.fix b) w:=
 ⟨λ_ _=>rfl,λ_ _ h=>.inl h,λ_ _ _=>rfl,λ_ h=>h,λ_ _=>rfl,λ_ a _ f h=>⟨a,f,h,rfl⟩,λk i h=>by rcases h with h|h;exact .inl h;exact .inr (h▸c),λ_ h=>.inl h,Mh _⟩
def Rel.freeze(h:Rel G w0 C H w)(u:Ai H r=some (.cells q T cs))(m:Laid C w r q T cs b base arr fz):Rel G w0 (C.fix b) (cut H r) w/\Ext w0.own C w (C.fix b) w:=by
 have g:=h.own r _ b base u m.at_;have e:Ext w0.own C w (C.fix b) w:=Ctx.fix_ext g.1;have a:∀s x,Ai (cut H r) s=some x->s≠r/\Ai H s=some x:=λs x c=>by
  by_cases p:s=r
  ·subst p;rw[ML]at c;cases c
  ·rw[Qw p]at c;exact⟨p,c⟩
 refine⟨⟨h.glob.mono e,h.below,λs x c=>h.lt s x (a s x c).2,λs x c=>(h.rows s x (a s x c).2).mono e (λ_ _ _=>rfl),?_,?_,?_,h.finB,?_⟩,e⟩
 ·intro s x k B c j;have f:=h.own s x k B (a s x c).2 j;refine⟨f.1,λi d=>?_,f.2.2⟩;rcases d with d|d
  ·exact f.2.1 i d
  ·subst d;exact(a s x c).1 (h.sep s r x _ _ _ _ (a s x c).2 u j m.at_)
 ·intro s v x A k D F c t j n;exact h.sep s v x A k D F (a s x c).2 (a v A t).2 j n
 ·intro k i d;rcases d with d|d
  ·exact h.fin k i d
  ·subst d;exact m.lt
 ·intro k f;rw[cut,B4]at f;exact h.nx k f
end
end
section
variable{a:Act}{w0:Base}{c:Code}{C C':Ctx}{e:Exit}{s0:Nat}{w w' w'':World}
abbrev Gl:=Nat->Option Hx
def Fe(ro:Option Nat):Fence:={Fence.wide with round:=ro}
def wN(ro:Option Nat):(Fe ro).depth=none:=rfl
def S'(b:Nat):Deferred:={target:=.collected b,args:= #[]}
def DOk(w0:Base)(s0:Nat)(C:Ctx)(w:World)(ds:List Deferred):Prop:=
 ∃d:Hb,d.Nodup/\ds=d.map S'/\∀b∈d,s0<=b/\w0.own b/\C.B b/\w.heap[b]?=some (.deferred (some []))
def DOk.nil:DOk w0 s0 C w []:=⟨[],by simp,rfl,by simp⟩
def DOk.mono{ds:List Deferred}(h:DOk w0 s0 C w ds)(g:∀b,C.B b->C'.B b)(i:∀b,C.B b->w'.heap[b]?=w.heap[b]?):DOk w0 s0 C' w' ds:=
 let⟨f,h1,h2,d⟩:=h
 ⟨f,h1,h2,λb hb=>⟨(d b hb).1,(d b hb).2.1,g b (d b hb).2.2.1,(i b (d b hb).2.2.1).trans (d b hb).2.2.2⟩⟩
structure St(G:Gl)(w0:Base)(s0:Nat)(C:Ctx)(N:Nat)(t:Tm)(H:Hp)(a:Act)(w:World):Prop where
 rel:Rel G w0 C H w
 size:a.tmps.size=N
 tmps:XF C w t a.tmps
 defers:DOk w0 s0 C w a.defers
 le:s0<=w.heap.size
def MR(G:Gl)(w0:Base)(s0 m:Nat)(C:Ctx)(N:Nat)(w:World)(Q:Exit->Tm->Hp->Prop):Exit->Act->World->Prop:=
 λe f w'=>∃C' d b,St G w0 s0 C' N d b f w'/\Frm m w0.own C w C' w'/\Q e d b
def QB(P:Program)(G:Gl)(ro:Option Nat)(m N:Nat)(c:Code)(Q:Exit->Tm->Hp->Prop)(t:Tm)(H:Hp):Prop:=
 ∀w0 s0 C a w,St G w0 s0 C N t H a w->c.wpIn (Fe ro) 0 P (MR G w0 s0 m C N w Q) a w
def A0d(P:Program)(G:Gl)(ro:Option Nat)(m N:Nat)(ops:Array Oper)(l:List Oper)(Q:Exit->Tm->Hp->Prop)(t:Tm)(H:Hp):Prop:=
 ∀w0 s0 C a w,St G w0 s0 C N t H a w->wpListIn (Fe ro) 0 P ops (MR G w0 s0 m C N w Q) l a w
def Ra(P:Program)(G:Gl)(f:FuncId)(args:Is)(H:Hp)(Q:AV->Hp->Prop):Prop:=
 ∀w0 C w d,Rel G w0 C H w->CG C w args d->Calls P f d.toArray w λe w'=>
  ∃v y C' b,e=.returned y/\Rel G w0 C' b w'/\VRel C' w' v y/\Frm (As H) w0.own C w C' w'/\Q v b
def Frm.ext_of{G:Gl}{H:Hp}{O:Nat->Prop}(h:Frm (As H) O C w C' w')(hr:Rel G w0 C H w):Ext O C w C' w':=h.ext λ_ h=>zN hr h
section
variable{P:Program}{G:Gl}{ro:Option Nat}{m N:Nat}{Q Q':Exit->Tm->Hp->Prop}{t:Tm}{H:Hp}
def MR.later(f:Frm m w0.own C w C' w')(h:MR G w0 s0 m C' N w' Q e a w''):MR G w0 s0 m C N w Q e a w'':=
 let⟨b,g,d,s,x,q⟩:=h
 ⟨b,g,d,s,f.trans x,q⟩
def MR.mono(hq:∀e t H,Q e t H->Q' e t H)(h:MR G w0 s0 m C N w Q e a w''):MR G w0 s0 m C N w Q' e a w'':=
 let⟨b,f,d,s,x,q⟩:=h
 ⟨b,f,d,s,x,hq _ _ _ q⟩
theorem QB.mono(h:QB P G ro m N c Q t H)(hq:∀e t H,Q e t H->Q' e t H):QB P G ro m N c Q' t H:=
 λw0 s0 C a w s=>wpIn_mono (h w0 s0 C a w s) λ_ _ _=>MR.mono hq
def B2d(h:Q .normal t H):QB P G ro m N .skip Q t H:=λw0 s0 C a w s=>wpIn_skip ⟨C,t,H,s,.refl _ _,h⟩
def B2f{id:Nat}(h:Q (.exit id) t H):QB P G ro m N (.exit id) Q t H:=λw0 s0 C a w s=>wpIn_exit ⟨C,t,H,s,.refl _ _,h⟩
def B2e{l:Nat}(h:Q (.goto l) t H):QB P G ro m N (.goto l) Q t H:=λw0 s0 C a w s=>wpIn_goto ⟨C,t,H,s,.refl _ _,h⟩
def A85{l:Nat}(h:Q .normal t H):QB P G ro m N (.label l) Q t H:=λw0 s0 C a w s=>wpIn_label ⟨C,t,H,s,.refl _ _,h⟩
def B5O(h:Q .ret t H):QB P G ro m N .ret Q t H:=λw0 s0 C a w s=>wpIn_ret ⟨C,t,H,s,.refl _ _,h⟩
def B0d(K:Tm->Hp->Prop)(Q:Exit->Tm->Hp->Prop):Exit->Tm->Hp->Prop
 |.normal,t,H=>K t H
 |e,t,H=>Q e t H
def A3K(id:Nat)(Q:Exit->Tm->Hp->Prop):Exit->Tm->Hp->Prop
 |.exit i,t,H=>if i=id then Q .normal t H else Q (.exit i) t H
 |e,t,H=>Q e t H
def B5N{x y:Code}(h:QB P G ro m N x (B0d (QB P G ro m N y Q) Q) t H):QB P G ro m N (.seq x y) Q t H:=λw0 s0 C a w s=>
 wpIn_seq (wpIn_mono (h w0 s0 C a w s) λe i w' ⟨b,j,g,d,f,q⟩=>by
  cases e with
  |normal=>exact wpIn_mono (q w0 s0 b i w' d) λ_ _ _=>MR.later f
  |_=>exact⟨b,j,g,d,f,q⟩)
def A86{id:Nat}(h:QB P G ro m N c (A3K id Q) t H):QB P G ro m N (.block id c) Q t H:=λw0 s0 C a w s=>
 wpIn_block (wpIn_mono (h w0 s0 C a w s) λe n w' ⟨b,j,d,g,k,q⟩=>by
  cases e with
  |exit i=>
   simp only[A3K]at q;simp only[Exit.inBlock];split at q
   ·rename_i f;rw[Dq f];exact⟨b,j,d,g,k,q⟩
   ·rename_i f;rw[CF f];exact⟨b,j,d,g,k,q⟩
  |_=>exact⟨b,j,d,g,k,q⟩)
def oO(P:Program)(G:Gl)(ro:Option Nat)(m N:Nat)(c:Code)(Q:Exit->Tm->Hp->Prop)(t:Tm)(H:Hp):Prop:=
 ∀w0 s0 C a w,St G w0 s0 C N t H a w->∀(b:Frame)(k:List Item)(cs:List Frame),b.roundOf=(Fe ro).round->(Fe ro).fn b.fn->(Fe ro).room (cs.length+1+0)->
  ∃e d w',MR G w0 s0 m C N w Q e d w'/\ArrivesIn (Machine.fenced P (Fe ro)) P (lone (b.atR a (.code c:: .inLoop c::k)) cs w) b k cs e d w'
def A2x(h:oO P G ro m N c Q t H):QB P G ro m N (.loop c) Q t H:=by
 intro w0 s0 C a w s b k cs f hb hr;obtain⟨e,g,w',hq,d⟩:=h w0 s0 C a w s b k cs f hb hr;exact⟨e,g,w',hq,.of_steps (.one (fenced_calm hb hr rfl) stepR_loop) d⟩
def A4Y(h:QB P G ro m N c (B0d (oO P G ro m N c Q) Q) t H):oO P G ro m N c Q t H:=by
 intro w0 s0 C a w s b k cs r hb hr;obtain⟨e,a1,j,hq,d⟩:=h w0 s0 C a w s b (.inLoop c::k) cs r hb hr;obtain⟨g,u,p,i,n,q⟩:=hq;cases e with
 |normal=>
  obtain⟨y,a2,A,v,f⟩:=q w0 s0 g a1 j i b k cs r hb hr;exact⟨y,a2,A,MR.later n v,.of_steps (StepsIn.trans d (.one (fenced_calm hb hr rfl) stepR_inLoop)) f⟩
 |exit id=>exact⟨_,a1,j,⟨g,u,p,i,n,q⟩,.pass (x:=.inLoop c) rfl (λ_ _=>.inl (by simp)) d⟩
 |goto l=>exact⟨_,a1,j,⟨g,u,p,i,n,q⟩,.pass (x:=.inLoop c) rfl (λ_ _=>.inl (by simp)) d⟩
 |ret=>exact⟨_,a1,j,⟨g,u,p,i,n,q⟩,.pass (x:=.inLoop c) rfl (λ_ _=>.inl (by simp)) d⟩
 |panic B=>exact⟨_,a1,j,⟨g,u,p,i,n,q⟩,.pass (x:=.inLoop c) rfl (λ_ _=>.inl (by simp)) d⟩
 |outgrown=>exact⟨_,a1,j,⟨g,u,p,i,n,q⟩,.pass (x:=.inLoop c) rfl (λ_ _=>.inl (by simp)) d⟩
end
end
section
variable{v:AV}{K:AV->Hp->Prop}{ops:Array Oper}{C':Ctx}{q:Exit->Act->World->Prop}{F:Fence}{n:Nat}{O:Nat->Prop}{d:Option Tmp}{y:Value}{w':World}
def tS:Value->AV
 |.agg cs=>.agg (cs.toList.map .v)
 |x=>.v x
def Xe{C:Ctx}{w:World}(l:Hx):CG C w (l.map .v) l:=
 ⟨by simp,λi a b=>by
  rw[yH]at b;cases h:l[i]? with
  |none=>rw[h]at b;simp at b
  |some y=>rw[h]at b;simp at b;subst b;exact⟨y,rfl,.v y⟩⟩
def iA{C:Ctx}{w:World}(x:Value):VRel C w (tS x) x:=by
 cases x with
 |agg cs=>exact ET.2 ⟨cs.toList,by simp,Xe _⟩
 |_=>exact .v _
def JN(G:Gl)(t:Tm):Operand->AV
 |.tmp i=>HS t i
 |.const v=>tS v
 |.global g=>match G g with
  |some cs=>.iptr (cs.map .v)
  |none=>.v (.pointer (some ⟨g,0,none⟩))
 |.func f=>.fn (.func f) [] []
def RQ(t:Tm)(d:Option Tmp)(v:AV):Tm:=
 match d with
 |some d=>(d,v)::t
 |none=>t
def dok(N:Nat)(d:Option Tmp):Prop:=
 match d with
 |some d=>d<N
 |none=>True
inductive Gd where
 |run|skip|dep (b:Bool)|bad
def US:AV->Gd
 |.v (.bool b)=>.dep b
 |.dk=>.bad
 |_=>.skip
def GZ(ops:List Oper)(t:Tm)(o:Oper):Gd:=
 match o.guard with
 |none=>.run
 |some (j,want)=>match ops[j]? with
  |some p=>match p.dst with
   |some d=>match US (HS t d) with
    |.dep b=>.dep (b==want)
    |g=>g
   |none=>.skip
  |none=>.skip
section
variable{P:Program}{G:Gl}{ro:Option Nat}{m N:Nat}{Q:Exit->Tm->Hp->Prop}{t:Tm}{H:Hp}{w0:Base}{s0:Nat}{w:World}{C:Ctx}{a:Act}
def Bb(s:St G w0 s0 C N t H a w)(x:Operand):VRel C w (JN G t x) (a.eval x):=by
 have hr:=s.rel;have c:=s.tmps;cases x with
 |tmp i=>exact c i
 |const v=>exact iA v
 |global g=>
  simp only[JN,Act.eval];cases h:G g with
  |none=>exact .v _
  |some cs=>
   refine .iptr (λi=>cs.getD i undef) (λi b=>?_) (λi b=>?_) (λi b=>?_)
   ·simp at b;simpa using(hr.glob g cs h i _ (KL b)).1
   ·simp at b;rw[UW,KL b];simpa using(hr.glob g cs h i _ (KL b)).2
   ·simp at b;simp[UW,KL b];exact .v _
 |func f=>exact Ju.2 ⟨[],[],rfl,.nil,.nil⟩
def B2h(h:a.tmps.size=N)(f:XF C w t a.tmps)(e:Ext O C w C' w')(hv:VRel C' w' v y)(g:dok N d):XF C' w' (RQ t d v) (a.put d y).tmps:=by
 cases d with
 |none=>exact f.mono e
 |some d=>
  intro i;simp only[RQ,Act.put,HS];by_cases c:i=d
  ·subst c;have b:i<a.tmps.size:=by rw[h];exact g
   rw[Dq rfl];simp[fO,b];exact hv
  ·rw[CF c];have:=(f.mono e) i;simp only[fO]at this⊢;rw[Array.getElem?_setIfInBounds_ne (by omega)];exact this
def A3M(a:Act)(d:Option Tmp)(y:Value):(a.put d y).defers=a.defers:=by cases d<;>rfl
def B0e(a:Act)(d:Option Tmp)(y:Value):(a.put d y).tmps.size=a.tmps.size:=by cases d<;>simp[Act.put]
def dW:Value->Option Bool
 |.bool b=>some b
 |_=>none
def A4T{x:AV}(h:VRel C w x y):(∀b,US x=.dep b->dW y=some b)/\(US x=.skip->dW y=none)/\US x≠.run:=by
 cases h with
 |v=>cases y<;>simp[US,dW]
 |_=>simp[US,dW]
theorem A34(ops:List Oper)(j:Nat):yielded ops.toArray a.tmps j=match ops[j]? with
 |some p=>match p.dst with
  |some d=>(a.tmps[d]?).bind dW
  |none=>none
 |none=>none:=by
 simp only[yielded,l15];cases ops[j]? with
 |none=>rfl
 |some p=>
  simp only[Option.bind_some];cases p.dst with
  |none=>rfl
  |some d=>
   simp only[Option.bind_some];cases a.tmps[d]? with
   |none=>rfl
   |some y=>cases y<;>rfl
def wG(f:XF C w t a.tmps)(ops:List Oper)(o:Oper):(GZ ops t o=.run->Region.wanted o (yielded ops.toArray a.tmps)=true)/\(GZ ops t o=.skip->Region.wanted o (yielded ops.toArray a.tmps)=false)/\(∀b,GZ ops t o=.dep b->Region.wanted o (yielded ops.toArray a.tmps)=b):=by
 unfold Region.wanted GZ;cases o.guard with
 |none=>simp
 |some p=>
  obtain⟨j,want⟩:=p;simp only[A34];cases ops[j]? with
  |none=>simp
  |some p=>
   simp only;cases p.dst with
   |none=>simp
   |some d=>
    simp only;have hv:=f d;have e:=A4T hv;have hb:(a.tmps[d]?).bind dW=dW (a.tmps.getD d undef):=by
     rw[fO];cases a.tmps[d]?<;>rfl
    rw[hb];cases c:US (HS t d) with
    |run=>exact absurd c e.2.2
    |skip=>rw[e.2.1 c];simp
    |bad=>simp
    |dep b=>rw[e.1 b c];simp
def B2t(P:Program)(G:Gl)(o:Oper)(t:Tm)(H:Hp)(K:AV->Hp->Prop):Prop:=
 ∀w0 s0 C N a w,St G w0 s0 C N t H a w->∃v b y C' w',K v b/\((execOp a.eval o).run P w=.ok (.value y) w'\/((execOp a.eval o).run P w=.ok .skip w'/\y=undef))/\VRel C' w' v y/\Rel G w0 C' b w'/\Ext w0.own C w C' w'
def TO(P:Program)(G:Gl)(ro:Option Nat)(N:Nat)(o:Oper)(t:Tm)(H:Hp)(K:AV->Hp->Prop):Prop:=
 ∀w0 s0 C a w(Q:Exit->Act->World->Prop),St G w0 s0 C N t H a w->o.wpIn (Fe ro) 0 P a w (λc w'=>∃v y C' b,c=a.put o.dst y/\K v b/\VRel C' w' v y/\Rel G w0 C' b w'/\Ext w0.own C w C' w') Q
def B2k(h:Q .normal t H):A0d P G ro m N ops [] Q t H:=λw0 s0 C a w s=>⟨C,t,H,s,.refl _ _,h⟩
def Sv{o:Oper}{K f:Act->World->Prop}(h:∀a w,K a w->f a w)(b:o.wpIn F n P a w K q):o.wpIn F n P a w f q:=by
 unfold Oper.wpIn at*;refine⟨b.1,?_⟩;have b:=b.2;generalize (o.semAt F.round a.eval).run P w=r at*;cases r with
 |ok x w'=>
  cases x<;>simp only[Oper.uponIn]at b⊢ <;>
   first
    |exact h _ _ b
    |exact⟨b.1,CallsIn.mono b.2 (λe c he=>by cases e<;>first|exact h _ _ he|exact he)⟩
    |exact⟨b.1,RowsIn.mono b.2 (λ_ _ he=>h _ _ he)⟩
    |exact⟨b.1,RoundIn.mono b.2 (λe c he=>by cases e<;>first|exact h _ _ he|exact he)⟩
 |halt x w'=>cases x<;>simp only[Oper.uponIn]at b⊢ <;>exact b
def wW{q q':Exit->Act->World->Prop}(hq:∀e a w,q e a w->q' e a w):∀(l:List Oper)(a:Act)(w:World),wpListIn F n P ops q l a w->wpListIn F n P ops q' l a w:=by
 intro l
 induction l with
 |nil=>intro a w h;exact hq _ _ _ h
 |cons o l ih=>
  intro a w h;simp only[wpListIn]at h⊢;split
  ·rename_i b;rw[Dq b]at h;unfold Oper.wpIn at h⊢;refine⟨h.1,?_⟩;have h:=h.2;generalize (o.semAt F.round a.eval).run P w=r at*;cases r with
   |ok x w'=>
    cases x<;>simp only[Oper.uponIn]at h⊢ <;>
     first
      |exact ih _ _ h
      |exact⟨h.1,CallsIn.mono h.2 (λe c he=>by cases e<;>first|exact ih _ _ he|exact hq _ _ _ he|exact(let⟨a,w,k⟩:=he;⟨a,w,hq _ _ _ k⟩))⟩
      |exact⟨h.1,RowsIn.mono h.2 (λ_ _ he=>ih _ _ he)⟩
      |exact⟨h.1,RoundIn.mono h.2 (λe c he=>by cases e<;>first|exact ih _ _ he|exact hq _ _ _ he|exact(let⟨a,w,k⟩:=he;⟨a,w,hq _ _ _ k⟩))⟩
   |halt x w'=>cases x<;>simp only[Oper.uponIn]at h⊢ <;>first|exact hq _ _ _ h|exact h
  ·rename_i b;rw[CF b]at h;exact⟨h.1,ih _ _ h.2⟩
def A0d.run{l:List Oper}{b:Act}(h:A0d P G ro m N ops l Q t H)(s:St G w0 s0 C' N t H b w')(e:Frm m w0.own C w C' w'):
 wpListIn (Fe ro) 0 P ops (MR G w0 s0 m C N w Q) l b w':=
 wW (λ_ _ _=>MR.later e) l b w' (h w0 s0 C' b w' s)
def A3v{H':Hp}(s:St G w0 s0 C N t H a w)(hr:Rel G w0 C' H' w')(e:Ext O C w C' w')(hv:VRel C' w' v y)(b:dok N d):St G w0 s0 C' N (RQ t d v) H' (a.put d y) w':=
 ⟨hr,(B0e _ _ _).trans s.size,B2h s.size s.tmps e hv b,by rw[A3M];exact s.defers.mono e.B e.keepB,XV s.le e.grow⟩
def A87{ops rest:List Oper}{o:Oper}(b:dok N o.dst)(s:St G w0 s0 C N t H a w)(c:Region.wanted o (yielded ops.toArray a.tmps)=false)(h:A0d P G ro m N ops.toArray rest Q (RQ t o.dst (.v undef)) H):
 wpListIn (Fe ro) 0 P ops.toArray (MR G w0 s0 m C N w Q) (o::rest) a w:=by
 simp only[wpListIn,c,yG,if_false];exact⟨λf _=>trivial,A0d.run h (A3v s s.rel (.refl (λ_=>False) _ _) (.v undef) b) (.refl _ _)⟩
def A2B{ops rest:List Oper}{o:Oper}(b:dok N o.dst)(s:St G w0 s0 C N t H a w)(i:Region.wanted o (yielded ops.toArray a.tmps)=true)(h:TO P G ro N o t H (λv c=>A0d P G ro m N ops.toArray rest Q (RQ t o.dst v) c)):
 wpListIn (Fe ro) 0 P ops.toArray (MR G w0 s0 m C N w Q) (o::rest) a w:=by
 simp only[wpListIn,i,if_true];exact Sv (λj w' ⟨v,y,C',c,g,f,hv,hr,e⟩=>by rw[g];exact A0d.run f (A3v s hr e hv b) e.frm) (h w0 s0 C a w _ s)
def TO.mono{o:Oper}{K c:AV->Hp->Prop}(h:TO P G ro N o t H K)(g:∀v H,K v H->c v H):TO P G ro N o t H c:=
 λw0 s0 C a w Q s=>Sv (λ_ _ ⟨v,y,C',b,f,e,rest⟩=>⟨v,y,C',b,f,g v b e,rest⟩) (h w0 s0 C a w Q s)
def UT{o:Oper}(j:∀c,o.op≠.defer c)(h:B2t P G o t H K):TO P G ro N o t H K:=by
 intro w0 s0 C a w Q s;obtain⟨v,g,y,C',w',i,b,hv,hr,e⟩:=h w0 s0 C N a w s;refine⟨λf _=>trivial,?_⟩;rw[Oper.semAt_eq _ _ _ j];rcases b with b|⟨b,rfl⟩
 ·rw[b];exact⟨v,y,C',g,rfl,i,hv,hr,e⟩
 ·rw[b];exact⟨v,undef,C',g,rfl,i,hv,hr,e⟩
def A4U{id:Nat}{l:List Oper}(h:A0d P G ro m N l.toArray l Q t H):QB P G ro m N (.region id l.toArray false) Q t H:=λw0 s0 C a w s=>wpIn_region_lit (h w0 s0 C a w s)
def A2z{c:Operand}{x y:Code}{b:Bool}(hc:JN G t c=.v (.bool b))(h1:b=true->QB P G ro m N x Q t H)(h2:b=false->QB P G ro m N y Q t H):QB P G ro m N (.cond c x y) Q t H:=λw0 s0 C a w s=>by
 have:=Bb s c;rw[hc]at this;have he:a.eval c=.bool b:=AN.1 this;exact wpIn_cond_split he (λhb=>h1 hb w0 s0 C a w s) (λhb=>h2 hb w0 s0 C a w s)
def wD(s:St G w0 s0 C N t H a w)(l:List Operand):CG C w (l.map (JN G t)) (l.map a.eval):=by
 refine⟨by simp,λi b hb=>?_⟩;rw[yH]at hb⊢;cases c:l[i]? with
 |none=>rw[c]at hb;simp at hb
 |some x=>rw[c]at hb;simp at hb;subst hb;exact⟨_,rfl,Bb s x⟩
def Ti{o:Oper}{c:Call}{f:FuncId}{u:Operand}{first cap:Is}(k:o.op=.call c)(j:c.callee=.value u)(R:JN G t u=.fn (.func f) first cap){fn:Func}(x:P.funcs[f]?=some fn)(b:fn.body.isNone=false)(g:(fn.name== "runtime.NumGoroutine")=false)(h:Ra P G f (first++c.args.toList.map (JN G t)++cap) H K):TO P G ro N o t H K:=by
 intro w0 s0 C a w Q s;have hv:=Bb s u;rw[R]at hv;obtain⟨D,J,he,A,B⟩:=Ju.1 hv;have i:=(A.append (wD s c.args.toList)).append B;have hc:=h w0 C w _ s.rel i;refine⟨λf _=>trivial,?_⟩;rw[Oper.semAt_eq _ _ _ (by rw[k];intro c hc;cases hc)];have p:(execOp a.eval o).run P w=.ok (.enter f (D++c.args.toList.map a.eval++J).toArray) w:=by
  simp only[execOp,k,resolve,j,he,Deferred.ofValue,Dm,mI,Gc,invoke,callFunc,run_program,x,g,b,yG,if_false]
  congr 2
  apply qI;simp
 rw[p];refine⟨λM=>by simp[wN]at M,?_⟩;have:CallsIn (Fe ro) 0 P f (D++c.args.toList.map a.eval++J).toArray w (λe w'=>∃v y C' r,e=.returned y/\Rel G w0 C' r w'/\VRel C' w' v y/\Frm (As H) w0.own C w C' w'/\K v r):=by
  cases ro with
  |none=>exact callsIn_wide.2 hc
  |some l=>exact CallsIn.mono (callsIn_wide (n:=0).2 hc) (λ_ _ h=>h)
 refine CallsIn.mono this ?_;rintro e w' ⟨v,y,C',r,rfl,hr,hv,V,L⟩;exact⟨v,y,C',r,rfl,L,hv,hr,V.ext_of s.rel⟩
end
end
section
variable{a:AV}{K:AV->Prop}{w0:Base}{q:Bool}{C:Ctx}{H:Hp}{b base r:Nat}{fz:Nat×Nat}{y:Value}
inductive TD where
 |int (k:IntKind)|bool|string|pointer (e:TypeId)
 |slice (e:TypeId) (esz:Nat)
 |array (n:Nat) (e:TypeId) (esz:Nat)
 |struct (fs:List (Nat×Nat×TypeId))
 |map (k e:TypeId)|func|iface|other
def td(P:Program):TypeDesc->TD
 |.int k=>.int k
 |.bool=>.bool
 |.string=>.string
 |.pointer e=>.pointer e
 |.slice e=>.slice e (P.cellsOf e)
 |.array n e=>.array n e (P.cellsOf e)
 |.struct c=>.struct (c.toList.map λf=>(f.offset,P.cellsOf f.type,f.type))
 |.map k e=>.map k e
 |.func .. =>.func
 |.interface .. =>.iface
 |_=>.other
def TD.isAgg:TD->Bool
 |.struct _=>true
 |.array .. =>true
 |_=>false
structure TI where
 size:Nat
 bytes:Nat
 d:TD
 zero:AV
structure TOk1(P:Program)(t:TypeId)(i:TI):Prop where
 sb:(P.info? t).map (λx=>(x.size,x.bytes))=some (i.size,i.bytes)
 z:((P.info? t).bind (·.zero)).map tS=some i.zero
 u:(P.underlying t).map (td P)=some i.d
abbrev Ty:=TypeId->Option TI
def jX(P:Program)(T:Ty):Prop:=∀t i,T t=some i->TOk1 P t i
section
variable{P:Program}{t:TypeId}{i:TI}(w:World)
def TOk1.info(h:TOk1 P t i):∃x z,P.info? t=some x/\x.size=i.size/\x.bytes=i.bytes/\x.zero=some z/\tS z=i.zero:=by
 have h1:=h.sb;have h2:=h.z;cases c:P.info? t with
 |none=>rw[c]at h1;simp at h1
 |some x=>
  rw[c]at h1 h2;simp at h1 h2;obtain⟨z,hz,e⟩:=h2;exact⟨x,z,rfl,h1.1,h1.2,hz,e⟩
def TOk1.under(h:TOk1 P t i):∃u,P.underlying t=some u/\td P u=i.d:=by
 have h1:=h.u;cases c:P.underlying t with
 |none=>rw[c]at h1;simp at h1
 |some u=>rw[c]at h1;simp at h1;exact⟨u,rfl,h1⟩
def TOk1.run_size(h:TOk1 P t i):(sizeOf t).run P w=.ok i.size w:=by
 obtain⟨x,z,d,c,_⟩:=h.info;simp[sizeOf,typeInfo,d,c]
theorem TOk1.cellsOf(h:TOk1 P t i):P.cellsOf t=i.size:=by
 obtain⟨x,z,d,c,_⟩:=h.info;simp[Program.cellsOf,d,c]
def TOk1.run_isAgg(h:TOk1 P t i):(isAgg t).run P w=.ok i.d.isAgg w:=by
 obtain⟨u,c,e⟩:=h.under;unfold isAgg;rw[Dm,run_underlying c w,<-e];cases u<;>rfl
def TOk1.run_zero(h:TOk1 P t i):∃z,(zeroValue t).run P w=.ok z w/\tS z=i.zero:=by
 obtain⟨x,z,c,_,_,hz,e⟩:=h.info;exact⟨z,by simp[zeroValue,typeInfo,c,hz],e⟩
end
def Nb(C:Ctx)(w:World)(b o:Nat)(cs:Is):Prop:=∃vs:Hx,CG C w cs vs/\∀j v,vs[j]?=some v->w.cell? ⟨b,o+j,none⟩=some v
theorem Nb.drop{w:World}{b o:Nat}{cs:Is}(h:Nb C w b o cs)(k:Nat):Nb C w b (o+k) (cs.drop k):=by
 obtain⟨vs,h1,h2⟩:=h;refine⟨vs.drop k,h1.drop k,λj v hv=>?_⟩;rw[qH]at hv;rw[kD];exact h2 _ v hv
theorem Nb.take{w:World}{b o:Nat}{cs:Is}(h:Nb C w b o cs)(k:Nat):Nb C w b o (cs.take k):=by
 obtain⟨vs,h1,h2⟩:=h;refine⟨vs.take k,h1.take k,λj v hv=>?_⟩;rw[zR]at hv;split at hv
 ·exact h2 _ v hv
 ·simp at hv
theorem Laid.at{w:World}{T:TypeId}{cs:Is}{arr:Array Value}(h:Laid C w r q T cs b base arr fz):Nb C w b base cs:=by
 refine⟨_,h.vals.unsel,λj v hv=>?_⟩;rw[h.cell];rw[zR]at hv;split at hv
 ·rw[qH]at hv;simpa using hv
 ·simp at hv
def Laid.atq{w:World}{T:TypeId}{cs:Is}{arr:Array Value}(h:Laid C w r q T cs b base arr fz):Nb (C.sel q) w b base cs:=by
 refine⟨_,h.vals,λj v hv=>?_⟩;rw[h.cell];rw[zR]at hv;split at hv
 ·rw[qH]at hv;simpa using hv
 ·simp at hv
def vZ{w:World}{b o:Nat}{cs:Is}(vs:Nat->Value)(hc:∀i,i<cs.length->w.cell? ⟨b,o+i,none⟩=some (vs i))(hv:∀i(d:i<cs.length),VRel C w cs[i] (vs i)):Nb C w b o cs:=by
 refine⟨(List.range cs.length).map vs,⟨by simp,λi a e=>?_⟩,λj v c=>?_⟩
 ·obtain⟨d,rfl⟩:=zT.1 e;exact⟨vs i,by simp[d],hv i d⟩
 ·rw[yH]at c;by_cases h:j<cs.length
  ·simp[h]at c;subst c;exact hc j h
  ·simp[l1j (by simpa using h:(List.range cs.length).length<=j)]at c
def Kf(b o k:Nat):(⟨b,o,none⟩:Addr).add k=⟨b,o+k,none⟩:=by unfold Addr.add;split<;>simp_all
def kW{P:Program}{w:World}{b o:Nat}{cs:Is}(h:Nb C w b o cs)(n:Nat)(hn:n<=cs.length):∃vs,(loadCells ⟨b,o,none⟩ n).run P w=.ok vs.toArray w/\CG C w (cs.take n) vs:=by
 obtain⟨vs,h1,h2⟩:=h.take n;have c:vs.length=n:=by rw[h1.1];simp[hn]
 refine⟨vs,?_,h1⟩;have:=run_loadCells_list (P:=P) w ⟨b,o,none⟩ vs (λj v hv=>by rw[Kf];exact h2 j v hv)
 rwa[c]at this
def YQ(T:Ty)(ty:TypeId)(cs:Is)(K:AV->Prop):Prop:=
 match T ty with
 |some i=>if i.d.isAgg then i.size<=cs.length/\K (.agg (cs.take i.size)) else match cs with
  |c::_=>K c
  |[]=>False
 |none=>False
def Yo{P:Program}{T:Ty}(k:jX P T){w:World}{b o:Nat}{cs:Is}{ty:TypeId}(h:Nb C w b o cs)(e:YQ T ty cs K):
 ∃v y,(loadVar ty ⟨b,o,none⟩).run P w=.ok y w/\VRel C w v y/\K v:=by
 unfold YQ at e;cases j:T ty with
 |none=>rw[j]at e;exact e.elim
 |some i=>
  rw[j]at e;have ok:=k ty i j;simp only at e;by_cases f:i.d.isAgg=true
  ·rw[Dq f]at e;obtain⟨vs,hr,hv⟩:=kW (P:=P) h i.size e.1;refine⟨_,.agg vs.toArray,?_,ET.2 ⟨vs,rfl,hv⟩,e.2⟩;simp[loadVar,ok.run_isAgg,f,ok.run_size,hr]
  ·rw[CF f]at e;have g:i.d.isAgg=false:=by simpa using f
   cases cs with
   |nil=>exact e.elim
   |cons c cs=>
    obtain⟨vs,h1,h2⟩:=h;obtain⟨y,m,rfl,hv,_⟩:=h1.cons_inv;refine⟨c,y,?_,hv,e⟩;have:=h2 0 y rfl;simp only[Nat.add_zero]at this;simp[loadVar,ok.run_isAgg,g,this]
def A0A(T:Ty)(ty:TypeId)(a:AV)(H:Hp)(K:AV->Prop):Prop:=
 match a with
 |.iptr cs=>YQ T ty cs K
 |.ptr r p k=>match Ai H r with
  |some (.cells _ _ cs)=>YQ T ty (cs.drop (p+k)) K
  |_=>False
 |_=>False
def nY{P:Program}{T:Ty}(g:jX P T){G:Gl}{w:World}{ty:TypeId}(hr:Rel G w0 C H w)(j:VRel C w a y)(h:A0A T ty a H K):
 ∃v z,(Instr.loadAt ty y).run P w=.ok z w/\VRel C w v z/\K v:=by
 cases a with
 |iptr cs=>
  cases j with
  |iptr vs B hc hv=>
   obtain⟨v,z,h1,h2,c⟩:=Yo (P:=P) g (vZ vs hc (λi u=>(hv i u).up rfl rfl)) h;exact⟨v,z,by simp[Instr.loadAt,Instr.sureAddr,h1],h2,c⟩
 |ptr r p k=>
  simp only[A0A]at h;cases d:Ai H r with
  |none=>rw[d]at h;exact h.elim
  |some x=>
   rw[d]at h;cases x with
   |map q A=>exact h.elim
   |loop=>exact h.elim
   |iter=>exact h.elim
   |gone=>exact h.elim
   |cells q Ty cs=>
    cases j with
    |ptr f=>
     rcases hr.rows r _ d with⟨h1,h2⟩|⟨b,base,arr,fz,m⟩
     ·rw[h2]at f;cases f
     ·have e:=m.at_.symm.trans f;injection e with e;injection e with e;injection e with n s;subst n s
      obtain⟨v,z,h1,h2,c⟩:=Yo (P:=P) g (m.at.drop (p+k)) h;exact⟨v,z,by simp[Instr.loadAt,Instr.sureAddr,h1],h2,c⟩
 |_=>exact h.elim
def rW(T:Ty)(ty:TypeId)(a v:AV)(H:Hp)(K:Hp->Prop):Prop:=
 match a with
 |.ptr r p k=>match Ai H r,T ty with
  |some (.cells q E cs),some i=>(B3 v).length=i.size/\(B3 v).all AV.one=true/\(p+k)+(B3 v).length<=cs.length/\K (upd H r (.cells q E (splice cs (p+k) (B3 v))))
  |_,_=>False
 |_=>False
def J'{P:Program}{T:Ty}(Q:jX P T){G:Gl}{w:World}{ty:TypeId}{a v:AV}{y z:Value}{K:Hp->Prop}(hr:Rel G w0 C H w)(R:VRel C w a y)(hv:VRel C w v z)(h:rW T ty a v H K):
 ∃B m,(Instr.storeAt ty y z).run P w=.ok () m/\Rel G w0 C B m/\Ext w0.own C w C m/\K B:=by
 cases a with
 |ptr r p k=>
  simp only[rW]at h;cases n:Ai H r with
  |none=>rw[n]at h;exact h.elim
  |some x=>
   rw[n]at h;cases x with
   |map q X=>exact h.elim
   |loop=>exact h.elim
   |iter=>exact h.elim
   |gone=>exact h.elim
   |cells q E cs=>
    cases s:T ty with
    |none=>rw[s]at h;exact h.elim
    |some i=>
     rw[s]at h;obtain⟨h1,h2,L,M⟩:=h;have ok:=Q ty i s;obtain⟨f,g⟩:=hv.cells h2;cases R with
     |ptr A=>
      rcases hr.rows r _ n with⟨Y,N⟩|⟨b,base,arr,fz,c⟩
      ·rw[N]at A;cases A
      ·have e:=c.at_.symm.trans A;injection e with e;injection e with e;injection e with F J;subst F J
       have D:=c.fits;have u:CG (C.sel q) w (B3 v) z.cells.toList:=f;have d:z.cells.toList.length=(B3 v).length:=f.1;obtain⟨m,j,V⟩:=Nf (P:=P) z.cells.toList w arr (base+(p+k)) 0 c.block c.free (by omega) g;have:=hr.store (O:=w0.own) n c L u (by simpa using V);refine⟨_,m,?_,this.1,this.2,M⟩;have hsz:¬z.cells.size≠i.size:=by simp at d;omega
       simp[Instr.storeAt,Instr.sureAddr,storeVar,ok.run_size,hsz,j]
 |_=>exact h.elim
end
section
variable{op:BinOp}{a b:Int}{k:IntKind}{P:Program}{α:Type}{v:Value}
def pL(op:BinOp)(k:IntKind)(a b:Int):Option Value:=
 match op with
 |.add=>some (.int k (k.wrap (a+b)))
 |.sub=>some (.int k (k.wrap (a-b)))
 |.mul=>some (.int k (k.wrap (a*b)))
 |.quo=>if b=0 then none else some (.int k (k.wrap (a.tdiv b)))
 |.rem=>if b=0 then none else some (.int k (a.tmod b))
 |.and=>some (.int k (k.wrap ((BitVec.ofInt k.bits a&&&BitVec.ofInt k.bits b).toNat)))
 |.or=>some (.int k (k.wrap ((BitVec.ofInt k.bits a|||BitVec.ofInt k.bits b).toNat)))
 |.xor=>some (.int k (k.wrap ((BitVec.ofInt k.bits a^^^BitVec.ofInt k.bits b).toNat)))
 |.andNot=>some (.int k (k.wrap ((BitVec.ofInt k.bits a&&& ~~~BitVec.ofInt k.bits b).toNat)))
 |.eql=>some (.bool (a==b))
 |.neq=>some (.bool (a !=b))
 |.lss=>some (.bool (decide (a<b)))
 |.leq=>some (.bool (decide (a<=b)))
 |.gtr=>some (.bool (decide (a>b)))
 |.geq=>some (.bool (decide (a≥b)))
 |_=>none
def lK(op:BinOp)(k:IntKind)(a b:Int):Option Value:=
 if b<0 then none else match op with
 |.shl=>some (.int k (k.wrap (a*2^(min b.toNat k.bits))))
 |.shr=>some (.int k (a.fdiv (2^(min b.toNat k.bits))))
 |_=>none
def A7b(op:BinOp)(a b:ByteArray):Option Value:=
 match op with
 |.add=>if((a.size+b.size:Nat):Int)>IntKind.i64.max then none else some (.string (a++b))
 |.eql=>some (.bool (a.toList==b.toList))
 |.neq=>some (.bool !(a.toList==b.toList))
 |.lss=>some (.bool (Op.bytesLess a.toList b.toList))
 |.leq=>some (.bool (Op.bytesLess a.toList b.toList||a.toList==b.toList))
 |.gtr=>some (.bool !(Op.bytesLess a.toList b.toList||a.toList==b.toList))
 |.geq=>some (.bool !Op.bytesLess a.toList b.toList)
 |_=>none
def Ja:BinOp->Bool
 |.shl=>true
 |.shr=>true
 |_=>false
def Mb(o:Option α)(K:α->Prop):Prop:=
 match o with
 |some v=>K v
 |none=>False
def A1w:TD->AV->AV->Option Bool
 |.pointer _,.v (.pointer none),.v (.pointer none)=>some true
 |.pointer _,.ptr ..,.v (.pointer none)=>some false
 |.pointer _,.iptr ..,.v (.pointer none)=>some false
 |.pointer _,.v (.pointer none),.ptr .. =>some false
 |.pointer _,.v (.pointer none),.iptr .. =>some false
 |.func,.v .nilFunc,.v .nilFunc=>some true
 |.func,.fn ..,.v .nilFunc=>some false
 |.func,.v .nilFunc,.fn .. =>some false
 |.slice ..,.v (.slice none 0 0),.v (.slice none 0 0)=>some true
 |.slice ..,.list (_+1) _,.v (.slice none 0 0)=>some false
 |.slice ..,.sl _ _ _ (_+1),.v (.slice none 0 0)=>some false
 |_,_,_=>none
def sG(T:Ty)(op:BinOp)(ty:TypeId)(a b:AV)(K:AV->Prop):Prop:=
 match a,b with
 |.v (.int k m),.v (.int c n)=>if Ja op then Mb (lK op k m n) (λv=>K (.v v)) else k=c/\Mb (pL op k m n) (λv=>K (.v v))
 |.v (.string s),.v (.string u)=>Mb (A7b op s u) (λv=>K (.v v))
 |.v (.bool p),.v (.bool q)=>(∃i,T ty=some i/\i.d=.bool)/\(match op with|.eql=>K (.v (.bool (p==q)))|.neq=>K (.v (.bool (!(p==q))))|_=>False)
 |a,b=>match T ty with
  |some i=>match A1w i.d a b with
   |some q=>(match op with|.eql=>K (.v (.bool q))|.neq=>K (.v (.bool (!q)))|_=>False)
   |none=>False
  |none=>False
def B0o(c:Ja op=false)(h:pL op k a b=some v)(ty:TypeId)(w:World):(binOp op ty (.int k a) (.int k b)).run P w=.ok v w:=by
 cases op<;>simp[pL,Ja]at h c<;>try (subst h;simp[binOp,Op.intArith,Op.intBits,Op.intCmp];done)
 ·obtain⟨h1,rfl⟩:=h;simp[binOp,Op.intDiv,h1]
 ·obtain⟨h1,rfl⟩:=h;simp[binOp,Op.intDiv,h1]
def A3O{k c:IntKind}(h:lK op k a b=some v)(ty:TypeId)(w:World):(binOp op ty (.int k a) (.int c b)).run P w=.ok v w:=by
 unfold lK at h;split at h
 ·cases h
 ·rename_i hb;cases op<;>simp at h<;>(subst h;simp[binOp,Op.shift,hb])
def B0g{a b:ByteArray}(h:A7b op a b=some v)(ty:TypeId)(w:World):(binOp op ty (.string a) (.string b)).run P w=.ok v w:=by
 cases op<;>simp only[A7b]at h<;>try (simp at h;done)
 ·split at h
  ·cases h
  ·rename_i hb;injection h with h;subst h;simp only[binOp,Op.stringOp,CF hb];rfl
 all_goals (injection h with h;subst h;rfl)
def B0Y{c:Prop}[Decidable c]{x y z:α}(h1:x=z)(h2:y=z):(if c then x else y)=z:=by split<;>assumption
def oK{ty:TypeId}{x y:Operand}{a b:Value}(w:World)(h:(∀xs c,a=.agg xs->b=.agg c->False)/\¬(a=.nilIface/\b=.nilIface)):(eqGuard op ty x y a b).run P w=.ok () w:=by
 unfold eqGuard;rw[Sem.run_ite];refine B0Y (by simp) ?_;split
 ·exact absurd ⟨rfl,rfl⟩ h.2
 ·exact(h.1 _ _ rfl rfl).elim
 ·rfl
def sF{T:Ty}(D:jX P T){C:Ctx}{w:World}{ty:TypeId}{a b:AV}{y z:Value}{K:AV->Prop}(H J:Operand)(f:VRel C w a y)(hb:VRel C w b z)(h:sG T op ty a b K):
 ∃v u,(do eqGuard op ty H J y z;binOp op ty y z).run P w=.ok u w/\VRel C w v u/\K v:=by
 have c:∀{u:Value},((∀xs B,y=.agg xs->z=.agg B->False)/\¬(y=.nilIface/\z=.nilIface))->(binOp op ty y z).run P w=.ok u w->(do eqGuard op ty H J y z;binOp op ty y z).run P w=.ok u w:=by
  intro u g hr;rw[Dm,oK w g];simpa using hr
 unfold sG at h;split at h
 ·rename_i k m L n;obtain rfl:=AN.1 f;obtain rfl:=AN.1 hb;split at h
  ·rename_i F;unfold Mb at h;split at h
   ·rename_i v hv;exact⟨_,_,c ⟨by simp,by simp⟩ (A3O hv ty w),.v _,h⟩
   ·exact h.elim
  ·rename_i F;obtain⟨rfl,h⟩:=h;unfold Mb at h;split at h
   ·rename_i v hv;exact⟨_,_,c ⟨by simp,by simp⟩ (B0o (by simpa using F) hv ty w),.v _,h⟩
   ·exact h.elim
 ·obtain rfl:=AN.1 f;obtain rfl:=AN.1 hb;unfold Mb at h;split at h
  ·rename_i v hv;exact⟨_,_,c ⟨by simp,by simp⟩ (B0g hv ty w),.v _,h⟩
  ·exact h.elim
 ·rename_i p q;obtain rfl:=AN.1 f;obtain rfl:=AN.1 hb;obtain⟨⟨i,t,s⟩,h⟩:=h;obtain⟨u,x,e⟩:=(D ty i t).under;have A:u=.bool:=by rw[s]at e;cases u<;>simp[td]at e;rfl
  subst A;have he:(Op.equal ty (.bool p) (.bool q)).run P w=.ok (p==q) w:=by
   show(Op.equalIn (9999+1) ty _ _).run P w=_;unfold Op.equalIn;rw[Dm,run_underlying x w];rfl
  cases op<;>simp only at h<;>try exact h.elim
  ·exact⟨_,_,c ⟨by simp,by simp⟩ (by simp[binOp,he]),.v _,h⟩
  ·exact⟨_,_,c ⟨by simp,by simp⟩ (by simp[binOp,he]),.v _,h⟩
 ·split at h
  ·rename_i i t;split at h
   ·rename_i q hq;obtain⟨u,x,e⟩:=(D ty i t).under;have key:(Op.equal ty y z).run P w=.ok q w/\((∀xs B,y=.agg xs->z=.agg B->False)/\¬(y=.nilIface/\z=.nilIface))/\(binOp .eql ty y z=(do pure (.bool (<-Op.equal ty y z))))/\(binOp .neq ty y z=(do pure (.bool (!(<-Op.equal ty y z))))):=by
     unfold A1w at hq;split at hq<;>first
      |(have s:=‹i.d=_›
        injection hq with hq;subst hq
        rw[s]at e;cases u<;>simp[td]at e
        cases f<;>cases hb<;>(refine⟨by(show(Op.equalIn (9999+1) ty _ _).run P w=_);unfold Op.equalIn;rw[Dm,run_underlying x w];rfl,⟨by simp,by simp⟩,rfl,rfl⟩))
      |(cases hq;done)
    obtain⟨he,g,j,r⟩:=key;cases op<;>simp only at h<;>try exact h.elim
    ·exact⟨_,_,c g (by rw[j];simp[he]),.v _,h⟩
    ·exact⟨_,_,c g (by rw[r];simp[he]),.v _,h⟩
   ·exact h.elim
  ·exact h.elim
end
section
variable{a:AV}{K:AV->Prop}{C:Ctx}{esz f:Nat}{P:Program}{i:TI}{e t:TypeId}{y:Value}{w:World}
def xun(op:UnOp)(a:AV)(K:AV->Prop):Prop:=
 match op,a with
 |.neg,.v (.int k n)=>K (.v (.int k (k.wrap (0-n))))
 |.xor,.v (.int k n)=>K (.v (.int k (k.wrap ((BitVec.ofInt k.bits (if k.signed then-1 else k.max)^^^BitVec.ofInt k.bits n).toNat))))
 |.not,.v (.bool b)=>K (.v (.bool !b))
 |_,_=>False
def A6E{op:UnOp}(b:VRel C w a y)(h:xun op a K):∃v u,(Op.unary op y).run P w=.ok u w/\VRel C w v u/\K v:=by
 unfold xun at h;split at h
 ·obtain rfl:=AN.1 b;exact⟨_,_,rfl,.v _,h⟩
 ·obtain rfl:=AN.1 b;exact⟨_,_,rfl,.v _,h⟩
 ·obtain rfl:=AN.1 b;exact⟨_,_,rfl,.v _,h⟩
 ·exact h.elim
def A8D(a:AV)(K:AV->Prop):Prop:=
 match a with
 |.ptr .. =>K a
 |.iptr .. =>K a
 |.fn (.func _) _ _=>K a
 |.fn (.yield _) _ _=>K a
 |_=>False
def yT(T:Ty)(src dst:TypeId)(a:AV)(K:AV->Prop):Prop:=
 match T src,T dst with
 |some i,some j=>match j.d,a with
  |.int k,.v (.int _ n)=>K (.v (.int k (k.wrap n)))
  |.string,.v (.string s)=>(match i.d with|.string=>True|_=>False)/\K (.v (.string s))
  |_,_=>False
 |_,_=>False
def A0B{T:Ty}(q:jX P T){src dst:TypeId}(r:VRel C w a y)(h:yT T src dst a K):∃v u,(convert src dst y).run P w=.ok u w/\VRel C w v u/\K v:=by
 unfold yT at h;split at h
 ·rename_i i j x B;obtain⟨u1,d,D⟩:=(q src i x).under;obtain⟨m,g,c⟩:=(q dst j B).under;split at h
  ·rename_i k _ n p;obtain rfl:=AN.1 r;rw[p]at c;have b:m=.int k:=by cases m<;>simp[td]at c;rw[c]
   subst b;refine⟨_,_,?_,.v _,h⟩;unfold convert;rw[Dm,run_underlying d w];simp only[Gc,Dm,run_underlying g w];rfl
  ·rename_i s p;obtain rfl:=AN.1 r;obtain⟨A,h⟩:=h;rw[p]at c;have b:m=.string:=by cases m<;>simp[td]at c;rfl
   subst b;refine⟨_,_,?_,.v _,h⟩;unfold convert;rw[Dm,run_underlying d w];simp only[Gc,Dm,run_underlying g w];rfl
  ·exact h.elim
 ·exact h.elim
def kJ(T:Ty)(ty:TypeId)(a:AV)(f:Nat)(K:AV->Prop):Prop:=
 match T ty with
 |some i=>match i.d with
  |.struct g=>match g[f]? with
   |some (off,sz,_)=>sz≠0/\(match a with
    |.ptr r p k=>∃c b,c+b=p+(k+off)/\K (.ptr r c b)
    |.iptr cs=>K (.iptr (cs.drop off))
    |_=>False)
   |none=>False
  |_=>False
 |none=>False
def mK{cs:Is}{b o:Nat}(h:VRel C w (.iptr cs) (.pointer (some ⟨b,o,none⟩)))(k:Nat):VRel C w (.iptr (cs.drop k)) (.pointer (some ⟨b,o+k,none⟩)):=by
 cases h with
 |iptr vs d hc hv=>
  refine .iptr (λi=>vs (k+i)) (λi c=>?_) (λi c=>?_) (λi c=>?_)
  ·rw[kD];exact d _ (by simp at c;omega)
  ·rw[kD];exact hc _ (by simp at c;omega)
  ·rw[List.getElem_drop];exact hv _ (by simp at c;omega)
def zV{cs:Is}{b o:Nat}(h:VRel C w (.iptr cs) (.pointer (some ⟨b,o,none⟩)))(k:Nat):VRel C w (.iptr (cs.take k)) (.pointer (some ⟨b,o,none⟩)):=by
 cases h with
 |iptr vs d hc hv=>
  refine .iptr vs (λi c=>?_) (λi c=>?_) (λi c=>?_)
  ·exact d _ (by simp at c;omega)
  ·exact hc _ (by simp at c;omega)
  ·rw[List.getElem_take];exact hv _ (by simp at c;omega)
def vC{cs:Is}(h:VRel C w (.iptr cs) y):∃b o,y=.pointer (some ⟨b,o,none⟩):=by
 cases h with
 |iptr vs c hc hv=>exact⟨_,_,rfl⟩
def BZ(w:World)(h:P.cellsOf t≠0):(sizeOf t).run P w=.ok (P.cellsOf t) w:=by
 unfold Program.cellsOf at h⊢;cases b:P.info? t with
 |none=>rw[b]at h;simp at h
 |some x=>simp[sizeOf,typeInfo,b]
def K?{T:Ty}(p:jX P T){ty:TypeId}(k:VRel C w a y)(h:kJ T ty a f K):∃v u,(Instr.fieldAt ty y f).run P w=.ok u w/\VRel C w v u/\K v:=by
 unfold kJ at h;split at h
 ·rename_i i r;obtain⟨u1,m,g⟩:=(p ty i r).under;split at h
  ·rename_i B q;split at h
   ·rename_i off sz ft d;obtain⟨hsz,h⟩:=h;rw[q]at g;cases u1<;>simp[td]at g
    rename_i fields;subst g;rw[yH]at d;cases c:fields.toList[f]? with
    |none=>rw[c]at d;simp at d
    |some fd=>
     rw[c]at d;simp at d;obtain⟨g,n,A⟩:=d;have j:fields[f]?=some fd:=by simpa using c
     have x:(sizeOf fd.type).run P w=.ok sz w:=by rw[<-n];exact BZ w (by rw[n];exact hsz)
     have run:∀b o,(Instr.fieldAt ty (.pointer (some ⟨b,o,none⟩)) f).run P w=.ok (.pointer (some ⟨b,o+off,none⟩)) w:=by
      intro b o;simp[Instr.fieldAt,run_underlying m,j,Instr.sureAddr,fieldPlace,x,hsz,Kf,g]
     split at h
     ·cases k with
      |ptr s=>
       obtain⟨F,D,he,h⟩:=h;exact⟨_,_,run _ _,by rw[kD,kD,<-he];exact .ptr s,h⟩
     ·obtain⟨b,o,rfl⟩:=vC k;exact⟨_,_,run _ _,mK k _,h⟩
     ·exact h.elim
   ·exact h.elim
  ·exact h.elim
 ·exact h.elim
def sD(T:Ty)(ty:TypeId)(a:AV)(f:Nat)(K:AV->Prop):Prop:=
 match T ty with
 |some i=>match i.d,a with
  |.struct b,.agg cs=>match b[f]? with
   |some (off,_,ft)=>YQ T ft (cs.drop off) K
   |none=>False
  |_,_=>False
 |none=>False
def A15{T:Ty}(p:jX P T){ft:TypeId}{off:Nat}{cs:Is}{ys:Hx}(m:CG C w cs ys)(h:YQ T ft (cs.drop off) K):
 ∃v u,(part ft ys.toArray off).run P w=.ok u w/\VRel C w v u/\K v:=by
 unfold YQ at h;cases j:T ft with
 |none=>rw[j]at h;exact h.elim
 |some i=>
  rw[j]at h;have ok:=p ft i j;simp only at h;by_cases b:i.d.isAgg=true
  ·rw[Dq b]at h;refine⟨_,.agg ((ys.drop off).take i.size).toArray,?_,ET.2 ⟨_,rfl,(m.drop off).take _⟩,h.2⟩;simp only[part,Dm,ok.run_isAgg,b,ok.run_size,Gc,if_true,mI]
   congr 2
   apply qI;simp[List.take_drop]
  ·rw[CF b]at h;have g:i.d.isAgg=false:=by simpa using b
   cases hc:cs.drop off with
   |nil=>rw[hc]at h;exact h.elim
   |cons c n=>
    rw[hc]at h;have k:=m.drop off;rw[hc]at k;obtain⟨y,r,e,hv,_⟩:=k.cons_inv;have q:ys.toArray[off]?=some y:=by
     have:(ys.drop off)[0]?=some y:=by rw[e];rfl
     rw[qH]at this;simpa using this
    exact⟨c,y,by simp[part,ok.run_isAgg,g,q],hv,h⟩
def K!{T:Ty}(k:jX P T){ty:TypeId}(p:VRel C w a y)(h:sD T ty a f K):∃v u,(Instr.field ty y f).run P w=.ok u w/\VRel C w v u/\K v:=by
 unfold sD at h;split at h
 ·rename_i i r;obtain⟨u1,j,d⟩:=(k ty i r).under;split at h
  ·rename_i A cs q;split at h
   ·rename_i off sz ft c;rw[q]at d;cases u1<;>simp[td]at d
    rename_i fields;subst d;rw[yH]at c;cases b:fields.toList[f]? with
    |none=>rw[b]at c;simp at c
    |some fd=>
     rw[b]at c;simp at c;obtain⟨d,x,m⟩:=c;have g:fields[f]?=some fd:=by simpa using b
     obtain⟨B,rfl,s⟩:=ET.1 p;obtain⟨v,u,h1,h2,n⟩:=A15 (P:=P) k s h;refine⟨v,u,?_,h2,n⟩;simp[Instr.field,run_underlying j,g,asAgg,d,m,h1]
   ·exact h.elim
  ·exact h.elim
 ·exact h.elim
def sC(T:Ty)(ty:TypeId)(a i:AV)(K:AV->Prop):Prop:=
 match T ty,i with
 |some g,.v (.int _ n)=>match g.d,a with
  |.slice _ esz,.list m cs=>(0<=n/\n<m)/\K (.iptr ((cs.drop (n.toNat*esz)).take esz))
  |.slice _ esz,.sl _ r o m=>(0<=n/\n<m)/\K (.ptr r (o+n.toNat*esz) 0)
  |.array m _ esz,.ptr r p k=>(0<=n/\n<m)/\∃c b,c+b=p+(k+n.toNat*esz)/\K (.ptr r c b)
  |.array m _ esz,.iptr cs=>(0<=n/\n<m)/\K (.iptr ((cs.drop (n.toNat*esz)).take esz))
  |_,_=>False
 |_,_=>False
def TOk1.elem_slice(h:TOk1 P t i)(c:i.d=.slice e esz):P.underlying t=some (.slice e)/\P.cellsOf e=esz:=by
 obtain⟨u,g,b⟩:=h.under;rw[c]at b;cases u<;>simp[td]at b
 rw[g,b.1];exact⟨rfl,b.1▸b.2⟩
def TOk1.elem_array(h:TOk1 P t i){n:Nat}(c:i.d=.array n e esz):P.underlying t=some (.array n e)/\P.cellsOf e=esz:=by
 obtain⟨u,g,b⟩:=h.under;rw[c]at b;cases u<;>simp[td]at b
 rw[g,b.1,b.2.1];exact⟨rfl,b.2.1▸b.2.2⟩
def J_{T:Ty}(J:jX P T)(A:∀t i e esz,T t=some i->(i.d=.slice e esz\/∃n,i.d=.array n e esz)->esz≠0){ty:TypeId}{a i:AV}{y z:Value}(q:VRel C w a y)(M:VRel C w i z)(h:sC T ty a i K):
 ∃v u,(Instr.indexAt ty y z).run P w=.ok u w/\VRel C w v u/\K v:=by
 unfold sC at h;split at h
 ·rename_i x k n g;obtain rfl:=AN.1 M;have ok:=J ty x g;split at h
  ·rename_i e esz m cs c;obtain⟨j,hc⟩:=ok.elem_slice c;have hsz:(sizeOf e).run P w=.ok esz w:=by rw[<-hc];exact BZ w (by rw[hc];exact A ty x e esz g (.inl c))
   obtain⟨hb,h⟩:=h;cases q with
   |list0=>omega
   |list s vs H B hv=>
    refine⟨_,_,?_,zV (mK (.iptr vs H B hv) _) _,h⟩;simp[Instr.indexAt,asIntOf,run_underlying j,hb,hsz,Kf]
  ·rename_i e esz sz r o m c;obtain⟨j,hc⟩:=ok.elem_slice c;have hsz:(sizeOf e).run P w=.ok esz w:=by rw[<-hc];exact BZ w (by rw[hc];exact A ty x e esz g (.inl c))
   obtain⟨hb,h⟩:=h;cases q with
   |slz=>omega
   |sl D s L F=>
    refine⟨_,_,?_,.ptr D,h⟩;simp[Instr.indexAt,asIntOf,run_underlying j,hb,hsz,Kf,kD]
  ·rename_i m e esz r p kk c;obtain⟨j,hc⟩:=ok.elem_array c;have hsz:(sizeOf e).run P w=.ok esz w:=by rw[<-hc];exact BZ w (by rw[hc];exact A ty x e esz g (.inr ⟨m,c⟩))
   obtain⟨hb,h⟩:=h;cases q with
   |ptr D=>
    obtain⟨O,N,he,h⟩:=h;refine⟨_,_,?_,.ptr D,h⟩;simp[Instr.indexAt,asIntOf,run_underlying j,hb,hsz,Kf,he,kD,Instr.sureAddr]
  ·rename_i m e esz cs c;obtain⟨j,hc⟩:=ok.elem_array c;have hsz:(sizeOf e).run P w=.ok esz w:=by rw[<-hc];exact BZ w (by rw[hc];exact A ty x e esz g (.inr ⟨m,c⟩))
   obtain⟨hb,h⟩:=h;obtain⟨b,o,rfl⟩:=vC q;refine⟨_,_,?_,zV (mK q _) _,h⟩;simp[Instr.indexAt,asIntOf,run_underlying j,hb,hsz,Kf,Instr.sureAddr]
  ·exact h.elim
 ·exact h.elim
def sB(T:Ty)(ty:TypeId)(a i:AV)(K:AV->Prop):Prop:=
 match T ty,i with
 |some b,.v (.int _ n)=>match b.d,a with
  |.string,.v (.string s)=>(0<=n/\n<s.size)/\K (.v (.int .u8 (s.data.toList.getD n.toNat 0).toNat))
  |.array m e esz,.agg cs=>(0<=n/\n<m)/\YQ T e (cs.drop (n.toNat*esz)) K
  |_,_=>False
 |_,_=>False
def J?{T:Ty}(r:jX P T)(D:∀t i e esz,T t=some i->(i.d=.slice e esz\/∃n,i.d=.array n e esz)->esz≠0){ty:TypeId}{a i:AV}{y z:Value}(x:VRel C w a y)(F:VRel C w i z)(h:sB T ty a i K):
 ∃v u,(Instr.index ty y z).run P w=.ok u w/\VRel C w v u/\K v:=by
 unfold sB at h;split at h
 ·rename_i A k n c;obtain rfl:=AN.1 F;have ok:=r ty A c;split at h
  ·rename_i s g;obtain⟨u,j,q⟩:=ok.under;rw[g]at q;have p:u=.string:=by cases u<;>simp[td]at q;rfl
   subst p;obtain rfl:=AN.1 x;obtain⟨hb,h⟩:=h;refine⟨_,_,?_,.v _,h⟩;have b:n.toNat<s.size:=by omega
   have J:s[n.toNat]?=some s[n.toNat]:=by simp[b]
   have L:s.data.toList.getD n.toNat 0=s[n.toNat]:=by
    rw[UW,KL (by simpa using b)];rfl
   rw[L];simp[Instr.index,asIntOf,run_underlying j,hb.1,J]
  ·rename_i m e esz cs g;obtain⟨j,hc⟩:=ok.elem_array g;have hsz:(sizeOf e).run P w=.ok esz w:=by rw[<-hc];exact BZ w (by rw[hc];exact D ty A e esz c (.inr ⟨m,g⟩))
   obtain⟨hb,h⟩:=h;obtain⟨M,rfl,H⟩:=ET.1 x;obtain⟨v,u,h1,h2,B⟩:=A15 (P:=P) r H h;refine⟨v,u,?_,h2,B⟩;simp[Instr.index,asIntOf,run_underlying j,hb,hsz,h1]
  ·exact h.elim
 ·exact h.elim
end
section
variable{a:AV}{C:Ctx}{hi lo mx:Option AV}{yh yl ym:Option Value}{P:Program}{y:Value}{w:World}
def C1c:AV->Option Int
 |.v (.int _ n)=>some n
 |_=>none
def ZK:Option AV->Nat->Option Int
 |none,d=>some d
 |some a,_=>C1c a
def rY(T:Ty)(ty:TypeId)(a:AV)(lo hi mx:Option AV)(K:AV->Prop):Prop:=
 match T ty with
 |some c=>match c.d,a with
  |.string,.v (.string s)=>mx.isNone=true/\Mb (ZK lo 0) λl=>Mb (ZK hi s.size) λh=>(0<=l/\l<=h/\h<=s.size)/\K (.v (.string (s.extract l.toNat h.toNat)))
  |.slice _ b,.list m cs=>Mb (ZK lo 0) λl=>Mb (ZK hi m) λh=>Mb (ZK mx m) λx=>(0<=l/\l<=h/\h<=x/\x<=m)/\(mx.isSome=true->hi.isSome=true)/\K (.list (h-l).toNat ((cs.drop (l.toNat*b)).take ((h-l).toNat*b)))
  |.slice _ b,.sl sz r o m=>b=sz/\Mb (ZK lo 0) λl=>Mb (ZK hi m) λh=>Mb (ZK mx m) λx=>(0<=l/\l<=h/\h<=x/\x<=m)/\(mx.isSome=true->hi.isSome=true)/\K (.sl sz r (o+l.toNat*b) (h-l).toNat)
  |.slice _ _,.v (.slice none 0 0)=>Mb (ZK lo 0) λl=>Mb (ZK hi 0) λh=>mx.isNone=true/\(l=0/\h=0)/\K (.v (.slice none 0 0))
  |_,_=>False
 |none=>False
def nQ{n:Int}(h:VRel C w a y)(hb:C1c a=some n){c:Nat}(b:0<=n)(h1:n<=c)(code:BoundsCode):(Instr.sliceBound y c code).run P w=.ok n.toNat w:=by
 unfold C1c at hb;split at hb
 ·rename_i k m;injection hb with hb
  subst hb;obtain rfl:=AN.1 h;simp[Instr.sliceBound,asIntOf,b,h1]
 ·cases hb
def A0b(C:Ctx)(w:World):Option AV->Option Value->Prop
 |none,none=>True
 |some a,some y=>VRel C w a y
 |_,_=>False
def Th(c:A0b C w lo yl)(i:A0b C w hi yh)(hm:A0b C w mx ym){isS:Bool}{len cap:Nat}{l h x:Int}(hc:len<=cap)(s:ZK lo 0=some l)(r:ZK hi len=some h)(t:ZK mx cap=some x)(hb:0<=l/\l<=h/\h<=x/\x<=cap)(p:mx.isSome=true->hi.isSome=true):
 (Instr.sliceBounds isS len cap yl yh ym).run P w=.ok (l.toNat,h.toNat,x.toNat) w:=by
 have h1:∀(a:AV)(y:Value),mx=some a->VRel C w a y->∀code,(Instr.sliceBound y cap code).run P w=.ok x.toNat w:=λa y e hv code=>by
  subst e;exact nQ hv t (by omega) (by omega) _
 have h2:∀(a:AV)(y:Value),hi=some a->VRel C w a y->∀code,(Instr.sliceBound y x.toNat code).run P w=.ok h.toNat w:=λa y e hv code=>by
  subst e;exact nQ hv r (by omega) (by omega) _
 have n:∀(a:AV)(y:Value),lo=some a->VRel C w a y->∀code,(Instr.sliceBound y h.toNat code).run P w=.ok l.toNat w:=λa y e hv code=>by
  subst e;exact nQ hv s (by omega) (by omega) _
 have j:mx=none->x.toNat=cap:=λe=>by subst e;simp[ZK]at t;omega
 have k:hi=none->h.toNat=len:=λe=>by subst e;simp[ZK]at r;omega
 have d:lo=none->l.toNat=0:=λe=>by subst e;simp[ZK]at s;omega
 cases mx with
 |none=>
  cases ym with
  |some _=>exact hm.elim
  |none=>
   have g:=j rfl;cases hi with
   |none=>
    cases yh with
    |some _=>exact i.elim
    |none=>
     have u:=k rfl;cases lo with
     |none=>
      cases yl with
      |some _=>exact c.elim
      |none=>simp[Instr.sliceBounds,g,u,d rfl]
     |some a=>
      cases yl with
      |none=>exact c.elim
      |some y=>have:=n a y rfl c;simp only[Instr.sliceBounds,pure_bind,Dm,Option.isSome_none,yG,if_false,<-g,<-u,this,Gc,mI]
   |some b=>
    cases yh with
    |none=>exact i.elim
    |some z=>
     have f:=h2 b z rfl i;rw[g]at f;cases lo with
     |none=>
      cases yl with
      |some _=>exact c.elim
      |none=>simp[Instr.sliceBounds,g,d rfl,f]
     |some a=>
      cases yl with
      |none=>exact c.elim
      |some y=>have:=n a y rfl c;simp only[Instr.sliceBounds,pure_bind,Dm,Option.isSome_none,yG,if_false,g,f,this,Gc,mI]
 |some m=>
  cases ym with
  |none=>exact hm.elim
  |some q=>
   have v:=h1 m q rfl hm;cases hi with
   |none=>simp at p
   |some b=>
    cases yh with
    |none=>exact i.elim
    |some z=>
     have f:=h2 b z rfl i;cases lo with
     |none=>
      cases yl with
      |some _=>exact c.elim
      |none=>simp[Instr.sliceBounds,d rfl,v,f]
     |some a=>
      cases yl with
      |none=>exact c.elim
      |some y=>have:=n a y rfl c;simp only[Instr.sliceBounds,Dm,Option.isSome_some,if_true,v,f,this,Gc,mI]
def B0H{n cap:Nat}{cs:Is}{b o:Nat}(h:VRel C w (.list n cs) (.slice (some ⟨b,o,none⟩) n cap))(k m c:Nat)(j:Nat)(hm:m<=c):VRel C w (.list m ((cs.drop k).take j)) (.slice (some ⟨b,o+k,none⟩) m c):=by
 cases h with
 |list0=>
  refine .list hm (λ_=>undef) (λi hi=>?_) (λi hi=>?_) (λi hi=>?_)<;>simp at hi
 |list hc vs e d hv=>
  refine .list hm (λi=>vs (k+i)) (λi hi=>?_) (λi hi=>?_) (λi hi=>?_)
  ·rw[kD];exact e _ (by simp at hi;omega)
  ·rw[kD];exact d _ (by simp at hi;omega)
  ·rw[List.getElem_take,List.getElem_drop];exact hv _ (by simp at hi;omega)
def J!{T:Ty}(hT:jX P T)(hP:∀t i e b,T t=some i->(i.d=.slice e b\/∃n,i.d=.array n e b)->b≠0){ty:TypeId}{K:AV->Prop}(N:VRel C w a y)(X:A0b C w lo yl)(V:A0b C w hi yh)(hm:A0b C w mx ym)(h:rY T ty a lo hi mx K):∃v u,(Instr.sliceAt ty y yl yh ym).run P w=.ok u w/\VRel C w v u/\K v:=by
 unfold rY at h;split at h
 ·rename_i ti M;have ok:=hT ty ti M;have Z:∀u,P.underlying ty=some u->(∀n e,u≠.array n e)->Instr.sliceAt ty y yl yh ym=Instr.sliceAt ty y yl yh ym:=λ_ _ _=>rfl;split at h
  ·rename_i s L;obtain⟨u,H,e1⟩:=ok.under;rw[L]at e1;have ae:u=.string:=by cases u<;>simp[td]at e1;rfl
   subst ae;obtain rfl:=AN.1 N;obtain⟨hn,h⟩:=h;cases mx with
   |some _=>simp at hn
   |none=>
    cases ym with
    |some _=>exact hm.elim
    |none=>
     cases f:ZK lo 0 with
     |none=>rw[f]at h;exact h.elim
     |some l=>
      rw[f]at h;cases c:ZK hi s.size with
      |none=>rw[c]at h;exact h.elim
      |some af=>
       rw[c]at h;simp only[Mb]at h;obtain⟨hb,h⟩:=h;have j:=Th (P:=P) (isS:=false) X V hm (Mh s.size) f c (show ZK none s.size=some (s.size:Int) from rfl) ⟨hb.1,hb.2.1,hb.2.2,Int.le_refl _⟩ (by simp);refine⟨_,_,?_,.v _,h⟩;unfold Instr.sliceAt;rw[Dm,run_underlying H w];simp only[Gc];unfold Instr.slice;rw[Dm,run_underlying H w];simp only[Gc,Option.isSome_none,yG,if_false];rw[Dm,j];rfl
  ·rename_i e b m cs L;obtain⟨H,hc⟩:=ok.elem_slice L;have hsz:(sizeOf e).run P w=.ok b w:=by rw[<-hc];exact BZ w (by rw[hc];exact hP ty ti e b M (.inl L))
   cases f:ZK lo 0 with
   |none=>rw[f]at h;exact h.elim
   |some l=>
    rw[f]at h;cases c:ZK hi m with
    |none=>rw[c]at h;exact h.elim
    |some h1=>
     rw[c]at h;cases k:ZK mx m with
     |none=>rw[k]at h;exact h.elim
     |some x=>
      rw[k]at h;simp only[Mb]at h;obtain⟨hb,O,h⟩:=h;obtain⟨A,cap,rfl,g⟩:∃A cap,y=.slice A m cap/\m<=cap:=by
       cases N with
       |list0=>exact⟨_,_,rfl,l1h _⟩
       |list g=>exact⟨_,_,rfl,g⟩
      obtain⟨p,B,J⟩:∃p:Int,ZK mx cap=some p/\h1<=p/\p<=cap:=by
       cases mx with
       |none=>exact⟨cap,rfl,by simp[ZK]at k;omega,Int.le_refl _⟩
       |some mm=>exact⟨x,k,by omega,by omega⟩
      have j:=Th (P:=P) (isS:=true) X V hm g f c B ⟨hb.1,hb.2.1,J.1,J.2⟩ O;have q:(Instr.sliceAt ty (.slice A m cap) yl yh ym).run P w=.ok (.slice (if p.toNat=l.toNat then A else A.map (·.add (l.toNat*b))) (h1.toNat-l.toNat) (p.toNat-l.toNat)) w:=by
       unfold Instr.sliceAt;rw[Dm,run_underlying H w];simp only[Gc];unfold Instr.slice;rw[Dm,run_underlying H w];simp only[Gc];rw[Dm,j];simp only[Gc];rw[Dm,hsz];rfl
      refine⟨_,_,q,?_,h⟩;have F:h1.toNat-l.toNat=(h1-l).toNat:=by omega
      rw[F];by_cases hz:(h1-l).toNat=0
      ·rw[hz];simp;exact .list0
      ·have ac:p.toNat≠l.toNat:=by omega
       rw[CF ac];cases N with
       |list0=>omega
       |list D vs hF ab hv=>
        simp only[zQ,Kf];exact B0H (.list D vs hF ab hv) _ _ _ _ (by omega)
  ·rename_i e b sz r o m L;obtain⟨H,hc⟩:=ok.elem_slice L;have hsz:(sizeOf e).run P w=.ok b w:=by rw[<-hc];exact BZ w (by rw[hc];exact hP ty ti e b M (.inl L))
   obtain⟨rfl,h⟩:=h;cases f:ZK lo 0 with
   |none=>rw[f]at h;exact h.elim
   |some l=>
    rw[f]at h;cases c:ZK hi m with
    |none=>rw[c]at h;exact h.elim
    |some h1=>
     rw[c]at h;cases k:ZK mx m with
     |none=>rw[k]at h;exact h.elim
     |some x=>
      rw[k]at h;simp only[Mb]at h;obtain⟨hb,O,h⟩:=h;obtain⟨A,cap,rfl,g⟩:∃A cap,y=.slice A m cap/\m<=cap:=by
       cases N with
       |slz=>exact⟨_,_,rfl,l1h _⟩
       |sl Y g Q R=>exact⟨_,_,rfl,g⟩
      obtain⟨p,B,J⟩:∃p:Int,ZK mx cap=some p/\h1<=p/\p<=cap:=by
       cases mx with
       |none=>exact⟨cap,rfl,by simp[ZK]at k;omega,Int.le_refl _⟩
       |some mm=>exact⟨x,k,by omega,by omega⟩
      have j:=Th (P:=P) (isS:=true) X V hm g f c B ⟨hb.1,hb.2.1,J.1,J.2⟩ O;have q:(Instr.sliceAt ty (.slice A m cap) yl yh ym).run P w=.ok (.slice (if p.toNat=l.toNat then A else A.map (·.add (l.toNat*b))) (h1.toNat-l.toNat) (p.toNat-l.toNat)) w:=by
       unfold Instr.sliceAt;rw[Dm,run_underlying H w];simp only[Gc];unfold Instr.slice;rw[Dm,run_underlying H w];simp only[Gc];rw[Dm,j];simp only[Gc];rw[Dm,hsz];rfl
      refine⟨_,_,q,?_,h⟩;have F:h1.toNat-l.toNat=(h1-l).toNat:=by omega
      rw[F];by_cases hz:p.toNat=l.toNat
      ·have h0:(h1-l).toNat=0:=by omega
       have aa:p.toNat-l.toNat=0:=by omega
       rw[h0,aa];cases N with
       |slz hr=>exact .slz hr
       |sl Y=>exact .slz (by rw[Y];simp)
      ·rw[CF hz];cases N with
       |slz hr=>
        exact absurd (by omega) hz
       |sl Y D Q R=>
        simp only[zQ,Kf,kD];refine .sl Y (by omega) Q ?_;have h3:(p.toNat-l.toNat)*b+l.toNat*b=p.toNat*b:=by rw[<-l1e];congr 1;omega
        have h4:p.toNat*b<=cap*b:=l28 _ (by omega);omega
  ·rename_i e b L;obtain⟨H,hc⟩:=ok.elem_slice L;have hsz:(sizeOf e).run P w=.ok b w:=by rw[<-hc];exact BZ w (by rw[hc];exact hP ty ti e b M (.inl L))
   obtain rfl:=AN.1 N;cases f:ZK lo 0 with
   |none=>rw[f]at h;exact h.elim
   |some l=>
    rw[f]at h;cases c:ZK hi 0 with
    |none=>rw[c]at h;exact h.elim
    |some h1=>
     rw[c]at h;simp only[Mb]at h;obtain⟨hn,⟨rfl,rfl⟩,h⟩:=h;cases mx with
     |some _=>simp at hn
     |none=>
      cases ym with
      |some _=>exact hm.elim
      |none=>
       have j:=Th (P:=P) (isS:=true) X V hm (Mh 0) f c (show ZK none 0=some ((0:Nat):Int) from rfl) ⟨by omega,by omega,by omega,by omega⟩ (by simp);refine⟨_,_,?_,.v _,h⟩;unfold Instr.sliceAt;rw[Dm,run_underlying H w];simp only[Gc];unfold Instr.slice;rw[Dm,run_underlying H w];simp only[Gc];rw[Dm,j];simp only[Gc];rw[Dm,hsz];rfl
  ·exact h.elim
 ·exact h.elim
end
end Go.Abs
end
