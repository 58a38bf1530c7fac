import Derived.CallsIn
import Derived.Below
import Derived.Laws.Rows
import Derived.TacticsIn
/- Proved: ExchangeOrderCardSaid, the card of the law ExchangeOrder as the given rows state it (every draw that the row admits is answered as the law says). Conditions: none beyond the given statement's own; nothing is assumed ahead of it. -/
set_option linter.all false
set_option maxHeartbeats 0
noncomputable section
abbrev r_{p:Prop}(h:p):p:=h
def nM:=@List.flatMap_cons
def dW:=@List.map_append
def EN:=@List.length_append
def JZ:=@Nat.zero_add
def nL:=@List.take_succ_eq_append_getElem
def Ql:=@List.getElem_mem
def rW:=@List.take_length
def Dr:=@Go.Sem.run_bind
def Ga:=@Go.Result.andThen_ok
def lB:=@Nat.add_assoc
def yY:=@List.getElem?_map
def nJ:=@Go.Sem.run_pure
def qY:=@Array.ext'
def qX:=@List.getElem?_drop
def TV:=@List.getD_eq_getElem?_getD
def KJ:=@List.getElem?_eq_getElem
def E! :=@List.length_take
def G9:=@List.all_eq_true
def Lf:=@List.mem_range
def E':=@List.getElem?_eq_some_iff
def eI:=@List.append_assoc
def l0m:=@List.getElem?_append_left
def D_:=@List.getElem?_take
def l0o:=@List.getElem?_append_right
def l0p:=@List.ext_getElem?
def LI:=@List.length_cons
def l0r:=@List.getElem?_cons_succ
def l0s:=@Array.getElem?_modify
def l0t:=@Go.World.cell?_of_block
def l0u:=@List.length_drop
def MC:=@Nat.le_refl
def KW:=@Bool.and_eq_true
def qW:=@Bool.eq_iff_iff
def D?:=@Option.map_some
def l0z:=@Option.some.injEq
def D! :=@Bool.false_eq_true
def l15:=@List.getElem?_toArray
def rV:=@List.drop_eq_getElem_cons
def Rv:=@List.length_nil
def rU:=@Nat.beq_eq
def l19:=@Bool.not_eq_true'
def l1a:=@List.drop_drop
def l1b:=@Bool.true_and
def l1c:=@List.replicate_succ
def l1d:=@List.flatten_cons
def l1e:=@Nat.add_mul
def l1f:=@List.length_eq_one_iff
def l1g:=@Bool.and_true
def l1h:=@Nat.zero_le
def l1i:=@Bool.or_eq_true
def l1j:=@List.getElem?_eq_none
def Wg:=@Nat.blt_eq
def l1l:=@Nat.lt_irrefl
def l1m:=@List.mem_of_getElem?
def X0:=@List.map_cons
def gO:=@Array.getD_eq_getD_getElem?
def l1p:=@Array.getElem?_eq_getElem
def l1q:=@Option.getD_some
def fR:=@Nat.le_trans
def qV:=@List.drop_zero
def Vq:=@List.append_nil
def l1u:=@Nat.le_succ
def l1v:=@Array.getElem?_eq_some_iff
def kZ:=@Nat.ble_eq
def gM:=@List.eq_nil_of_length_eq_zero
def l1y:=@Function.comp_def
def QK:=@List.length_map
def ZR:=@Nat.eq_of_beq_eq_true
def l21:=@List.getElem?_cons_zero
def l22:=@Nat.min_eq_left
def kY:=@Int.toNat_natCast
def l25:=@List.take_of_length_le
def l26:=@List.pairwise_iff_getElem
def l27:=@Array.getElem?_toList
def l28:=@Nat.mul_le_mul_right
def l29:=@List.mem_of_mem_take
def Vp:=@List.mem_cons
def l2b:=@Option.some.inj
def l2c:=@Array.getElem?_push
def rT:=@Nat.mul_one
def oW:=@Nat.beq_refl
def Pu:=@List.mem_map
def l2g:=@List.getD_cons_zero
def l2h:=@List.getD_cons_succ
def l2i:=@Eq.trans
def dV:=@List.mem_append
def XY:=@List.mem_singleton
def l2l:=@List.flatMap_append
def l2m:=@List.filter_cons
def l2n:=@List.getElem_map
def qU:=@List.all_cons
def l2p:=@List.pairwise_cons
def l2q:=@Go.MapKept.run_getObj_map
def l2r:=@Nat.lt_of_lt_of_le
def l2s:=@Array.toList_push
def l2t:=@Array.toList_modify
def Hu:=@decide_eq_true
def Ir:=@decide_eq_false
def CL:=@if_neg
def Dv:=@if_pos
def l2y:=@of_decide_eq_true
def l2z:=@List.mem_filter
def l30:=@List.length_filter_le
def l32:=@List.take_append_of_le_length
def l34:=@List.drop_append_of_le_length
def l35:=@List.perm_ext_iff_of_nodup
def l36:=@List.nodup_append
def l37:=@Classical.byContradiction
def l38:=@List.take_append_drop
def l39:=@List.mem_flatMap
def l3a:=@List.all_nil
def l3b:=@List.nil_append
namespace Go.Abs
open Go.RowKit
abbrev Hx:=List Value
abbrev Hb:=List Nat
abbrev Ha:=List UInt8
inductive AV where
 |v (x:Value)
 |ptr (r p k:Nat)
 |iptr (cs:List AV)
 |list (n:Nat) (cs:List AV)
 |sl (sz r o n:Nat)
 |fn (f:Fn) (first cap:List AV)
 |agg (cs:List AV)
 |tup (vs:List AV)
 |mp (r:Nat)
 |imap (es:List (Value×AV))
 |yl (r:Nat)
 |it (r:Nat)
 |dk
abbrev IH:=List (Value×AV)
abbrev Is:=List AV
structure Ctx where
 π:Nat->Option (Option (Nat×Nat))
 F:Nat->Nat->Prop
 B:Nat->Prop
def Ctx.bare(C:Ctx):Ctx:={π:=λ_=>none,F:=C.F,B:=C.B}
inductive VRel:Ctx->World->AV->Value->Prop
 |v {C:Ctx} {w:World} (x:Value):VRel C w (.v x) x
 |ptr {C:Ctx} {w:World} {r p k b base:Nat} (h:C.π r=some (some (b,base))):VRel C w (.ptr r p k) (.pointer (some ⟨b,base+(p+k),none⟩))
 |iptr {C:Ctx} {w:World} {cs:Is} {b o:Nat} (vs:Nat->Value) (hF:∀i,i<cs.length->C.F b (o+i)) (hc:∀i,i<cs.length->w.cell? ⟨b,o+i,none⟩=some (vs i))
  (hv:∀i(hi:i<cs.length),VRel C.bare w cs[i] (vs i)):VRel C w (.iptr cs) (.pointer (some ⟨b,o,none⟩))
 |list0 {C:Ctx} {w:World} {cap:Nat} {a:Option Addr}:VRel C w (.list 0 []) (.slice a 0 cap)
 |list {C:Ctx} {w:World} {n cap:Nat} {cs:Is} {b o:Nat} (h:n<=cap) (vs:Nat->Value) (hF:∀i,i<cs.length->C.F b (o+i)) (hc:∀i,i<cs.length->w.cell? ⟨b,o+i,none⟩=some (vs i))
  (hv:∀i(hi:i<cs.length),VRel C.bare w cs[i] (vs i)):VRel C w (.list n cs) (.slice (some ⟨b,o,none⟩) n cap)
 |sl {C:Ctx} {w:World} {sz r o n b base cap:Nat} {arr:Array Value} {T:TypeId} {fz:Nat×Nat} (h:C.π r=some (some (b,base))) (hcap:n<=cap) (hb:w.heap[b]?=some (.cells arr T fz))
  (hsz:base+o+cap*sz<=arr.size):VRel C w (.sl sz r o n) (.slice (some ⟨b,base+o,none⟩) n cap)
 |slz {C:Ctx} {w:World} {sz r o:Nat} {a:Option Addr} (hr:C.π r≠none):VRel C w (.sl sz r o 0) (.slice a 0 0)
 |fn {C:Ctx} {w:World} {f:Fn} {fs cs:Is} (ys zs:Array Value) (hl:ys.size=fs.length) (hl':zs.size=cs.length) (hy:∀i(hi:i<fs.length),VRel C w fs[i] (ys.getD i undef))
  (hz:∀i(hi:i<cs.length),VRel C w cs[i] (zs.getD i undef)):VRel C w (.fn f fs cs) (.func f ys zs)
 |agg {C:Ctx} {w:World} {cs:Is} (ys:Array Value) (hl:ys.size=cs.length) (hy:∀i(hi:i<cs.length),VRel C w cs[i] (ys.getD i undef)):VRel C w (.agg cs) (.agg ys)
 |tup {C:Ctx} {w:World} {cs:Is} (ys:Array Value) (hl:ys.size=cs.length) (hy:∀i(hi:i<cs.length),VRel C w cs[i] (ys.getD i undef)):VRel C w (.tup cs) (.tuple ys)
 |mp {C:Ctx} {w:World} {r b base:Nat} (h:C.π r=some (some (b,base))):VRel C w (.mp r) (.map (some b))
 |imap {C:Ctx} {w:World} {es:IH} {b clock:Nat} (ms:Array MapEntry) (hB:C.B b) (hb:w.heap[b]?=some (.map ms clock)) (hl:ms.size=es.length) (hk:∀i(hi:i<es.length),(ms.getD i default).key=es[i].1)
  (hn:∀i j,i<j->j<ms.size->(ms.getD i default).born≠(ms.getD j default).born) (hc:∀i,i<ms.size->(ms.getD i default).born<clock)
  (hv:∀i(hi:i<es.length),VRel C.bare w es[i].2 (ms.getD i default).val):VRel C w (.imap es) (.map (some b))
 |yl {C:Ctx} {w:World} {r b base:Nat} (h:C.π r=some (some (b,base))):VRel C w (.yl r) (.func (.yield b) #[] #[])
 |it {C:Ctx} {w:World} {r b base:Nat} (h:C.π r=some (some (b,base))):VRel C w (.it r) (.pointer (some ⟨b,0,none⟩))
 |dk {C:Ctx} {w:World} (y:Value):VRel C w .dk y
structure Ext(O:Nat->Prop)(C:Ctx)(w:World)(C':Ctx)(w':World):Prop where
 π:∀r,C.π r≠none->C'.π r=C.π r
 F:∀b i,C.F b i->C'.F b i
 keep:∀b i,C.F b i->w'.cell? ⟨b,i,none⟩=w.cell? ⟨b,i,none⟩
 B:∀b,C.B b->C'.B b
 keepB:∀b,C.B b->w'.heap[b]?=w.heap[b]?
 size:∀(b:Nat)(arr:Array Value)(T:TypeId)(fz:Nat×Nat),w.heap[b]?=some (.cells arr T fz)->∃(arr':Array Value)(fz':Nat×Nat),w'.heap[b]?=some (.cells arr' T fz')/\arr'.size=arr.size
 new:∀b i,C'.F b i->C.F b i\/O b
 newB:∀b,C'.B b->C.B b\/O b
 grow:w.heap.size<=w'.heap.size
structure Frm(m:Nat)(O:Nat->Prop)(C:Ctx)(w:World)(C':Ctx)(w':World):Prop where
 π:∀r,r<m->C.π r≠none->C'.π r=C.π r
 F:∀b i,C.F b i->C'.F b i
 keep:∀b i,C.F b i->w'.cell? ⟨b,i,none⟩=w.cell? ⟨b,i,none⟩
 B:∀b,C.B b->C'.B b
 keepB:∀b,C.B b->w'.heap[b]?=w.heap[b]?
 size:∀(b:Nat)(arr:Array Value)(T:TypeId)(fz:Nat×Nat),w.heap[b]?=some (.cells arr T fz)->∃(arr':Array Value)(fz':Nat×Nat),w'.heap[b]?=some (.cells arr' T fz')/\arr'.size=arr.size
 new:∀b i,C'.F b i->C.F b i\/O b
 newB:∀b,C'.B b->C.B b\/O b
 grow:w.heap.size<=w'.heap.size
def Ext.refl(O:Nat->Prop)(C:Ctx)(w:World):Ext O C w C w:=
 ⟨λ_ _=>rfl,λ_ _ h=>h,λ_ _ _=>rfl,λ_ h=>h,λ_ _=>rfl,λ_ arr _ fz h=>⟨arr,fz,h,rfl⟩,λ_ _ h=>.inl h,λ_ h=>.inl h,MC _⟩
def tO{w w' d:World}(h:∀(b:Nat)(arr:Array Value)(T:TypeId)(fz:Nat×Nat),w.heap[b]?=some (.cells arr T fz)->∃(a:Array Value)(c:Nat×Nat),w'.heap[b]?=some (.cells a T c)/\a.size=arr.size)(k:∀(b:Nat)(arr:Array Value)(T:TypeId)(fz:Nat×Nat),w'.heap[b]?=some (.cells arr T fz)->∃(a:Array Value)(c:Nat×Nat),d.heap[b]?=some (.cells a T c)/\a.size=arr.size):
 ∀(b:Nat)(arr:Array Value)(T:TypeId)(fz:Nat×Nat),w.heap[b]?=some (.cells arr T fz)->∃(a:Array Value)(c:Nat×Nat),d.heap[b]?=some (.cells a T c)/\a.size=arr.size:=λb arr T fz hb=>by
 have⟨a1,f1,h1,e⟩:=h b arr T fz hb;have⟨a2,f2,h2,f⟩:=k b a1 T f1 h1;exact⟨a2,f2,h2,f.trans e⟩
def Ext.trans{O:Nat->Prop}{C C' c:Ctx}{w w' d:World}(h:Ext O C w C' w')(k:Ext O C' w' c d):Ext O C w c d:=
 ⟨λr hr=>(k.π r (by rw[h.π r hr];exact hr)).trans (h.π r hr),λb i a=>k.F b i (h.F b i a),
  λb i a=>(k.keep b i (h.F b i a)).trans (h.keep b i a),λb hb=>k.B b (h.B b hb),λb hb=>(k.keepB b (h.B b hb)).trans (h.keepB b hb),
  tO h.size k.size,
  λb i a=>by
   rcases k.new b i a with h1|h1
   ·exact h.new b i h1
   ·exact .inr h1,
  λb a=>by
   rcases k.newB b a with h1|h1
   ·exact h.newB b h1
   ·exact .inr h1,fR h.grow k.grow⟩
def Ext.frm{m:Nat}{O:Nat->Prop}{C C':Ctx}{w w':World}(h:Ext O C w C' w'):Frm m O C w C' w':=
 ⟨λr _ hr=>h.π r hr,h.F,h.keep,h.B,h.keepB,h.size,h.new,h.newB,h.grow⟩
def Frm.refl{m:Nat}(O:Nat->Prop){C:Ctx}(w:World):Frm m O C w C w:=(Ext.refl O C w).frm
def Frm.trans{m:Nat}{O:Nat->Prop}{C C' c:Ctx}{w w' d:World}(h:Frm m O C w C' w')(k:Frm m O C' w' c d):Frm m O C w c d:=
 ⟨λr hm hr=>(k.π r hm (by rw[h.π r hm hr];exact hr)).trans (h.π r hm hr),λb i a=>k.F b i (h.F b i a),
  λb i a=>(k.keep b i (h.F b i a)).trans (h.keep b i a),λb hb=>k.B b (h.B b hb),λb hb=>(k.keepB b (h.B b hb)).trans (h.keepB b hb),
  tO h.size k.size,
  λb i a=>by
   rcases k.new b i a with h1|h1
   ·exact h.new b i h1
   ·exact .inr h1,
  λb a=>by
   rcases k.newB b a with h1|h1
   ·exact h.newB b h1
   ·exact .inr h1,fR h.grow k.grow⟩
def Frm.ext{m:Nat}{O:Nat->Prop}{C C':Ctx}{w w':World}(h:Frm m O C w C' w')(hm:∀r,C.π r≠none->r<m):Ext O C w C' w':=
 ⟨λr hr=>h.π r (hm r hr) hr,h.F,h.keep,h.B,h.keepB,h.size,h.new,h.newB,h.grow⟩
def Ext.bare{O:Nat->Prop}{C C':Ctx}{w w':World}(h:Ext O C w C' w'):Ext O C.bare w C'.bare w':=
 ⟨λ_ _=>rfl,h.F,h.keep,h.B,h.keepB,h.size,h.new,h.newB,h.grow⟩
def Ext.at{O:Nat->Prop}{C C':Ctx}{w w':World}(e:Ext O C w C' w'){r:Nat}{x:Option (Nat×Nat)}(h:C.π r=some x):C'.π r=some x:=
 (e.π r (by rw[h];simp)).trans h
def VRel.mono{O:Nat->Prop}{C C':Ctx}{w w':World}{a:AV}{y:Value}(h:VRel C w a y)(e:Ext O C w C' w'):VRel C' w' a y:=by
 induction h generalizing C' with
 |v x=>exact .v x
 |ptr h=>exact .ptr (e.at h)
 |iptr vs c hc _ ih=>exact .iptr vs (λi hi=>e.F _ _ (c i hi)) (λi hi=>(e.keep _ _ (c i hi)).trans (hc i hi)) (λi hi=>ih i hi e.bare)
 |list0=>exact .list0
 |list h vs c hc _ ih=>exact .list h vs (λi hi=>e.F _ _ (c i hi)) (λi hi=>(e.keep _ _ (c i hi)).trans (hc i hi)) (λi hi=>ih i hi e.bare)
 |sl h d hb hsz=>
  have⟨a1,f1,h1,n⟩:=e.size _ _ _ _ hb;exact .sl (e.at h) d h1 (by rw[n];exact hsz)
 |slz hr=>exact .slz (by rw[e.π _ hr];exact hr)
 |fn f q b g _ _ j k=>exact .fn f q b g (λi hi=>j i hi e) (λi hi=>k i hi e)
 |agg f b _ ih=>exact .agg f b (λi hi=>ih i hi e)
 |tup f b _ ih=>exact .tup f b (λi hi=>ih i hi e)
 |mp h=>exact .mp (e.at h)
 |imap ms m hb b p hn hc _ ih=>exact .imap ms (e.B _ m) ((e.keepB _ m).trans hb) b p hn hc (λi hi=>ih i hi e.bare)
 |yl h=>exact .yl (e.at h)
 |it h=>exact .it (e.at h)
 |dk y=>exact .dk y
def VRel.up{C C':Ctx}{w:World}{a:AV}{y:Value}(h:VRel C.bare w a y)(c:C'.F=C.F)(d:C'.B=C.B):VRel C' w a y:=by
 generalize hc:C.bare=D at h
 induction h generalizing C C' with
 |v x=>exact .v x
 |ptr h=>subst hc;cases h
 |iptr vs e b hv _=>subst hc;exact .iptr vs (λi hi=>by rw[c];exact e i hi) b (λi hi=>by have:=hv i hi;simpa [Ctx.bare,c,d] using this)
 |list0=>exact .list0
 |list h vs e b hv _=>subst hc;exact .list h vs (λi hi=>by rw[c];exact e i hi) b (λi hi=>by have:=hv i hi;simpa [Ctx.bare,c,d] using this)
 |sl h=>subst hc;cases h
 |slz hr=>subst hc;exact absurd rfl hr
 |fn g q f k _ _ m n=>exact .fn g q f k (λi hi=>m i hi c d hc) (λi hi=>n i hi c d hc)
 |agg g f _ ih=>exact .agg g f (λi hi=>ih i hi c d hc)
 |tup g f _ ih=>exact .tup g f (λi hi=>ih i hi c d hc)
 |mp h=>subst hc;cases h
 |imap ms j hb f p hn b hv _=>subst hc;exact .imap ms (by rw[d];exact j) hb f p hn b (λi hi=>by have:=hv i hi;simpa [Ctx.bare,c,d] using this)
 |yl h=>subst hc;cases h
 |it h=>subst hc;cases h
 |dk y=>exact .dk y
def dA:Nat->AV->Bool
 |_,.v _=>true
 |_,.iptr _=>true
 |_,.list _ _=>true
 |_,.imap _=>true
 |_,.dk=>true
 |k+1,.fn _ a cs=>a.all (dA k)&&cs.all (dA k)
 |k+1,.agg cs=>cs.all (dA k)
 |k+1,.tup cs=>cs.all (dA k)
 |_,_=>false
def VRel.down{C C':Ctx}{w:World}(d:C'.F=C.F)(f:C'.B=C.B):∀(k:Nat)(a:AV)(y:Value),dA k a=true->VRel C w a y->VRel C' w a y:=by
 intro k
 induction k with
 |zero=>
  intro a y hc h;cases h with
  |v=>exact .v _
  |iptr vs c b hv=>exact .iptr vs (λi hi=>by rw[d];exact c i hi) b (λi hi=>by have:=hv i hi;simpa [Ctx.bare,d,f] using this)
  |list0=>exact .list0
  |list h vs c b hv=>exact .list h vs (λi hi=>by rw[d];exact c i hi) b (λi hi=>by have:=hv i hi;simpa [Ctx.bare,d,f] using this)
  |imap ms g hb e n hn b hv=>exact .imap ms (by rw[f];exact g) hb e n hn b (λi hi=>by have:=hv i hi;simpa [Ctx.bare,d,f] using this)
  |dk y=>exact .dk y
  |_=>simp[dA]at hc
 |succ k ih=>
  intro a y hc h;cases h with
  |v=>exact .v _
  |iptr vs c b hv=>exact .iptr vs (λi hi=>by rw[d];exact c i hi) b (λi hi=>by have:=hv i hi;simpa [Ctx.bare,d,f] using this)
  |list0=>exact .list0
  |list h vs c b hv=>exact .list h vs (λi hi=>by rw[d];exact c i hi) b (λi hi=>by have:=hv i hi;simpa [Ctx.bare,d,f] using this)
  |imap ms g hb e n hn b hv=>exact .imap ms (by rw[f];exact g) hb e n hn b (λi hi=>by have:=hv i hi;simpa [Ctx.bare,d,f] using this)
  |dk y=>exact .dk y
  |fn m q e p j hz=>
   simp only[dA,KW,G9]at hc;exact .fn m q e p (λi hi=>ih _ _ (hc.1 _ (Ql hi)) (j i hi)) (λi hi=>ih _ _ (hc.2 _ (Ql hi)) (hz i hi))
  |agg m e j=>
   simp only[dA,G9]at hc;exact .agg m e (λi hi=>ih _ _ (hc _ (Ql hi)) (j i hi))
  |tup m e j=>
   simp only[dA,G9]at hc;exact .tup m e (λi hi=>ih _ _ (hc _ (Ql hi)) (j i hi))
  |_=>simp[dA]at hc
def CJ(C:Ctx)(w:World)(b:Is)(ys:Hx):Prop:=ys.length=b.length/\∀(i:Nat)(a:AV),b[i]?=some a->∃y,ys[i]?=some y/\VRel C w a y
def CJ.mono{O:Nat->Prop}{C C':Ctx}{w w':World}{b:Is}{ys:Hx}(h:CJ C w b ys)(e:Ext O C w C' w'):CJ C' w' b ys:=
 ⟨h.1,λi a c=>let⟨y,d,hv⟩:=h.2 i a c;⟨y,d,hv.mono e⟩⟩
def CJ.up{C C':Ctx}{w:World}{b:Is}{ys:Hx}(h:CJ C.bare w b ys)(d:C'.F=C.F)(c:C'.B=C.B):CJ C' w b ys:=
 ⟨h.1,λi a e=>let⟨y,f,hv⟩:=h.2 i a e;⟨y,f,hv.up d c⟩⟩
def CJ.down{C C':Ctx}{w:World}{b:Is}{ys:Hx}(k:Nat)(hc:b.all (dA k)=true)(h:CJ C w b ys)(e:C'.F=C.F)(d:C'.B=C.B):CJ C' w b ys:=
 ⟨h.1,λi a c=>let⟨y,f,hv⟩:=h.2 i a c;⟨y,f,hv.down e d k _ _ (G9.1 hc _ (l1m c))⟩⟩
def CJ.nil{C:Ctx}{w:World}:CJ C w [] []:=⟨rfl,λ_ _ h=>by simp at h⟩
def CJ.cons{C:Ctx}{w:World}{a:AV}{y:Value}{c:Is}{ys:Hx}(h:VRel C w a y)(d:CJ C w c ys):CJ C w (a::c) (y::ys):=
 ⟨by simp[d.1],λi b hb=>by
  cases i with
  |zero=>simp at hb;subst hb;exact⟨y,rfl,h⟩
  |succ i=>simpa using d.2 i b (by simpa using hb)⟩
def CJ.cons_inv{C:Ctx}{w:World}{a:AV}{d:Is}{ys:Hx}(h:CJ C w (a::d) ys):∃y c,ys=y::c/\VRel C w a y/\CJ C w d c:=by
 cases ys with
 |nil=>simp[CJ]at h
 |cons y ys=>
  have⟨z,hz,hv⟩:=h.2 0 a rfl;simp at hz;subst hz;exact⟨y,ys,rfl,hv,by simpa using h.1,λi b hb=>by simpa using h.2 (i+1) b (by simpa using hb)⟩
def CJ.nil_inv{C:Ctx}{w:World}{ys:Hx}(h:CJ C w [] ys):ys=[]:=gM (by simpa using h.1)
def CJ.get{C:Ctx}{w:World}{a:Is}{ys:Hx}(h:CJ C w a ys)(i:Nat)(hi:i<a.length):VRel C w a[i] (ys[i]'(by rw[h.1];exact hi)):=by
 have⟨y,b,hv⟩:=h.2 i a[i] (KJ hi);rw[KJ (by rw[h.1];exact hi)]at b;injection b with b
 rw[b];exact hv
def CJ.take{C:Ctx}{w:World}{c:Is}{ys:Hx}(h:CJ C w c ys)(k:Nat):CJ C w (c.take k) (ys.take k):=
 ⟨by simp[h.1],λi a b=>by
  rw[D_]at b⊢;split at b
  ·rename_i d;rw[Dv d];exact h.2 i a b
  ·simp at b⟩
def CJ.drop{C:Ctx}{w:World}{b:Is}{ys:Hx}(h:CJ C w b ys)(k:Nat):CJ C w (b.drop k) (ys.drop k):=
 ⟨by simp[h.1],λi a c=>by
  rw[qX]at c⊢;exact h.2 _ a c⟩
def CJ.append{C:Ctx}{w:World}{c d:Is}{ys zs:Hx}(h:CJ C w c ys)(k:CJ C w d zs):CJ C w (c++d) (ys++zs):=
 ⟨by simp[h.1,k.1],λi a b=>by
  rw[List.getElem?_append]at b⊢;rw[h.1];split at b
  ·rename_i hi;rw[Dv hi];exact h.2 i a b
  ·rename_i hi;rw[CL hi];exact k.2 _ a b⟩
def ET{C:Ctx}{w:World}{cs:Is}{y:Value}:VRel C w (.agg cs) y↔∃b:Hx,y=.agg b.toArray/\CJ C w cs b:=by
 constructor
 ·intro h;cases h with
  |agg b c d=>
   refine⟨b.toList,by simp,by simpa using c,λi a e=>?_⟩;obtain⟨hi,rfl⟩:=E'.1 e;have h1:=d i hi;refine⟨_,?_,h1⟩;simp[c,hi]
 ·rintro⟨b,rfl,c,h⟩;refine .agg _ (by simpa using c) λi hi=>?_;have⟨y,d,hv⟩:=h i _ (KJ hi);have:b.toArray.getD i undef=y:=by simp[gO,d]
  rw[this];exact hv
def DQ{C:Ctx}{w:World}{cs:Is}{y:Value}:VRel C w (.tup cs) y↔∃b:Hx,y=.tuple b.toArray/\CJ C w cs b:=by
 constructor
 ·intro h;cases h with
  |tup b c d=>
   refine⟨b.toList,by simp,by simpa using c,λi a e=>?_⟩;obtain⟨hi,rfl⟩:=E'.1 e;have h1:=d i hi;refine⟨_,?_,h1⟩;simp[c,hi]
 ·rintro⟨b,rfl,c,h⟩;refine .tup _ (by simpa using c) λi hi=>?_;have⟨y,d,hv⟩:=h i _ (KJ hi);have:b.toArray.getD i undef=y:=by simp[gO,d]
  rw[this];exact hv
def AQ{C:Ctx}{w:World}{x y:Value}:VRel C w (.v x) y↔y=x:=⟨λh=>by cases h;rfl,λh=>by subst h;exact .v _⟩
def Jy{C:Ctx}{w:World}{f:Fn}{k cs:Is}{y:Value}:VRel C w (.fn f k cs) y↔∃c d:Hx,y=.func f c.toArray d.toArray/\CJ C w k c/\CJ C w cs d:=by
 constructor
 ·intro h;cases h with
  |fn c d g b e hz=>
   refine⟨c.toList,d.toList,by simp,⟨by simpa using g,λi a j=>?_⟩,by simpa using b,λi a j=>?_⟩
   ·obtain⟨hi,rfl⟩:=E'.1 j;have h1:=e i hi;refine⟨_,?_,h1⟩;simp[g,hi]
   ·obtain⟨hi,rfl⟩:=E'.1 j;have h1:=hz i hi;refine⟨_,?_,h1⟩;simp[b,hi]
 ·rintro⟨c,d,rfl,⟨g,h⟩,b,m⟩;refine .fn _ _ (by simpa using g) (by simpa using b) (λi hi=>?_) λi hi=>?_
  ·have⟨y,e,hv⟩:=h i _ (KJ hi);have:c.toArray.getD i undef=y:=by simp[gO,e]
   rw[this];exact hv
  ·have⟨y,e,hv⟩:=m i _ (KJ hi);have:d.toArray.getD i undef=y:=by simp[gO,e]
   rw[this];exact hv
end Go.Abs
end
noncomputable section
namespace Go.Abs
open Go.RowKit
section
variable{s:Nat}
abbrev Tm:=List (Nat×AV)
def HR:Tm->Nat->AV
 |[],_=>.dk
 |(k,v)::t,i=>if i=k then v else HR t i
def XU(C:Ctx)(w:World)(t:Tm)(tmps:Array Value):Prop:=∀i,VRel C w (HR t i) (tmps.getD i undef)
def XU.mono{O:Nat->Prop}{C C':Ctx}{w w':World}{t:Tm}{tmps:Array Value}(h:XU C w t tmps)(e:Ext O C w C' w'):XU C' w' t tmps:=λi=>(h i).mono e
inductive Row where
 |cells (q:Bool) (T:TypeId) (cs:Is)
 |map (q:Bool) (es:IH) (bo:Option (Hb×Nat))
 |loop (N:Nat) (t:Tm) (ps:Array Tmp) (aZ bd:Code) (pend:Option (Option Code))
 |iter (left:IH) (last:Option (Value×AV))
 |gone
def Row.live:Row->Option Row
 |.gone=>none
 |x=>some x
abbrev Hp:=List (Nat×Row)
def Ah:Hp->Nat->Option Row
 |[],_=>none
 |(k,x)::l,r=>if r=k then x.live else Ah l r
def upd:Hp->Nat->Row->Hp
 |[],_,_=>[]
 |(k,x)::l,r,y=>if r=k then(k,y)::l else(k,x)::upd l r y
def cut(H:Hp)(r:Nat):Hp:=upd H r .gone
def Ar:Hp->Nat
 |[]=>0
 |(k,_)::_=>k+1
def B9(H:Hp)(r:Nat)(y:Row):Ar (upd H r y)=Ar H:=by
 cases H with
 |nil=>rfl
 |cons p H=>
  have⟨k,z⟩:=p;by_cases a:r=k<;>simp[upd,a,Ar]
def BC{H:Hp}{r:Nat}{x y:Row}(h:Ah H r=some x):Ah (upd H r y) r=y.live:=by
 induction H with
 |nil=>simp[Ah]at h
 |cons p H ih=>
  have⟨k,z⟩:=p;simp only[Ah]at h;by_cases a:r=k
  ·simp[upd,a,Ah]
  ·simp only[CL a]at h;simp[upd,a,Ah,ih h]
def Ag{H:Hp}{r s:Nat}{y:Row}(h:s≠r):Ah (upd H r y) s=Ah H s:=by
 induction H with
 |nil=>rfl
 |cons p H ih=>
  have⟨k,z⟩:=p;by_cases a:r=k
  ·subst a;simp[upd,Ah,h]
  ·simp only[upd,CL a,Ah,ih]
def MW{H:Hp}{r:Nat}:Ah (cut H r) r=none:=by
 induction H with
 |nil=>rfl
 |cons p H ih=>
  have⟨k,z⟩:=p;by_cases a:r=k
  ·simp[cut,upd,a,Ah,Row.live]
  ·simp only[cut,upd,CL a,Ah];exact ih
def QJ{H:Hp}{r s:Nat}(h:s≠r):Ah (cut H r) s=Ah H s:=Ag h
def jF{x y:Row}(h:x.live=some y):x=y/\y≠.gone:=by cases x<;>simp[Row.live]at h<;>subst h<;>simp
def ED{H:Hp}{r:Nat}{x:Row}(h:Ah H r=some x):x≠.gone:=by
 induction H with
 |nil=>simp[Ah]at h
 |cons p H ih=>
  have⟨k,z⟩:=p;simp only[Ah]at h;split at h
  ·exact(jF h).2
  ·exact ih h
def Ctx.sel(C:Ctx)(_:Bool):Ctx:=C
def VRel.unsel{C:Ctx}{w:World}{q:Bool}{a:AV}{y:Value}(h:VRel (C.sel q) w a y):VRel C w a y:=h
def CJ.unsel{C:Ctx}{w:World}{q:Bool}{a:Is}{ys:Hx}(h:CJ (C.sel q) w a ys):CJ C w a ys:=h
def Ext.sel{O:Nat->Prop}{C C':Ctx}{w w':World}(h:Ext O C w C' w')(q:Bool):Ext O (C.sel q) w (C'.sel q) w':=h
structure Base where
 w:World
 U:Nat->Prop
def Base.own(B:Base)(b:Nat):Prop:=B.w.heap.size<=b\/B.U b
structure Keep(B:Base)(w:World):Prop where
 os:w.os=B.w.os
 tape:w.tape=B.w.tape
 output:w.output=B.w.output
 size:B.w.heap.size<=w.heap.size
 block:∀b,b<B.w.heap.size->¬B.U b->w.heap[b]?=B.w.heap[b]?
def Keep.refl(w:World)(U:Nat->Prop):Keep ⟨w,U⟩ w:=⟨rfl,rfl,rfl,MC _,λ_ _ _=>rfl⟩
def Keep.below{B:Base}{w w':World}(h:Keep B w)(hb:Below w.heap.size w w'):Keep B w':=
 ⟨hb.os.trans h.os,hb.tape.trans h.tape,hb.output.trans h.output,fR h.size hb.size,λb a c=>(hb.block b (l2r a h.size)).trans (h.block b a c)⟩
structure Laid(C:Ctx)(w:World)(r:Nat)(q:Bool)(T:TypeId)(cs:Is)(b base:Nat)(arr:Array Value)(fz:Nat×Nat):Prop where
 at_:C.π r=some (some (b,base))
 block:w.heap[b]?=some (.cells arr T fz)
 free:∀i,i<arr.size->¬(fz.1<=i/\i<fz.2)
 fits:base+cs.length<=arr.size
 vals:CJ (C.sel q) w cs ((arr.toList.drop base).take cs.length)
 exact:q=true->base=0/\arr.size=cs.length
def Ml(C:Ctx)(w:World)(es:IH)(ms:List MapEntry):Prop:=
 ms.length=es.length/\∀(i:Nat)(p:Value×AV),es[i]?=some p->∃m:MapEntry,ms[i]?=some m/\m.key=p.1/\VRel C w p.2 m.val
structure MOk(ms:Array MapEntry)(clock:Nat):Prop where
 born:ms.toList.Pairwise λa b=>a.born≠b.born
 lt:∀m∈ms.toList,m.born<clock
def BOk:Option (Hb×Nat)->Array MapEntry->Nat->Prop
 |none,_,_=>True
 |some (a,c),ms,clock=>ms.toList.map (·.born)=a/\clock=c
def Ml.mono{O:Nat->Prop}{C C':Ctx}{w w':World}{es:IH}{ms:List MapEntry}(h:Ml C w es ms)(e:Ext O C w C' w'):Ml C' w' es ms:=
 ⟨h.1,λi p c=>let⟨m,hm,a,hv⟩:=h.2 i p c;⟨m,hm,a,hv.mono e⟩⟩
def gI(C:Ctx)(w:World)(ms:Array MapEntry)(seen:Array Nat):Option (Value×AV)->Prop
 |none=>True
 |some p=>∃m∈ms.toList,seen.back?=some m.born/\m.key=p.1/\VRel C w p.2 m.val
def gI.mono{O:Nat->Prop}{C C':Ctx}{w w':World}{ms:Array MapEntry}{seen:Array Nat}:∀{x:Option (Value×AV)},gI C w ms seen x->Ext O C w C' w'->gI C' w' ms seen x
 |none,_,_=>trivial
 |some _,⟨m,h1,h2,a,c⟩,e=>⟨m,h1,h2,a,c.mono e⟩
def B4r:Option (Option Code)->LoopState
 |none=>.busy
 |some none=>.ready
 |some (some _)=>.done
def TF(C:Ctx)(w:World)(r:Nat):Row->Prop
 |.cells q T cs=>(cs=[]/\C.π r=some none)\/∃b base arr fz,Laid C w r q T cs b base arr fz
 |.map q i h=>∃(b:Nat)(ms:Array MapEntry)(clock:Nat),C.π r=some (some (b,0))/\w.heap[b]?=some (.map ms clock)/\MOk ms clock/\Ml (C.sel q) w i ms.toList/\BOk h ms clock
 |.loop N t ps f g a=>∃(b:Nat)(l:Loop),C.π r=some (some (b,0))/\w.heap[b]?=some (.loop l)/\l.state=B4r a/\l.pending=a.join/\l.tmps.size=N/\l.params=ps/\l.assign=f/\l.body=g/\XU C w t l.tmps
 |.iter left c=>∃(b:Nat)(d:Option Nat)(since:Nat)(seen:Array Nat)(last:Nat),C.π r=some (some (b,0))/\w.heap[b]?=some (.mapIter d since seen last)/\
  ((d=none/\left=[]/\c=none)\/∃(m:Nat)(ms:Array MapEntry)(clock:Nat),d=some m/\since=clock/\last=clock/\C.B m/\w.heap[m]?=some (.map ms clock)/\MOk ms clock/\Ml C.bare w left (ms.toList.filter λe=>!seen.contains e.born)/\gI C.bare w ms seen c)
 |.gone=>True
def B6z(G:Nat->Option Hx)(F:Nat->Nat->Prop)(w:World):Prop:=∀(g:Nat)(cs:Hx),G g=some cs->∀(i:Nat)(v:Value),cs[i]?=some v->F g i/\w.cell? ⟨g,i,none⟩=some v
structure Rel(G:Nat->Option Hx)(w0:Base)(C:Ctx)(H:Hp)(w:World):Prop where
 glob:B6z G C.F w
 below:Keep w0 w
 lt:∀r x,Ah H r=some x->C.π r≠none
 rows:∀r x,Ah H r=some x->TF C w r x
 own:∀r x b o,Ah H r=some x->C.π r=some (some (b,o))->w0.own b/\(∀i,¬C.F b i)/\¬C.B b
 sep:∀r r' x x' b o o',Ah H r=some x->Ah H r'=some x'->C.π r=some (some (b,o))->C.π r'=some (some (b,o'))->r=r'
 fin:∀b i,C.F b i->b<w.heap.size
 finB:∀b,C.B b->b<w.heap.size
 nx:∀r,Ar H<=r->C.π r=none
section
variable{G:Nat->Option Hx}{w0:Base}{C C':Ctx}{H H':Hp}{w w':World}{O:Nat->Prop}{r:Nat}{q:Bool}{T:TypeId}{cs:Is}{b base:Nat}{arr:Array Value}{fz:Nat×Nat}
def B6z.mono(h:B6z G C.F w)(e:Ext O C w C' w'):B6z G C'.F w':=λg cs a i v hv=>⟨e.F _ _ (h g cs a i v hv).1,(e.keep _ _ (h g cs a i v hv).1).trans (h g cs a i v hv).2⟩
def Laid.lt(h:Laid C w r q T cs b base arr fz):b<w.heap.size:=(l1v.1 h.block).1
def Laid.cell(h:Laid C w r q T cs b base arr fz)(i:Nat):w.cell? ⟨b,i,none⟩=arr[i]?:=cell_of_row w b i arr T fz h.block
def Laid.get(h:Laid C w r q T cs b base arr fz)(i:Nat)(hi:i<cs.length):∃v,w.cell? ⟨b,base+i,none⟩=some v/\VRel C w cs[i] v:=by
 have⟨y,a,hv⟩:=h.vals.2 i _ (KJ hi);refine⟨y,?_,hv.unsel⟩;rw[h.cell];rw[D_,Dv hi,qX]at a;simpa using a
def Laid.frozen(h:Laid C w r q T cs b base arr fz)(i:Nat)(hi:i<arr.size):w.frozen? ⟨b,i,none⟩=false:=by
 have:=h.free i hi;simp only[World.frozen?,h.block];simp;intro h1;omega
def Laid.mono(h:Laid C w r q T cs b base arr fz)(e:Ext O C w C' w')(hb:w'.heap[b]?=w.heap[b]?):Laid C' w' r q T cs b base arr fz:=
 ⟨e.at h.at_,hb.trans h.block,h.free,h.fits,h.vals.mono (e.sel q),h.exact⟩
def TF.mono{x:Row}(h:TF C w r x)(e:Ext O C w C' w')(hb:∀b base,C.π r=some (some (b,base))->w'.heap[b]?=w.heap[b]?):TF C' w' r x:=by
 cases x with
 |cells q T cs=>
  rcases h with⟨h1,h2⟩|⟨b,base,arr,fz,h⟩
  ·exact .inl ⟨h1,e.at h2⟩
  ·exact .inr ⟨b,base,arr,fz,h.mono e (hb b base h.at_)⟩
 |map q J F=>
  have⟨b,ms,clock,h1,a,c,d,f⟩:=h;exact⟨b,ms,clock,e.at h1,(hb b 0 h1).trans a,c,d.mono (e.sel q),f⟩
 |loop N t ps A D j=>
  have⟨b,l,h1,h2,a,c,d,f,g,i,u⟩:=h;exact⟨b,l,e.at h1,(hb b 0 h1).trans h2,a,c,d,f,g,i,u.mono e⟩
 |iter left v=>
  have⟨b,y,since,seen,last,h1,h2,a⟩:=h;refine⟨b,y,since,seen,last,e.at h1,(hb b 0 h1).trans h2,?_⟩;rcases a with a|⟨m,ms,clock,k,n,p,c,d,f,g,i⟩
  ·exact .inl a
  ·exact .inr ⟨m,ms,clock,k,n,p,e.B _ c,(e.keepB _ c).trans d,f,g.mono e.bare,i.mono e.bare⟩
 |gone=>trivial
def TF.block{x:Row}(h:TF C w r x)(g:x≠.gone)(hb:C.π r=some (some (b,base))):b<w.heap.size:=by
 have key:∀{a:Nat}{o:Nat}{j:Obj},C.π r=some (some (a,o))->w.heap[a]?=some j->b<w.heap.size:=λh1 h2=>by
  have:=h1.symm.trans hb;injection this with this
  injection this with this
  injection this with f p
  subst f;exact(l1v.1 h2).1
 cases x with
 |cells q T cs=>
  rcases h with⟨h1,h2⟩|⟨a,c,arr,fz,h⟩
  ·rw[h2]at hb;cases hb
  ·exact key h.at_ h.block
 |map q u n=>
  have⟨a,ms,clock,h1,d,v,y,_⟩:=h;exact key h1 d
 |loop N t ps k m e=>
  have⟨a,l,h1,h2,_⟩:=h;exact key h1 h2
 |iter left i=>
  have⟨a,A,since,seen,last,h1,h2,d⟩:=h;exact key h1 h2
 |gone=>exact absurd rfl g
def Rel.sub(h:Rel G w0 C H w)(c:∀r x,Ah H' r=some x->Ah H r=some x)(g:Ar H<=Ar H'):Rel G w0 C H' w:=
 ⟨h.glob,h.below,λr x a=>h.lt r x (c r x a),λr x a=>h.rows r x (c r x a),λr x b o a=>h.own r x b o (c r x a),λr e x f b o i a d=>h.sep r e x f b o i (c r x a) (c e f d),h.fin,h.finB,λr hr=>h.nx r (fR g hr)⟩
def Rel.cut_row(h:Rel G w0 C H w)(r:Nat):Rel G w0 C (cut H r) w:=
 h.sub (λs x a=>by
  by_cases c:s=r
  ·subst c;rw[MW]at a;cases a
  ·rwa[QJ c]at a) (by rw[cut,B9];exact MC _)
def Ext.of_below(hb:Below w.heap.size w w')(c:∀b i,C.F b i->b<w.heap.size)(a:∀b,C.B b->b<w.heap.size):Ext O C w C w':=
 ⟨λ_ _=>rfl,λ_ _ h=>h,λb i h=>hb.cell (p:=⟨b,i,none⟩) (c b i h),λ_ h=>h,λb h=>hb.block b (a b h),
  λb arr T fz h=>⟨arr,fz,(hb.block b (l1v.1 h).1).trans h,rfl⟩,λ_ _ h=>.inl h,λ_ h=>.inl h,hb.size⟩
def Rel.ext_below(h:Rel G w0 C H w)(hb:Below w.heap.size w w'):Ext O C w C w':=Ext.of_below hb h.fin h.finB
def Rel.of_below(h:Rel G w0 C H w)(hb:Below w.heap.size w w'):Rel G w0 C H w':=
 have e:Ext (λ_=>False) C w C w':=h.ext_below hb
 ⟨h.glob.mono e,h.below.below hb,h.lt,λr x a=>(h.rows r x a).mono e (λb base f=>hb.block b ((h.rows r x a).block (ED a) f)),
  h.own,h.sep,λb i d=>l2r (h.fin b i d) hb.size,λb c=>l2r (h.finB b c) hb.size,h.nx⟩
def Ctx.put(C:Ctx)(r:Nat)(p:Option (Nat×Nat)):Ctx:={π:=λs=>if s=r then some p else C.π s,F:=C.F,B:=C.B}
def Ctx.put_n(C:Ctx)(r:Nat)(p:Option (Nat×Nat)):(C.put r p).π r=some p:=by simp[Ctx.put]
def Ctx.put_ne(C:Ctx)(p:Option (Nat×Nat))(h:s≠r):(C.put r p).π s=C.π s:=by simp[Ctx.put,h]
def Ctx.put_ext{p:Option (Nat×Nat)}(hr:C.π r=none)(e:Ext O C w C w'):Ext O C w (C.put r p) w':=
 ⟨λs a=>C.put_ne p (λe=>a (e▸hr)),e.F,e.keep,e.B,e.keepB,e.size,e.new,e.newB,e.grow⟩
def C?(h:Rel G w0 C H w)(hr:C.π r≠none):r<Ar H:=by
 rcases Nat.lt_or_ge r (Ar H) with h1|h1
 ·exact h1
 ·exact absurd (h.nx r h1) hr
def Rel.new_row(h:Rel G w0 C H w){x:Row}(hb:Below w.heap.size w w')(k:TF (C.put (Ar H) (some (w.heap.size,0))) w' (Ar H) x):Rel G w0 (C.put (Ar H) (some (w.heap.size,0))) ((Ar H,x)::H) w':=by
 have j:C.π (Ar H)=none:=h.nx _ (MC _);have e:Ext (λ_=>False) C w (C.put (Ar H) (some (w.heap.size,0))) w':=Ctx.put_ext j (h.ext_below hb);have g:(C.put (Ar H) (some (w.heap.size,0))).π (Ar H)=some (some (w.heap.size,0)):=C.put_n _ _;have m:∀r x,Ah H r=some x->r≠Ar H:=λr x a e=>h.lt r x a (e▸j);refine⟨h.glob.mono e,h.below.below hb,?_,?_,?_,?_,λb i t=>l2r (h.fin b i t) hb.size,λb p=>l2r (h.finB b p) hb.size,?_⟩
 ·intro r x a;simp only[Ah]at a;split at a
  ·rename_i hr;subst hr;rw[g];simp
  ·rw[e.π r (h.lt r x a)];exact h.lt r x a
 ·intro r x a;simp only[Ah]at a;split at a
  ·rename_i hr;subst hr;rw[<-(jF a).1];exact k
  ·exact(h.rows r x a).mono e (λb base c=>hb.block b ((h.rows r x a).block (ED a) c))
 ·intro r x b o a c;simp only[Ah]at a;split at a
  ·rename_i hr;subst hr;rw[g]at c;injection c with c;injection c with c;injection c with h1 h2;subst h1
   exact⟨.inl h.below.size,λi t=>l1l _ (h.fin _ _ t),λp=>l1l _ (h.finB _ p)⟩
  ·rw[C.put_ne _ (m r x a)]at c;exact h.own r x b o a c
 ·intro r u x v b o A a f c d;simp only[Ah]at a f;split at a<;>split at f
  ·rename_i h1 h2;exact h1.trans h2.symm
  ·rename_i h1 h2;subst h1;rw[g]at c;rw[C.put_ne _ h2]at d;injection c with c;injection c with c;injection c with n y;subst n
   exact absurd ((h.rows u v f).block (ED f) d) (l1l _)
  ·rename_i h1 h2;subst h2;rw[g]at d;rw[C.put_ne _ h1]at c;injection d with d;injection d with d;injection d with n y;subst n
   exact absurd ((h.rows r x a).block (ED a) c) (l1l _)
  ·rename_i h1 h2;rw[C.put_ne _ h1]at c;rw[C.put_ne _ h2]at d;exact h.sep r u x v b o A a f c d
 ·intro r hr;have hr:Ar H+1<=r:=hr;rw[C.put_ne _ (by omega)];exact h.nx r (by omega)
def Rel.new_ext(h:Rel G w0 C H w)(hb:Below w.heap.size w w'):Ext O C w (C.put (Ar H) (some (w.heap.size,0))) w':=Ctx.put_ext (h.nx _ (MC _)) (h.ext_below hb)
def Rel.new(h:Rel G w0 C H w)(hb:Below w.heap.size w w')(c:w'.heap[w.heap.size]?=some (.cells arr T fz))(Rw:∀i,i<arr.size->¬(fz.1<=i/\i<fz.2))(a:cs.length<=arr.size)(hv:CJ (C.sel q) w cs (arr.toList.take cs.length))(hq:q=true->arr.size=cs.length):Rel G w0 (C.put (Ar H) (some (w.heap.size,0))) ((Ar H,.cells q T cs)::H) w':=by
 have e:Ext (λ_=>False) C w (C.put (Ar H) (some (w.heap.size,0))) w':=h.new_ext hb;exact h.new_row hb (Or.inr ⟨w.heap.size,0,arr,fz,C.put_n _ _,c,Rw,by omega,by simpa using hv.mono (e.sel q),λh=>⟨rfl,hq h⟩⟩)
end
end
section
variable{arr':Array Value}{α:Type}{y:Value}
def AV.one:AV->Bool
 |.v x=>x.oneCell'
 |.agg _=>false
 |.tup _=>false
 |.dk=>false
 |_=>true
def B4:AV->Is
 |.agg cs=>cs
 |a=>[a]
def VRel.one{C:Ctx}{w:World}{a:AV}(h:VRel C w a y)(h1:a.one=true):y.oneCell'=true:=by
 cases h<;>first|exact h1|rfl|(simp[AV.one]at h1)
def A8w(h:y.oneCell'=true):y.cells= #[y]:=by cases y<;>first|rfl|(simp[Value.oneCell']at h)
def VRel.cells{C:Ctx}{w:World}{a:AV}(h:VRel C w a y)(h1:(B4 a).all AV.one=true):CJ C w (B4 a) y.cells.toList/\∀v∈y.cells.toList,v.oneCell'=true:=by
 have key:∀(b:AV)(y:Value),VRel C w b y->B4 b=[b]->(B4 b).all AV.one=true->CJ C w (B4 b) y.cells.toList/\∀v∈y.cells.toList,v.oneCell'=true:=by
  intro b y hb e h1;rw[e]at h1⊢;have g:y.oneCell'=true:=hb.one (by simpa using h1);rw[A8w g];exact⟨.cons hb .nil,by simpa using g⟩
 cases a with
 |agg cs=>
  obtain⟨ys,rfl,d⟩:=ET.1 h;refine⟨by simpa [B4,Value.cells] using d,λv hv=>?_⟩;simp only[Value.cells]at hv;have⟨i,hi⟩:=List.getElem?_of_mem hv;have c:i<cs.length:=by
   have:=(E'.1 hi).1;rw[<-d.1];simpa using this
  have:=d.get i c;have h2:ys[i]'(by rw[d.1];exact c)=v:=by simpa [E',d.1,c] using hi
  rw[h2]at this;exact this.one (G9.1 (by simpa [B4] using h1) _ (Ql c))
 |v x=>exact key _ _ h rfl h1
 |ptr r p k=>exact key _ _ h rfl h1
 |iptr cs=>exact key _ _ h rfl h1
 |list n cs=>exact key _ _ h rfl h1
 |sl sz r o n=>exact key _ _ h rfl h1
 |fn f a b=>exact key _ _ h rfl h1
 |tup vs=>exact key _ _ h rfl h1
 |mp r=>exact key _ _ h rfl h1
 |imap j=>exact key _ _ h rfl h1
 |yl r=>exact key _ _ h rfl h1
 |it r=>exact key _ _ h rfl h1
 |dk=>exact key _ _ h rfl h1
def splice(l:List α)(o:Nat)(vs:List α):List α:=l.take o++vs++l.drop (o+vs.length)
def FY{l:List α}{o:Nat}{vs:List α}(h:o+vs.length<=l.length):(splice l o vs).length=l.length:=by simp[splice];omega
def PM{l:List α}{o:Nat}{vs:List α}(h:o+vs.length<=l.length)(i:Nat):(splice l o vs)[i]?=if i<o then l[i]? else if i<o+vs.length then vs[i-o]? else l[i]?:=by
 unfold splice;by_cases h1:i<o
 ·rw[Dv h1,eI,l0m (by simp;omega),D_,Dv h1]
 ·rw[CL h1];by_cases h2:i<o+vs.length
  ·rw[Dv h2,eI,l0o (by simp;omega),l0m (by simp;omega)]
   congr 1
   simp;omega
  ·rw[CL h2,l0o (by simp;omega),qX]
   congr 1
   simp;omega
def tN(l:List α)(o:Nat):splice l o []=l:=by simp[splice]
def oQ{l:List α}{o:Nat}{v:α}{vs:List α}(h:o+(v::vs).length<=l.length):splice (l.set o v) (o+1) vs=splice l o (v::vs):=by
 apply l0p;intro i;rw[PM (by simp at h⊢;omega),PM h];simp only[LI]at h⊢;by_cases h1:i<o
 ·rw[Dv h1,Dv (by omega),List.getElem?_set_ne (by omega)]
 ·by_cases h2:i=o
  ·subst h2;rw[Dv (by omega),CL (by omega),Dv (by omega),List.getElem?_set_self (by omega)];simp
  ·rw[CL h1,CL (by omega)];by_cases a:i<o+(vs.length+1)
   ·rw[Dv a,Dv (by omega)];have:i-o=(i-(o+1))+1:=by omega
    rw[this,l0r]
   ·rw[CL a,CL (by omega),List.getElem?_set_ne (by omega)]
structure SameBut(w w':World)(b:Nat)(T:TypeId)(arr':Array Value)(fz:Nat×Nat):Prop where
 os:w'.os=w.os
 tape:w'.tape=w.tape
 output:w'.output=w.output
 size:w'.heap.size=w.heap.size
 here:w'.heap[b]?=some (.cells arr' T fz)
 others:∀k,k≠b->w'.heap[k]?=w.heap[k]?
def Np{P:Program}{T:TypeId}{fz:Nat×Nat}{b:Nat}(vs:Hx):∀(w:World)(arr:Array Value)(o i:Nat),w.heap[b]?=some (.cells arr T fz)->(∀i,i<arr.size->¬(fz.1<=i/\i<fz.2))->
 o+i+vs.length<=arr.size->(∀v∈vs,v.oneCell'=true)->∃w',(storeCells ⟨b,o,none⟩ vs i).run P w=.ok () w'/\SameBut w w' b T (splice arr.toList (o+i) vs).toArray fz:=by
 induction vs with
 |nil=>intro w arr o i hb _ _ _;exact⟨w,rfl,rfl,rfl,rfl,rfl,by simp[tN,hb],λ_ _=>rfl⟩
 |cons v vs ih=>
  intro w arr o i hb Rw a c;have h:o+i<arr.size:=by simp at a;omega
  have g:(⟨b,o,none⟩:Addr).add i=⟨b,o+i,none⟩:=by unfold Addr.add;split<;>simp_all
  have d:w.cell? ⟨b,o+i,none⟩=some arr[o+i]:=by simp[World.cell?,hb,h]
  have p:w.frozen? ⟨b,o+i,none⟩=false:=by
   have:=Rw _ h;simp only[World.frozen?,hb];simp;intro h1;omega
  have n:(w.setCell ⟨b,o+i,none⟩ v).heap[b]?=some (.cells (arr.setIfInBounds (o+i) v) T fz):=by simp[World.setCell,l0s,hb]
  have j:∀k,k≠b->(w.setCell ⟨b,o+i,none⟩ v).heap[k]?=w.heap[k]?:=λk m=>Below.heap_setCell w _ v k m;have⟨w',hr,f⟩:=ih (w.setCell ⟨b,o+i,none⟩ v) (arr.setIfInBounds (o+i) v) o (i+1) n (by simpa using Rw) (by simp at a⊢;omega) (λx s=>c x (by simp[s]));refine⟨w',?_,f.os.trans rfl,f.tape.trans rfl,f.output.trans rfl,f.size.trans (by simp[World.setCell]),?_,λk m=>(f.others k m).trans (j k m)⟩
  ·simp only[storeCells,Dr,g,run_store P w _ v _ (c v (by simp)),d,p];simpa using hr
  ·rw[f.here];have e:=oQ (l:=arr.toList) (o:=o+i) (v:=v) (vs:=vs) (by simpa using a);rw[<-e];simp[lB]
def Keep.same{B:Base}{w w':World}{b:Nat}{T:TypeId}{fz:Nat×Nat}(h:Keep B w)(a:SameBut w w' b T arr' fz)(c:B.own b):Keep B w':=
 ⟨a.os.trans h.os,a.tape.trans h.tape,a.output.trans h.output,by rw[a.size];exact h.size,λk f d=>(a.others k (λe=>by
  subst e;rcases c with c|c
  ·omega
  ·exact d c)).trans (h.block k f d)⟩
section
variable{G:Nat->Option Hx}{w0:Base}{C:Ctx}{H:Hp}{w w':World}{O:Nat->Prop}{r:Nat}{q:Bool}{T:TypeId}{cs aZ:Is}{b base o:Nat}{arr:Array Value}{fz:Nat×Nat}{ys:Hx}
def SameBut.ext(c:SameBut w w' b T arr' fz)(hb:w.heap[b]?=some (.cells arr T fz))(hsz:arr'.size=arr.size)(j:∀i,¬C.F b i)(g:¬C.B b):Ext O C w C w':=by
 refine⟨λ_ _=>rfl,λ_ _ h=>h,λk i h=>?_,λ_ h=>h,λk h=>c.others k (λe=>g (e▸h)),λk a t f h=>?_,λ_ _ h=>.inl h,λ_ h=>.inl h,Nat.le_of_eq c.size.symm⟩
 ·have:k≠b:=λe=>j i (e▸h);exact l0t (c.others k this)
 ·by_cases e:k=b
  ·subst e;rw[hb]at h;injection h with h;injection h with h1 h2 d
   subst h1 h2 d;exact⟨arr',fz,c.here,hsz⟩
  ·exact⟨a,f,(c.others k e).trans h,rfl⟩
def Rel.store(h:Rel G w0 C H w)(t:Ah H r=some (.cells q T cs))(m:Laid C w r q T cs b base arr fz)(c:o+aZ.length<=cs.length)(hv:CJ (C.sel q) w aZ ys)(v:SameBut w w' b T (splice arr.toList (base+o) ys).toArray fz):Rel G w0 C (upd H r (.cells q T (splice cs o aZ))) w'/\Ext O C w C w':=by
 have j:=h.own r _ b base t m.at_;have aa:ys.length=aZ.length:=hv.1;have F:=m.fits;have hsz:(splice arr.toList (base+o) ys).toArray.size=arr.size:=by
  simp only[List.size_toArray];rw[FY (by simp;omega)];simp
 have e:Ext O C w C w':=v.ext m.block hsz j.2.1 j.2.2;refine⟨⟨h.glob.mono e,?_,?_,?_,?_,?_,λk i hF=>v.size▸h.fin k i hF,λk Z=>v.size▸h.finB k Z,λk Q=>h.nx k (by rw[B9]at Q;exact Q)⟩,e⟩
 ·exact h.below.same v j.1
 ·intro s x f;by_cases d:s=r
  ·subst d;exact h.lt s _ t
  ·rw[Ag d]at f;exact h.lt s x f
 ·intro s x f;by_cases d:s=r
  ·subst d;rw[BC t]at f;injection f with f;subst f
   refine Or.inr ⟨b,base,_,fz,m.at_,v.here,by rw[hsz];exact m.free,by rw[hsz,FY c];exact m.fits,?_,by rw[hsz,FY c];exact m.exact⟩;have A:=(m.vals.mono (e.sel q))
   have K:=hv.mono (e.sel q);refine⟨by rw[FY c,E!,l0u,FY (by simp;omega)];simp;omega,λi a g=>?_⟩;have B:i<cs.length:=by
    have:=(E'.1 g).1
    rwa[FY c]at this
   rw[PM c]at g;rw[FY c,D_,Dv B,qX,PM (by simp;omega)];have n:∀a,cs[i]?=some a->∃y,arr.toList[base+i]?=some y/\VRel (C.sel q) w' a y:=λa g=>by
    have⟨y,R,L⟩:=A.2 i a g;rw[D_,Dv B,qX]at R;exact⟨y,R,L⟩
   by_cases h1:i<o
   ·rw[Dv h1]at g;rw[Dv (by omega)];exact n a g
   ·rw[CL h1]at g;rw[CL (by omega)];by_cases h2:i<o+aZ.length
    ·rw[Dv h2]at g;rw[Dv (by omega)];have:base+i-(base+o)=i-o:=by omega
     rw[this];exact K.2 _ a g
    ·rw[CL h2]at g;rw[CL (by omega)];exact n a g
  ·rw[Ag d]at f;refine(h.rows s x f).mono e (λk D u=>v.others k (λY=>?_));subst Y;exact d (h.sep s r x _ _ _ _ f t u m.at_)
 ·intro s x k V f u;by_cases d:s=r
  ·subst d;exact h.own s _ k V t u
  ·rw[Ag d]at f;exact h.own s x k V f u
 ·intro s X x x' k o1 o2 f M u J;have key:∀p z,Ah (upd H r (.cells q T (splice cs o aZ))) p=some z->∃P,Ah H p=some P:=λp z hz=>by
   by_cases hq:p=r
   ·subst hq;exact⟨_,t⟩
   ·rw[Ag hq]at hz;exact⟨z,hz⟩
  have⟨z,hz⟩:=key s x f;have⟨P,N⟩:=key X x' M;exact h.sep s X z P k o1 o2 hz N u J
def Ctx.fix(C:Ctx)(b:Nat):Ctx:={C with F:=λk i=>C.F k i\/k=b}
def Ctx.fix_ext(c:O b):Ext O C w (C.fix b) w:=
 ⟨λ_ _=>rfl,λ_ _ h=>.inl h,λ_ _ _=>rfl,λ_ h=>h,λ_ _=>rfl,λ_ a _ f h=>⟨a,f,h,rfl⟩,λk i h=>by rcases h with h|h;exact .inl h;exact .inr (h▸c),λ_ h=>.inl h,MC _⟩
def Rel.freeze(h:Rel G w0 C H w)(u:Ah H r=some (.cells q T cs))(m:Laid C w r q T cs b base arr fz):Rel G w0 (C.fix b) (cut H r) w/\Ext w0.own C w (C.fix b) w:=by
 have g:=h.own r _ b base u m.at_;have e:Ext w0.own C w (C.fix b) w:=Ctx.fix_ext g.1;have a:∀s x,Ah (cut H r) s=some x->s≠r/\Ah H s=some x:=λs x c=>by
  by_cases p:s=r
  ·subst p;rw[MW]at c;cases c
  ·rw[QJ p]at c;exact⟨p,c⟩
 refine⟨⟨h.glob.mono e,h.below,λs x c=>h.lt s x (a s x c).2,λs x c=>(h.rows s x (a s x c).2).mono e (λ_ _ _=>rfl),?_,?_,?_,h.finB,?_⟩,e⟩
 ·intro s x k B c j;have f:=h.own s x k B (a s x c).2 j;refine⟨f.1,λi d=>?_,f.2.2⟩;rcases d with d|d
  ·exact f.2.1 i d
  ·subst d;exact(a s x c).1 (h.sep s r x _ _ _ _ (a s x c).2 u j m.at_)
 ·intro s v x A k D F c t j n;exact h.sep s v x A k D F (a s x c).2 (a v A t).2 j n
 ·intro k i d;rcases d with d|d
  ·exact h.fin k i d
  ·subst d;exact m.lt
 ·intro k f;rw[cut,B9]at f;exact h.nx k f
end
end
section
variable{a:Act}{w0:Base}{c:Code}{C C':Ctx}{e:Exit}{s0:Nat}{w w' w'':World}
abbrev Gl:=Nat->Option Hx
def Fe(ro:Option Nat):Fence:={Fence.wide with round:=ro}
def xG(ro:Option Nat):(Fe ro).depth=none:=rfl
def Y_(b:Nat):Deferred:={target:=.collected b,args:= #[]}
def DOk(w0:Base)(s0:Nat)(C:Ctx)(w:World)(ds:List Deferred):Prop:=
 ∃d:Hb,d.Nodup/\ds=d.map Y_/\∀b∈d,s0<=b/\w0.own b/\C.B b/\w.heap[b]?=some (.deferred (some []))
def DOk.nil:DOk w0 s0 C w []:=⟨[],by simp,rfl,by simp⟩
def DOk.mono{ds:List Deferred}(h:DOk w0 s0 C w ds)(g:∀b,C.B b->C'.B b)(i:∀b,C.B b->w'.heap[b]?=w.heap[b]?):DOk w0 s0 C' w' ds:=
 let⟨f,h1,h2,d⟩:=h
 ⟨f,h1,h2,λb hb=>⟨(d b hb).1,(d b hb).2.1,g b (d b hb).2.2.1,(i b (d b hb).2.2.1).trans (d b hb).2.2.2⟩⟩
structure St(G:Gl)(w0:Base)(s0:Nat)(C:Ctx)(N:Nat)(t:Tm)(H:Hp)(a:Act)(w:World):Prop where
 rel:Rel G w0 C H w
 size:a.tmps.size=N
 tmps:XU C w t a.tmps
 defers:DOk w0 s0 C w a.defers
 le:s0<=w.heap.size
def Nc(G:Gl)(w0:Base)(s0 m:Nat)(C:Ctx)(N:Nat)(w:World)(Q:Exit->Tm->Hp->Prop):Exit->Act->World->Prop:=
 λe f w'=>∃C' d b,St G w0 s0 C' N d b f w'/\Frm m w0.own C w C' w'/\Q e d b
def QU(P:Program)(G:Gl)(ro:Option Nat)(m N:Nat)(c:Code)(Q:Exit->Tm->Hp->Prop)(t:Tm)(H:Hp):Prop:=
 ∀w0 s0 C a w,St G w0 s0 C N t H a w->c.wpIn (Fe ro) 0 P (Nc G w0 s0 m C N w Q) a w
def A0E(P:Program)(G:Gl)(ro:Option Nat)(m N:Nat)(ops:Array Oper)(l:List Oper)(Q:Exit->Tm->Hp->Prop)(t:Tm)(H:Hp):Prop:=
 ∀w0 s0 C a w,St G w0 s0 C N t H a w->wpListIn (Fe ro) 0 P ops (Nc G w0 s0 m C N w Q) l a w
def Rr(P:Program)(G:Gl)(f:FuncId)(args:Is)(H:Hp)(Q:AV->Hp->Prop):Prop:=
 ∀w0 C w d,Rel G w0 C H w->CJ C w args d->Calls P f d.toArray w λe w'=>
  ∃v y C' b,e=.returned y/\Rel G w0 C' b w'/\VRel C' w' v y/\Frm (Ar H) w0.own C w C' w'/\Q v b
def Frm.ext_of{G:Gl}{H:Hp}{O:Nat->Prop}(h:Frm (Ar H) O C w C' w')(hr:Rel G w0 C H w):Ext O C w C' w':=h.ext λ_ h=>C? hr h
section
variable{P:Program}{G:Gl}{ro:Option Nat}{m N:Nat}{Q Q':Exit->Tm->Hp->Prop}{t:Tm}{H:Hp}
def Nc.later(f:Frm m w0.own C w C' w')(h:Nc G w0 s0 m C' N w' Q e a w''):Nc G w0 s0 m C N w Q e a w'':=
 let⟨b,g,d,s,x,q⟩:=h
 ⟨b,g,d,s,f.trans x,q⟩
def Nc.mono(hq:∀e t H,Q e t H->Q' e t H)(h:Nc G w0 s0 m C N w Q e a w''):Nc G w0 s0 m C N w Q' e a w'':=
 let⟨b,f,d,s,x,q⟩:=h
 ⟨b,f,d,s,x,hq _ _ _ q⟩
def QU.mono(h:QU P G ro m N c Q t H)(hq:∀e t H,Q e t H->Q' e t H):QU P G ro m N c Q' t H:=
 λw0 s0 C a w s=>wpIn_mono (h w0 s0 C a w s) λ_ _ _=>Nc.mono hq
def B2R(h:Q .normal t H):QU P G ro m N .skip Q t H:=λw0 s0 C a w s=>wpIn_skip ⟨C,t,H,s,.refl _ _,h⟩
def B2T{id:Nat}(h:Q (.exit id) t H):QU P G ro m N (.exit id) Q t H:=λw0 s0 C a w s=>wpIn_exit ⟨C,t,H,s,.refl _ _,h⟩
def B2S{l:Nat}(h:Q (.goto l) t H):QU P G ro m N (.goto l) Q t H:=λw0 s0 C a w s=>wpIn_goto ⟨C,t,H,s,.refl _ _,h⟩
def A8C{l:Nat}(h:Q .normal t H):QU P G ro m N (.label l) Q t H:=λw0 s0 C a w s=>wpIn_label ⟨C,t,H,s,.refl _ _,h⟩
def B6r(h:Q .ret t H):QU P G ro m N .ret Q t H:=λw0 s0 C a w s=>wpIn_ret ⟨C,t,H,s,.refl _ _,h⟩
def B0R(K:Tm->Hp->Prop)(Q:Exit->Tm->Hp->Prop):Exit->Tm->Hp->Prop
 |.normal,t,H=>K t H
 |e,t,H=>Q e t H
def A4a(id:Nat)(Q:Exit->Tm->Hp->Prop):Exit->Tm->Hp->Prop
 |.exit i,t,H=>if i=id then Q .normal t H else Q (.exit i) t H
 |e,t,H=>Q e t H
def B6q{x y:Code}(h:QU P G ro m N x (B0R (QU P G ro m N y Q) Q) t H):QU P G ro m N (.seq x y) Q t H:=λw0 s0 C a w s=>
 wpIn_seq (wpIn_mono (h w0 s0 C a w s) λe i w' ⟨b,j,g,d,f,q⟩=>by
  cases e with
  |normal=>exact wpIn_mono (q w0 s0 b i w' d) λ_ _ _=>Nc.later f
  |_=>exact⟨b,j,g,d,f,q⟩)
def A8D{id:Nat}(h:QU P G ro m N c (A4a id Q) t H):QU P G ro m N (.block id c) Q t H:=λw0 s0 C a w s=>
 wpIn_block (wpIn_mono (h w0 s0 C a w s) λe k w' ⟨b,g,d,f,j,q⟩=>by
  cases e with
  |exit i=>
   simp only[A4a]at q;simp only[Exit.inBlock];split at q
   ·rename_i hi;rw[Dv hi];exact⟨b,g,d,f,j,q⟩
   ·rename_i hi;rw[CL hi];exact⟨b,g,d,f,j,q⟩
  |_=>exact⟨b,g,d,f,j,q⟩)
def pD(P:Program)(G:Gl)(ro:Option Nat)(m N:Nat)(c:Code)(Q:Exit->Tm->Hp->Prop)(t:Tm)(H:Hp):Prop:=
 ∀w0 s0 C a w,St G w0 s0 C N t H a w->∀(b:Frame)(k:List Item)(cs:List Frame),b.roundOf=(Fe ro).round->(Fe ro).fn b.fn->(Fe ro).room (cs.length+1+0)->
  ∃e d w',Nc G w0 s0 m C N w Q e d w'/\ArrivesIn (Machine.fenced P (Fe ro)) P (lone (b.atR a (.code c:: .inLoop c::k)) cs w) b k cs e d w'
def A2X(h:pD P G ro m N c Q t H):QU P G ro m N (.loop c) Q t H:=by
 intro w0 s0 C a w s b k cs f hb hr;have⟨e,g,w',hq,d⟩:=h w0 s0 C a w s b k cs f hb hr;exact⟨e,g,w',hq,.of_steps (.one (fenced_calm hb hr rfl) stepR_loop) d⟩
def A5r(h:QU P G ro m N c (B0R (pD P G ro m N c Q) Q) t H):pD P G ro m N c Q t H:=by
 intro w0 s0 C a w s b k cs r hb hr;have⟨e,a1,j,hq,d⟩:=h w0 s0 C a w s b (.inLoop c::k) cs r hb hr;have⟨g,u,p,i,n,q⟩:=hq;cases e with
 |normal=>
  have⟨y,a2,A,v,f⟩:=q w0 s0 g a1 j i b k cs r hb hr;exact⟨y,a2,A,Nc.later n v,.of_steps (StepsIn.trans d (.one (fenced_calm hb hr rfl) stepR_inLoop)) f⟩
 |exit id=>exact⟨_,a1,j,⟨g,u,p,i,n,q⟩,.pass (x:=.inLoop c) rfl (λ_ _=>.inl (by simp)) d⟩
 |goto l=>exact⟨_,a1,j,⟨g,u,p,i,n,q⟩,.pass (x:=.inLoop c) rfl (λ_ _=>.inl (by simp)) d⟩
 |ret=>exact⟨_,a1,j,⟨g,u,p,i,n,q⟩,.pass (x:=.inLoop c) rfl (λ_ _=>.inl (by simp)) d⟩
 |panic B=>exact⟨_,a1,j,⟨g,u,p,i,n,q⟩,.pass (x:=.inLoop c) rfl (λ_ _=>.inl (by simp)) d⟩
 |outgrown=>exact⟨_,a1,j,⟨g,u,p,i,n,q⟩,.pass (x:=.inLoop c) rfl (λ_ _=>.inl (by simp)) d⟩
end
end
section
variable{v:AV}{K:AV->Hp->Prop}{ops:Array Oper}{C':Ctx}{q:Exit->Act->World->Prop}{F:Fence}{n:Nat}{O:Nat->Prop}{d:Option Tmp}{y:Value}{w':World}
def uJ:Value->AV
 |.agg cs=>.agg (cs.toList.map .v)
 |x=>.v x
def Xz{C:Ctx}{w:World}(l:Hx):CJ C w (l.map .v) l:=
 ⟨by simp,λi a b=>by
  rw[yY]at b;cases h:l[i]? with
  |none=>rw[h]at b;simp at b
  |some y=>rw[h]at b;simp at b;subst b;exact⟨y,rfl,.v y⟩⟩
def iT{C:Ctx}{w:World}(x:Value):VRel C w (uJ x) x:=by
 cases x with
 |agg cs=>exact ET.2 ⟨cs.toList,by simp,Xz _⟩
 |_=>exact .v _
def JX(G:Gl)(t:Tm):Operand->AV
 |.tmp i=>HR t i
 |.const v=>uJ v
 |.global g=>match G g with
  |some cs=>.iptr (cs.map .v)
  |none=>.v (.pointer (some ⟨g,0,none⟩))
 |.func f=>.fn (.func f) [] []
def Sh(t:Tm)(d:Option Tmp)(v:AV):Tm:=
 match d with
 |some d=>(d,v)::t
 |none=>t
def dok(N:Nat)(d:Option Tmp):Prop:=
 match d with
 |some d=>d<N
 |none=>True
inductive Gd where
 |run|skip|dep (b:Bool)|bad
def Vm:AV->Gd
 |.v (.bool b)=>.dep b
 |.dk=>.bad
 |_=>.skip
def Hf(ops:List Oper)(t:Tm)(o:Oper):Gd:=
 match o.guard with
 |none=>.run
 |some (j,want)=>match ops[j]? with
  |some p=>match p.dst with
   |some d=>match Vm (HR t d) with
    |.dep b=>.dep (b==want)
    |g=>g
   |none=>.skip
  |none=>.skip
section
variable{P:Program}{G:Gl}{ro:Option Nat}{m N:Nat}{Q:Exit->Tm->Hp->Prop}{t:Tm}{H:Hp}{w0:Base}{s0:Nat}{w:World}{C:Ctx}{a:Act}
def Bc(s:St G w0 s0 C N t H a w)(x:Operand):VRel C w (JX G t x) (a.eval x):=by
 have hr:=s.rel;have b:=s.tmps;cases x with
 |tmp i=>exact b i
 |const v=>exact iT v
 |global g=>
  simp only[JX,Act.eval];cases h:G g with
  |none=>exact .v _
  |some cs=>
   refine .iptr (λi=>cs.getD i undef) (λi hi=>?_) (λi hi=>?_) (λi hi=>?_)
   ·simp at hi;simpa using(hr.glob g cs h i _ (KJ hi)).1
   ·simp at hi;rw[TV,KJ hi];simpa using(hr.glob g cs h i _ (KJ hi)).2
   ·simp at hi;simp[TV,KJ hi];exact .v _
 |func f=>exact Jy.2 ⟨[],[],rfl,.nil,.nil⟩
def B2V(g:a.tmps.size=N)(c:XU C w t a.tmps)(e:Ext O C w C' w')(hv:VRel C' w' v y)(f:dok N d):XU C' w' (Sh t d v) (a.put d y).tmps:=by
 cases d with
 |none=>exact c.mono e
 |some d=>
  intro i;simp only[Sh,Act.put,HR];by_cases hi:i=d
  ·subst hi;have b:i<a.tmps.size:=by rw[g];exact f
   rw[Dv rfl];simp[gO,b];exact hv
  ·rw[CL hi];have:=(c.mono e) i;simp only[gO]at this⊢;rw[Array.getElem?_setIfInBounds_ne (by omega)];exact this
def A4c(a:Act)(d:Option Tmp)(y:Value):(a.put d y).defers=a.defers:=by cases d<;>rfl
def B0S(a:Act)(d:Option Tmp)(y:Value):(a.put d y).tmps.size=a.tmps.size:=by cases d<;>simp[Act.put]
def eV:Value->Option Bool
 |.bool b=>some b
 |_=>none
def A5l{x:AV}(h:VRel C w x y):(∀b,Vm x=.dep b->eV y=some b)/\(Vm x=.skip->eV y=none)/\Vm x≠.run:=by
 cases h with
 |v=>cases y<;>simp[Vm,eV]
 |_=>simp[Vm,eV]
def A3u(ops:List Oper)(j:Nat):yielded ops.toArray a.tmps j=match ops[j]? with
 |some p=>match p.dst with
  |some d=>(a.tmps[d]?).bind eV
  |none=>none
 |none=>none:=by
 simp only[yielded,l15];cases ops[j]? with
 |none=>rfl
 |some p=>
  simp only[Option.bind_some];cases p.dst with
  |none=>rfl
  |some d=>
   simp only[Option.bind_some];cases a.tmps[d]? with
   |none=>rfl
   |some y=>cases y<;>rfl
def xB(f:XU C w t a.tmps)(ops:List Oper)(o:Oper):(Hf ops t o=.run->Region.wanted o (yielded ops.toArray a.tmps)=true)/\(Hf ops t o=.skip->Region.wanted o (yielded ops.toArray a.tmps)=false)/\(∀b,Hf ops t o=.dep b->Region.wanted o (yielded ops.toArray a.tmps)=b):=by
 unfold Region.wanted Hf;cases o.guard with
 |none=>simp
 |some p=>
  have⟨j,want⟩:=p;simp only[A3u];cases ops[j]? with
  |none=>simp
  |some p=>
   simp only;cases p.dst with
   |none=>simp
   |some d=>
    simp only;have hv:=f d;have e:=A5l hv;have hb:(a.tmps[d]?).bind eV=eV (a.tmps.getD d undef):=by
     rw[gO];cases a.tmps[d]?<;>rfl
    rw[hb];cases c:Vm (HR t d) with
    |run=>exact absurd c e.2.2
    |skip=>rw[e.2.1 c];simp
    |bad=>simp
    |dep b=>rw[e.1 b c];simp
def B36(P:Program)(G:Gl)(o:Oper)(t:Tm)(H:Hp)(K:AV->Hp->Prop):Prop:=
 ∀w0 s0 C N a w,St G w0 s0 C N t H a w->∃v b y C' w',K v b/\((execOp a.eval o).run P w=.ok (.value y) w'\/((execOp a.eval o).run P w=.ok .skip w'/\y=undef))/\VRel C' w' v y/\Rel G w0 C' b w'/\Ext w0.own C w C' w'
def Uf(P:Program)(G:Gl)(ro:Option Nat)(N:Nat)(o:Oper)(t:Tm)(H:Hp)(K:AV->Hp->Prop):Prop:=
 ∀w0 s0 C a w(Q:Exit->Act->World->Prop),St G w0 s0 C N t H a w->o.wpIn (Fe ro) 0 P a w (λc w'=>∃v y C' b,c=a.put o.dst y/\K v b/\VRel C' w' v y/\Rel G w0 C' b w'/\Ext w0.own C w C' w') Q
def B2Y(h:Q .normal t H):A0E P G ro m N ops [] Q t H:=λw0 s0 C a w s=>⟨C,t,H,s,.refl _ _,h⟩
def SM{o:Oper}{K f:Act->World->Prop}(h:∀a w,K a w->f a w)(b:o.wpIn F n P a w K q):o.wpIn F n P a w f q:=by
 unfold Oper.wpIn at*;refine⟨b.1,?_⟩;have b:=b.2;generalize (o.semAt F.round a.eval).run P w=r at*;cases r with
 |ok x w'=>
  cases x<;>simp only[Oper.uponIn]at b⊢ <;>
   first
    |exact h _ _ b
    |exact⟨b.1,CallsIn.mono b.2 (λe c he=>by cases e<;>first|exact h _ _ he|exact he)⟩
    |exact⟨b.1,RowsIn.mono b.2 (λ_ _ he=>h _ _ he)⟩
    |exact⟨b.1,RoundIn.mono b.2 (λe c he=>by cases e<;>first|exact h _ _ he|exact he)⟩
 |halt x w'=>cases x<;>simp only[Oper.uponIn]at b⊢ <;>exact b
def xN{q q':Exit->Act->World->Prop}(hq:∀e a w,q e a w->q' e a w):∀(l:List Oper)(a:Act)(w:World),wpListIn F n P ops q l a w->wpListIn F n P ops q' l a w:=by
 intro l
 induction l with
 |nil=>intro a w h;exact hq _ _ _ h
 |cons o l ih=>
  intro a w h;simp only[wpListIn]at h⊢;split
  ·rename_i b;rw[Dv b]at h;unfold Oper.wpIn at h⊢;refine⟨h.1,?_⟩;have h:=h.2;generalize (o.semAt F.round a.eval).run P w=r at*;cases r with
   |ok x w'=>
    cases x<;>simp only[Oper.uponIn]at h⊢ <;>
     first
      |exact ih _ _ h
      |exact⟨h.1,CallsIn.mono h.2 (λe c he=>by cases e<;>first|exact ih _ _ he|exact hq _ _ _ he|exact(let⟨a,w,k⟩:=he;⟨a,w,hq _ _ _ k⟩))⟩
      |exact⟨h.1,RowsIn.mono h.2 (λ_ _ he=>ih _ _ he)⟩
      |exact⟨h.1,RoundIn.mono h.2 (λe c he=>by cases e<;>first|exact ih _ _ he|exact hq _ _ _ he|exact(let⟨a,w,k⟩:=he;⟨a,w,hq _ _ _ k⟩))⟩
   |halt x w'=>cases x<;>simp only[Oper.uponIn]at h⊢ <;>first|exact hq _ _ _ h|exact h
  ·rename_i b;rw[CL b]at h;exact⟨h.1,ih _ _ h.2⟩
def A0E.run{l:List Oper}{b:Act}(h:A0E P G ro m N ops l Q t H)(s:St G w0 s0 C' N t H b w')(e:Frm m w0.own C w C' w'):
 wpListIn (Fe ro) 0 P ops (Nc G w0 s0 m C N w Q) l b w':=
 xN (λ_ _ _=>Nc.later e) l b w' (h w0 s0 C' b w' s)
def A3V{H':Hp}(s:St G w0 s0 C N t H a w)(hr:Rel G w0 C' H' w')(e:Ext O C w C' w')(hv:VRel C' w' v y)(b:dok N d):St G w0 s0 C' N (Sh t d v) H' (a.put d y) w':=
 ⟨hr,(B0S _ _ _).trans s.size,B2V s.size s.tmps e hv b,by rw[A4c];exact s.defers.mono e.B e.keepB,fR s.le e.grow⟩
def A8E{ops rest:List Oper}{o:Oper}(b:dok N o.dst)(s:St G w0 s0 C N t H a w)(c:Region.wanted o (yielded ops.toArray a.tmps)=false)(h:A0E P G ro m N ops.toArray rest Q (Sh t o.dst (.v undef)) H):
 wpListIn (Fe ro) 0 P ops.toArray (Nc G w0 s0 m C N w Q) (o::rest) a w:=by
 simp only[wpListIn,c,D!,if_false];exact⟨λf _=>trivial,A0E.run h (A3V s s.rel (.refl (λ_=>False) _ _) (.v undef) b) (.refl _ _)⟩
def A32{ops rest:List Oper}{o:Oper}(b:dok N o.dst)(s:St G w0 s0 C N t H a w)(i:Region.wanted o (yielded ops.toArray a.tmps)=true)(h:Uf P G ro N o t H (λv c=>A0E P G ro m N ops.toArray rest Q (Sh t o.dst v) c)):
 wpListIn (Fe ro) 0 P ops.toArray (Nc G w0 s0 m C N w Q) (o::rest) a w:=by
 simp only[wpListIn,i,if_true];exact SM (λj w' ⟨v,y,C',c,g,f,hv,hr,e⟩=>by rw[g];exact A0E.run f (A3V s hr e hv b) e.frm) (h w0 s0 C a w _ s)
def Uf.mono{o:Oper}{K c:AV->Hp->Prop}(h:Uf P G ro N o t H K)(g:∀v H,K v H->c v H):Uf P G ro N o t H c:=
 λw0 s0 C a w Q s=>SM (λ_ _ ⟨v,y,C',b,f,e,rest⟩=>⟨v,y,C',b,f,g v b e,rest⟩) (h w0 s0 C a w Q s)
def Vn{o:Oper}(j:∀c,o.op≠.defer c)(h:B36 P G o t H K):Uf P G ro N o t H K:=by
 intro w0 s0 C a w Q s;have⟨v,g,y,C',w',i,b,hv,hr,e⟩:=h w0 s0 C N a w s;refine⟨λf _=>trivial,?_⟩;rw[Oper.semAt_eq _ _ _ j];rcases b with b|⟨b,rfl⟩
 ·rw[b];exact⟨v,y,C',g,rfl,i,hv,hr,e⟩
 ·rw[b];exact⟨v,undef,C',g,rfl,i,hv,hr,e⟩
def A5m{id:Nat}{l:List Oper}(h:A0E P G ro m N l.toArray l Q t H):QU P G ro m N (.region id l.toArray false) Q t H:=λw0 s0 C a w s=>wpIn_region_lit (h w0 s0 C a w s)
def A2Z{c:Operand}{x y:Code}{b:Bool}(hc:JX G t c=.v (.bool b))(h1:b=true->QU P G ro m N x Q t H)(h2:b=false->QU P G ro m N y Q t H):QU P G ro m N (.cond c x y) Q t H:=λw0 s0 C a w s=>by
 have:=Bc s c;rw[hc]at this;have he:a.eval c=.bool b:=AQ.1 this;exact wpIn_cond_split he (λhb=>h1 hb w0 s0 C a w s) (λhb=>h2 hb w0 s0 C a w s)
def wX(s:St G w0 s0 C N t H a w)(l:List Operand):CJ C w (l.map (JX G t)) (l.map a.eval):=by
 refine⟨by simp,λi b hb=>?_⟩;rw[yY]at hb⊢;cases c:l[i]? with
 |none=>rw[c]at hb;simp at hb
 |some x=>rw[c]at hb;simp at hb;subst hb;exact⟨_,rfl,Bc s x⟩
def T8{o:Oper}{c:Call}{f:FuncId}{u:Operand}{first cap:Is}(k:o.op=.call c)(j:c.callee=.value u)(R:JX G t u=.fn (.func f) first cap){fn:Func}(x:P.funcs[f]?=some fn)(b:fn.body.isNone=false)(g:(fn.name== "runtime.NumGoroutine")=false)(h:Rr P G f (first++c.args.toList.map (JX G t)++cap) H K):Uf P G ro N o t H K:=by
 intro w0 s0 C a w Q s;have hv:=Bc s u;rw[R]at hv;have⟨D,J,he,A,B⟩:=Jy.1 hv;have i:=(A.append (wX s c.args.toList)).append B;have hc:=h w0 C w _ s.rel i;refine⟨λf _=>trivial,?_⟩;rw[Oper.semAt_eq _ _ _ (by rw[k];intro c hc;cases hc)];have p:(execOp a.eval o).run P w=.ok (.enter f (D++c.args.toList.map a.eval++J).toArray) w:=by
  simp only[execOp,k,resolve,j,he,Deferred.ofValue,Dr,nJ,Ga,invoke,callFunc,run_program,x,g,b,D!,if_false]
  congr 2
  apply qY;simp
 rw[p];refine⟨λM=>by simp[xG]at M,?_⟩;have:CallsIn (Fe ro) 0 P f (D++c.args.toList.map a.eval++J).toArray w (λe w'=>∃v y C' r,e=.returned y/\Rel G w0 C' r w'/\VRel C' w' v y/\Frm (Ar H) w0.own C w C' w'/\K v r):=by
  cases ro with
  |none=>exact callsIn_wide.2 hc
  |some l=>exact CallsIn.mono (callsIn_wide (n:=0).2 hc) (λ_ _ h=>h)
 refine CallsIn.mono this ?_;rintro e w' ⟨v,y,C',r,rfl,hr,hv,V,L⟩;exact⟨v,y,C',r,rfl,L,hv,hr,V.ext_of s.rel⟩
end
end
section
variable{a:AV}{K:AV->Prop}{w0:Base}{q:Bool}{C:Ctx}{H:Hp}{b base r:Nat}{fz:Nat×Nat}{y:Value}
inductive TD where
 |int (k:IntKind)|bool|string|pointer (e:TypeId)
 |slice (e:TypeId) (esz:Nat)
 |array (n:Nat) (e:TypeId) (esz:Nat)
 |struct (fs:List (Nat×Nat×TypeId))
 |map (k e:TypeId)|func|iface|other
def td(P:Program):TypeDesc->TD
 |.int k=>.int k
 |.bool=>.bool
 |.string=>.string
 |.pointer e=>.pointer e
 |.slice e=>.slice e (P.cellsOf e)
 |.array n e=>.array n e (P.cellsOf e)
 |.struct c=>.struct (c.toList.map λf=>(f.offset,P.cellsOf f.type,f.type))
 |.map k e=>.map k e
 |.func .. =>.func
 |.interface .. =>.iface
 |_=>.other
def TD.isAgg:TD->Bool
 |.struct _=>true
 |.array .. =>true
 |_=>false
structure TI where
 size:Nat
 bytes:Nat
 d:TD
 zero:AV
structure TOk1(P:Program)(t:TypeId)(i:TI):Prop where
 sb:(P.info? t).map (λx=>(x.size,x.bytes))=some (i.size,i.bytes)
 z:((P.info? t).bind (·.zero)).map uJ=some i.zero
 u:(P.underlying t).map (td P)=some i.d
abbrev Ty:=TypeId->Option TI
def kU(P:Program)(T:Ty):Prop:=∀t i,T t=some i->TOk1 P t i
section
variable{P:Program}{t:TypeId}{i:TI}(w:World)
def TOk1.info(h:TOk1 P t i):∃x z,P.info? t=some x/\x.size=i.size/\x.bytes=i.bytes/\x.zero=some z/\uJ z=i.zero:=by
 have h1:=h.sb;have h2:=h.z;cases c:P.info? t with
 |none=>rw[c]at h1;simp at h1
 |some x=>
  rw[c]at h1 h2;simp at h1 h2;have⟨z,hz,e⟩:=h2;exact⟨x,z,rfl,h1.1,h1.2,hz,e⟩
def TOk1.under(h:TOk1 P t i):∃u,P.underlying t=some u/\td P u=i.d:=by
 have h1:=h.u;cases c:P.underlying t with
 |none=>rw[c]at h1;simp at h1
 |some u=>rw[c]at h1;simp at h1;exact⟨u,rfl,h1⟩
def TOk1.run_size(h:TOk1 P t i):(sizeOf t).run P w=.ok i.size w:=by
 have⟨x,z,d,c,_⟩:=h.info;simp[sizeOf,typeInfo,d,c]
def TOk1.cellsOf(h:TOk1 P t i):P.cellsOf t=i.size:=by
 have⟨x,z,d,c,_⟩:=h.info;simp[Program.cellsOf,d,c]
def TOk1.run_isAgg(h:TOk1 P t i):(isAgg t).run P w=.ok i.d.isAgg w:=by
 have⟨u,c,e⟩:=h.under;unfold isAgg;rw[Dr,run_underlying c w,<-e];cases u<;>rfl
def TOk1.run_zero(h:TOk1 P t i):∃z,(zeroValue t).run P w=.ok z w/\uJ z=i.zero:=by
 have⟨x,z,c,_,_,hz,e⟩:=h.info;exact⟨z,by simp[zeroValue,typeInfo,c,hz],e⟩
end
def Nn(C:Ctx)(w:World)(b o:Nat)(cs:Is):Prop:=∃vs:Hx,CJ C w cs vs/\∀j v,vs[j]?=some v->w.cell? ⟨b,o+j,none⟩=some v
def Nn.drop{w:World}{b o:Nat}{cs:Is}(h:Nn C w b o cs)(k:Nat):Nn C w b (o+k) (cs.drop k):=by
 have⟨vs,h1,h2⟩:=h;refine⟨vs.drop k,h1.drop k,λj v hv=>?_⟩;rw[qX]at hv;rw[lB];exact h2 _ v hv
def Nn.take{w:World}{b o:Nat}{cs:Is}(h:Nn C w b o cs)(k:Nat):Nn C w b o (cs.take k):=by
 have⟨vs,h1,h2⟩:=h;refine⟨vs.take k,h1.take k,λj v hv=>?_⟩;rw[D_]at hv;split at hv
 ·exact h2 _ v hv
 ·simp at hv
def Laid.at{w:World}{T:TypeId}{cs:Is}{arr:Array Value}(h:Laid C w r q T cs b base arr fz):Nn C w b base cs:=by
 refine⟨_,h.vals.unsel,λj v hv=>?_⟩;rw[h.cell];rw[D_]at hv;split at hv
 ·rw[qX]at hv;simpa using hv
 ·simp at hv
def Laid.atq{w:World}{T:TypeId}{cs:Is}{arr:Array Value}(h:Laid C w r q T cs b base arr fz):Nn (C.sel q) w b base cs:=by
 refine⟨_,h.vals,λj v hv=>?_⟩;rw[h.cell];rw[D_]at hv;split at hv
 ·rw[qX]at hv;simpa using hv
 ·simp at hv
def wO{w:World}{b o:Nat}{cs:Is}(vs:Nat->Value)(hc:∀i,i<cs.length->w.cell? ⟨b,o+i,none⟩=some (vs i))(hv:∀i(hi:i<cs.length),VRel C w cs[i] (vs i)):Nn C w b o cs:=by
 refine⟨(List.range cs.length).map vs,⟨by simp,λi a d=>?_⟩,λj v c=>?_⟩
 ·obtain⟨hi,rfl⟩:=E'.1 d;exact⟨vs i,by simp[hi],hv i hi⟩
 ·rw[yY]at c;by_cases h:j<cs.length
  ·simp[h]at c;subst c;exact hc j h
  ·simp[l1j (by simpa using h:(List.range cs.length).length<=j)]at c
def Kq(b o k:Nat):(⟨b,o,none⟩:Addr).add k=⟨b,o+k,none⟩:=by unfold Addr.add;split<;>simp_all
def lV{P:Program}{w:World}{b o:Nat}{cs:Is}(h:Nn C w b o cs)(n:Nat)(hn:n<=cs.length):∃vs,(loadCells ⟨b,o,none⟩ n).run P w=.ok vs.toArray w/\CJ C w (cs.take n) vs:=by
 have⟨vs,h1,h2⟩:=h.take n;have c:vs.length=n:=by rw[h1.1];simp[hn]
 refine⟨vs,?_,h1⟩;have:=run_loadCells_list (P:=P) w ⟨b,o,none⟩ vs (λj v hv=>by rw[Kq];exact h2 j v hv)
 rwa[c]at this
def Zh(T:Ty)(ty:TypeId)(cs:Is)(K:AV->Prop):Prop:=
 match T ty with
 |some i=>if i.d.isAgg then i.size<=cs.length/\K (.agg (cs.take i.size)) else match cs with
  |c::_=>K c
  |[]=>False
 |none=>False
def YE{P:Program}{T:Ty}(j:kU P T){w:World}{b o:Nat}{cs:Is}{ty:TypeId}(h:Nn C w b o cs)(e:Zh T ty cs K):
 ∃v y,(loadVar ty ⟨b,o,none⟩).run P w=.ok y w/\VRel C w v y/\K v:=by
 unfold Zh at e;cases hi:T ty with
 |none=>rw[hi]at e;exact e.elim
 |some i=>
  rw[hi]at e;have ok:=j ty i hi;simp only at e;by_cases f:i.d.isAgg=true
  ·rw[Dv f]at e;have⟨vs,hr,hv⟩:=lV (P:=P) h i.size e.1;refine⟨_,.agg vs.toArray,?_,ET.2 ⟨vs,rfl,hv⟩,e.2⟩;simp[loadVar,ok.run_isAgg,f,ok.run_size,hr]
  ·rw[CL f]at e;have g:i.d.isAgg=false:=by simpa using f
   cases cs with
   |nil=>exact e.elim
   |cons c cs=>
    have⟨vs,h1,h2⟩:=h;obtain⟨y,k,rfl,hv,_⟩:=h1.cons_inv;refine⟨c,y,?_,hv,e⟩;have:=h2 0 y rfl;simp only[Nat.add_zero]at this;simp[loadVar,ok.run_isAgg,g,this]
def A10(T:Ty)(ty:TypeId)(a:AV)(H:Hp)(K:AV->Prop):Prop:=
 match a with
 |.iptr cs=>Zh T ty cs K
 |.ptr r p k=>match Ah H r with
  |some (.cells _ _ cs)=>Zh T ty (cs.drop (p+k)) K
  |_=>False
 |_=>False
def oO{P:Program}{T:Ty}(g:kU P T){G:Gl}{w:World}{ty:TypeId}(hr:Rel G w0 C H w)(j:VRel C w a y)(h:A10 T ty a H K):
 ∃v z,(Instr.loadAt ty y).run P w=.ok z w/\VRel C w v z/\K v:=by
 cases a with
 |iptr cs=>
  cases j with
  |iptr vs A hc hv=>
   have⟨v,z,h1,h2,c⟩:=YE (P:=P) g (wO vs hc (λi hi=>(hv i hi).up rfl rfl)) h;exact⟨v,z,by simp[Instr.loadAt,Instr.sureAddr,h1],h2,c⟩
 |ptr r p k=>
  simp only[A10]at h;cases d:Ah H r with
  |none=>rw[d]at h;exact h.elim
  |some x=>
   rw[d]at h;cases x with
   |map q u=>exact h.elim
   |loop=>exact h.elim
   |iter=>exact h.elim
   |gone=>exact h.elim
   |cells q Ty cs=>
    cases j with
    |ptr f=>
     rcases hr.rows r _ d with⟨h1,h2⟩|⟨b,base,arr,fz,m⟩
     ·rw[h2]at f;cases f
     ·have e:=m.at_.symm.trans f;injection e with e;injection e with e;injection e with n s;subst n s
      have⟨v,z,h1,h2,c⟩:=YE (P:=P) g (m.at.drop (p+k)) h;exact⟨v,z,by simp[Instr.loadAt,Instr.sureAddr,h1],h2,c⟩
 |_=>exact h.elim
def sM(T:Ty)(ty:TypeId)(a v:AV)(H:Hp)(K:Hp->Prop):Prop:=
 match a with
 |.ptr r p k=>match Ah H r,T ty with
  |some (.cells q E cs),some i=>(B4 v).length=i.size/\(B4 v).all AV.one=true/\(p+k)+(B4 v).length<=cs.length/\K (upd H r (.cells q E (splice cs (p+k) (B4 v))))
  |_,_=>False
 |_=>False
def P_{P:Program}{T:Ty}(N:kU P T){G:Gl}{w:World}{ty:TypeId}{a v:AV}{y z:Value}{K:Hp->Prop}(hr:Rel G w0 C H w)(Q:VRel C w a y)(hv:VRel C w v z)(h:sM T ty a v H K):
 ∃A m,(Instr.storeAt ty y z).run P w=.ok () m/\Rel G w0 C A m/\Ext w0.own C w C m/\K A:=by
 cases a with
 |ptr r p k=>
  simp only[sM]at h;cases n:Ah H r with
  |none=>rw[n]at h;exact h.elim
  |some x=>
   rw[n]at h;cases x with
   |map q V=>exact h.elim
   |loop=>exact h.elim
   |iter=>exact h.elim
   |gone=>exact h.elim
   |cells q E cs=>
    cases hi:T ty with
    |none=>rw[hi]at h;exact h.elim
    |some i=>
     rw[hi]at h;have⟨h1,h2,J,L⟩:=h;have ok:=N ty i hi;have⟨f,g⟩:=hv.cells h2;cases Q with
     |ptr u=>
      rcases hr.rows r _ n with⟨X,M⟩|⟨b,base,arr,fz,c⟩
      ·rw[M]at u;cases u
      ·have e:=c.at_.symm.trans u;injection e with e;injection e with e;injection e with D F;subst D F
       have B:=c.fits;have s:CJ (C.sel q) w (B4 v) z.cells.toList:=f;have d:z.cells.toList.length=(B4 v).length:=f.1;have⟨m,j,R⟩:=Np (P:=P) z.cells.toList w arr (base+(p+k)) 0 c.block c.free (by omega) g;have:=hr.store (O:=w0.own) n c J s (by simpa using R);refine⟨_,m,?_,this.1,this.2,L⟩;have hsz:¬z.cells.size≠i.size:=by simp at d;omega
       simp[Instr.storeAt,Instr.sureAddr,storeVar,ok.run_size,hsz,j]
 |_=>exact h.elim
end
section
variable{op:BinOp}{a b:Int}{k:IntKind}{P:Program}{α:Type}{v:Value}
def qA(op:BinOp)(k:IntKind)(a b:Int):Option Value:=
 match op with
 |.add=>some (.int k (k.wrap (a+b)))
 |.sub=>some (.int k (k.wrap (a-b)))
 |.mul=>some (.int k (k.wrap (a*b)))
 |.quo=>if b=0 then none else some (.int k (k.wrap (a.tdiv b)))
 |.rem=>if b=0 then none else some (.int k (a.tmod b))
 |.and=>some (.int k (k.wrap ((BitVec.ofInt k.bits a&&&BitVec.ofInt k.bits b).toNat)))
 |.or=>some (.int k (k.wrap ((BitVec.ofInt k.bits a|||BitVec.ofInt k.bits b).toNat)))
 |.xor=>some (.int k (k.wrap ((BitVec.ofInt k.bits a^^^BitVec.ofInt k.bits b).toNat)))
 |.andNot=>some (.int k (k.wrap ((BitVec.ofInt k.bits a&&& ~~~BitVec.ofInt k.bits b).toNat)))
 |.eql=>some (.bool (a==b))
 |.neq=>some (.bool (a !=b))
 |.lss=>some (.bool (decide (a<b)))
 |.leq=>some (.bool (decide (a<=b)))
 |.gtr=>some (.bool (decide (a>b)))
 |.geq=>some (.bool (decide (a≥b)))
 |_=>none
def mJ(op:BinOp)(k:IntKind)(a b:Int):Option Value:=
 if b<0 then none else match op with
 |.shl=>some (.int k (k.wrap (a*2^(min b.toNat k.bits))))
 |.shr=>some (.int k (a.fdiv (2^(min b.toNat k.bits))))
 |_=>none
def A7G(op:BinOp)(a b:ByteArray):Option Value:=
 match op with
 |.add=>if((a.size+b.size:Nat):Int)>IntKind.i64.max then none else some (.string (a++b))
 |.eql=>some (.bool (a.toList==b.toList))
 |.neq=>some (.bool !(a.toList==b.toList))
 |.lss=>some (.bool (Op.bytesLess a.toList b.toList))
 |.leq=>some (.bool (Op.bytesLess a.toList b.toList||a.toList==b.toList))
 |.gtr=>some (.bool !(Op.bytesLess a.toList b.toList||a.toList==b.toList))
 |.geq=>some (.bool !Op.bytesLess a.toList b.toList)
 |_=>none
def Je:BinOp->Bool
 |.shl=>true
 |.shr=>true
 |_=>false
def Mu(o:Option α)(K:α->Prop):Prop:=
 match o with
 |some v=>K v
 |none=>False
def A1V:TD->AV->AV->Option Bool
 |.pointer _,.v (.pointer none),.v (.pointer none)=>some true
 |.pointer _,.ptr ..,.v (.pointer none)=>some false
 |.pointer _,.iptr ..,.v (.pointer none)=>some false
 |.pointer _,.v (.pointer none),.ptr .. =>some false
 |.pointer _,.v (.pointer none),.iptr .. =>some false
 |.func,.v .nilFunc,.v .nilFunc=>some true
 |.func,.fn ..,.v .nilFunc=>some false
 |.func,.v .nilFunc,.fn .. =>some false
 |.slice ..,.v (.slice none 0 0),.v (.slice none 0 0)=>some true
 |.slice ..,.list (_+1) _,.v (.slice none 0 0)=>some false
 |.slice ..,.sl _ _ _ (_+1),.v (.slice none 0 0)=>some false
 |_,_,_=>none
def sU(T:Ty)(op:BinOp)(ty:TypeId)(a b:AV)(K:AV->Prop):Prop:=
 match a,b with
 |.v (.int k m),.v (.int c n)=>if Je op then Mu (mJ op k m n) (λv=>K (.v v)) else k=c/\Mu (qA op k m n) (λv=>K (.v v))
 |.v (.string s),.v (.string u)=>Mu (A7G op s u) (λv=>K (.v v))
 |.v (.bool p),.v (.bool q)=>(∃i,T ty=some i/\i.d=.bool)/\(match op with|.eql=>K (.v (.bool (p==q)))|.neq=>K (.v (.bool (!(p==q))))|_=>False)
 |a,b=>match T ty with
  |some i=>match A1V i.d a b with
   |some q=>(match op with|.eql=>K (.v (.bool q))|.neq=>K (.v (.bool (!q)))|_=>False)
   |none=>False
  |none=>False
def B12(c:Je op=false)(h:qA op k a b=some v)(ty:TypeId)(w:World):(binOp op ty (.int k a) (.int k b)).run P w=.ok v w:=by
 cases op<;>simp[qA,Je]at h c<;>try (subst h;simp[binOp,Op.intArith,Op.intBits,Op.intCmp];done)
 ·obtain⟨h1,rfl⟩:=h;simp[binOp,Op.intDiv,h1]
 ·obtain⟨h1,rfl⟩:=h;simp[binOp,Op.intDiv,h1]
def A4e{k c:IntKind}(h:mJ op k a b=some v)(ty:TypeId)(w:World):(binOp op ty (.int k a) (.int c b)).run P w=.ok v w:=by
 unfold mJ at h;split at h
 ·cases h
 ·rename_i hb;cases op<;>simp at h<;>(subst h;simp[binOp,Op.shift,hb])
def B0T{a b:ByteArray}(h:A7G op a b=some v)(ty:TypeId)(w:World):(binOp op ty (.string a) (.string b)).run P w=.ok v w:=by
 cases op<;>simp only[A7G]at h<;>try (simp at h;done)
 ·split at h
  ·cases h
  ·rename_i hb;injection h with h;subst h;simp only[binOp,Op.stringOp,CL hb];rfl
 all_goals (injection h with h;subst h;rfl)
def B1B{c:Prop}[Decidable c]{x y z:α}(h1:x=z)(h2:y=z):(if c then x else y)=z:=by split<;>assumption
def oZ{ty:TypeId}{x y:Operand}{a b:Value}(w:World)(h:(∀xs c,a=.agg xs->b=.agg c->False)/\¬(a=.nilIface/\b=.nilIface)):(eqGuard op ty x y a b).run P w=.ok () w:=by
 unfold eqGuard;rw[Sem.run_ite];refine B1B (by simp) ?_;split
 ·exact absurd ⟨rfl,rfl⟩ h.2
 ·exact(h.1 _ _ rfl rfl).elim
 ·rfl
def sT{T:Ty}(B:kU P T){C:Ctx}{w:World}{ty:TypeId}{a b:AV}{y z:Value}{K:AV->Prop}(F H:Operand)(f:VRel C w a y)(hb:VRel C w b z)(h:sU T op ty a b K):
 ∃v u,(do eqGuard op ty F H y z;binOp op ty y z).run P w=.ok u w/\VRel C w v u/\K v:=by
 have c:∀{u:Value},((∀xs A,y=.agg xs->z=.agg A->False)/\¬(y=.nilIface/\z=.nilIface))->(binOp op ty y z).run P w=.ok u w->(do eqGuard op ty F H y z;binOp op ty y z).run P w=.ok u w:=by
  intro u g hr;rw[Dr,oZ w g];simpa using hr
 unfold sU at h;split at h
 ·rename_i k m J n;obtain rfl:=AQ.1 f;obtain rfl:=AQ.1 hb;split at h
  ·rename_i D;unfold Mu at h;split at h
   ·rename_i v hv;exact⟨_,_,c ⟨by simp,by simp⟩ (A4e hv ty w),.v _,h⟩
   ·exact h.elim
  ·rename_i D;obtain⟨rfl,h⟩:=h;unfold Mu at h;split at h
   ·rename_i v hv;exact⟨_,_,c ⟨by simp,by simp⟩ (B12 (by simpa using D) hv ty w),.v _,h⟩
   ·exact h.elim
 ·obtain rfl:=AQ.1 f;obtain rfl:=AQ.1 hb;unfold Mu at h;split at h
  ·rename_i v hv;exact⟨_,_,c ⟨by simp,by simp⟩ (B0T hv ty w),.v _,h⟩
  ·exact h.elim
 ·rename_i p q;obtain rfl:=AQ.1 f;obtain rfl:=AQ.1 hb;have⟨⟨i,hi,s⟩,h⟩:=h;have⟨u,t,e⟩:=(B ty i hi).under;have x:u=.bool:=by rw[s]at e;cases u<;>simp[td]at e;rfl
  subst x;have he:(Op.equal ty (.bool p) (.bool q)).run P w=.ok (p==q) w:=by
   show(Op.equalIn (9999+1) ty _ _).run P w=_;unfold Op.equalIn;rw[Dr,run_underlying t w];rfl
  cases op<;>simp only at h<;>try exact h.elim
  ·exact⟨_,_,c ⟨by simp,by simp⟩ (by simp[binOp,he]),.v _,h⟩
  ·exact⟨_,_,c ⟨by simp,by simp⟩ (by simp[binOp,he]),.v _,h⟩
 ·split at h
  ·rename_i i hi;split at h
   ·rename_i q hq;have⟨u,t,e⟩:=(B ty i hi).under;have key:(Op.equal ty y z).run P w=.ok q w/\((∀xs A,y=.agg xs->z=.agg A->False)/\¬(y=.nilIface/\z=.nilIface))/\(binOp .eql ty y z=(do pure (.bool (<-Op.equal ty y z))))/\(binOp .neq ty y z=(do pure (.bool (!(<-Op.equal ty y z))))):=by
     unfold A1V at hq;split at hq<;>first
      |(have s:=‹i.d=_›
        injection hq with hq;subst hq
        rw[s]at e;cases u<;>simp[td]at e
        cases f<;>cases hb<;>(refine⟨by(show(Op.equalIn (9999+1) ty _ _).run P w=_);unfold Op.equalIn;rw[Dr,run_underlying t w];rfl,⟨by simp,by simp⟩,rfl,rfl⟩))
      |(cases hq;done)
    have⟨he,g,j,r⟩:=key;cases op<;>simp only at h<;>try exact h.elim
    ·exact⟨_,_,c g (by rw[j];simp[he]),.v _,h⟩
    ·exact⟨_,_,c g (by rw[r];simp[he]),.v _,h⟩
   ·exact h.elim
  ·exact h.elim
end
section
variable{a:AV}{K:AV->Prop}{C:Ctx}{esz f:Nat}{P:Program}{i:TI}{e t:TypeId}{y:Value}{w:World}
def xun(op:UnOp)(a:AV)(K:AV->Prop):Prop:=
 match op,a with
 |.neg,.v (.int k n)=>K (.v (.int k (k.wrap (0-n))))
 |.xor,.v (.int k n)=>K (.v (.int k (k.wrap ((BitVec.ofInt k.bits (if k.signed then-1 else k.max)^^^BitVec.ofInt k.bits n).toNat))))
 |.not,.v (.bool b)=>K (.v (.bool !b))
 |_,_=>False
def A76{op:UnOp}(b:VRel C w a y)(h:xun op a K):∃v u,(Op.unary op y).run P w=.ok u w/\VRel C w v u/\K v:=by
 unfold xun at h;split at h
 ·obtain rfl:=AQ.1 b;exact⟨_,_,rfl,.v _,h⟩
 ·obtain rfl:=AQ.1 b;exact⟨_,_,rfl,.v _,h⟩
 ·obtain rfl:=AQ.1 b;exact⟨_,_,rfl,.v _,h⟩
 ·exact h.elim
def A9c(a:AV)(K:AV->Prop):Prop:=
 match a with
 |.ptr .. =>K a
 |.iptr .. =>K a
 |.fn (.func _) _ _=>K a
 |.fn (.yield _) _ _=>K a
 |_=>False
def zP(T:Ty)(src dst:TypeId)(a:AV)(K:AV->Prop):Prop:=
 match T src,T dst with
 |some i,some j=>match j.d,a with
  |.int k,.v (.int _ n)=>K (.v (.int k (k.wrap n)))
  |.string,.v (.string s)=>(match i.d with|.string=>True|_=>False)/\K (.v (.string s))
  |_,_=>False
 |_,_=>False
def A11{T:Ty}(q:kU P T){src dst:TypeId}(r:VRel C w a y)(h:zP T src dst a K):∃v u,(convert src dst y).run P w=.ok u w/\VRel C w v u/\K v:=by
 unfold zP at h;split at h
 ·rename_i i j hi A;have⟨u1,d,B⟩:=(q src i hi).under;have⟨m,g,c⟩:=(q dst j A).under;split at h
  ·rename_i k _ n p;obtain rfl:=AQ.1 r;rw[p]at c;have b:m=.int k:=by cases m<;>simp[td]at c;rw[c]
   subst b;refine⟨_,_,?_,.v _,h⟩;unfold convert;rw[Dr,run_underlying d w];simp only[Ga,Dr,run_underlying g w];rfl
  ·rename_i s p;obtain rfl:=AQ.1 r;have⟨x,h⟩:=h;rw[p]at c;have b:m=.string:=by cases m<;>simp[td]at c;rfl
   subst b;refine⟨_,_,?_,.v _,h⟩;unfold convert;rw[Dr,run_underlying d w];simp only[Ga,Dr,run_underlying g w];rfl
  ·exact h.elim
 ·exact h.elim
def lH(T:Ty)(ty:TypeId)(a:AV)(f:Nat)(K:AV->Prop):Prop:=
 match T ty with
 |some i=>match i.d with
  |.struct g=>match g[f]? with
   |some (off,sz,_)=>sz≠0/\(match a with
    |.ptr r p k=>∃c b,c+b=p+(k+off)/\K (.ptr r c b)
    |.iptr cs=>K (.iptr (cs.drop off))
    |_=>False)
   |none=>False
  |_=>False
 |none=>False
def nN{cs:Is}{b o:Nat}(h:VRel C w (.iptr cs) (.pointer (some ⟨b,o,none⟩)))(k:Nat):VRel C w (.iptr (cs.drop k)) (.pointer (some ⟨b,o+k,none⟩)):=by
 cases h with
 |iptr vs c hc hv=>
  refine .iptr (λi=>vs (k+i)) (λi hi=>?_) (λi hi=>?_) (λi hi=>?_)
  ·rw[lB];exact c _ (by simp at hi;omega)
  ·rw[lB];exact hc _ (by simp at hi;omega)
  ·rw[List.getElem_drop];exact hv _ (by simp at hi;omega)
def E_{cs:Is}{b o:Nat}(h:VRel C w (.iptr cs) (.pointer (some ⟨b,o,none⟩)))(k:Nat):VRel C w (.iptr (cs.take k)) (.pointer (some ⟨b,o,none⟩)):=by
 cases h with
 |iptr vs c hc hv=>
  refine .iptr vs (λi hi=>?_) (λi hi=>?_) (λi hi=>?_)
  ·exact c _ (by simp at hi;omega)
  ·exact hc _ (by simp at hi;omega)
  ·rw[List.getElem_take];exact hv _ (by simp at hi;omega)
def vS{cs:Is}(h:VRel C w (.iptr cs) y):∃b o,y=.pointer (some ⟨b,o,none⟩):=by
 cases h with
 |iptr vs c hc hv=>exact⟨_,_,rfl⟩
def Cg(w:World)(h:P.cellsOf t≠0):(sizeOf t).run P w=.ok (P.cellsOf t) w:=by
 unfold Program.cellsOf at h⊢;cases b:P.info? t with
 |none=>rw[b]at h;simp at h
 |some x=>simp[sizeOf,typeInfo,b]
def R!{T:Ty}(p:kU P T){ty:TypeId}(k:VRel C w a y)(h:lH T ty a f K):∃v u,(Instr.fieldAt ty y f).run P w=.ok u w/\VRel C w v u/\K v:=by
 unfold lH at h;split at h
 ·rename_i i hi;have⟨u1,m,g⟩:=(p ty i hi).under;split at h
  ·rename_i A q;split at h
   ·rename_i off sz ft d;have⟨hsz,h⟩:=h;rw[q]at g;cases u1<;>simp[td]at g
    rename_i fields;subst g;rw[yY]at d;cases c:fields.toList[f]? with
    |none=>rw[c]at d;simp at d
    |some fd=>
     rw[c]at d;simp at d;have⟨g,n,x⟩:=d;have j:fields[f]?=some fd:=by simpa using c
     have s:(sizeOf fd.type).run P w=.ok sz w:=by rw[<-n];exact Cg w (by rw[n];exact hsz)
     have run:∀b o,(Instr.fieldAt ty (.pointer (some ⟨b,o,none⟩)) f).run P w=.ok (.pointer (some ⟨b,o+off,none⟩)) w:=by
      intro b o;simp[Instr.fieldAt,run_underlying m,j,Instr.sureAddr,fieldPlace,s,hsz,Kq,g]
     split at h
     ·cases k with
      |ptr r=>
       have⟨D,B,he,h⟩:=h;exact⟨_,_,run _ _,by rw[lB,lB,<-he];exact .ptr r,h⟩
     ·obtain⟨b,o,rfl⟩:=vS k;exact⟨_,_,run _ _,nN k _,h⟩
     ·exact h.elim
   ·exact h.elim
  ·exact h.elim
 ·exact h.elim
def sR(T:Ty)(ty:TypeId)(a:AV)(f:Nat)(K:AV->Prop):Prop:=
 match T ty with
 |some i=>match i.d,a with
  |.struct b,.agg cs=>match b[f]? with
   |some (off,_,ft)=>Zh T ft (cs.drop off) K
   |none=>False
  |_,_=>False
 |none=>False
def A1u{T:Ty}(n:kU P T){ft:TypeId}{off:Nat}{cs:Is}{ys:Hx}(k:CJ C w cs ys)(h:Zh T ft (cs.drop off) K):
 ∃v u,(part ft ys.toArray off).run P w=.ok u w/\VRel C w v u/\K v:=by
 unfold Zh at h;cases hi:T ft with
 |none=>rw[hi]at h;exact h.elim
 |some i=>
  rw[hi]at h;have ok:=n ft i hi;simp only at h;by_cases b:i.d.isAgg=true
  ·rw[Dv b]at h;refine⟨_,.agg ((ys.drop off).take i.size).toArray,?_,ET.2 ⟨_,rfl,(k.drop off).take _⟩,h.2⟩;simp only[part,Dr,ok.run_isAgg,b,ok.run_size,Ga,if_true,nJ]
   congr 2
   apply qY;simp[List.take_drop]
  ·rw[CL b]at h;have g:i.d.isAgg=false:=by simpa using b
   cases hc:cs.drop off with
   |nil=>rw[hc]at h;exact h.elim
   |cons c m=>
    rw[hc]at h;have j:=k.drop off;rw[hc]at j;have⟨y,q,e,hv,_⟩:=j.cons_inv;have p:ys.toArray[off]?=some y:=by
     have:(ys.drop off)[0]?=some y:=by rw[e];rfl
     rw[qX]at this;simpa using this
    exact⟨c,y,by simp[part,ok.run_isAgg,g,p],hv,h⟩
def R'{T:Ty}(k:kU P T){ty:TypeId}(p:VRel C w a y)(h:sR T ty a f K):∃v u,(Instr.field ty y f).run P w=.ok u w/\VRel C w v u/\K v:=by
 unfold sR at h;split at h
 ·rename_i i hi;have⟨u1,j,d⟩:=(k ty i hi).under;split at h
  ·rename_i x cs q;split at h
   ·rename_i off sz ft c;rw[q]at d;cases u1<;>simp[td]at d
    rename_i fields;subst d;rw[yY]at c;cases b:fields.toList[f]? with
    |none=>rw[b]at c;simp at c
    |some fd=>
     rw[b]at c;simp at c;have⟨d,s,m⟩:=c;have g:fields[f]?=some fd:=by simpa using b
     obtain⟨A,rfl,r⟩:=ET.1 p;have⟨v,u,h1,h2,n⟩:=A1u (P:=P) k r h;refine⟨v,u,?_,h2,n⟩;simp[Instr.field,run_underlying j,g,asAgg,d,m,h1]
   ·exact h.elim
  ·exact h.elim
 ·exact h.elim
def sQ(T:Ty)(ty:TypeId)(a i:AV)(K:AV->Prop):Prop:=
 match T ty,i with
 |some g,.v (.int _ n)=>match g.d,a with
  |.slice _ esz,.list m cs=>(0<=n/\n<m)/\K (.iptr ((cs.drop (n.toNat*esz)).take esz))
  |.slice _ esz,.sl _ r o m=>(0<=n/\n<m)/\K (.ptr r (o+n.toNat*esz) 0)
  |.array m _ esz,.ptr r p k=>(0<=n/\n<m)/\∃c b,c+b=p+(k+n.toNat*esz)/\K (.ptr r c b)
  |.array m _ esz,.iptr cs=>(0<=n/\n<m)/\K (.iptr ((cs.drop (n.toNat*esz)).take esz))
  |_,_=>False
 |_,_=>False
def TOk1.elem_slice(h:TOk1 P t i)(c:i.d=.slice e esz):P.underlying t=some (.slice e)/\P.cellsOf e=esz:=by
 have⟨u,g,b⟩:=h.under;rw[c]at b;cases u<;>simp[td]at b
 rw[g,b.1];exact⟨rfl,b.1▸b.2⟩
def TOk1.elem_array(h:TOk1 P t i){n:Nat}(c:i.d=.array n e esz):P.underlying t=some (.array n e)/\P.cellsOf e=esz:=by
 have⟨u,g,b⟩:=h.under;rw[c]at b;cases u<;>simp[td]at b
 rw[g,b.1,b.2.1];exact⟨rfl,b.2.1▸b.2.2⟩
def Q_{T:Ty}(J:kU P T)(A:∀t i e esz,T t=some i->(i.d=.slice e esz\/∃n,i.d=.array n e esz)->esz≠0){ty:TypeId}{a i:AV}{y z:Value}(q:VRel C w a y)(hi:VRel C w i z)(h:sQ T ty a i K):
 ∃v u,(Instr.indexAt ty y z).run P w=.ok u w/\VRel C w v u/\K v:=by
 unfold sQ at h;split at h
 ·rename_i x k n g;obtain rfl:=AQ.1 hi;have ok:=J ty x g;split at h
  ·rename_i e esz m cs c;have⟨j,hc⟩:=ok.elem_slice c;have hsz:(sizeOf e).run P w=.ok esz w:=by rw[<-hc];exact Cg w (by rw[hc];exact A ty x e esz g (.inl c))
   have⟨hb,h⟩:=h;cases q with
   |list0=>omega
   |list s vs H B hv=>
    refine⟨_,_,?_,E_ (nN (.iptr vs H B hv) _) _,h⟩;simp[Instr.indexAt,asIntOf,run_underlying j,hb,hsz,Kq]
  ·rename_i e esz sz r o m c;have⟨j,hc⟩:=ok.elem_slice c;have hsz:(sizeOf e).run P w=.ok esz w:=by rw[<-hc];exact Cg w (by rw[hc];exact A ty x e esz g (.inl c))
   have⟨hb,h⟩:=h;cases q with
   |slz=>omega
   |sl D s L F=>
    refine⟨_,_,?_,.ptr D,h⟩;simp[Instr.indexAt,asIntOf,run_underlying j,hb,hsz,Kq,lB]
  ·rename_i m e esz r p kk c;have⟨j,hc⟩:=ok.elem_array c;have hsz:(sizeOf e).run P w=.ok esz w:=by rw[<-hc];exact Cg w (by rw[hc];exact A ty x e esz g (.inr ⟨m,c⟩))
   have⟨hb,h⟩:=h;cases q with
   |ptr D=>
    have⟨N,M,he,h⟩:=h;refine⟨_,_,?_,.ptr D,h⟩;simp[Instr.indexAt,asIntOf,run_underlying j,hb,hsz,Kq,he,lB,Instr.sureAddr]
  ·rename_i m e esz cs c;have⟨j,hc⟩:=ok.elem_array c;have hsz:(sizeOf e).run P w=.ok esz w:=by rw[<-hc];exact Cg w (by rw[hc];exact A ty x e esz g (.inr ⟨m,c⟩))
   have⟨hb,h⟩:=h;obtain⟨b,o,rfl⟩:=vS q;refine⟨_,_,?_,E_ (nN q _) _,h⟩;simp[Instr.indexAt,asIntOf,run_underlying j,hb,hsz,Kq,Instr.sureAddr]
  ·exact h.elim
 ·exact h.elim
def sP(T:Ty)(ty:TypeId)(a i:AV)(K:AV->Prop):Prop:=
 match T ty,i with
 |some b,.v (.int _ n)=>match b.d,a with
  |.string,.v (.string s)=>(0<=n/\n<s.size)/\K (.v (.int .u8 (s.data.toList.getD n.toNat 0).toNat))
  |.array m e esz,.agg cs=>(0<=n/\n<m)/\Zh T e (cs.drop (n.toNat*esz)) K
  |_,_=>False
 |_,_=>False
def Q?{T:Ty}(r:kU P T)(D:∀t i e esz,T t=some i->(i.d=.slice e esz\/∃n,i.d=.array n e esz)->esz≠0){ty:TypeId}{a i:AV}{y z:Value}(x:VRel C w a y)(hi:VRel C w i z)(h:sP T ty a i K):
 ∃v u,(Instr.index ty y z).run P w=.ok u w/\VRel C w v u/\K v:=by
 unfold sP at h;split at h
 ·rename_i A k n c;obtain rfl:=AQ.1 hi;have ok:=r ty A c;split at h
  ·rename_i s g;have⟨u,j,q⟩:=ok.under;rw[g]at q;have p:u=.string:=by cases u<;>simp[td]at q;rfl
   subst p;obtain rfl:=AQ.1 x;have⟨hb,h⟩:=h;refine⟨_,_,?_,.v _,h⟩;have b:n.toNat<s.size:=by omega
   have H:s[n.toNat]?=some s[n.toNat]:=by simp[b]
   have J:s.data.toList.getD n.toNat 0=s[n.toNat]:=by
    rw[TV,KJ (by simpa using b)];rfl
   rw[J];simp[Instr.index,asIntOf,run_underlying j,hb.1,H]
  ·rename_i m e esz cs g;have⟨j,hc⟩:=ok.elem_array g;have hsz:(sizeOf e).run P w=.ok esz w:=by rw[<-hc];exact Cg w (by rw[hc];exact D ty A e esz c (.inr ⟨m,g⟩))
   have⟨hb,h⟩:=h;obtain⟨L,rfl,F⟩:=ET.1 x;have⟨v,u,h1,h2,B⟩:=A1u (P:=P) r F h;refine⟨v,u,?_,h2,B⟩;simp[Instr.index,asIntOf,run_underlying j,hb,hsz,h1]
  ·exact h.elim
 ·exact h.elim
end
section
variable{a:AV}{C:Ctx}{yh yl ym:Option Value}{P:Program}{y:Value}{w:World}
def C1S:AV->Option Int
 |.v (.int _ n)=>some n
 |_=>none
def dC:Option AV->Nat->Option Int
 |none,d=>some d
 |some a,_=>C1S a
def sN(T:Ty)(ty:TypeId)(a:AV)(c hi mx:Option AV)(K:AV->Prop):Prop:=
 match T ty with
 |some e=>match e.d,a with
  |.string,.v (.string s)=>mx.isNone=true/\Mu (dC c 0) λl=>Mu (dC hi s.size) λh=>(0<=l/\l<=h/\h<=s.size)/\K (.v (.string (s.extract l.toNat h.toNat)))
  |.slice _ b,.list m cs=>Mu (dC c 0) λl=>Mu (dC hi m) λh=>Mu (dC mx m) λx=>(0<=l/\l<=h/\h<=x/\x<=m)/\(mx.isSome=true->hi.isSome=true)/\K (.list (h-l).toNat ((cs.drop (l.toNat*b)).take ((h-l).toNat*b)))
  |.slice _ b,.sl sz r o m=>b=sz/\Mu (dC c 0) λl=>Mu (dC hi m) λh=>Mu (dC mx m) λx=>(0<=l/\l<=h/\h<=x/\x<=m)/\(mx.isSome=true->hi.isSome=true)/\K (.sl sz r (o+l.toNat*b) (h-l).toNat)
  |.slice _ _,.v (.slice none 0 0)=>Mu (dC c 0) λl=>Mu (dC hi 0) λh=>mx.isNone=true/\(l=0/\h=0)/\K (.v (.slice none 0 0))
  |_,_=>False
 |none=>False
def oJ{n:Int}(h:VRel C w a y)(hb:C1S a=some n){c:Nat}(b:0<=n)(h1:n<=c)(code:BoundsCode):(Instr.sliceBound y c code).run P w=.ok n.toNat w:=by
 unfold C1S at hb;split at hb
 ·rename_i k m;injection hb with hb
  subst hb;obtain rfl:=AQ.1 h;simp[Instr.sliceBound,asIntOf,b,h1]
 ·cases hb
def A0B(C:Ctx)(w:World):Option AV->Option Value->Prop
 |none,none=>True
 |some a,some y=>VRel C w a y
 |_,_=>False
def T7{f hi mx:Option AV}(c:A0B C w f yl)(j:A0B C w hi yh)(hm:A0B C w mx ym){isS:Bool}{len cap:Nat}{l h x:Int}(hc:len<=cap)(t:dC f 0=some l)(s:dC hi len=some h)(u:dC mx cap=some x)(hb:0<=l/\l<=h/\h<=x/\x<=cap)(r:mx.isSome=true->hi.isSome=true):
 (Instr.sliceBounds isS len cap yl yh ym).run P w=.ok (l.toNat,h.toNat,x.toNat) w:=by
 have h1:∀(a:AV)(y:Value),mx=some a->VRel C w a y->∀code,(Instr.sliceBound y cap code).run P w=.ok x.toNat w:=λa y e hv code=>by
  subst e;exact oJ hv u (by omega) (by omega) _
 have h2:∀(a:AV)(y:Value),hi=some a->VRel C w a y->∀code,(Instr.sliceBound y x.toNat code).run P w=.ok h.toNat w:=λa y e hv code=>by
  subst e;exact oJ hv s (by omega) (by omega) _
 have p:∀(a:AV)(y:Value),f=some a->VRel C w a y->∀code,(Instr.sliceBound y h.toNat code).run P w=.ok l.toNat w:=λa y e hv code=>by
  subst e;exact oJ hv t (by omega) (by omega) _
 have k:mx=none->x.toNat=cap:=λe=>by subst e;simp[dC]at u;omega
 have n:hi=none->h.toNat=len:=λe=>by subst e;simp[dC]at s;omega
 have d:f=none->l.toNat=0:=λe=>by subst e;simp[dC]at t;omega
 cases mx with
 |none=>
  cases ym with
  |some _=>exact hm.elim
  |none=>
   have i:=k rfl;cases hi with
   |none=>
    cases yh with
    |some _=>exact j.elim
    |none=>
     have v:=n rfl;cases f with
     |none=>
      cases yl with
      |some _=>exact c.elim
      |none=>simp[Instr.sliceBounds,i,v,d rfl]
     |some a=>
      cases yl with
      |none=>exact c.elim
      |some y=>have:=p a y rfl c;simp only[Instr.sliceBounds,pure_bind,Dr,Option.isSome_none,D!,if_false,<-i,<-v,this,Ga,nJ]
   |some b=>
    cases yh with
    |none=>exact j.elim
    |some z=>
     have g:=h2 b z rfl j;rw[i]at g;cases f with
     |none=>
      cases yl with
      |some _=>exact c.elim
      |none=>simp[Instr.sliceBounds,i,d rfl,g]
     |some a=>
      cases yl with
      |none=>exact c.elim
      |some y=>have:=p a y rfl c;simp only[Instr.sliceBounds,pure_bind,Dr,Option.isSome_none,D!,if_false,i,g,this,Ga,nJ]
 |some m=>
  cases ym with
  |none=>exact hm.elim
  |some q=>
   have A:=h1 m q rfl hm;cases hi with
   |none=>simp at r
   |some b=>
    cases yh with
    |none=>exact j.elim
    |some z=>
     have g:=h2 b z rfl j;cases f with
     |none=>
      cases yl with
      |some _=>exact c.elim
      |none=>simp[Instr.sliceBounds,d rfl,A,g]
     |some a=>
      cases yl with
      |none=>exact c.elim
      |some y=>have:=p a y rfl c;simp only[Instr.sliceBounds,Dr,Option.isSome_some,if_true,A,g,this,Ga,nJ]
def B1j{n cap:Nat}{cs:Is}{b o:Nat}(h:VRel C w (.list n cs) (.slice (some ⟨b,o,none⟩) n cap))(k m c:Nat)(j:Nat)(hm:m<=c):VRel C w (.list m ((cs.drop k).take j)) (.slice (some ⟨b,o+k,none⟩) m c):=by
 cases h with
 |list0=>
  refine .list hm (λ_=>undef) (λi hi=>?_) (λi hi=>?_) (λi hi=>?_)<;>simp at hi
 |list hc vs e d hv=>
  refine .list hm (λi=>vs (k+i)) (λi hi=>?_) (λi hi=>?_) (λi hi=>?_)
  ·rw[lB];exact e _ (by simp at hi;omega)
  ·rw[lB];exact d _ (by simp at hi;omega)
  ·rw[List.getElem_take,List.getElem_drop];exact hv _ (by simp at hi;omega)
def Q!{T:Ty}(hT:kU P T)(hP:∀t i e b,T t=some i->(i.d=.slice e b\/∃n,i.d=.array n e b)->b≠0){ty:TypeId}{Q hi mx:Option AV}{K:AV->Prop}(N:VRel C w a y)(Y:A0B C w Q yl)(X:A0B C w hi yh)(hm:A0B C w mx ym)(h:sN T ty a Q hi mx K):∃v u,(Instr.sliceAt ty y yl yh ym).run P w=.ok u w/\VRel C w v u/\K v:=by
 unfold sN at h;split at h
 ·rename_i ti M;have ok:=hT ty ti M;have aa:∀u,P.underlying ty=some u->(∀n e,u≠.array n e)->Instr.sliceAt ty y yl yh ym=Instr.sliceAt ty y yl yh ym:=λ_ _ _=>rfl;split at h
  ·rename_i s L;obtain⟨u,H,e1⟩:=ok.under;rw[L]at e1;have af:u=.string:=by cases u<;>simp[td]at e1;rfl
   subst af;obtain rfl:=AQ.1 N;obtain⟨hn,h⟩:=h;cases mx with
   |some _=>simp at hn
   |none=>
    cases ym with
    |some _=>exact hm.elim
    |none=>
     cases f:dC Q 0 with
     |none=>rw[f]at h;exact h.elim
     |some l=>
      rw[f]at h;cases c:dC hi s.size with
      |none=>rw[c]at h;exact h.elim
      |some ag=>
       rw[c]at h;simp only[Mu]at h;obtain⟨hb,h⟩:=h;have j:=T7 (P:=P) (isS:=false) Y X hm (MC s.size) f c (show dC none s.size=some (s.size:Int) from rfl) ⟨hb.1,hb.2.1,hb.2.2,Int.le_refl _⟩ (by simp);refine⟨_,_,?_,.v _,h⟩;unfold Instr.sliceAt;rw[Dr,run_underlying H w];simp only[Ga];unfold Instr.slice;rw[Dr,run_underlying H w];simp only[Ga,Option.isSome_none,D!,if_false];rw[Dr,j];rfl
  ·rename_i e b m cs L;obtain⟨H,hc⟩:=ok.elem_slice L;have hsz:(sizeOf e).run P w=.ok b w:=by rw[<-hc];exact Cg w (by rw[hc];exact hP ty ti e b M (.inl L))
   cases f:dC Q 0 with
   |none=>rw[f]at h;exact h.elim
   |some l=>
    rw[f]at h;cases c:dC hi m with
    |none=>rw[c]at h;exact h.elim
    |some h1=>
     rw[c]at h;cases k:dC mx m with
     |none=>rw[k]at h;exact h.elim
     |some x=>
      rw[k]at h;simp only[Mu]at h;obtain⟨hb,O,h⟩:=h;obtain⟨A,cap,rfl,g⟩:∃A cap,y=.slice A m cap/\m<=cap:=by
       cases N with
       |list0=>exact⟨_,_,rfl,l1h _⟩
       |list g=>exact⟨_,_,rfl,g⟩
      obtain⟨p,B,J⟩:∃p:Int,dC mx cap=some p/\h1<=p/\p<=cap:=by
       cases mx with
       |none=>exact⟨cap,rfl,by simp[dC]at k;omega,Int.le_refl _⟩
       |some mm=>exact⟨x,k,by omega,by omega⟩
      have j:=T7 (P:=P) (isS:=true) Y X hm g f c B ⟨hb.1,hb.2.1,J.1,J.2⟩ O;have q:(Instr.sliceAt ty (.slice A m cap) yl yh ym).run P w=.ok (.slice (if p.toNat=l.toNat then A else A.map (·.add (l.toNat*b))) (h1.toNat-l.toNat) (p.toNat-l.toNat)) w:=by
       unfold Instr.sliceAt;rw[Dr,run_underlying H w];simp only[Ga];unfold Instr.slice;rw[Dr,run_underlying H w];simp only[Ga];rw[Dr,j];simp only[Ga];rw[Dr,hsz];rfl
      refine⟨_,_,q,?_,h⟩;have F:h1.toNat-l.toNat=(h1-l).toNat:=by omega
      rw[F];by_cases hz:(h1-l).toNat=0
      ·rw[hz];simp;exact .list0
      ·have ae:p.toNat≠l.toNat:=by omega
       rw[CL ae];cases N with
       |list0=>omega
       |list D vs hF ac hv=>
        simp only[D?,Kq];exact B1j (.list D vs hF ac hv) _ _ _ _ (by omega)
  ·rename_i e b sz r o m L;obtain⟨H,hc⟩:=ok.elem_slice L;have hsz:(sizeOf e).run P w=.ok b w:=by rw[<-hc];exact Cg w (by rw[hc];exact hP ty ti e b M (.inl L))
   obtain⟨rfl,h⟩:=h;cases f:dC Q 0 with
   |none=>rw[f]at h;exact h.elim
   |some l=>
    rw[f]at h;cases c:dC hi m with
    |none=>rw[c]at h;exact h.elim
    |some h1=>
     rw[c]at h;cases k:dC mx m with
     |none=>rw[k]at h;exact h.elim
     |some x=>
      rw[k]at h;simp only[Mu]at h;obtain⟨hb,O,h⟩:=h;obtain⟨A,cap,rfl,g⟩:∃A cap,y=.slice A m cap/\m<=cap:=by
       cases N with
       |slz=>exact⟨_,_,rfl,l1h _⟩
       |sl Z g R V=>exact⟨_,_,rfl,g⟩
      obtain⟨p,B,J⟩:∃p:Int,dC mx cap=some p/\h1<=p/\p<=cap:=by
       cases mx with
       |none=>exact⟨cap,rfl,by simp[dC]at k;omega,Int.le_refl _⟩
       |some mm=>exact⟨x,k,by omega,by omega⟩
      have j:=T7 (P:=P) (isS:=true) Y X hm g f c B ⟨hb.1,hb.2.1,J.1,J.2⟩ O;have q:(Instr.sliceAt ty (.slice A m cap) yl yh ym).run P w=.ok (.slice (if p.toNat=l.toNat then A else A.map (·.add (l.toNat*b))) (h1.toNat-l.toNat) (p.toNat-l.toNat)) w:=by
       unfold Instr.sliceAt;rw[Dr,run_underlying H w];simp only[Ga];unfold Instr.slice;rw[Dr,run_underlying H w];simp only[Ga];rw[Dr,j];simp only[Ga];rw[Dr,hsz];rfl
      refine⟨_,_,q,?_,h⟩;have F:h1.toNat-l.toNat=(h1-l).toNat:=by omega
      rw[F];by_cases hz:p.toNat=l.toNat
      ·have h0:(h1-l).toNat=0:=by omega
       have ab:p.toNat-l.toNat=0:=by omega
       rw[h0,ab];cases N with
       |slz hr=>exact .slz hr
       |sl Z=>exact .slz (by rw[Z];simp)
      ·rw[CL hz];cases N with
       |slz hr=>
        exact absurd (by omega) hz
       |sl Z D R V=>
        simp only[D?,Kq,lB];refine .sl Z (by omega) R ?_;have h3:(p.toNat-l.toNat)*b+l.toNat*b=p.toNat*b:=by rw[<-l1e];congr 1;omega
        have h4:p.toNat*b<=cap*b:=l28 _ (by omega);omega
  ·rename_i e b L;obtain⟨H,hc⟩:=ok.elem_slice L;have hsz:(sizeOf e).run P w=.ok b w:=by rw[<-hc];exact Cg w (by rw[hc];exact hP ty ti e b M (.inl L))
   obtain rfl:=AQ.1 N;cases f:dC Q 0 with
   |none=>rw[f]at h;exact h.elim
   |some l=>
    rw[f]at h;cases c:dC hi 0 with
    |none=>rw[c]at h;exact h.elim
    |some h1=>
     rw[c]at h;simp only[Mu]at h;obtain⟨hn,⟨rfl,rfl⟩,h⟩:=h;cases mx with
     |some _=>simp at hn
     |none=>
      cases ym with
      |some _=>exact hm.elim
      |none=>
       have j:=T7 (P:=P) (isS:=true) Y X hm (MC 0) f c (show dC none 0=some ((0:Nat):Int) from rfl) ⟨by omega,by omega,by omega,by omega⟩ (by simp);refine⟨_,_,?_,.v _,h⟩;unfold Instr.sliceAt;rw[Dr,run_underlying H w];simp only[Ga];unfold Instr.slice;rw[Dr,run_underlying H w];simp only[Ga];rw[Dr,j];simp only[Ga];rw[Dr,hsz];rfl
  ·exact h.elim
 ·exact h.elim
end
section
variable{K:AV->Prop}{C:Ctx}{P:Program}{w:World}
def B1L(off:Nat)(l:Hx):∀(k:Nat)(cs:Array Value),off+k+l.length<=cs.size->(l.zipIdx k).foldl (λ(cs:Array Value)(p:Value×Nat)=>cs.setIfInBounds (off+p.2) p.1) cs=(splice cs.toList (off+k) l).toArray:=by
 induction l with
 |nil=>intro k cs _;simp[tN]
 |cons v l ih=>
  intro k cs h;simp only[List.zipIdx_cons,List.foldl_cons];simp only[LI]at h;rw[ih (k+1) _ (by simp;omega)]
  congr 1
  rw[<-oQ (by simp;omega)];simp[lB]
def A4K(v:Value)(off:Nat)(cs:Array Value)(h:off+v.cells.size<=cs.size):v.cells.zipIdx.foldl (λ(cs:Array Value)(p:Value×Nat)=>cs.setIfInBounds (off+p.2) p.1) cs=(splice cs.toList off v.cells.toList).toArray:=by
 have:=B1L off v.cells.toList 0 cs (by simpa using h);rw[<-Array.foldl_toList];simpa using this
def TA(place:Nat->Option (Nat×Nat)):List (Nat×AV)->Is->Option Is
 |[],cs=>some cs
 |(i,a)::rest,cs=>match place i with
  |none=>none
  |some (off,sz)=>if(B4 a).length=sz/\off+(B4 a).length<=cs.length/\(B4 a).all AV.one=true then TA place rest (splice cs off (B4 a)) else none
def CJ.splice{cs a:Is}{ys zs:Hx}{o:Nat}(h:CJ C w cs ys)(k:CJ C w a zs):CJ C w (splice cs o a) (splice ys o zs):=by
 unfold Abs.splice;rw[k.1];exact((h.take o).append k).append (h.drop _)
def jX{place:Nat->Option (Nat×Nat)}:∀(ps:List (Nat×AV))(b:List (Nat×Value))(cs:Is)(ys:Hx)(r:Is),ps.length=b.length->(∀(j:Nat)(p:Nat×AV),ps[j]?=some p->∃z,b[j]?=some (p.1,z)/\VRel C w p.2 z)->CJ C w cs ys->
 TA place ps cs=some r->∃f:Hx,Instr.fill place ys.toArray b=some f.toArray/\CJ C w r f:=by
 intro ps
 induction ps with
 |nil=>
  intro b cs ys r e _ hr h;cases b with
  |cons _ _=>simp at e
  |nil=>simp[TA]at h;subst h;exact⟨ys,rfl,hr⟩
 |cons p ps ih=>
  intro b cs ys r e hq hr h;have⟨i,a⟩:=p;cases b with
  |nil=>simp at e
  |cons q b=>
   have⟨z,hz,hv⟩:=hq 0 (i,a) rfl;simp at hz;subst hz;simp only[TA]at h;split at h
   ·cases h
   ·rename_i off sz t;split at h
    ·rename_i hc;have⟨h1,h2,m⟩:=hc;have⟨c,k⟩:=hv.cells m;have g:z.cells.size=(B4 a).length:=by have:=c.1;simpa using this
     have u:ys.length=cs.length:=hr.1;have⟨f,n,d⟩:=ih b _ (splice ys off z.cells.toList) r (by simpa using e) (λj p s=>by have:=hq (j+1) p (by simpa using s);simpa using this) (hr.splice c) h;refine⟨f,?_,d⟩;simp only[Instr.fill,t];have c1:¬(z.cells.size≠sz||off+z.cells.size>ys.toArray.size)=true:=by simp;omega
     rw[CL c1];rw[A4K z off ys.toArray (by simp;omega)];simpa using n
    ·cases h
def sS(T:Ty)(ty:TypeId)(ps:List (Nat×AV))(K:AV->Prop):Prop:=
 match T ty with
 |some i=>match i.d with
  |.struct b=>(b.all λf=>f.2.1 !=0)=true/\Mu (TA (λj=>(b[j]?).map λf=>(f.1,f.2.1)) ps (B4 i.zero)) λcs=>K (.agg cs)
  |.array _ _ a=>a≠0/\Mu (TA (λj=>some (j*a,a)) ps (B4 i.zero)) λcs=>K (.agg cs)
  |_=>False
 |none=>False
def C!(z:Value)(h:∀vs,z≠.tuple vs):CJ C w (B4 (uJ z)) z.cells.toList:=by
 cases z with
 |agg cs=>simpa [uJ,B4,Value.cells] using Xz (C:=C) (w:=w) cs.toList
 |tuple vs=>exact absurd rfl (h vs)
 |_=>exact .cons (.v _) .nil
def A22(w:World):∀(l:List Field),(l.all λf=>P.cellsOf f.type !=0)=true->(l.mapM (λf=>do pure (f.offset,<-sizeOf f.type):Field->Sem (Nat×Nat))).run P w=.ok (l.map λf=>(f.offset,P.cellsOf f.type)) w:=by
 intro l
 induction l with
 |nil=>intro _;rfl
 |cons f l ih=>
  intro h;simp only[qU,KW,bne_iff_ne,ne_eq]at h;rw[List.mapM_cons];simp only[Dr,Cg w h.1,Ga,nJ,ih h.2,X0]
def R?{T:Ty}(H:kU P T){ty:TypeId}{ps:List (Nat×AV)}{k:List (Nat×Value)}(b:ps.length=k.length)(hq:∀(j:Nat)(p:Nat×AV),ps[j]?=some p->∃z,k[j]?=some (p.1,z)/\VRel C w p.2 z)(h:sS T ty ps K):∃v u,(Instr.build ty k.toArray).run P w=.ok u w/\VRel C w v u/\K v:=by
 unfold sS at h;split at h
 ·rename_i i hi;have ok:=H ty i hi;have⟨z,hz,D⟩:=ok.run_zero (P:=P) w;have⟨u,J,e⟩:=ok.under;have A:(B4 i.zero).length=z.cells.size->CJ C w (B4 i.zero) z.cells.toList:=by
   intro _;rw[<-D];cases z with
   |tuple vs=>exact .cons (.v _) .nil
   |agg cs=>exact C! _ (by simp)
   |_=>exact .cons (.v _) .nil
  have B:(B4 i.zero).length=z.cells.size:=by
   rw[<-D];cases z<;>simp[uJ,B4,Value.cells]
  have g:=A B;split at h
  ·rename_i F q;have⟨a,h⟩:=h;rw[q]at e;cases u<;>simp[td]at e
   rename_i fields;cases d:TA (λj=>(F[j]?).map λf=>(f.1,f.2.1)) ps (B4 i.zero) with
   |none=>rw[d]at h;exact h.elim
   |some r=>
    rw[d]at h;have⟨m,h1,h2⟩:=jX (C:=C) (w:=w) ps k _ _ r b hq g d;refine⟨.agg r,.agg m.toArray,?_,ET.2 ⟨m,rfl,h2⟩,h⟩;have hm:=A22 (P:=P) w fields.toList (by
     rw[<-e]at a;simpa [List.all_map,l1y] using a)
    have s:(fields.mapM (λf=>do pure (f.offset,<-sizeOf f.type):Field->Sem (Nat×Nat))).run P w=.ok (fields.toList.map λf=>(f.offset,P.cellsOf f.type)).toArray w:=by
     rw[Array.mapM_eq_mapM_toList,Sem.run_map,hm];rfl
    have x:(λ(j:Nat)=>((fields.toList.map λf=>(f.offset,P.cellsOf f.type)).toArray)[j]?)=(λ(j:Nat)=>(F[j]?).map λ(f:Nat×Nat×TypeId)=>(f.1,f.2.1)):=by
     funext j
     rw[<-e];simp[yY,l1y]
    unfold Instr.build;rw[Dr,hz];simp only[Ga];rw[Dr,run_underlying J w];simp only[Ga];rw[Dr,s];simp only[Ga];rw[x];simp only[Array.toArray_toList]at h1;simp[h1]
  ·rename_i n el c q;have⟨t,h⟩:=h;have⟨y,hc⟩:=ok.elem_array q;have hsz:(sizeOf el).run P w=.ok c w:=by rw[<-hc];exact Cg w (by rw[hc];exact t)
   cases d:TA (λj=>some (j*c,c)) ps (B4 i.zero) with
   |none=>rw[d]at h;exact h.elim
   |some r=>
    rw[d]at h;have⟨m,h1,h2⟩:=jX (C:=C) (w:=w) ps k _ _ r b hq g d;refine⟨.agg r,.agg m.toArray,?_,ET.2 ⟨m,rfl,h2⟩,h⟩;simp only[Array.toArray_toList]at h1;unfold Instr.build;rw[Dr,hz];simp only[Ga];rw[Dr,run_underlying y w];simp only[Ga];rw[Dr,hsz];simp[h1]
  ·exact h.elim
 ·exact h.elim
def A9d(T:Ty)(ty:TypeId)(a:AV)(K:AV->Prop):Prop:=
 match T ty with
 |some i=>match i.d,a with
  |.string,.v (.string s)=>K (.v (.int .i64 s.size))
  |.slice ..,.list n _=>K (.v (.int .i64 n))
  |.slice ..,.sl _ _ _ n=>K (.v (.int .i64 n))
  |.slice ..,.v (.slice none 0 0)=>K (.v (.int .i64 0))
  |.array n _ _,_=>K (.v (.int .i64 n))
  |_,_=>False
 |none=>False
def A3w{T:Ty}(g:kU P T){ty rt:TypeId}{ts:Array TypeId}{a:AV}{y:Value}(b:ts[0]?=some ty)(f:VRel C w a y)(h:A9d T ty a K):∃v u,(Builtin.len_ ts rt #[y]).run P w=.ok u w/\VRel C w v u/\K v:=by
 unfold A9d at h;split at h
 ·rename_i i hi;have ok:=g ty i hi;have⟨u,d,e⟩:=ok.under;split at h
  ·rename_i s c;obtain rfl:=AQ.1 f;rw[c]at e;cases u<;>simp[td]at e
   exact⟨_,_,by simp[Builtin.len_,b,run_underlying d];rfl,.v _,h⟩
  ·rename_i c;rw[c]at e;cases u<;>simp[td]at e
   cases f with
   |list0=>exact⟨_,_,by simp[Builtin.len_,b,run_underlying d];rfl,.v _,h⟩
   |list=>exact⟨_,_,by simp[Builtin.len_,b,run_underlying d];rfl,.v _,h⟩
  ·rename_i c;rw[c]at e;cases u<;>simp[td]at e
   cases f with
   |slz=>exact⟨_,_,by simp[Builtin.len_,b,run_underlying d];rfl,.v _,h⟩
   |sl=>exact⟨_,_,by simp[Builtin.len_,b,run_underlying d];rfl,.v _,h⟩
  ·rename_i c;obtain rfl:=AQ.1 f;rw[c]at e;cases u<;>simp[td]at e
   exact⟨_,_,by simp[Builtin.len_,b,run_underlying d];rfl,.v _,h⟩
  ·rename_i c;rw[c]at e;cases u<;>simp[td]at e
   obtain⟨rfl,_⟩:=e;exact⟨_,_,by simp[Builtin.len_,b,run_underlying d];rfl,.v _,h⟩
  ·exact h.elim
 ·exact h.elim
end
section
variable{K:AV->Hp->Prop}
def KU(G:Gl)(w0:Base)(C:Ctx)(w:World)(v:AV)(H:Hp)(y:Value)(C':Ctx)(w':World):Prop:=VRel C' w' v y/\Rel G w0 C' H w'/\Ext w0.own C w C' w'
def gD(w:World)(o:Obj):Below w.heap.size w {w with heap:=w.heap.push o}:=
 ⟨rfl,rfl,rfl,by simp,λk a=>by simp[l2c,Nat.ne_of_lt a]⟩
def A2W(w:World)(B:Nat):Below B w {w with drawn:=w.drawn+1}:=⟨rfl,rfl,rfl,MC _,λ_ _=>rfl⟩
section
variable{P:Program}{G:Gl}{w0:Base}{w:World}{C:Ctx}{H:Hp}
def A6c(hr:Rel G w0 C H w)(T:TypeId){cs:Is}{arr:Array Value}(hv:CJ C w cs arr.toList):
 KU G w0 C w (.ptr (Ar H) 0 0) ((Ar H,.cells true T cs)::H) (.pointer (some ⟨w.heap.size,0,none⟩)) (C.put (Ar H) (some (w.heap.size,0))) {w with heap:=w.heap.push (.cells arr T)}:=by
 have hb:=gD w (.cells arr T);have a:arr.size=cs.length:=by simpa using hv.1
 refine⟨?_,hr.new (q:=true) hb (arr:=arr) (fz:=(0,0)) (by simp) (λi _=>by omega) (by omega) (by rw[l25 (by simp;omega)];exact hv) (λ_=>a),hr.new_ext hb⟩;have:VRel (C.put (Ar H) (some (w.heap.size,0))) {w with heap:=w.heap.push (.cells arr T)} (.ptr (Ar H) 0 0) (.pointer (some ⟨w.heap.size,0+(0+0),none⟩)):=.ptr (C.put_n _ _);simpa using this
def ZO(hr:Rel G w0 C H w){w':World}(hb:Below w.heap.size w w')(T:TypeId){cs:Is}{arr:Array Value}{fz:Nat×Nat}(c:w'.heap[w.heap.size]?=some (.cells arr T fz))(Rw:∀i,i<arr.size->¬(fz.1<=i/\i<fz.2))(sz n cap:Nat)(a:n<=cap)(hsz:cap*sz<=arr.size)(b:cs.length<=arr.size)(hv:CJ (C.sel false) w cs (arr.toList.take cs.length)):
 KU G w0 C w (.sl sz (Ar H) 0 n) ((Ar H,.cells false T cs)::H) (.slice (some ⟨w.heap.size,0,none⟩) n cap) (C.put (Ar H) (some (w.heap.size,0))) w':=by
 refine⟨?_,hr.new (q:=false) hb c Rw b hv (λh=>by cases h),hr.new_ext hb⟩;have:VRel (C.put (Ar H) (some (w.heap.size,0))) w' (.sl sz (Ar H) 0 n) (.slice (some ⟨w.heap.size,0+0,none⟩) n cap):=.sl (C.put_n _ _) a c (by omega);simpa using this
def sV(T:Ty)(ty:TypeId)(H:Hp)(r:Nat)(K:AV->Hp->Prop):Prop:=
 match T ty with
 |some i=>K (.ptr r 0 0) ((r,.cells true ty (B4 i.zero))::H)
 |none=>False
def PH{t:TypeId}{i:TI}{z:Value}(a:uJ z=i.zero):CJ C w (B4 i.zero) z.cells.toList:=by
 rw[<-a];cases z with
 |agg cs=>exact C! _ (by simp)
 |_=>exact .cons (.v _) .nil
def R_{T:Ty}(e:kU P T){ty:TypeId}(hr:Rel G w0 C H w)(h:sV T ty H (Ar H) K):∃v a y c b,K v a/\(Instr.alloc ty true (.tuple #[])).run P w=.ok y b/\KU G w0 C w v a y c b:=by
 unfold sV at h;split at h
 ·rename_i i hi;have⟨z,hz,d⟩:=(e ty i hi).run_zero (P:=P) w;refine⟨_,_,_,_,_,h,?_,A6c hr ty (PH (t:=ty) d)⟩;simp[Instr.alloc,hz,newVar,newRow]
 ·exact h.elim
def B7G(ty:TypeId)(a:AV)(H:Hp)(r:Nat)(K:AV->Hp->Prop):Prop:=(B4 a).all AV.one=true/\K (.ptr r 0 0) ((r,.cells true ty (B4 a))::H)
def A3x{ty:TypeId}{a:AV}{y:Value}(hr:Rel G w0 C H w)(e:VRel C w a y)(h:B7G ty a H (Ar H) K):∃v b z d c,K v b/\(Instr.box ty y).run P w=.ok z c/\KU G w0 C w v b z d c:=by
 have⟨h1,h⟩:=h;refine⟨_,_,_,_,_,h,?_,A6c hr ty (e.cells h1).1⟩;simp[Instr.box,newVar,newRow]
def YG:Nat->Is->Is
 |0,_=>[]
 |n+1,z=>z++YG n z
def gQ(z:Array Value):∀n,(Array.range (n*z.size)).map (λi=>z[i%z.size]!)=((List.range n).flatMap λ_=>z.toList).toArray:=by
 intro n;apply qY;simp only[Array.toList_map,Array.toList_range]
 induction n with
 |zero=>simp
 |succ n ih=>
  rw[List.range_succ,l2l,<-ih,Nat.succ_mul,List.range_add,dW]
  congr 1
  simp only[List.map_map,nM,List.flatMap_nil,Vq];apply l0p;intro j;by_cases a:j<z.size
  ·simp[a,Nat.mod_eq_of_lt a]
  ·simp[a]
def iL(z:Is):∀n,YG n z=(List.range n).flatMap λ_=>z:=by
 intro n
 induction n with
 |zero=>rfl
 |succ n ih=>rw[List.range_succ_eq_map];simp[YG,ih,List.flatMap_map]
def ZQ{cs:Is}{zs:Hx}(h:CJ C w cs zs):∀n,CJ C w ((List.range n).flatMap λ_=>cs) ((List.range n).flatMap λ_=>zs):=by
 intro n
 induction n with
 |zero=>exact .nil
 |succ n ih=>
  rw[List.range_succ,l2l,l2l];refine ih.append ?_;simpa using h
def YF(z:Is):∀n,(YG n z).length=n*z.length:=by
 intro n
 induction n with
 |zero=>simp[YG]
 |succ n ih=>simp[YG,ih,Nat.succ_mul,Nat.add_comm]
def kS{place:Nat->Option (Nat×Nat)}:∀(ps:List (Nat×AV))(cs r:Is),TA place ps cs=some r->r.length=cs.length:=by
 intro ps
 induction ps with
 |nil=>intro cs r h;simp[TA]at h;subst h;rfl
 |cons p ps ih=>
  intro cs r h;have⟨i,a⟩:=p;simp only[TA]at h;split at h
  ·cases h
  ·split at h
   ·rename_i hc;rw[ih _ _ h,FY hc.2.1]
   ·cases h
def hC(T:Ty)(ty:TypeId)(n:Nat)(ps:List (Nat×AV))(H:Hp)(r:Nat)(K:AV->Hp->Prop):Prop:=
 match T ty with
 |some i=>match i.d with
  |.slice e a=>match T e with
   |some b=>a≠0/\(B4 b.zero).length=a/\n*a<=2^24/\Mu (TA (λj=>some (j*a,a)) ps (YG n (B4 b.zero))) λcs=>K (.sl a r 0 n) ((r,.cells false e cs)::H)
   |none=>False
  |_=>False
 |none=>False
def xL{T:Ty}(O:kU P T){ty:TypeId}{n:Nat}{ps:List (Nat×AV)}{m:List (Nat×Value)}(c:ps.length=m.length)(hq:∀(j:Nat)(p:Nat×AV),ps[j]?=some p->∃z,m[j]?=some (p.1,z)/\VRel C w p.2 z)(hr:Rel G w0 C H w)(h:hC T ty n ps H (Ar H) K):
 ∃v N y V R,K v N/\(Instr.buildSlice ty n m.toArray).run P w=.ok y R/\KU G w0 C w v N y V R:=by
 unfold hC at h;split at h
 ·rename_i i hi;have ok:=O ty i hi;split at h
  ·rename_i e a Y;split at h
   ·rename_i k A;have⟨d,F,Q,h⟩:=h;have⟨Z,hc⟩:=ok.elem_slice Y;have M:=O e k A;have⟨z,hz,X⟩:=M.run_zero (P:=P) w;have hsz:(sizeOf e).run P w=.ok a w:=by rw[<-hc];exact Cg w (by rw[hc];exact d)
    have f:CJ C w (B4 k.zero) z.cells.toList:=PH (t:=e) X;have J:z.cells.size=a:=by have:=f.1;simp at this;omega
    cases g:TA (λj=>some (j*a,a)) ps (YG n (B4 k.zero)) with
    |none=>rw[g]at h;exact h.elim
    |some r=>
     rw[g]at h;have L:CJ C w (YG n (B4 k.zero)) ((List.range n).flatMap λ_=>z.cells.toList):=by rw[iL];exact ZQ f n
     have⟨q,h1,h2⟩:=jX (C:=C) (w:=w) ps m _ _ r c hq L g;have b:¬(n*a>2^24):=by omega
     have D:q.length=n*a:=by rw[h2.1,kS _ _ _ g,YF,F]
     have u:CJ (C.sel false) w r q:=h2;have key:=ZO hr (gD w (.cells q.toArray e)) e (cs:=r) (arr:=q.toArray) (fz:=(0,0)) (by simp) (λi _=>by omega) a n n (MC _) (by simp[D]) (by simp;exact Nat.le_of_eq h2.1.symm) (by rw[l25 (by simp;exact Nat.le_of_eq h2.1)];simpa using u);refine⟨_,_,_,_,_,h,?_,key⟩;unfold Instr.buildSlice;rw[Dr,run_underlying Z w];simp only[Ga];rw[Dr,hsz];simp only[Ga,CL b,pure_bind];by_cases s:n*a=0
     ·have B:n=0:=by rcases Nat.mul_eq_zero.1 s with h|h;exact h;exact absurd h d
      subst B;rw[Dv s];simp only[List.range_zero,List.flatMap_nil]at h1;rw[show(Array.map (λx=>(#[]:Array Value)[x%(#[]:Array Value).size]!) (Array.range (0*a)))= #[] from by rw[Nat.zero_mul];apply qY;simp,h1];simp[newRow]
     ·rw[CL s,Dr,hz];simp only[Ga];have:=gQ z.cells n;rw[J]at this⊢;rw[this,h1];simp[newRow]
   ·exact h.elim
  ·exact h.elim
 ·exact h.elim
end
end
section
variable{q q':Bool}{aZ:Is}{ys:Hx}
def A30(H:Hp)(x:AV):Option (Nat×Is×Bool):=
 match x with
 |.list m cs=>some (m,cs,true)
 |.sl sz r o m=>match Ah H r with
  |some (.cells q _ cs)=>some (m,(cs.drop o).take (m*sz),q)
  |_=>none
 |.v (.slice none 0 0)=>some (0,[],true)
 |.v (.string s)=>some (s.size,s.data.toList.map λb=>.v (.int .u8 b.toNat),true)
 |_=>none
section
variable{P:Program}{G:Gl}{w0:Base}{w:World}{C:Ctx}{H:Hp}
def XS{x:AV}{y:Value}{m:Nat}{ys:Is}{esz:Nat}(hr:Rel G w0 C H w)(A:VRel C w x y)(h:A30 H x=some (m,ys,q))(N:ys.length=m*esz)(hs:∀s,x=.v (.string s)->esz=1):
 (Builtin.lenOf y).run P w=.ok m w/\∃vs:Hx,CJ (C.sel q) w ys vs/\∀W:World,(∀k,k<w.heap.size->W.heap[k]?=w.heap[k]?)->(Builtin.firstCells esz m y).run P W=.ok vs.toArray W:=by
 have mem:∀(D:Ctx)(b o:Nat)(cs:Is),Nn D w b o cs->cs.length=m*esz->(0<cs.length->b<w.heap.size)->∃vs:Hx,CJ D w cs vs/\∀W:World,(∀k,k<w.heap.size->W.heap[k]?=w.heap[k]?)->(loadCells ⟨b,o,none⟩ (m*esz)).run P W=.ok vs.toArray W:=by
  intro D b o cs hc t hb;have⟨vs,h1,h2⟩:=hc;refine⟨vs,h1,λW n=>?_⟩;have K:vs.length=m*esz:=by rw[h1.1,t]
  have:=run_loadCells_list (P:=P) W ⟨b,o,none⟩ vs (λj v hv=>by
   rw[Kq];have hj:j<vs.length:=(E'.1 hv).1;rw[l0t (w:=w) (n b (hb (by rw[<-h1.1];omega)))];exact h2 j v hv)
  rwa[K]at this
 unfold A30 at h;split at h
 ·rename_i O cs;injection h with h;injection h with d c;injection c with c g;subst d c g
  cases A with
  |list0=>
   refine⟨rfl,[],.nil,λW _=>?_⟩;rename_i a cap;cases a with
   |none=>rfl
   |some Q=>simp[Builtin.firstCells,loadCells,loadCellsFrom]
  |list p vs Y B hv=>
   rename_i cap b o;have⟨i,h1,h2⟩:=mem C.bare b o cs (wO vs B hv) N (λu=>hr.fin b _ (Y 0 u));exact⟨rfl,i,(h1.up rfl rfl),λW n=>h2 W n⟩
 ·rename_i sz r o O;split at h
  ·rename_i q' E cs J;injection h with h;injection h with d c;injection c with c g;subst d c g
   cases A with
   |slz aa=>
    have:((cs.drop o).take (0*sz))=[]:=by simp
    rw[this];rename_i a;refine⟨rfl,[],.nil,λW _=>?_⟩;cases a with
    |none=>rfl
    |some Q=>simp[Builtin.firstCells,loadCells,loadCellsFrom]
   |sl u p Z M=>
    rcases hr.rows r _ J with⟨h5,X⟩|⟨R,f,L,V,F⟩
    ·rw[X]at u;cases u
    ·have e:=F.at_.symm.trans u;injection e with e;injection e with e;injection e with d c;subst d c
     have⟨i,h1,h2⟩:=mem (C.sel q') R (f+o) _ ((F.atq.drop o).take (O*sz)) N (λ_=>F.lt);exact⟨rfl,i,h1,λW n=>h2 W n⟩
  ·cases h
 ·injection h with h;injection h with d c;injection c with c g;subst d c g
  obtain rfl:=AQ.1 A;exact⟨rfl,[],.nil,λW _=>rfl⟩
 ·rename_i s;injection h with h;injection h with d c;injection c with c g;subst d c g
  obtain rfl:=AQ.1 A;have:=hs s rfl;subst this;refine⟨rfl,s.data.toList.map λb=>.int .u8 b.toNat,?_,λW _=>?_⟩
  ·have:=Xz (C:=C.sel true) (w:=w) (s.data.toList.map λb=>Value.int .u8 b.toNat);simpa [l1y] using this
  ·simp only[Builtin.firstCells,nJ]
   congr 1
   have:s.extract 0 s.size=s:=by
    apply ByteArray.ext;simp
   rw[this];have⟨⟨l⟩⟩:=s;simp only[List.map_toArray]
 ·cases h
def yW(h:CJ (C.sel q) w aZ ys):CJ (C.sel q') w aZ ys:=h
def vN(h:CJ (C.sel q') w aZ ys):CJ (C.sel q) w aZ ys:=h
def Rel.virtual(hr:Rel G w0 C H w)(q:Bool)(E:TypeId):Rel G w0 (C.put (Ar H) none) ((Ar H,.cells q E [])::H) w:=by
 have g:C.π (Ar H)=none:=hr.nx _ (MC _);have e:Ext w0.own C w (C.put (Ar H) none) w:=Ctx.put_ext g (.refl _ _ _);refine⟨hr.glob,hr.below,?_,?_,?_,?_,hr.fin,hr.finB,?_⟩
 ·intro r x a;simp only[Ah]at a;split at a
  ·rename_i h;subst h;rw[C.put_n];simp
  ·rw[e.π r (hr.lt r x a)];exact hr.lt r x a
 ·intro r x a;simp only[Ah]at a;split at a
  ·rename_i h;subst h;injection a with a;subst a
   exact Or.inl ⟨rfl,C.put_n _ none⟩
  ·exact(hr.rows r x a).mono e (λ_ _ _=>rfl)
 ·intro r x b o a c;simp only[Ah]at a;split at a
  ·rename_i h;subst h;rw[C.put_n]at c;cases c
  ·rename_i h;rw[C.put_ne _ h]at c;exact hr.own r x b o a c
 ·intro r j x k b o i a f c d;simp only[Ah]at a f;split at a
  ·rename_i h;subst h;rw[C.put_n]at c;cases c
  ·rename_i h1;split at f
   ·rename_i h;subst h;rw[C.put_n]at d;cases d
   ·rename_i h2;rw[C.put_ne _ h1]at c;rw[C.put_ne _ h2]at d;exact hr.sep r j x k b o i a f c d
 ·intro r h;have h:Ar H+1<=r:=h;rw[C.put_ne _ (by omega)];exact hr.nx r (by omega)
def Rel.extend(hr:Rel G w0 C H w){w':World}{r1:Nat}{E:TypeId}{cs aZ:Is}{b base o:Nat}{arr:Array Value}{fz:Nat×Nat}(B:Ah H r1=some (.cells q E cs))(r:Laid C w r1 q E cs b base arr fz)(ho:o<=cs.length)(hv:CJ (C.sel q') w aZ ys)(M:base+cs.length+aZ.length<=arr.size)(p:SameBut w w' b E (splice arr.toList (base+cs.length) ys).toArray fz):
 Rel G w0 (C.put (Ar H) (some (b,base+o))) ((Ar H,.cells false E (cs.drop o++aZ))::cut H r1) w'/\Ext w0.own C w (C.put (Ar H) (some (b,base+o))) w':=by
 have F:C.π (Ar H)=none:=hr.nx _ (MC _);have g:=hr.own r1 _ b base B r.at_;have Y:ys.length=aZ.length:=hv.1;have hsz:(splice arr.toList (base+cs.length) ys).toArray.size=arr.size:=by
  simp only[List.size_toArray];rw[FY (by simp;omega)];simp
 have Q:Ext w0.own C w C w':=p.ext r.block hsz g.2.1 g.2.2;have e:Ext w0.own C w (C.put (Ar H) (some (b,base+o))) w':=Ctx.put_ext F Q;have a:∀s x,Ah (cut H r1) s=some x->s≠r1/\Ah H s=some x:=λs x c=>by
  by_cases p:s=r1
  ·subst p;rw[MW]at c;cases c
  ·rw[QJ p]at c;exact⟨p,c⟩
 refine⟨⟨hr.glob.mono e,?_,?_,?_,?_,?_,λk i X=>p.size▸hr.fin k i X,λk V=>p.size▸hr.finB k V,λk O=>by
  have O:Ar H+1<=k:=O;rw[C.put_ne _ (by omega)];exact hr.nx k (by omega)⟩,e⟩
 ·exact hr.below.same p g.1
 ·intro s x c;simp only[Ah]at c;split at c
  ·rename_i h;subst h;rw[C.put_n];simp
  ·rw[e.π s (hr.lt s x (a s x c).2)];exact hr.lt s x (a s x c).2
 ·intro s x c;simp only[Ah]at c;split at c
  ·rename_i h;subst h;injection c with c;subst c
   refine Or.inr ⟨b,base+o,_,fz,C.put_n _ _,p.here,by rw[hsz];exact r.free,by rw[hsz];simp;omega,?_,λh=>by cases h⟩;have u:CJ ((C.put (Ar H) (some (b,base+o))).sel false) w' cs _:=r.vals.mono (e.sel q);have K:CJ ((C.put (Ar H) (some (b,base+o))).sel false) w' aZ ys:=hv.mono (e.sel q');have J:((splice arr.toList (base+cs.length) ys).drop (base+o)).take (cs.drop o++aZ).length=((arr.toList.drop base).take cs.length).drop o++ys:=by
    apply l0p;intro j;simp only[EN,l0u];rw[D_];by_cases N:j<cs.length-o+aZ.length
    ·rw[Dv N,qX,PM (by simp;omega)];by_cases h1:j<cs.length-o
     ·rw[Dv (by omega),l0m (by simp;omega),qX,D_,Dv (by omega),qX]
      congr 1;omega
     ·rw[CL (by omega),Dv (by omega),l0o (by simp;omega)]
      congr 1
      simp;omega
    ·rw[CL N]
     symm
     rw[List.getElem?_eq_none_iff];simp;omega
   simp only[];rw[J];exact(u.drop o).append K
  ·refine(hr.rows s x (a s x c).2).mono e (λk D d=>p.others k (λR=>?_));subst R;exact(a s x c).1 (hr.sep s r1 x _ _ _ _ (a s x c).2 B d r.at_)
 ·intro s x k Z c d;simp only[Ah]at c;split at c
  ·rename_i h;subst h;rw[C.put_n]at d;injection d with d;injection d with d;injection d with t L;subst t
   exact g
  ·rename_i m;rw[C.put_ne _ m]at d;exact hr.own s x k Z (a s x c).2 d
 ·intro s y x A k o1 o2 c n d f;simp only[Ah]at c n;split at c
  ·rename_i h;subst h;rw[C.put_n]at d;injection d with d;injection d with d;injection d with t L;subst t
   split at n
   ·rename_i h;exact h.symm
   ·rename_i m;rw[C.put_ne _ m]at f;exact absurd (hr.sep y r1 A _ _ _ _ (a y A n).2 B f r.at_) (a y A n).1
  ·rename_i m;split at n
   ·rename_i h;subst h;rw[C.put_n]at f;injection f with f;injection f with f;injection f with t L;subst t
    rw[C.put_ne _ m]at d;exact absurd (hr.sep s r1 x _ _ _ _ (a s x c).2 B d r.at_) (a s x c).1
   ·rename_i v;rw[C.put_ne _ m]at d;rw[C.put_ne _ v]at f;exact hr.sep s y x A k o1 o2 (a s x c).2 (a y A n).2 d f
end
end
def ZE(T:Ty)(t1 t2:TypeId)(s x:AV)(H:Hp)(r:Nat)(K:AV->Hp->Prop):Prop:=
 match T t1,T t2 with
 |some i1,some i2=>match i1.d with
  |.slice e a=>match T e with
   |some b=>(a≠0/\(B4 b.zero).length=a/\(match i2.d with|.slice .. =>True|.string=>True|_=>False)/\(match x with|.v (.string _)=>a=1|_=>True))/\Mu (A30 H x) λp=>
    (p.2.1.length=p.1*a/\p.2.1.all AV.one=true)/\(match s with
     |.v (.slice none 0 0)=>(p.1*b.bytes<=2^46/\p.1<=2^46)/\(if p.1=0 then K (.v (.slice none 0 0)) H else K (.sl a r 0 p.1) ((r,.cells false e p.2.1)::H))
     |.sl sz r1 o n=>match Ah H r1 with
      |some (.cells q E cs)=>(E=e/\sz=a/\o+n*a=cs.length/\(n+p.1)*b.bytes<=2^46/\n+p.1<=2^46)/\K (.sl a r 0 (n+p.1)) ((r,.cells false e (cs.drop o++p.2.1))::cut H r1)
      |_=>False
     |_=>False)
   |none=>False
  |_=>False
 |_,_=>False
section
variable{P:Program}{w:World}
def A87(a:Nat):∀(rounds c:Nat),c<a->Builtin.growBy a rounds c<=a+(a+768)/4:=by
 intro rounds
 induction rounds with
 |zero=>intro c h;simp[Builtin.growBy];omega
 |succ n ih=>
  intro c h;simp only[Builtin.growBy];rw[CL (by omega)];by_cases h2:c+(c+768)/4<a
  ·exact ih _ h2
  ·cases n with
   |zero=>simp[Builtin.growBy];omega
   |succ n=>simp only[Builtin.growBy];rw[Dv (by omega)];omega
def A4k(a b:Nat)(h:b<a):Builtin.nextslicecap a b<=2*a:=by
 unfold Builtin.nextslicecap;split
 ·omega
 ·split
  ·omega
  ·have:=A87 a 4 b h;omega
def pG{t1 t2 e:TypeId}{inf:TypeInfo}{z:Value}{esz:Nat}{J:TypeDesc}(Q:P.underlying t1=some (.slice e))(b:P.info? e=some inf)(hsz:inf.size=esz)(hz:inf.zero=some z)(D:z.cells.size=esz)(B:P.underlying t2=some J)(x:(∃L,J=.slice L)\/J=.string){ts:Array TypeId}(h1:ts[0]?=some t1)(h2:ts[1]?=some t2){ty:TypeId}{base:Option Addr}{n cap m:Nat}{y:Value}(p:(Builtin.lenOf y).run P w=.ok m w)(j:cap<n+m)(M:(n+m)*inf.bytes<=2^46)(N:n+m<=2^46){a new:Hx}(t:(Builtin.firstCells esz n (.slice base n cap)).run P {w with drawn:=w.drawn+1}= .ok a.toArray {w with drawn:=w.drawn+1})(s:(Builtin.firstCells esz m y).run P {w with drawn:=w.drawn+1}= .ok new.toArray {w with drawn:=w.drawn+1})(A:a.length=n*esz)(v:new.length=m*esz):
 ∃(c:Nat)(arr:Array Value)(K:World),n+m<=c/\(Builtin.append_ ts ty #[.slice base n cap,y]).run P w=.ok (.slice (some ⟨w.heap.size,0,none⟩) (n+m) c) K/\Below w.heap.size w K/\K.heap[w.heap.size]?=some (.cells arr e (0,0))/\arr.toList.take (a++new).length=a++new/\arr.size=c*esz:=by
 have f:=A4k (n+m) cap j;have i:¬(Builtin.nextslicecap (n+m) cap*inf.bytes>2^48):=by
  have:=l28 inf.bytes f;rw[Nat.mul_assoc]at this;omega
 let q:Question:=.appendCap (n+m) cap e
 let c:=q.cut (w.tape w.drawn q)
 have hc:n+m<=c:=by show n+m<=n+m+_;omega
 refine⟨c,a.toArray++new.toArray++Builtin.zeroCells z.cells (c-(n+m)),{ {w with drawn:=w.drawn+1} with heap:=w.heap.push (.cells (a.toArray++new.toArray++Builtin.zeroCells z.cells (c-(n+m))) e)},hc,?_,?_,by simp,?_,?_⟩
 ·have u:¬(n+m<=cap):=by omega
  have r:IntKind.i64.max=9223372036854775807:=by decide
  have g:(sizeOf e).run P w=.ok esz w:=by simp[sizeOf,typeInfo,b,hsz]
  have h:∀W:World,(typeInfo e).run P W=.ok inf W:=λW=>by simp[typeInfo,b]
  have F:∀W:World,(zeroValue e).run P W=.ok z W:=λW=>by simp[zeroValue,typeInfo,b,hz]
  have d:¬(((n+m:Nat):Int)>IntKind.i64.max/\(false=true\/inf.bytes=0)):=by rw[r];omega
  rcases x with⟨L,rfl⟩|rfl
  all_goals
   unfold Builtin.append_;simp only[h1,h2,l15,l21,l0r];rw[Dr,run_underlying Q w];simp only[Ga];rw[Dr,g];simp only[Ga];rw[Dr,run_underlying B w];simp only[Ga];rw[Dr,nJ];simp only[Ga,D!,if_false];rw[Dr,p];simp only[Ga,CL u];rw[Dr,h];simp only[Ga];rw[CL (by simpa using d),Dr,h];simp only[Ga,CL i];rw[Dr,run_choose,CL (by simp[Question.forced])];simp only[Ga];rw[Dr,h];simp only[Ga];rw[Dr,run_askRoom];simp only[Ga];rw[Dr,t];simp only[Ga,Bool.not_false,if_true];rw[Dr,s];simp only[Ga];rw[Dr,F];simp only[Ga];simp only[newRow,Dr,run_newObj,Ga,nJ];rfl
 ·refine⟨rfl,rfl,rfl,by simp,λk O=>by simp[l2c,Nat.ne_of_lt O]⟩
 ·simp only[Array.toList_append,eI];rw[<-eI];exact List.take_left
 ·simp[Builtin.zeroCells,D,A,v];rw[<-l1e,<-l1e]
  congr 1;omega
end
section
variable{s x:AV}{K:AV->Hp->Prop}{y:Value}
section
variable{P:Program}{G:Gl}{w0:Base}{w:World}{C:Ctx}{H:Hp}
def Ui{t1 t2 e:TypeId}{esz:Nat}{j:TypeDesc}(p:P.underlying t1=some (.slice e))(c:(sizeOf e).run P w=.ok esz w)(i:P.underlying t2=some j)(h:(∃k,j=.slice k)\/j=.string){ts:Array TypeId}(h1:ts[0]?=some t1)(h2:ts[1]?=some t2){ty:TypeId}{base:Option Addr}{n cap m:Nat}(f:(Builtin.lenOf y).run P w=.ok m w)(d:n+m<=cap){new:Hx}(g:(Builtin.firstCells esz m y).run P w=.ok new.toArray w){w':World}(b:(match base with|some a=>storeCells (a.add (n*esz)) new|none=>pure ():Sem Unit).run P w=.ok () w'):
 (Builtin.append_ ts ty #[.slice base n cap,y]).run P w=.ok (.slice base (n+m) cap) w':=by
 rcases h with⟨k,rfl⟩|rfl
 all_goals
  unfold Builtin.append_;simp only[h1,h2,l15,l21,l0r];rw[Dr,run_underlying p w];simp only[Ga];rw[Dr,c];simp only[Ga];rw[Dr,run_underlying i w];simp only[Ga];rw[Dr,nJ];simp only[Ga,D!,if_false];rw[Dr,f];simp only[Ga,Dv d,Bool.not_false,if_true];rw[Dr,g];simp only[Ga];cases base with
  |none=>
   simp only[nJ]at b;injection b with _ b
   subst b;rfl
  |some a=>
   simp only at b;simp only[Dr];rw[b];rfl
def A23{c:Is}{ys:Hx}(h:CJ C w c ys)(h1:c.all AV.one=true):∀v∈ys,v.oneCell'=true:=by
 intro v hv;obtain⟨i,hi⟩:=List.getElem?_of_mem hv;have a:i<c.length:=by rw[<-h.1];exact(E'.1 hi).1
 obtain⟨y,b,hr⟩:=h.2 i _ (KJ a);rw[hi]at b;injection b with b
 subst b;exact hr.one (G9.1 h1 _ (Ql a))
def Yw{T:Ty}(hT:kU P T){t1 t2 ty:TypeId}{y z:Value}{ts:Array TypeId}(h1:ts[0]?=some t1)(h2:ts[1]?=some t2)(hr:Rel G w0 C H w)(hs:VRel C w s y)(hx:∀(esz m:Nat)(ys:Is)(q:Bool),A30 H x=some (m,ys,q)->ys.length=m*esz->(∀s,x=.v (.string s)->esz=1)->(Builtin.lenOf z).run P w=.ok m w/\∃vs:Hx,CJ (C.sel q) w ys vs/\∀W:World,(∀k,k<w.heap.size->W.heap[k]?=w.heap[k]?)->(Builtin.firstCells esz m z).run P W=.ok vs.toArray W)(h:ZE T t1 t2 s x H (Ar H) K):
 ∃v H' u V w',K v H'/\(Builtin.append_ ts ty #[y,z]).run P w=.ok u w'/\KU G w0 C w v H' u V w':=by
 unfold ZE at h;split at h
 ·rename_i i1 i2 bg bh;split at h
  ·rename_i e esz hd;split at h
   ·rename_i ie bj;obtain⟨⟨bx,b5,ay,ah⟩,h⟩:=h;cases Q:A30 H x with
    |none=>rw[Q]at h;exact h.elim
    |some p=>
     obtain⟨m,ys,q2⟩:=p;rw[Q]at h;simp only[Mu]at h;obtain⟨⟨N,a5⟩,h⟩:=h;obtain⟨hu,hc⟩:=(hT t1 i1 bg).elem_slice hd;obtain⟨u2,Y,ao⟩:=(hT t2 i2 bh).under;have X:(∃e2,u2=.slice e2)\/u2=.string:=by
      cases u2<;>simp[td]at ao<;>rw[<-ao]at ay<;>simp at ay⊢
     have a8:∀q,x=.v (.string q)->esz=1:=by
      intro q hq;subst hq;exact ah
     obtain⟨F,vs,M,D⟩:=hx esz m ys q2 Q N a8;have bp:=hT e ie bj;obtain⟨inf,zv,O,bt,bd,hz,ez⟩:=bp.info;have be:P.cellsOf e=inf.size:=by simp[Program.cellsOf,O]
     have hsz:inf.size=esz:=by rw[<-be,hc]
     have B:(sizeOf e).run P w=.ok esz w:=by simp[sizeOf,typeInfo,O,hsz]
     have bo:zv.cells.size=esz:=by
      have:=(PH (C:=C) (w:=w) (t:=e) (i:=ie) ez).1;simp at this;omega
     have ak:vs.length=m*esz:=by rw[M.1,N]
     have r:=D w (λ_ _=>rfl);have af:=D {w with drawn:=w.drawn+1} (λ_ _=>rfl);have grow:∀(base:Option Addr)(n cap:Nat)(g:Hx)(q1:Bool)(cs:Is)(Hc:Hp),Ar Hc=Ar H->Rel G w0 C Hc w->cap<n+m->(n+m)*ie.bytes<=2^46->n+m<=2^46->CJ (C.sel q1) w cs g->cs.length=n*esz->
      (Builtin.firstCells esz n (.slice base n cap)).run P {w with drawn:=w.drawn+1}= .ok g.toArray {w with drawn:=w.drawn+1}->
      ∃u V w',(Builtin.append_ ts ty #[.slice base n cap,z]).run P w=.ok u w'/\KU G w0 C w (.sl esz (Ar H) 0 (n+m)) ((Ar H,.cells false e (cs++ys))::Hc) u V w':=by
      intro base n cap g q1 cs Hc bk bn aa J L ae ar a4;have ag:g.length=n*esz:=by rw[ae.1,ar]
      obtain⟨c,arr,w',ab,f,ap,aq,ai,Z⟩:=pG (P:=P) (w:=w) (ty:=ty) hu O hsz hz bo Y X h1 h2 F aa (by rw[bd];exact J) L a4 af ag ak;refine⟨_,_,w',f,bk▸ZO bn ap e aq (λi _=>by omega) esz (n+m) c ab (by rw[Z];exact MC _) ?_ ?_⟩
      ·rw[Z,EN,ar,N,<-l1e];exact l28 _ ab
      ·have:(cs++ys).length=(g++vs).length:=by simp[ae.1,M.1]
       rw[this,ai];exact(yW ae).append (vN M)
     split at h
     ·obtain⟨⟨J,L⟩,h⟩:=h;obtain rfl:=AQ.1 hs;by_cases hm:m=0
      ·subst hm;have am:ys=[]:=gM (by simpa using N);subst am;have aj:vs=[]:=gM (by simpa using ak);subst aj;exact⟨_,_,_,C,w,h,Ui (P:=P) (ty:=ty) (base:=none) (n:=0) (cap:=0) hu B Y X h1 h2 F (MC _) r (by rfl),.v _,hr,.refl _ _ _⟩
      ·obtain⟨u,V,w',f,R⟩:=grow none 0 0 [] false [] H rfl hr (by omega) (by simpa using J) (by simpa using L) .nil (by simp) rfl;rw[CL hm]at h;exact⟨_,_,u,V,w',h,f,by simpa using R⟩
     ·rename_i sz r1 o n;split at h
      ·rename_i q1 E cs az;obtain⟨⟨rfl,rfl,a9,J,L⟩,h⟩:=h;have ac:(cs.drop o).length=n*sz:=by simp;omega
       cases hs with
       |slz bz=>
        rename_i a;have h0:cs.drop o=[]:=gM (by rw[ac];simp);by_cases hm:m=0
        ·subst hm;have am:ys=[]:=gM (by simpa using N);subst am;have aj:vs=[]:=gM (by simpa using ak);subst aj;refine⟨_,_,_,C.put (Ar H) none,w,h,Ui (P:=P) (ty:=ty) (base:=a) (n:=0) (cap:=0) hu B Y X h1 h2 F (MC _) r (w':=w) (by cases a<;>rfl),.slz (by rw[C.put_n];simp),?_,Ctx.put_ext (hr.nx _ (MC _)) (.refl _ _ _)⟩;have:=(hr.cut_row r1).virtual false E;simpa [h0,cut,B9] using this
        ·obtain⟨u,V,w',f,R⟩:=grow a 0 0 [] q1 [] (cut H r1) (B9 _ _ _) (hr.cut_row r1) (by omega) (by simpa using J) (by simpa using L) .nil (by simp) (by
          cases a with
          |none=>rfl
          |some ad=>simp[Builtin.firstCells,loadCells,loadCellsFrom])
         exact⟨_,_,u,V,w',h,f,by simpa [h0] using R⟩
       |sl hp aa bc ax=>
        rename_i b base cap bq T' bv;rcases hr.rows r1 _ az with⟨h5,h6⟩|⟨b',d,arr,fz,hl⟩
        ·rw[h6]at hp;cases hp
        ·have e':=hl.at_.symm.trans hp;injection e' with e';injection e' with e';injection e' with e1 e2;subst e1 e2
         have e3:=hl.block.symm.trans bc;injection e3 with e3;injection e3 with e4 e5 e6
         subst e4 e5 e6;have bf:=hl.fits;by_cases A:n+m<=cap
         ·have bs:cs.length+ys.length<=o+cap*sz:=by
           rw[<-a9,N,lB,<-l1e];exact Nat.add_le_add_left (l28 _ A) _
          have bu:vs.length=ys.length:=M.1;obtain⟨w',f,a7⟩:=Np (P:=P) vs w arr (d+o+n*sz) 0 hl.block hl.free (by omega) (A23 M a5);have a6:d+o+n*sz=d+cs.length:=by omega
          have ba:=hr.extend az hl (o:=o) (by omega) M (by omega) (by rw[<-a6];simpa using a7);refine⟨_,_,_,_,w',h,Ui (P:=P) (ty:=ty) (base:=some ⟨b',d+o,none⟩) hu B Y X h1 h2 F A r (w':=w') (by simp only[Kq];exact f),?_,ba.1,ba.2⟩;have:VRel (C.put (Ar H) (some (b',d+o))) w' (.sl sz (Ar H) 0 (n+m)) (.slice (some ⟨b',d+o+0,none⟩) (n+m) cap):=by
           refine .sl (C.put_n _ _) A a7.here ?_;simp only[List.size_toArray];rw[FY (by simp;omega)];simpa using ax
          simpa using this
         ·obtain⟨g,a3,bm⟩:=(hl.atq.drop o)
          have ag:g.length=n*sz:=by rw[a3.1,ac]
          obtain⟨u,V,w',f,R⟩:=grow (some ⟨b',d+o,none⟩) n cap g q1 (cs.drop o) (cut H r1) (B9 _ _ _) (hr.cut_row r1) (by omega) J L a3 ac (by
           simp only[Builtin.firstCells];have:=run_loadCells_list (P:=P) {w with drawn:=w.drawn+1} ⟨b',d+o,none⟩ g (λj v hv=>by rw[Kq];exact bm j v hv)
           rwa[ag]at this)
          exact⟨_,_,u,V,w',h,f,R⟩
      ·exact h.elim
     ·exact h.elim
   ·exact h.elim
  ·exact h.elim
 ·exact h.elim
def xM{T:Ty}(e:kU P T){t1 t2 ty:TypeId}{y z:Value}{ts:Array TypeId}(h1:ts[0]?=some t1)(h2:ts[1]?=some t2)(hr:Rel G w0 C H w)(a:VRel C w s y)(g:VRel C w x z)(h:ZE T t1 t2 s x H (Ar H) K):
 ∃v b u d c,K v b/\(Builtin.append_ ts ty #[y,z]).run P w=.ok u c/\KU G w0 C w v b u d c:=
 Yw e h1 h2 hr a (λ_ _ _ _ h f a=>XS hr g h f a) h
end
end
end Go.Abs
end
