import Derived.CallsIn
import Derived.Below
import Derived.Laws.Rows
import Derived.TacticsIn
/- Proved: GraphForksCardSaid, the card of the law GraphForks as the given rows state it (every draw that the row admits is answered as the law says). Conditions: none beyond the given statement's own; nothing is assumed ahead of it. -/
set_option linter.all false
set_option maxHeartbeats 0
noncomputable section
abbrev r_{p:Prop}(h:p):p:=h
def kL:=@List.flatMap_cons
def UT:=@List.map_append
def E6:=@List.length_append
def Le:=@Nat.zero_add
def tE:=@List.take_succ_eq_append_getElem
def Na:=@List.getElem_mem
def mM:=@List.take_length
def Cr:=@Go.Sem.run_bind
def Eu:=@Go.Result.andThen_ok
def WE:=@Nat.add_assoc
def pS:=@List.getElem?_map
def Zn:=@Go.Sem.run_pure
def fB:=@Array.ext'
def fX:=@List.getElem?_drop
def Tc:=@List.getD_eq_getElem?_getD
def II:=@List.getElem?_eq_getElem
def xS:=@List.length_take
def Gb:=@List.all_eq_true
def I2:=@List.mem_range
def pR:=@List.getElem?_eq_some_iff
def fW:=@List.append_assoc
def l0l:=@List.getElem?_append_left
def oI:=@List.getElem?_take
def l0n:=@List.getElem?_append_right
def l0o:=@List.ext_getElem?
def Kg:=@List.length_cons
def l0q:=@List.getElem?_cons_succ
def l0r:=@Array.getElem?_modify
def l0s:=@Go.World.cell?_of_block
def l0t:=@List.length_drop
def MZ:=@Nat.le_refl
def I0:=@Bool.and_eq_true
def eZ:=@Bool.eq_iff_iff
def oH:=@Option.map_some
def l0y:=@Option.some.injEq
def mL:=@Bool.false_eq_true
def l10:=@List.getElem?_toArray
def l11:=@List.drop_eq_getElem_cons
def Oc:=@List.length_nil
def eY:=@Nat.beq_eq
def tD:=@Bool.not_eq_true'
def l15:=@List.drop_drop
def xR:=@Bool.true_and
def l17:=@List.replicate_succ
def l18:=@List.flatten_cons
def B! :=@Nat.add_mul
def l1a:=@List.length_eq_one_iff
def uT:=@Bool.and_true
def xQ:=@Nat.zero_le
def l1d:=@Bool.or_eq_true
def l1e:=@List.getElem?_eq_none
def Ua:=@Nat.blt_eq
def l1g:=@Nat.lt_irrefl
def l1h:=@List.mem_of_getElem?
def Zm:=@List.map_cons
def WX:=@Array.getD_eq_getD_getElem?
def l1k:=@Array.getElem?_eq_getElem
def l1l:=@Option.getD_some
def WW:=@Nat.le_trans
def l1n:=@List.drop_zero
def fV:=@List.append_nil
def l1p:=@Nat.le_succ
def l1q:=@Array.getElem?_eq_some_iff
def Zl:=@Nat.ble_eq
def tC:=@List.eq_nil_of_length_eq_zero
def l1t:=@Function.comp_def
def WV:=@List.length_map
def VQ:=@Nat.eq_of_beq_eq_true
def l1w:=@List.getElem?_cons_zero
def l1x:=@Nat.min_eq_left
def XV:=@Int.toNat_natCast
def l1z:=@List.take_of_length_le
def l20:=@List.pairwise_iff_getElem
def B':=@Array.getElem?_toList
def l22:=@Nat.mul_le_mul_right
def l24:=@List.mem_of_mem_take
def Rx:=@List.mem_cons
def l26:=@Option.some.inj
def l27:=@Array.getElem?_push
def l28:=@Nat.mul_one
def tB:=@Nat.beq_refl
def US:=@List.mem_map
def uR:=@List.getD_cons_zero
def uQ:=@List.getD_cons_succ
def W_:=@Eq.trans
def VP:=@List.mem_append
def eX:=@List.mem_singleton
def l2g:=@List.flatMap_append
def l2h:=@List.filter_cons
def l2i:=@List.getElem_map
def W?:=@List.all_cons
def l2k:=@List.pairwise_cons
def l2l:=@Go.MapKept.run_getObj_map
def l2m:=@Nat.lt_of_lt_of_le
def l2n:=@Array.toList_push
def l2o:=@Array.toList_modify
def Iz:=@decide_eq_true
def Iy:=@decide_eq_false
def Co:=@if_neg
def CJ:=@if_pos
def l2t:=@of_decide_eq_true
def l2u:=@List.mem_filter
def l2v:=@List.length_filter_le
def l2w:=@List.nodup_append
def l2x:=@Classical.byContradiction
def l2y:=@List.mem_flatMap
def l2z:=@List.all_nil
def l30:=@List.nil_append
namespace Go.Abs
open Go.RowKit
abbrev Hx:=List Value
abbrev Hb:=List Nat
abbrev Ha:=List UInt8
inductive AV where
 |v (x:Value)
 |ptr (r p k:Nat)
 |iptr (cs:List AV)
 |list (n:Nat) (cs:List AV)
 |sl (sz r o n:Nat)
 |fn (f:Fn) (first cap:List AV)
 |agg (cs:List AV)
 |tup (vs:List AV)
 |mp (r:Nat)
 |imap (es:List (Value×AV))
 |yl (r:Nat)
 |it (r:Nat)
 |dk
abbrev IH:=List (Value×AV)
abbrev Is:=List AV
structure Ctx where
 π:Nat->Option (Option (Nat×Nat))
 F:Nat->Nat->Prop
 B:Nat->Prop
def Ctx.bare(C:Ctx):Ctx:={π:=λ_=>none,F:=C.F,B:=C.B}
inductive VRel:Ctx->World->AV->Value->Prop
 |v {C:Ctx} {w:World} (x:Value):VRel C w (.v x) x
 |ptr {C:Ctx} {w:World} {r p k b base:Nat} (h:C.π r=some (some (b,base))):VRel C w (.ptr r p k) (.pointer (some ⟨b,base+(p+k),none⟩))
 |iptr {C:Ctx} {w:World} {cs:Is} {b o:Nat} (vs:Nat->Value) (hF:∀i,i<cs.length->C.F b (o+i)) (hc:∀i,i<cs.length->w.cell? ⟨b,o+i,none⟩=some (vs i))
  (hv:∀i(hi:i<cs.length),VRel C.bare w cs[i] (vs i)):VRel C w (.iptr cs) (.pointer (some ⟨b,o,none⟩))
 |list0 {C:Ctx} {w:World} {cap:Nat} {a:Option Addr}:VRel C w (.list 0 []) (.slice a 0 cap)
 |list {C:Ctx} {w:World} {n cap:Nat} {cs:Is} {b o:Nat} (h:n<=cap) (vs:Nat->Value) (hF:∀i,i<cs.length->C.F b (o+i)) (hc:∀i,i<cs.length->w.cell? ⟨b,o+i,none⟩=some (vs i))
  (hv:∀i(hi:i<cs.length),VRel C.bare w cs[i] (vs i)):VRel C w (.list n cs) (.slice (some ⟨b,o,none⟩) n cap)
 |sl {C:Ctx} {w:World} {sz r o n b base cap:Nat} {arr:Array Value} {T:TypeId} {fz:Nat×Nat} (h:C.π r=some (some (b,base))) (hcap:n<=cap) (hb:w.heap[b]?=some (.cells arr T fz))
  (hsz:base+o+cap*sz<=arr.size):VRel C w (.sl sz r o n) (.slice (some ⟨b,base+o,none⟩) n cap)
 |slz {C:Ctx} {w:World} {sz r o:Nat} {a:Option Addr} (hr:C.π r≠none):VRel C w (.sl sz r o 0) (.slice a 0 0)
 |fn {C:Ctx} {w:World} {f:Fn} {fs cs:Is} (ys zs:Array Value) (hl:ys.size=fs.length) (hl':zs.size=cs.length) (hy:∀i(hi:i<fs.length),VRel C w fs[i] (ys.getD i undef))
  (hz:∀i(hi:i<cs.length),VRel C w cs[i] (zs.getD i undef)):VRel C w (.fn f fs cs) (.func f ys zs)
 |agg {C:Ctx} {w:World} {cs:Is} (ys:Array Value) (hl:ys.size=cs.length) (hy:∀i(hi:i<cs.length),VRel C w cs[i] (ys.getD i undef)):VRel C w (.agg cs) (.agg ys)
 |tup {C:Ctx} {w:World} {cs:Is} (ys:Array Value) (hl:ys.size=cs.length) (hy:∀i(hi:i<cs.length),VRel C w cs[i] (ys.getD i undef)):VRel C w (.tup cs) (.tuple ys)
 |mp {C:Ctx} {w:World} {r b base:Nat} (h:C.π r=some (some (b,base))):VRel C w (.mp r) (.map (some b))
 |imap {C:Ctx} {w:World} {es:IH} {b clock:Nat} (ms:Array MapEntry) (hB:C.B b) (hb:w.heap[b]?=some (.map ms clock)) (hl:ms.size=es.length) (hk:∀i(hi:i<es.length),(ms.getD i default).key=es[i].1)
  (hn:∀i j,i<j->j<ms.size->(ms.getD i default).born≠(ms.getD j default).born) (hc:∀i,i<ms.size->(ms.getD i default).born<clock)
  (hv:∀i(hi:i<es.length),VRel C.bare w es[i].2 (ms.getD i default).val):VRel C w (.imap es) (.map (some b))
 |yl {C:Ctx} {w:World} {r b base:Nat} (h:C.π r=some (some (b,base))):VRel C w (.yl r) (.func (.yield b) #[] #[])
 |it {C:Ctx} {w:World} {r b base:Nat} (h:C.π r=some (some (b,base))):VRel C w (.it r) (.pointer (some ⟨b,0,none⟩))
 |dk {C:Ctx} {w:World} (y:Value):VRel C w .dk y
structure Ext(O:Nat->Prop)(C:Ctx)(w:World)(C':Ctx)(w':World):Prop where
 π:∀r,C.π r≠none->C'.π r=C.π r
 F:∀b i,C.F b i->C'.F b i
 keep:∀b i,C.F b i->w'.cell? ⟨b,i,none⟩=w.cell? ⟨b,i,none⟩
 B:∀b,C.B b->C'.B b
 keepB:∀b,C.B b->w'.heap[b]?=w.heap[b]?
 size:∀(b:Nat)(arr:Array Value)(T:TypeId)(fz:Nat×Nat),w.heap[b]?=some (.cells arr T fz)->∃(arr':Array Value)(fz':Nat×Nat),w'.heap[b]?=some (.cells arr' T fz')/\arr'.size=arr.size
 new:∀b i,C'.F b i->C.F b i\/O b
 newB:∀b,C'.B b->C.B b\/O b
 grow:w.heap.size<=w'.heap.size
structure Frm(m:Nat)(O:Nat->Prop)(C:Ctx)(w:World)(C':Ctx)(w':World):Prop where
 π:∀r,r<m->C.π r≠none->C'.π r=C.π r
 F:∀b i,C.F b i->C'.F b i
 keep:∀b i,C.F b i->w'.cell? ⟨b,i,none⟩=w.cell? ⟨b,i,none⟩
 B:∀b,C.B b->C'.B b
 keepB:∀b,C.B b->w'.heap[b]?=w.heap[b]?
 size:∀(b:Nat)(arr:Array Value)(T:TypeId)(fz:Nat×Nat),w.heap[b]?=some (.cells arr T fz)->∃(arr':Array Value)(fz':Nat×Nat),w'.heap[b]?=some (.cells arr' T fz')/\arr'.size=arr.size
 new:∀b i,C'.F b i->C.F b i\/O b
 newB:∀b,C'.B b->C.B b\/O b
 grow:w.heap.size<=w'.heap.size
theorem Ext.refl(O:Nat->Prop)(C:Ctx)(w:World):Ext O C w C w:=
 ⟨λ_ _=>rfl,λ_ _ h=>h,λ_ _ _=>rfl,λ_ h=>h,λ_ _=>rfl,λ_ arr _ fz h=>⟨arr,fz,h,rfl⟩,λ_ _ h=>.inl h,λ_ h=>.inl h,MZ _⟩
theorem iR{w w' d:World}(h:∀(b:Nat)(arr:Array Value)(T:TypeId)(fz:Nat×Nat),w.heap[b]?=some (.cells arr T fz)->∃(a:Array Value)(c:Nat×Nat),w'.heap[b]?=some (.cells a T c)/\a.size=arr.size)(k:∀(b:Nat)(arr:Array Value)(T:TypeId)(fz:Nat×Nat),w'.heap[b]?=some (.cells arr T fz)->∃(a:Array Value)(c:Nat×Nat),d.heap[b]?=some (.cells a T c)/\a.size=arr.size):
 ∀(b:Nat)(arr:Array Value)(T:TypeId)(fz:Nat×Nat),w.heap[b]?=some (.cells arr T fz)->∃(a:Array Value)(c:Nat×Nat),d.heap[b]?=some (.cells a T c)/\a.size=arr.size:=λb arr T fz hb=>by
 obtain⟨a1,f1,h1,e⟩:=h b arr T fz hb;obtain⟨a2,f2,h2,f⟩:=k b a1 T f1 h1;exact⟨a2,f2,h2,f.trans e⟩
theorem Ext.trans{O:Nat->Prop}{C C' c:Ctx}{w w' d:World}(h:Ext O C w C' w')(k:Ext O C' w' c d):Ext O C w c d:=
 ⟨λr hr=>(k.π r (by rw[h.π r hr];exact hr)).trans (h.π r hr),λb i a=>k.F b i (h.F b i a),
  λb i a=>(k.keep b i (h.F b i a)).trans (h.keep b i a),λb hb=>k.B b (h.B b hb),λb hb=>(k.keepB b (h.B b hb)).trans (h.keepB b hb),
  iR h.size k.size,
  λb i a=>by
   rcases k.new b i a with h1|h1
   ·exact h.new b i h1
   ·exact .inr h1,
  λb a=>by
   rcases k.newB b a with h1|h1
   ·exact h.newB b h1
   ·exact .inr h1,WW h.grow k.grow⟩
theorem Ext.frm{m:Nat}{O:Nat->Prop}{C C':Ctx}{w w':World}(h:Ext O C w C' w'):Frm m O C w C' w':=
 ⟨λr _ hr=>h.π r hr,h.F,h.keep,h.B,h.keepB,h.size,h.new,h.newB,h.grow⟩
theorem Frm.refl{m:Nat}(O:Nat->Prop){C:Ctx}(w:World):Frm m O C w C w:=(Ext.refl O C w).frm
theorem Frm.trans{m:Nat}{O:Nat->Prop}{C C' c:Ctx}{w w' d:World}(h:Frm m O C w C' w')(k:Frm m O C' w' c d):Frm m O C w c d:=
 ⟨λr hm hr=>(k.π r hm (by rw[h.π r hm hr];exact hr)).trans (h.π r hm hr),λb i a=>k.F b i (h.F b i a),
  λb i a=>(k.keep b i (h.F b i a)).trans (h.keep b i a),λb hb=>k.B b (h.B b hb),λb hb=>(k.keepB b (h.B b hb)).trans (h.keepB b hb),
  iR h.size k.size,
  λb i a=>by
   rcases k.new b i a with h1|h1
   ·exact h.new b i h1
   ·exact .inr h1,
  λb a=>by
   rcases k.newB b a with h1|h1
   ·exact h.newB b h1
   ·exact .inr h1,WW h.grow k.grow⟩
theorem Frm.ext{m:Nat}{O:Nat->Prop}{C C':Ctx}{w w':World}(h:Frm m O C w C' w')(hm:∀r,C.π r≠none->r<m):Ext O C w C' w':=
 ⟨λr hr=>h.π r (hm r hr) hr,h.F,h.keep,h.B,h.keepB,h.size,h.new,h.newB,h.grow⟩
theorem Ext.bare{O:Nat->Prop}{C C':Ctx}{w w':World}(h:Ext O C w C' w'):Ext O C.bare w C'.bare w':=
 ⟨λ_ _=>rfl,h.F,h.keep,h.B,h.keepB,h.size,h.new,h.newB,h.grow⟩
theorem Ext.at{O:Nat->Prop}{C C':Ctx}{w w':World}(e:Ext O C w C' w'){r:Nat}{x:Option (Nat×Nat)}(h:C.π r=some x):C'.π r=some x:=
 (e.π r (by rw[h];simp)).trans h
theorem VRel.mono{O:Nat->Prop}{C C':Ctx}{w w':World}{a:AV}{y:Value}(h:VRel C w a y)(e:Ext O C w C' w'):VRel C' w' a y:=by
 induction h generalizing C' with
 |v x=>exact .v x
 |ptr h=>exact .ptr (e.at h)
 |iptr vs f hc _ ih=>exact .iptr vs (λi c=>e.F _ _ (f i c)) (λi c=>(e.keep _ _ (f i c)).trans (hc i c)) (λi c=>ih i c e.bare)
 |list0=>exact .list0
 |list h vs f hc _ ih=>exact .list h vs (λi c=>e.F _ _ (f i c)) (λi c=>(e.keep _ _ (f i c)).trans (hc i c)) (λi c=>ih i c e.bare)
 |sl h g hb hsz=>
  obtain⟨a1,f1,h1,q⟩:=e.size _ _ _ _ hb;exact .sl (e.at h) g h1 (by rw[q];exact hsz)
 |slz hr=>exact .slz (by rw[e.π _ hr];exact hr)
 |fn j r d k _ _ m n=>exact .fn j r d k (λi c=>m i c e) (λi c=>n i c e)
 |agg j d _ ih=>exact .agg j d (λi c=>ih i c e)
 |tup j d _ ih=>exact .tup j d (λi c=>ih i c e)
 |mp h=>exact .mp (e.at h)
 |imap ms p hb d hk hn hc _ ih=>exact .imap ms (e.B _ p) ((e.keepB _ p).trans hb) d hk hn hc (λi c=>ih i c e.bare)
 |yl h=>exact .yl (e.at h)
 |it h=>exact .it (e.at h)
 |dk y=>exact .dk y
theorem VRel.up{C C':Ctx}{w:World}{a:AV}{y:Value}(h:VRel C.bare w a y)(e:C'.F=C.F)(f:C'.B=C.B):VRel C' w a y:=by
 generalize hc:C.bare=D at h
 induction h generalizing C C' with
 |v x=>exact .v x
 |ptr h=>subst hc;cases h
 |iptr vs g d hv _=>subst hc;exact .iptr vs (λi c=>by rw[e];exact g i c) d (λi c=>by have:=hv i c;simpa [Ctx.bare,e,f] using this)
 |list0=>exact .list0
 |list h vs g d hv _=>subst hc;exact .list h vs (λi c=>by rw[e];exact g i c) d (λi c=>by have:=hv i c;simpa [Ctx.bare,e,f] using this)
 |sl h=>subst hc;cases h
 |slz hr=>subst hc;exact absurd rfl hr
 |fn k r j n _ _ p q=>exact .fn k r j n (λi c=>p i c e f hc) (λi c=>q i c e f hc)
 |agg k j _ ih=>exact .agg k j (λi c=>ih i c e f hc)
 |tup k j _ ih=>exact .tup k j (λi c=>ih i c e f hc)
 |mp h=>subst hc;cases h
 |imap ms m hb j hk hn d hv _=>subst hc;exact .imap ms (by rw[f];exact m) hb j hk hn d (λi c=>by have:=hv i c;simpa [Ctx.bare,e,f] using this)
 |yl h=>subst hc;cases h
 |it h=>subst hc;cases h
 |dk y=>exact .dk y
def tZ:Nat->AV->Bool
 |_,.v _=>true
 |_,.iptr _=>true
 |_,.list _ _=>true
 |_,.imap _=>true
 |_,.dk=>true
 |k+1,.fn _ a cs=>a.all (tZ k)&&cs.all (tZ k)
 |k+1,.agg cs=>cs.all (tZ k)
 |k+1,.tup cs=>cs.all (tZ k)
 |_,_=>false
theorem VRel.down{C C':Ctx}{w:World}(f:C'.F=C.F)(j:C'.B=C.B):∀(k:Nat)(a:AV)(y:Value),tZ k a=true->VRel C w a y->VRel C' w a y:=by
 intro k
 induction k with
 |zero=>
  intro a y hc h;cases h with
  |v=>exact .v _
  |iptr vs e d hv=>exact .iptr vs (λi c=>by rw[f];exact e i c) d (λi c=>by have:=hv i c;simpa [Ctx.bare,f,j] using this)
  |list0=>exact .list0
  |list h vs e d hv=>exact .list h vs (λi c=>by rw[f];exact e i c) d (λi c=>by have:=hv i c;simpa [Ctx.bare,f,j] using this)
  |imap ms m hb g hk hn d hv=>exact .imap ms (by rw[j];exact m) hb g hk hn d (λi c=>by have:=hv i c;simpa [Ctx.bare,f,j] using this)
  |dk y=>exact .dk y
  |_=>simp[tZ]at hc
 |succ k ih=>
  intro a y hc h;cases h with
  |v=>exact .v _
  |iptr vs e d hv=>exact .iptr vs (λi c=>by rw[f];exact e i c) d (λi c=>by have:=hv i c;simpa [Ctx.bare,f,j] using this)
  |list0=>exact .list0
  |list h vs e d hv=>exact .list h vs (λi c=>by rw[f];exact e i c) d (λi c=>by have:=hv i c;simpa [Ctx.bare,f,j] using this)
  |imap ms m hb g hk hn d hv=>exact .imap ms (by rw[j];exact m) hb g hk hn d (λi c=>by have:=hv i c;simpa [Ctx.bare,f,j] using this)
  |dk y=>exact .dk y
  |fn p r g q n hz=>
   simp only[tZ,I0,Gb]at hc;exact .fn p r g q (λi c=>ih _ _ (hc.1 _ (Na c)) (n i c)) (λi c=>ih _ _ (hc.2 _ (Na c)) (hz i c))
  |agg p g n=>
   simp only[tZ,Gb]at hc;exact .agg p g (λi c=>ih _ _ (hc _ (Na c)) (n i c))
  |tup p g n=>
   simp only[tZ,Gb]at hc;exact .tup p g (λi c=>ih _ _ (hc _ (Na c)) (n i c))
  |_=>simp[tZ]at hc
def BU(C:Ctx)(w:World)(c:Is)(ys:Hx):Prop:=ys.length=c.length/\∀(i:Nat)(a:AV),c[i]?=some a->∃y,ys[i]?=some y/\VRel C w a y
theorem BU.mono{O:Nat->Prop}{C C':Ctx}{w w':World}{c:Is}{ys:Hx}(h:BU C w c ys)(e:Ext O C w C' w'):BU C' w' c ys:=
 ⟨h.1,λi a d=>let⟨y,f,hv⟩:=h.2 i a d;⟨y,f,hv.mono e⟩⟩
theorem BU.up{C C':Ctx}{w:World}{c:Is}{ys:Hx}(h:BU C.bare w c ys)(e:C'.F=C.F)(d:C'.B=C.B):BU C' w c ys:=
 ⟨h.1,λi a f=>let⟨y,g,hv⟩:=h.2 i a f;⟨y,g,hv.up e d⟩⟩
theorem BU.down{C C':Ctx}{w:World}{c:Is}{ys:Hx}(k:Nat)(hc:c.all (tZ k)=true)(h:BU C w c ys)(f:C'.F=C.F)(e:C'.B=C.B):BU C' w c ys:=
 ⟨h.1,λi a d=>let⟨y,g,hv⟩:=h.2 i a d;⟨y,g,hv.down f e k _ _ (Gb.1 hc _ (l1h d))⟩⟩
theorem BU.nil{C:Ctx}{w:World}:BU C w [] []:=⟨rfl,λ_ _ h=>by simp at h⟩
theorem BU.cons{C:Ctx}{w:World}{a:AV}{y:Value}{c:Is}{ys:Hx}(h:VRel C w a y)(d:BU C w c ys):BU C w (a::c) (y::ys):=
 ⟨by simp[d.1],λi b hb=>by
  cases i with
  |zero=>simp at hb;subst hb;exact⟨y,rfl,h⟩
  |succ i=>simpa using d.2 i b (by simpa using hb)⟩
theorem BU.cons_inv{C:Ctx}{w:World}{a:AV}{d:Is}{ys:Hx}(h:BU C w (a::d) ys):∃y c,ys=y::c/\VRel C w a y/\BU C w d c:=by
 cases ys with
 |nil=>simp[BU]at h
 |cons y ys=>
  obtain⟨z,hz,hv⟩:=h.2 0 a rfl;simp at hz;subst hz;exact⟨y,ys,rfl,hv,by simpa using h.1,λi b hb=>by simpa using h.2 (i+1) b (by simpa using hb)⟩
theorem BU.nil_inv{C:Ctx}{w:World}{ys:Hx}(h:BU C w [] ys):ys=[]:=tC (by simpa using h.1)
theorem BU.get{C:Ctx}{w:World}{a:Is}{ys:Hx}(h:BU C w a ys)(i:Nat)(d:i<a.length):VRel C w a[i] (ys[i]'(by rw[h.1];exact d)):=by
 obtain⟨y,c,hv⟩:=h.2 i a[i] (II d);rw[II (by rw[h.1];exact d)]at c;injection c with c
 rw[c];exact hv
theorem BU.take{C:Ctx}{w:World}{d:Is}{ys:Hx}(h:BU C w d ys)(k:Nat):BU C w (d.take k) (ys.take k):=
 ⟨by simp[h.1],λi a c=>by
  rw[oI]at c⊢;split at c
  ·rename_i hk;rw[CJ hk];exact h.2 i a c
  ·simp at c⟩
theorem BU.drop{C:Ctx}{w:World}{c:Is}{ys:Hx}(h:BU C w c ys)(k:Nat):BU C w (c.drop k) (ys.drop k):=
 ⟨by simp[h.1],λi a d=>by
  rw[fX]at d⊢;exact h.2 _ a d⟩
theorem BU.append{C:Ctx}{w:World}{e f:Is}{ys zs:Hx}(h:BU C w e ys)(k:BU C w f zs):BU C w (e++f) (ys++zs):=
 ⟨by simp[h.1,k.1],λi a c=>by
  rw[List.getElem?_append]at c⊢;rw[h.1];split at c
  ·rename_i d;rw[CJ d];exact h.2 i a c
  ·rename_i d;rw[Co d];exact k.2 _ a c⟩
theorem D5{C:Ctx}{w:World}{cs:Is}{y:Value}:VRel C w (.agg cs) y↔∃c:Hx,y=.agg c.toArray/\BU C w cs c:=by
 constructor
 ·intro h;cases h with
  |agg c e f=>
   refine⟨c.toList,by simp,by simpa using e,λi a g=>?_⟩;obtain⟨d,rfl⟩:=pR.1 g;have h1:=f i d;refine⟨_,?_,h1⟩;simp[e,d]
 ·rintro⟨c,rfl,e,h⟩;refine .agg _ (by simpa using e) λi d=>?_;obtain⟨y,f,hv⟩:=h i _ (II d);have:c.toArray.getD i undef=y:=by simp[WX,f]
  rw[this];exact hv
theorem CD{C:Ctx}{w:World}{cs:Is}{y:Value}:VRel C w (.tup cs) y↔∃c:Hx,y=.tuple c.toArray/\BU C w cs c:=by
 constructor
 ·intro h;cases h with
  |tup c e f=>
   refine⟨c.toList,by simp,by simpa using e,λi a g=>?_⟩;obtain⟨d,rfl⟩:=pR.1 g;have h1:=f i d;refine⟨_,?_,h1⟩;simp[e,d]
 ·rintro⟨c,rfl,e,h⟩;refine .tup _ (by simpa using e) λi d=>?_;obtain⟨y,f,hv⟩:=h i _ (II d);have:c.toArray.getD i undef=y:=by simp[WX,f]
  rw[this];exact hv
theorem A6{C:Ctx}{w:World}{x y:Value}:VRel C w (.v x) y↔y=x:=⟨λh=>by cases h;rfl,λh=>by subst h;exact .v _⟩
theorem GL{C:Ctx}{w:World}{f:Fn}{n cs:Is}{y:Value}:VRel C w (.fn f n cs) y↔∃e g:Hx,y=.func f e.toArray g.toArray/\BU C w n e/\BU C w cs g:=by
 constructor
 ·intro h;cases h with
  |fn e g k d j hz=>
   refine⟨e.toList,g.toList,by simp,⟨by simpa using k,λi a m=>?_⟩,by simpa using d,λi a m=>?_⟩
   ·obtain⟨c,rfl⟩:=pR.1 m;have h1:=j i c;refine⟨_,?_,h1⟩;simp[k,c]
   ·obtain⟨c,rfl⟩:=pR.1 m;have h1:=hz i c;refine⟨_,?_,h1⟩;simp[d,c]
 ·rintro⟨e,g,rfl,⟨k,h⟩,d,p⟩;refine .fn _ _ (by simpa using k) (by simpa using d) (λi c=>?_) λi c=>?_
  ·obtain⟨y,j,hv⟩:=h i _ (II c);have:e.toArray.getD i undef=y:=by simp[WX,j]
   rw[this];exact hv
  ·obtain⟨y,j,hv⟩:=p i _ (II c);have:g.toArray.getD i undef=y:=by simp[WX,j]
   rw[this];exact hv
end Go.Abs
end
noncomputable section
namespace Go.Abs
open Go.RowKit
section
variable{s:Nat}
abbrev Tm:=List (Nat×AV)
def F7:Tm->Nat->AV
 |[],_=>.dk
 |(k,v)::t,i=>if i=k then v else F7 t i
def Tx(C:Ctx)(w:World)(t:Tm)(tmps:Array Value):Prop:=∀i,VRel C w (F7 t i) (tmps.getD i undef)
theorem Tx.mono{O:Nat->Prop}{C C':Ctx}{w w':World}{t:Tm}{tmps:Array Value}(h:Tx C w t tmps)(e:Ext O C w C' w'):Tx C' w' t tmps:=λi=>(h i).mono e
inductive Row where
 |cells (q:Bool) (T:TypeId) (cs:Is)
 |map (q:Bool) (es:IH) (bo:Option (Hb×Nat))
 |loop (N:Nat) (t:Tm) (ps:Array Tmp) (aZ bd:Code) (pend:Option (Option Code))
 |iter (left:IH) (last:Option (Value×AV))
 |gone
def Row.live:Row->Option Row
 |.gone=>none
 |x=>some x
abbrev Hp:=List (Nat×Row)
def Ao:Hp->Nat->Option Row
 |[],_=>none
 |(k,x)::l,r=>if r=k then x.live else Ao l r
def upd:Hp->Nat->Row->Hp
 |[],_,_=>[]
 |(k,x)::l,r,y=>if r=k then(k,y)::l else(k,x)::upd l r y
def cut(H:Hp)(r:Nat):Hp:=upd H r .gone
def Ay:Hp->Nat
 |[]=>0
 |(k,_)::_=>k+1
def CU(H:Hp)(r:Nat)(y:Row):Ay (upd H r y)=Ay H:=by
 cases H with
 |nil=>rfl
 |cons p H=>
  obtain⟨k,z⟩:=p;by_cases hk:r=k<;>simp[upd,hk,Ay]
def Et{H:Hp}{r:Nat}{x y:Row}(h:Ao H r=some x):Ao (upd H r y) r=y.live:=by
 induction H with
 |nil=>simp[Ao]at h
 |cons p H ih=>
  obtain⟨k,z⟩:=p;simp only[Ao]at h;by_cases hk:r=k
  ·simp[upd,hk,Ao]
  ·simp only[Co hk]at h;simp[upd,hk,Ao,ih h]
def Aj{H:Hp}{r s:Nat}{y:Row}(h:s≠r):Ao (upd H r y) s=Ao H s:=by
 induction H with
 |nil=>rfl
 |cons p H ih=>
  obtain⟨k,z⟩:=p;by_cases hk:r=k
  ·subst hk;simp[upd,Ao,h]
  ·simp only[upd,Co hk,Ao,ih]
def Kf{H:Hp}{r:Nat}:Ao (cut H r) r=none:=by
 induction H with
 |nil=>rfl
 |cons p H ih=>
  obtain⟨k,z⟩:=p;by_cases hk:r=k
  ·simp[cut,upd,hk,Ao,Row.live]
  ·simp only[cut,upd,Co hk,Ao];exact ih
def Ns{H:Hp}{r s:Nat}(h:s≠r):Ao (cut H r) s=Ao H s:=Aj h
def XR{x y:Row}(h:x.live=some y):x=y/\y≠.gone:=by cases x<;>simp[Row.live]at h<;>subst h<;>simp
def Dr{H:Hp}{r:Nat}{x:Row}(h:Ao H r=some x):x≠.gone:=by
 induction H with
 |nil=>simp[Ao]at h
 |cons p H ih=>
  obtain⟨k,z⟩:=p;simp only[Ao]at h;split at h
  ·exact(XR h).2
  ·exact ih h
def Ctx.sel(C:Ctx)(_:Bool):Ctx:=C
def VRel.unsel{C:Ctx}{w:World}{q:Bool}{a:AV}{y:Value}(h:VRel (C.sel q) w a y):VRel C w a y:=h
def BU.unsel{C:Ctx}{w:World}{q:Bool}{a:Is}{ys:Hx}(h:BU (C.sel q) w a ys):BU C w a ys:=h
theorem Ext.sel{O:Nat->Prop}{C C':Ctx}{w w':World}(h:Ext O C w C' w')(q:Bool):Ext O (C.sel q) w (C'.sel q) w':=h
structure Base where
 w:World
 U:Nat->Prop
def Base.own(B:Base)(b:Nat):Prop:=B.w.heap.size<=b\/B.U b
structure Keep(B:Base)(w:World):Prop where
 os:w.os=B.w.os
 tape:w.tape=B.w.tape
 output:w.output=B.w.output
 size:B.w.heap.size<=w.heap.size
 block:∀b,b<B.w.heap.size->¬B.U b->w.heap[b]?=B.w.heap[b]?
def Keep.refl(w:World)(U:Nat->Prop):Keep ⟨w,U⟩ w:=⟨rfl,rfl,rfl,MZ _,λ_ _ _=>rfl⟩
def Keep.below{B:Base}{w w':World}(h:Keep B w)(hb:Below w.heap.size w w'):Keep B w':=
 ⟨hb.os.trans h.os,hb.tape.trans h.tape,hb.output.trans h.output,WW h.size hb.size,λb a c=>(hb.block b (l2m a h.size)).trans (h.block b a c)⟩
structure Laid(C:Ctx)(w:World)(r:Nat)(q:Bool)(T:TypeId)(cs:Is)(b base:Nat)(arr:Array Value)(fz:Nat×Nat):Prop where
 at_:C.π r=some (some (b,base))
 block:w.heap[b]?=some (.cells arr T fz)
 free:∀i,i<arr.size->¬(fz.1<=i/\i<fz.2)
 fits:base+cs.length<=arr.size
 vals:BU (C.sel q) w cs ((arr.toList.drop base).take cs.length)
 exact:q=true->base=0/\arr.size=cs.length
def Ju(C:Ctx)(w:World)(es:IH)(ms:List MapEntry):Prop:=
 ms.length=es.length/\∀(i:Nat)(p:Value×AV),es[i]?=some p->∃m:MapEntry,ms[i]?=some m/\m.key=p.1/\VRel C w p.2 m.val
structure MOk(ms:Array MapEntry)(clock:Nat):Prop where
 born:ms.toList.Pairwise λa b=>a.born≠b.born
 lt:∀m∈ms.toList,m.born<clock
def BOk:Option (Hb×Nat)->Array MapEntry->Nat->Prop
 |none,_,_=>True
 |some (a,c),ms,clock=>ms.toList.map (·.born)=a/\clock=c
theorem Ju.mono{O:Nat->Prop}{C C':Ctx}{w w':World}{es:IH}{ms:List MapEntry}(h:Ju C w es ms)(e:Ext O C w C' w'):Ju C' w' es ms:=
 ⟨h.1,λi p a=>let⟨m,hm,hk,hv⟩:=h.2 i p a;⟨m,hm,hk,hv.mono e⟩⟩
def WR(C:Ctx)(w:World)(ms:Array MapEntry)(seen:Array Nat):Option (Value×AV)->Prop
 |none=>True
 |some p=>∃m∈ms.toList,seen.back?=some m.born/\m.key=p.1/\VRel C w p.2 m.val
theorem WR.mono{O:Nat->Prop}{C C':Ctx}{w w':World}{ms:Array MapEntry}{seen:Array Nat}:∀{x:Option (Value×AV)},WR C w ms seen x->Ext O C w C' w'->WR C' w' ms seen x
 |none,_,_=>trivial
 |some _,⟨m,h1,h2,a,c⟩,e=>⟨m,h1,h2,a,c.mono e⟩
def A8p:Option (Option Code)->LoopState
 |none=>.busy
 |some none=>.ready
 |some (some _)=>.done
def PZ(C:Ctx)(w:World)(r:Nat):Row->Prop
 |.cells q T cs=>(cs=[]/\C.π r=some none)\/∃b base arr fz,Laid C w r q T cs b base arr fz
 |.map q i h=>∃(b:Nat)(ms:Array MapEntry)(clock:Nat),C.π r=some (some (b,0))/\w.heap[b]?=some (.map ms clock)/\MOk ms clock/\Ju (C.sel q) w i ms.toList/\BOk h ms clock
 |.loop N t ps f g a=>∃(b:Nat)(l:Loop),C.π r=some (some (b,0))/\w.heap[b]?=some (.loop l)/\l.state=A8p a/\l.pending=a.join/\l.tmps.size=N/\l.params=ps/\l.assign=f/\l.body=g/\Tx C w t l.tmps
 |.iter left c=>∃(b:Nat)(d:Option Nat)(since:Nat)(seen:Array Nat)(last:Nat),C.π r=some (some (b,0))/\w.heap[b]?=some (.mapIter d since seen last)/\
  ((d=none/\left=[]/\c=none)\/∃(m:Nat)(ms:Array MapEntry)(clock:Nat),d=some m/\since=clock/\last=clock/\C.B m/\w.heap[m]?=some (.map ms clock)/\MOk ms clock/\Ju C.bare w left (ms.toList.filter λe=>!seen.contains e.born)/\WR C.bare w ms seen c)
 |.gone=>True
def B0n(G:Nat->Option Hx)(F:Nat->Nat->Prop)(w:World):Prop:=∀(g:Nat)(cs:Hx),G g=some cs->∀(i:Nat)(v:Value),cs[i]?=some v->F g i/\w.cell? ⟨g,i,none⟩=some v
structure Rel(G:Nat->Option Hx)(w0:Base)(C:Ctx)(H:Hp)(w:World):Prop where
 glob:B0n G C.F w
 below:Keep w0 w
 lt:∀r x,Ao H r=some x->C.π r≠none
 rows:∀r x,Ao H r=some x->PZ C w r x
 own:∀r x b o,Ao H r=some x->C.π r=some (some (b,o))->w0.own b/\(∀i,¬C.F b i)/\¬C.B b
 sep:∀r r' x x' b o o',Ao H r=some x->Ao H r'=some x'->C.π r=some (some (b,o))->C.π r'=some (some (b,o'))->r=r'
 fin:∀b i,C.F b i->b<w.heap.size
 finB:∀b,C.B b->b<w.heap.size
 nx:∀r,Ay H<=r->C.π r=none
section
variable{G:Nat->Option Hx}{w0:Base}{C C':Ctx}{H H':Hp}{w w':World}{O:Nat->Prop}{r:Nat}{q:Bool}{T:TypeId}{cs:Is}{b base:Nat}{arr:Array Value}{fz:Nat×Nat}
def B0n.mono(h:B0n G C.F w)(e:Ext O C w C' w'):B0n G C'.F w':=λg cs a i v hv=>⟨e.F _ _ (h g cs a i v hv).1,(e.keep _ _ (h g cs a i v hv).1).trans (h g cs a i v hv).2⟩
def Laid.lt(h:Laid C w r q T cs b base arr fz):b<w.heap.size:=(l1q.1 h.block).1
def Laid.cell(h:Laid C w r q T cs b base arr fz)(i:Nat):w.cell? ⟨b,i,none⟩=arr[i]?:=cell_of_row w b i arr T fz h.block
def Laid.get(h:Laid C w r q T cs b base arr fz)(i:Nat)(a:i<cs.length):∃v,w.cell? ⟨b,base+i,none⟩=some v/\VRel C w cs[i] v:=by
 obtain⟨y,c,hv⟩:=h.vals.2 i _ (II a);refine⟨y,?_,hv.unsel⟩;rw[h.cell];rw[oI,CJ a,fX]at c;simpa using c
def Laid.frozen(h:Laid C w r q T cs b base arr fz)(i:Nat)(a:i<arr.size):w.frozen? ⟨b,i,none⟩=false:=by
 have:=h.free i a;simp only[World.frozen?,h.block];simp;intro h1;omega
theorem Laid.mono(h:Laid C w r q T cs b base arr fz)(e:Ext O C w C' w')(hb:w'.heap[b]?=w.heap[b]?):Laid C' w' r q T cs b base arr fz:=
 ⟨e.at h.at_,hb.trans h.block,h.free,h.fits,h.vals.mono (e.sel q),h.exact⟩
theorem PZ.mono{x:Row}(h:PZ C w r x)(e:Ext O C w C' w')(hb:∀b base,C.π r=some (some (b,base))->w'.heap[b]?=w.heap[b]?):PZ C' w' r x:=by
 cases x with
 |cells q T cs=>
  rcases h with⟨h1,h2⟩|⟨b,base,arr,fz,h⟩
  ·exact .inl ⟨h1,e.at h2⟩
  ·exact .inr ⟨b,base,arr,fz,h.mono e (hb b base h.at_)⟩
 |map q J F=>
  obtain⟨b,ms,clock,h1,a,c,d,f⟩:=h;exact⟨b,ms,clock,e.at h1,(hb b 0 h1).trans a,c,d.mono (e.sel q),f⟩
 |loop N t ps A D j=>
  obtain⟨b,l,h1,h2,a,c,d,f,g,i,u⟩:=h;exact⟨b,l,e.at h1,(hb b 0 h1).trans h2,a,c,d,f,g,i,u.mono e⟩
 |iter left v=>
  obtain⟨b,y,since,seen,last,h1,h2,a⟩:=h;refine⟨b,y,since,seen,last,e.at h1,(hb b 0 h1).trans h2,?_⟩;rcases a with a|⟨m,ms,clock,k,n,p,c,d,f,g,i⟩
  ·exact .inl a
  ·exact .inr ⟨m,ms,clock,k,n,p,e.B _ c,(e.keepB _ c).trans d,f,g.mono e.bare,i.mono e.bare⟩
 |gone=>trivial
theorem PZ.block{x:Row}(h:PZ C w r x)(g:x≠.gone)(hb:C.π r=some (some (b,base))):b<w.heap.size:=by
 have key:∀{a:Nat}{o:Nat}{j:Obj},C.π r=some (some (a,o))->w.heap[a]?=some j->b<w.heap.size:=λh1 h2=>by
  have:=h1.symm.trans hb;injection this with this
  injection this with this
  injection this with f p
  subst f;exact(l1q.1 h2).1
 cases x with
 |cells q T cs=>
  rcases h with⟨h1,h2⟩|⟨a,c,arr,fz,h⟩
  ·rw[h2]at hb;cases hb
  ·exact key h.at_ h.block
 |map q u n=>
  obtain⟨a,ms,clock,h1,d,v,y,_⟩:=h;exact key h1 d
 |loop N t ps k m e=>
  obtain⟨a,l,h1,h2,_⟩:=h;exact key h1 h2
 |iter left i=>
  obtain⟨a,A,since,seen,last,h1,h2,d⟩:=h;exact key h1 h2
 |gone=>exact absurd rfl g
def Rel.sub(h:Rel G w0 C H w)(c:∀r x,Ao H' r=some x->Ao H r=some x)(g:Ay H<=Ay H'):Rel G w0 C H' w:=
 ⟨h.glob,h.below,λr x a=>h.lt r x (c r x a),λr x a=>h.rows r x (c r x a),λr x b o a=>h.own r x b o (c r x a),λr e x f b o i a d=>h.sep r e x f b o i (c r x a) (c e f d),h.fin,h.finB,λr hr=>h.nx r (WW g hr)⟩
def Rel.cut_row(h:Rel G w0 C H w)(r:Nat):Rel G w0 C (cut H r) w:=
 h.sub (λs x a=>by
  by_cases c:s=r
  ·subst c;rw[Kf]at a;cases a
  ·rwa[Ns c]at a) (by rw[cut,CU];exact MZ _)
def Ext.of_below(hb:Below w.heap.size w w')(c:∀b i,C.F b i->b<w.heap.size)(a:∀b,C.B b->b<w.heap.size):Ext O C w C w':=
 ⟨λ_ _=>rfl,λ_ _ h=>h,λb i h=>hb.cell (p:=⟨b,i,none⟩) (c b i h),λ_ h=>h,λb h=>hb.block b (a b h),
  λb arr T fz h=>⟨arr,fz,(hb.block b (l1q.1 h).1).trans h,rfl⟩,λ_ _ h=>.inl h,λ_ h=>.inl h,hb.size⟩
def Rel.ext_below(h:Rel G w0 C H w)(hb:Below w.heap.size w w'):Ext O C w C w':=Ext.of_below hb h.fin h.finB
def Rel.of_below(h:Rel G w0 C H w)(hb:Below w.heap.size w w'):Rel G w0 C H w':=
 have e:Ext (λ_=>False) C w C w':=h.ext_below hb
 ⟨h.glob.mono e,h.below.below hb,h.lt,λr x a=>(h.rows r x a).mono e (λb base f=>hb.block b ((h.rows r x a).block (Dr a) f)),
  h.own,h.sep,λb i d=>l2m (h.fin b i d) hb.size,λb c=>l2m (h.finB b c) hb.size,h.nx⟩
def Ctx.put(C:Ctx)(r:Nat)(p:Option (Nat×Nat)):Ctx:={π:=λs=>if s=r then some p else C.π s,F:=C.F,B:=C.B}
def Ctx.put_n(C:Ctx)(r:Nat)(p:Option (Nat×Nat)):(C.put r p).π r=some p:=by simp[Ctx.put]
def Ctx.put_ne(C:Ctx)(p:Option (Nat×Nat))(h:s≠r):(C.put r p).π s=C.π s:=by simp[Ctx.put,h]
def Ctx.put_ext{p:Option (Nat×Nat)}(hr:C.π r=none)(e:Ext O C w C w'):Ext O C w (C.put r p) w':=
 ⟨λs a=>C.put_ne p (λe=>a (e▸hr)),e.F,e.keep,e.B,e.keepB,e.size,e.new,e.newB,e.grow⟩
def pO(h:Rel G w0 C H w)(hr:C.π r≠none):r<Ay H:=by
 rcases Nat.lt_or_ge r (Ay H) with h1|h1
 ·exact h1
 ·exact absurd (h.nx r h1) hr
def Rel.new_row(h:Rel G w0 C H w){x:Row}(hb:Below w.heap.size w w')(k:PZ (C.put (Ay H) (some (w.heap.size,0))) w' (Ay H) x):Rel G w0 (C.put (Ay H) (some (w.heap.size,0))) ((Ay H,x)::H) w':=by
 have j:C.π (Ay H)=none:=h.nx _ (MZ _);have e:Ext (λ_=>False) C w (C.put (Ay H) (some (w.heap.size,0))) w':=Ctx.put_ext j (h.ext_below hb);have g:(C.put (Ay H) (some (w.heap.size,0))).π (Ay H)=some (some (w.heap.size,0)):=C.put_n _ _;have m:∀r x,Ao H r=some x->r≠Ay H:=λr x a e=>h.lt r x a (e▸j);refine⟨h.glob.mono e,h.below.below hb,?_,?_,?_,?_,λb i t=>l2m (h.fin b i t) hb.size,λb p=>l2m (h.finB b p) hb.size,?_⟩
 ·intro r x a;simp only[Ao]at a;split at a
  ·rename_i hr;subst hr;rw[g];simp
  ·rw[e.π r (h.lt r x a)];exact h.lt r x a
 ·intro r x a;simp only[Ao]at a;split at a
  ·rename_i hr;subst hr;rw[<-(XR a).1];exact k
  ·exact(h.rows r x a).mono e (λb base c=>hb.block b ((h.rows r x a).block (Dr a) c))
 ·intro r x b o a c;simp only[Ao]at a;split at a
  ·rename_i hr;subst hr;rw[g]at c;injection c with c;injection c with c;injection c with h1 h2;subst h1
   exact⟨.inl h.below.size,λi t=>l1g _ (h.fin _ _ t),λp=>l1g _ (h.finB _ p)⟩
  ·rw[C.put_ne _ (m r x a)]at c;exact h.own r x b o a c
 ·intro r u x v b o A a f c d;simp only[Ao]at a f;split at a<;>split at f
  ·rename_i h1 h2;exact h1.trans h2.symm
  ·rename_i h1 h2;subst h1;rw[g]at c;rw[C.put_ne _ h2]at d;injection c with c;injection c with c;injection c with n y;subst n
   exact absurd ((h.rows u v f).block (Dr f) d) (l1g _)
  ·rename_i h1 h2;subst h2;rw[g]at d;rw[C.put_ne _ h1]at c;injection d with d;injection d with d;injection d with n y;subst n
   exact absurd ((h.rows r x a).block (Dr a) c) (l1g _)
  ·rename_i h1 h2;rw[C.put_ne _ h1]at c;rw[C.put_ne _ h2]at d;exact h.sep r u x v b o A a f c d
 ·intro r hr;have hr:Ay H+1<=r:=hr;rw[C.put_ne _ (by omega)];exact h.nx r (by omega)
def Rel.new_ext(h:Rel G w0 C H w)(hb:Below w.heap.size w w'):Ext O C w (C.put (Ay H) (some (w.heap.size,0))) w':=Ctx.put_ext (h.nx _ (MZ _)) (h.ext_below hb)
def Rel.new(h:Rel G w0 C H w)(hb:Below w.heap.size w w')(hk:w'.heap[w.heap.size]?=some (.cells arr T fz))(Od:∀i,i<arr.size->¬(fz.1<=i/\i<fz.2))(a:cs.length<=arr.size)(hv:BU (C.sel q) w cs (arr.toList.take cs.length))(hq:q=true->arr.size=cs.length):Rel G w0 (C.put (Ay H) (some (w.heap.size,0))) ((Ay H,.cells q T cs)::H) w':=by
 have e:Ext (λ_=>False) C w (C.put (Ay H) (some (w.heap.size,0))) w':=h.new_ext hb;exact h.new_row hb (Or.inr ⟨w.heap.size,0,arr,fz,C.put_n _ _,hk,Od,by omega,by simpa using hv.mono (e.sel q),λh=>⟨rfl,hq h⟩⟩)
end
end
section
variable{arr':Array Value}{α:Type}{y:Value}
def AV.one:AV->Bool
 |.v x=>x.oneCell'
 |.agg _=>false
 |.tup _=>false
 |.dk=>false
 |_=>true
def Br:AV->Is
 |.agg cs=>cs
 |a=>[a]
theorem VRel.one{C:Ctx}{w:World}{a:AV}(h:VRel C w a y)(h1:a.one=true):y.oneCell'=true:=by
 cases h<;>first|exact h1|rfl|(simp[AV.one]at h1)
def A3a(h:y.oneCell'=true):y.cells= #[y]:=by cases y<;>first|rfl|(simp[Value.oneCell']at h)
theorem VRel.cells{C:Ctx}{w:World}{a:AV}(h:VRel C w a y)(h1:(Br a).all AV.one=true):BU C w (Br a) y.cells.toList/\∀v∈y.cells.toList,v.oneCell'=true:=by
 have key:∀(b:AV)(y:Value),VRel C w b y->Br b=[b]->(Br b).all AV.one=true->BU C w (Br b) y.cells.toList/\∀v∈y.cells.toList,v.oneCell'=true:=by
  intro b y hb e h1;rw[e]at h1⊢;have j:y.oneCell'=true:=hb.one (by simpa using h1);rw[A3a j];exact⟨.cons hb .nil,by simpa using j⟩
 cases a with
 |agg cs=>
  obtain⟨ys,rfl,d⟩:=D5.1 h;refine⟨by simpa [Br,Value.cells] using d,λv hv=>?_⟩;simp only[Value.cells]at hv;obtain⟨i,g⟩:=List.getElem?_of_mem hv;have c:i<cs.length:=by
   have:=(pR.1 g).1;rw[<-d.1];simpa using this
  have:=d.get i c;have h2:ys[i]'(by rw[d.1];exact c)=v:=by simpa [pR,d.1,c] using g
  rw[h2]at this;exact this.one (Gb.1 (by simpa [Br] using h1) _ (Na c))
 |v x=>exact key _ _ h rfl h1
 |ptr r p k=>exact key _ _ h rfl h1
 |iptr cs=>exact key _ _ h rfl h1
 |list n cs=>exact key _ _ h rfl h1
 |sl sz r o n=>exact key _ _ h rfl h1
 |fn f a b=>exact key _ _ h rfl h1
 |tup vs=>exact key _ _ h rfl h1
 |mp r=>exact key _ _ h rfl h1
 |imap m=>exact key _ _ h rfl h1
 |yl r=>exact key _ _ h rfl h1
 |it r=>exact key _ _ h rfl h1
 |dk=>exact key _ _ h rfl h1
def splice(l:List α)(o:Nat)(vs:List α):List α:=l.take o++vs++l.drop (o+vs.length)
def Es{l:List α}{o:Nat}{vs:List α}(h:o+vs.length<=l.length):(splice l o vs).length=l.length:=by simp[splice];omega
def Mo{l:List α}{o:Nat}{vs:List α}(h:o+vs.length<=l.length)(i:Nat):(splice l o vs)[i]?=if i<o then l[i]? else if i<o+vs.length then vs[i-o]? else l[i]?:=by
 unfold splice;by_cases h1:i<o
 ·rw[CJ h1,fW,l0l (by simp;omega),oI,CJ h1]
 ·rw[Co h1];by_cases h2:i<o+vs.length
  ·rw[CJ h2,fW,l0n (by simp;omega),l0l (by simp;omega)]
   congr 1
   simp;omega
  ·rw[Co h2,l0n (by simp;omega),fX]
   congr 1
   simp;omega
def iP(l:List α)(o:Nat):splice l o []=l:=by simp[splice]
def ZR{l:List α}{o:Nat}{v:α}{vs:List α}(h:o+(v::vs).length<=l.length):splice (l.set o v) (o+1) vs=splice l o (v::vs):=by
 apply l0o;intro i;rw[Mo (by simp at h⊢;omega),Mo h];simp only[Kg]at h⊢;by_cases h1:i<o
 ·rw[CJ h1,CJ (by omega),List.getElem?_set_ne (by omega)]
 ·by_cases h2:i=o
  ·subst h2;rw[CJ (by omega),Co (by omega),CJ (by omega),List.getElem?_set_self (by omega)];simp
  ·rw[Co h1,Co (by omega)];by_cases a:i<o+(vs.length+1)
   ·rw[CJ a,CJ (by omega)];have:i-o=(i-(o+1))+1:=by omega
    rw[this,l0q]
   ·rw[Co a,Co (by omega),List.getElem?_set_ne (by omega)]
structure SameBut(w w':World)(b:Nat)(T:TypeId)(arr':Array Value)(fz:Nat×Nat):Prop where
 os:w'.os=w.os
 tape:w'.tape=w.tape
 output:w'.output=w.output
 size:w'.heap.size=w.heap.size
 here:w'.heap[b]?=some (.cells arr' T fz)
 others:∀k,k≠b->w'.heap[k]?=w.heap[k]?
def K0{P:Program}{T:TypeId}{fz:Nat×Nat}{b:Nat}(vs:Hx):∀(w:World)(arr:Array Value)(o i:Nat),w.heap[b]?=some (.cells arr T fz)->(∀i,i<arr.size->¬(fz.1<=i/\i<fz.2))->
 o+i+vs.length<=arr.size->(∀v∈vs,v.oneCell'=true)->∃w',(storeCells ⟨b,o,none⟩ vs i).run P w=.ok () w'/\SameBut w w' b T (splice arr.toList (o+i) vs).toArray fz:=by
 induction vs with
 |nil=>intro w arr o i hb _ _ _;exact⟨w,rfl,rfl,rfl,rfl,rfl,by simp[iP,hb],λ_ _=>rfl⟩
 |cons v vs ih=>
  intro w arr o i hb Od a c;have h:o+i<arr.size:=by simp at a;omega
  have g:(⟨b,o,none⟩:Addr).add i=⟨b,o+i,none⟩:=by unfold Addr.add;split<;>simp_all
  have d:w.cell? ⟨b,o+i,none⟩=some arr[o+i]:=by simp[World.cell?,hb,h]
  have n:w.frozen? ⟨b,o+i,none⟩=false:=by
   have:=Od _ h;simp only[World.frozen?,hb];simp;intro h1;omega
  have m:(w.setCell ⟨b,o+i,none⟩ v).heap[b]?=some (.cells (arr.setIfInBounds (o+i) v) T fz):=by simp[World.setCell,l0r,hb]
  have j:∀k,k≠b->(w.setCell ⟨b,o+i,none⟩ v).heap[k]?=w.heap[k]?:=λk hk=>Below.heap_setCell w _ v k hk;obtain⟨w',hr,f⟩:=ih (w.setCell ⟨b,o+i,none⟩ v) (arr.setIfInBounds (o+i) v) o (i+1) m (by simpa using Od) (by simp at a⊢;omega) (λx p=>c x (by simp[p]));refine⟨w',?_,f.os.trans rfl,f.tape.trans rfl,f.output.trans rfl,f.size.trans (by simp[World.setCell]),?_,λk hk=>(f.others k hk).trans (j k hk)⟩
  ·simp only[storeCells,Cr,g,run_store P w _ v _ (c v (by simp)),d,n];simpa using hr
  ·rw[f.here];have e:=ZR (l:=arr.toList) (o:=o+i) (v:=v) (vs:=vs) (by simpa using a);rw[<-e];simp[WE]
def Keep.same{B:Base}{w w':World}{b:Nat}{T:TypeId}{fz:Nat×Nat}(h:Keep B w)(a:SameBut w w' b T arr' fz)(c:B.own b):Keep B w':=
 ⟨a.os.trans h.os,a.tape.trans h.tape,a.output.trans h.output,by rw[a.size];exact h.size,λk hk d=>(a.others k (λe=>by
  subst e;rcases c with c|c
  ·omega
  ·exact d c)).trans (h.block k hk d)⟩
section
variable{G:Nat->Option Hx}{w0:Base}{C:Ctx}{H:Hp}{w w':World}{O:Nat->Prop}{r:Nat}{q:Bool}{T:TypeId}{cs aZ:Is}{b base o:Nat}{arr:Array Value}{fz:Nat×Nat}{ys:Hx}
def SameBut.ext(c:SameBut w w' b T arr' fz)(hb:w.heap[b]?=some (.cells arr T fz))(hsz:arr'.size=arr.size)(j:∀i,¬C.F b i)(g:¬C.B b):Ext O C w C w':=by
 refine⟨λ_ _=>rfl,λ_ _ h=>h,λk i h=>?_,λ_ h=>h,λk h=>c.others k (λe=>g (e▸h)),λk a t f h=>?_,λ_ _ h=>.inl h,λ_ h=>.inl h,Nat.le_of_eq c.size.symm⟩
 ·have:k≠b:=λe=>j i (e▸h);exact l0s (c.others k this)
 ·by_cases e:k=b
  ·subst e;rw[hb]at h;injection h with h;injection h with h1 h2 d
   subst h1 h2 d;exact⟨arr',fz,c.here,hsz⟩
  ·exact⟨a,f,(c.others k e).trans h,rfl⟩
def Rel.store(h:Rel G w0 C H w)(t:Ao H r=some (.cells q T cs))(m:Laid C w r q T cs b base arr fz)(c:o+aZ.length<=cs.length)(hv:BU (C.sel q) w aZ ys)(v:SameBut w w' b T (splice arr.toList (base+o) ys).toArray fz):Rel G w0 C (upd H r (.cells q T (splice cs o aZ))) w'/\Ext O C w C w':=by
 have j:=h.own r _ b base t m.at_;have aa:ys.length=aZ.length:=hv.1;have F:=m.fits;have hsz:(splice arr.toList (base+o) ys).toArray.size=arr.size:=by
  simp only[List.size_toArray];rw[Es (by simp;omega)];simp
 have e:Ext O C w C w':=v.ext m.block hsz j.2.1 j.2.2;refine⟨⟨h.glob.mono e,?_,?_,?_,?_,?_,λk i Z=>v.size▸h.fin k i Z,λk Y=>v.size▸h.finB k Y,λk hk=>h.nx k (by rw[CU]at hk;exact hk)⟩,e⟩
 ·exact h.below.same v j.1
 ·intro s x f;by_cases d:s=r
  ·subst d;exact h.lt s _ t
  ·rw[Aj d]at f;exact h.lt s x f
 ·intro s x f;by_cases d:s=r
  ·subst d;rw[Et t]at f;injection f with f;subst f
   refine Or.inr ⟨b,base,_,fz,m.at_,v.here,by rw[hsz];exact m.free,by rw[hsz,Es c];exact m.fits,?_,by rw[hsz,Es c];exact m.exact⟩;have A:=(m.vals.mono (e.sel q))
   have K:=hv.mono (e.sel q);refine⟨by rw[Es c,xS,l0t,Es (by simp;omega)];simp;omega,λi a g=>?_⟩;have B:i<cs.length:=by
    have:=(pR.1 g).1
    rwa[Es c]at this
   rw[Mo c]at g;rw[Es c,oI,CJ B,fX,Mo (by simp;omega)];have n:∀a,cs[i]?=some a->∃y,arr.toList[base+i]?=some y/\VRel (C.sel q) w' a y:=λa g=>by
    obtain⟨y,Q,L⟩:=A.2 i a g;rw[oI,CJ B,fX]at Q;exact⟨y,Q,L⟩
   by_cases h1:i<o
   ·rw[CJ h1]at g;rw[CJ (by omega)];exact n a g
   ·rw[Co h1]at g;rw[Co (by omega)];by_cases h2:i<o+aZ.length
    ·rw[CJ h2]at g;rw[CJ (by omega)];have:base+i-(base+o)=i-o:=by omega
     rw[this];exact K.2 _ a g
    ·rw[Co h2]at g;rw[Co (by omega)];exact n a g
  ·rw[Aj d]at f;refine(h.rows s x f).mono e (λk D u=>v.others k (λX=>?_));subst X;exact d (h.sep s r x _ _ _ _ f t u m.at_)
 ·intro s x k R f u;by_cases d:s=r
  ·subst d;exact h.own s _ k R t u
  ·rw[Aj d]at f;exact h.own s x k R f u
 ·intro s V x x' k o1 o2 f M u J;have key:∀p z,Ao (upd H r (.cells q T (splice cs o aZ))) p=some z->∃P,Ao H p=some P:=λp z hz=>by
   by_cases hq:p=r
   ·subst hq;exact⟨_,t⟩
   ·rw[Aj hq]at hz;exact⟨z,hz⟩
  obtain⟨z,hz⟩:=key s x f;obtain⟨P,N⟩:=key V x' M;exact h.sep s V z P k o1 o2 hz N u J
def Ctx.fix(C:Ctx)(b:Nat):Ctx:={C with F:=λk i=>C.F k i\/k=b}
def Ctx.fix_ext(c:O b):Ext O C w (C.fix b) w:=
 ⟨λ_ _=>rfl,λ_ _ h=>.inl h,λ_ _ _=>rfl,λ_ h=>h,λ_ _=>rfl,λ_ a _ f h=>⟨a,f,h,rfl⟩,λk i h=>by rcases h with h|h;exact .inl h;exact .inr (h▸c),λ_ h=>.inl h,MZ _⟩
def Rel.freeze(h:Rel G w0 C H w)(t:Ao H r=some (.cells q T cs))(j:Laid C w r q T cs b base arr fz):Rel G w0 (C.fix b) (cut H r) w/\Ext w0.own C w (C.fix b) w:=by
 have f:=h.own r _ b base t j.at_;have e:Ext w0.own C w (C.fix b) w:=Ctx.fix_ext f.1;have a:∀s x,Ao (cut H r) s=some x->s≠r/\Ao H s=some x:=λs x c=>by
  by_cases n:s=r
  ·subst n;rw[Kf]at c;cases c
  ·rw[Ns n]at c;exact⟨n,c⟩
 refine⟨⟨h.glob.mono e,h.below,λs x c=>h.lt s x (a s x c).2,λs x c=>(h.rows s x (a s x c).2).mono e (λ_ _ _=>rfl),?_,?_,?_,h.finB,?_⟩,e⟩
 ·intro s x k A c g;have hk:=h.own s x k A (a s x c).2 g;refine⟨hk.1,λi d=>?_,hk.2.2⟩;rcases d with d|d
  ·exact hk.2.1 i d
  ·subst d;exact(a s x c).1 (h.sep s r x _ _ _ _ (a s x c).2 t g j.at_)
 ·intro s u x v k B D c p g m;exact h.sep s u x v k B D (a s x c).2 (a u v p).2 g m
 ·intro k i d;rcases d with d|d
  ·exact h.fin k i d
  ·subst d;exact j.lt
 ·intro k hk;rw[cut,CU]at hk;exact h.nx k hk
end
end
section
variable{a:Act}{w0:Base}{c:Code}{C C':Ctx}{e:Exit}{s0:Nat}{w w' w'':World}
abbrev Gl:=Nat->Option Hx
def Fe(ro:Option Nat):Fence:={Fence.wide with round:=ro}
def mJ(ro:Option Nat):(Fe ro).depth=none:=rfl
def sT(b:Nat):Deferred:={target:=.collected b,args:= #[]}
def DOk(w0:Base)(s0:Nat)(C:Ctx)(w:World)(ds:List Deferred):Prop:=
 ∃d:Hb,d.Nodup/\ds=d.map sT/\∀b∈d,s0<=b/\w0.own b/\C.B b/\w.heap[b]?=some (.deferred (some []))
def DOk.nil:DOk w0 s0 C w []:=⟨[],by simp,rfl,by simp⟩
def DOk.mono{ds:List Deferred}(h:DOk w0 s0 C w ds)(g:∀b,C.B b->C'.B b)(hk:∀b,C.B b->w'.heap[b]?=w.heap[b]?):DOk w0 s0 C' w' ds:=
 let⟨f,h1,h2,d⟩:=h
 ⟨f,h1,h2,λb hb=>⟨(d b hb).1,(d b hb).2.1,g b (d b hb).2.2.1,(hk b (d b hb).2.2.1).trans (d b hb).2.2.2⟩⟩
structure St(G:Gl)(w0:Base)(s0:Nat)(C:Ctx)(N:Nat)(t:Tm)(H:Hp)(a:Act)(w:World):Prop where
 rel:Rel G w0 C H w
 size:a.tmps.size=N
 tmps:Tx C w t a.tmps
 defers:DOk w0 s0 C w a.defers
 le:s0<=w.heap.size
def Ko(G:Gl)(w0:Base)(s0 m:Nat)(C:Ctx)(N:Nat)(w:World)(Q:Exit->Tm->Hp->Prop):Exit->Act->World->Prop:=
 λe g w'=>∃C' f d,St G w0 s0 C' N f d g w'/\Frm m w0.own C w C' w'/\Q e f d
def NC(P:Program)(G:Gl)(ro:Option Nat)(m N:Nat)(c:Code)(Q:Exit->Tm->Hp->Prop)(t:Tm)(H:Hp):Prop:=
 ∀w0 s0 C a w,St G w0 s0 C N t H a w->c.wpIn (Fe ro) 0 P (Ko G w0 s0 m C N w Q) a w
def uO(P:Program)(G:Gl)(ro:Option Nat)(m N:Nat)(ops:Array Oper)(l:List Oper)(Q:Exit->Tm->Hp->Prop)(t:Tm)(H:Hp):Prop:=
 ∀w0 s0 C a w,St G w0 s0 C N t H a w->wpListIn (Fe ro) 0 P ops (Ko G w0 s0 m C N w Q) l a w
def Oa(P:Program)(G:Gl)(f:FuncId)(args:Is)(H:Hp)(Q:AV->Hp->Prop):Prop:=
 ∀w0 C w g,Rel G w0 C H w->BU C w args g->Calls P f g.toArray w λe w'=>
  ∃v y C' d,e=.returned y/\Rel G w0 C' d w'/\VRel C' w' v y/\Frm (Ay H) w0.own C w C' w'/\Q v d
def Frm.ext_of{G:Gl}{H:Hp}{O:Nat->Prop}(h:Frm (Ay H) O C w C' w')(hr:Rel G w0 C H w):Ext O C w C' w':=h.ext λ_ h=>pO hr h
section
variable{P:Program}{G:Gl}{ro:Option Nat}{m N:Nat}{Q Q':Exit->Tm->Hp->Prop}{t:Tm}{H:Hp}
def Ko.later(g:Frm m w0.own C w C' w')(h:Ko G w0 s0 m C' N w' Q e a w''):Ko G w0 s0 m C N w Q e a w'':=
 let⟨d,i,f,s,x,q⟩:=h
 ⟨d,i,f,s,g.trans x,q⟩
def Ko.mono(hq:∀e t H,Q e t H->Q' e t H)(h:Ko G w0 s0 m C N w Q e a w''):Ko G w0 s0 m C N w Q' e a w'':=
 let⟨d,g,f,s,x,q⟩:=h
 ⟨d,g,f,s,x,hq _ _ _ q⟩
theorem NC.mono(h:NC P G ro m N c Q t H)(hq:∀e t H,Q e t H->Q' e t H):NC P G ro m N c Q' t H:=
 λw0 s0 C a w s=>wpIn_mono (h w0 s0 C a w s) λ_ _ _=>Ko.mono hq
def A6R(h:Q .normal t H):NC P G ro m N .skip Q t H:=λw0 s0 C a w s=>wpIn_skip ⟨C,t,H,s,.refl _ _,h⟩
def A6T{id:Nat}(h:Q (.exit id) t H):NC P G ro m N (.exit id) Q t H:=λw0 s0 C a w s=>wpIn_exit ⟨C,t,H,s,.refl _ _,h⟩
def A6S{l:Nat}(h:Q (.goto l) t H):NC P G ro m N (.goto l) Q t H:=λw0 s0 C a w s=>wpIn_goto ⟨C,t,H,s,.refl _ _,h⟩
def A3g{l:Nat}(h:Q .normal t H):NC P G ro m N (.label l) Q t H:=λw0 s0 C a w s=>wpIn_label ⟨C,t,H,s,.refl _ _,h⟩
def B0g(h:Q .ret t H):NC P G ro m N .ret Q t H:=λw0 s0 C a w s=>wpIn_ret ⟨C,t,H,s,.refl _ _,h⟩
def A55(K:Tm->Hp->Prop)(Q:Exit->Tm->Hp->Prop):Exit->Tm->Hp->Prop
 |.normal,t,H=>K t H
 |e,t,H=>Q e t H
def Q!(id:Nat)(Q:Exit->Tm->Hp->Prop):Exit->Tm->Hp->Prop
 |.exit i,t,H=>if i=id then Q .normal t H else Q (.exit i) t H
 |e,t,H=>Q e t H
def B0f{x y:Code}(h:NC P G ro m N x (A55 (NC P G ro m N y Q) Q) t H):NC P G ro m N (.seq x y) Q t H:=λw0 s0 C a w s=>
 wpIn_seq (wpIn_mono (h w0 s0 C a w s) λe j w' ⟨d,k,i,f,g,q⟩=>by
  cases e with
  |normal=>exact wpIn_mono (q w0 s0 d j w' f) λ_ _ _=>Ko.later g
  |_=>exact⟨d,k,i,f,g,q⟩)
def A3h{id:Nat}(h:NC P G ro m N c (Q! id Q) t H):NC P G ro m N (.block id c) Q t H:=λw0 s0 C a w s=>
 wpIn_block (wpIn_mono (h w0 s0 C a w s) λe p w' ⟨d,k,f,j,n,q⟩=>by
  cases e with
  |exit i=>
   simp only[Q!]at q;simp only[Exit.inBlock];split at q
   ·rename_i g;rw[CJ g];exact⟨d,k,f,j,n,q⟩
   ·rename_i g;rw[Co g];exact⟨d,k,f,j,n,q⟩
  |_=>exact⟨d,k,f,j,n,q⟩)
def dJ(P:Program)(G:Gl)(ro:Option Nat)(m N:Nat)(c:Code)(Q:Exit->Tm->Hp->Prop)(t:Tm)(H:Hp):Prop:=
 ∀w0 s0 C a w,St G w0 s0 C N t H a w->∀(b:Frame)(k:List Item)(cs:List Frame),b.roundOf=(Fe ro).round->(Fe ro).fn b.fn->(Fe ro).room (cs.length+1+0)->
  ∃e d w',Ko G w0 s0 m C N w Q e d w'/\ArrivesIn (Machine.fenced P (Fe ro)) P (lone (b.atR a (.code c:: .inLoop c::k)) cs w) b k cs e d w'
def zR(h:dJ P G ro m N c Q t H):NC P G ro m N (.loop c) Q t H:=by
 intro w0 s0 C a w s b k cs f hb hr;obtain⟨e,g,w',hq,d⟩:=h w0 s0 C a w s b k cs f hb hr;exact⟨e,g,w',hq,.of_steps (.one (fenced_calm hb hr rfl) stepR_loop) d⟩
def A0z(h:NC P G ro m N c (A55 (dJ P G ro m N c Q) Q) t H):dJ P G ro m N c Q t H:=by
 intro w0 s0 C a w s b k cs r hb hr;obtain⟨e,a1,j,hq,d⟩:=h w0 s0 C a w s b (.inLoop c::k) cs r hb hr;obtain⟨g,u,p,i,n,q⟩:=hq;cases e with
 |normal=>
  obtain⟨y,a2,A,v,f⟩:=q w0 s0 g a1 j i b k cs r hb hr;exact⟨y,a2,A,Ko.later n v,.of_steps (StepsIn.trans d (.one (fenced_calm hb hr rfl) stepR_inLoop)) f⟩
 |exit id=>exact⟨_,a1,j,⟨g,u,p,i,n,q⟩,.pass (x:=.inLoop c) rfl (λ_ _=>.inl (by simp)) d⟩
 |goto l=>exact⟨_,a1,j,⟨g,u,p,i,n,q⟩,.pass (x:=.inLoop c) rfl (λ_ _=>.inl (by simp)) d⟩
 |ret=>exact⟨_,a1,j,⟨g,u,p,i,n,q⟩,.pass (x:=.inLoop c) rfl (λ_ _=>.inl (by simp)) d⟩
 |panic B=>exact⟨_,a1,j,⟨g,u,p,i,n,q⟩,.pass (x:=.inLoop c) rfl (λ_ _=>.inl (by simp)) d⟩
 |outgrown=>exact⟨_,a1,j,⟨g,u,p,i,n,q⟩,.pass (x:=.inLoop c) rfl (λ_ _=>.inl (by simp)) d⟩
end
end
section
variable{v:AV}{K:AV->Hp->Prop}{ops:Array Oper}{C':Ctx}{q:Exit->Act->World->Prop}{F:Fence}{n:Nat}{O:Nat->Prop}{d:Option Tmp}{y:Value}{w':World}
def pN:Value->AV
 |.agg cs=>.agg (cs.toList.map .v)
 |x=>.v x
def Tb{C:Ctx}{w:World}(l:Hx):BU C w (l.map .v) l:=
 ⟨by simp,λi a c=>by
  rw[pS]at c;cases h:l[i]? with
  |none=>rw[h]at c;simp at c
  |some y=>rw[h]at c;simp at c;subst c;exact⟨y,rfl,.v y⟩⟩
def XB{C:Ctx}{w:World}(x:Value):VRel C w (pN x) x:=by
 cases x with
 |agg cs=>exact D5.2 ⟨cs.toList,by simp,Tb _⟩
 |_=>exact .v _
def HC(G:Gl)(t:Tm):Operand->AV
 |.tmp i=>F7 t i
 |.const v=>pN v
 |.global g=>match G g with
  |some cs=>.iptr (cs.map .v)
  |none=>.v (.pointer (some ⟨g,0,none⟩))
 |.func f=>.fn (.func f) [] []
def OJ(t:Tm)(d:Option Tmp)(v:AV):Tm:=
 match d with
 |some d=>(d,v)::t
 |none=>t
def dok(N:Nat)(d:Option Tmp):Prop:=
 match d with
 |some d=>d<N
 |none=>True
inductive Gd where
 |run|skip|dep (b:Bool)|bad
def Rs:AV->Gd
 |.v (.bool b)=>.dep b
 |.dk=>.bad
 |_=>.skip
def Ff(ops:List Oper)(t:Tm)(o:Oper):Gd:=
 match o.guard with
 |none=>.run
 |some (j,want)=>match ops[j]? with
  |some p=>match p.dst with
   |some d=>match Rs (F7 t d) with
    |.dep b=>.dep (b==want)
    |g=>g
   |none=>.skip
  |none=>.skip
section
variable{P:Program}{G:Gl}{ro:Option Nat}{m N:Nat}{Q:Exit->Tm->Hp->Prop}{t:Tm}{H:Hp}{w0:Base}{s0:Nat}{w:World}{C:Ctx}{a:Act}
def AJ(s:St G w0 s0 C N t H a w)(x:Operand):VRel C w (HC G t x) (a.eval x):=by
 have hr:=s.rel;have e:=s.tmps;cases x with
 |tmp i=>exact e i
 |const v=>exact XB v
 |global g=>
  simp only[HC,Act.eval];cases h:G g with
  |none=>exact .v _
  |some cs=>
   refine .iptr (λi=>cs.getD i undef) (λi c=>?_) (λi c=>?_) (λi c=>?_)
   ·simp at c;simpa using(hr.glob g cs h i _ (II c)).1
   ·simp at c;rw[Tc,II c];simpa using(hr.glob g cs h i _ (II c)).2
   ·simp at c;simp[Tc,II c];exact .v _
 |func f=>exact GL.2 ⟨[],[],rfl,.nil,.nil⟩
def A6V(j:a.tmps.size=N)(g:Tx C w t a.tmps)(e:Ext O C w C' w')(hv:VRel C' w' v y)(h:dok N d):Tx C' w' (OJ t d v) (a.put d y).tmps:=by
 cases d with
 |none=>exact g.mono e
 |some d=>
  intro i;simp only[OJ,Act.put,F7];by_cases f:i=d
  ·subst f;have c:i<a.tmps.size:=by rw[j];exact h
   rw[CJ rfl];simp[WX,c];exact hv
  ·rw[Co f];have:=(g.mono e) i;simp only[WX]at this⊢;rw[Array.getElem?_setIfInBounds_ne (by omega)];exact this
def Q?(a:Act)(d:Option Tmp)(y:Value):(a.put d y).defers=a.defers:=by cases d<;>rfl
def A56(a:Act)(d:Option Tmp)(y:Value):(a.put d y).tmps.size=a.tmps.size:=by cases d<;>simp[Act.put]
def Wm:Value->Option Bool
 |.bool b=>some b
 |_=>none
def A0u{x:AV}(h:VRel C w x y):(∀b,Rs x=.dep b->Wm y=some b)/\(Rs x=.skip->Wm y=none)/\Rs x≠.run:=by
 cases h with
 |v=>cases y<;>simp[Rs,Wm]
 |_=>simp[Rs,Wm]
theorem G_(ops:List Oper)(j:Nat):yielded ops.toArray a.tmps j=match ops[j]? with
 |some p=>match p.dst with
  |some d=>(a.tmps[d]?).bind Wm
  |none=>none
 |none=>none:=by
 simp only[yielded,l10];cases ops[j]? with
 |none=>rfl
 |some p=>
  simp only[Option.bind_some];cases p.dst with
  |none=>rfl
  |some d=>
   simp only[Option.bind_some];cases a.tmps[d]? with
   |none=>rfl
   |some y=>cases y<;>rfl
def mF(f:Tx C w t a.tmps)(ops:List Oper)(o:Oper):(Ff ops t o=.run->Region.wanted o (yielded ops.toArray a.tmps)=true)/\(Ff ops t o=.skip->Region.wanted o (yielded ops.toArray a.tmps)=false)/\(∀b,Ff ops t o=.dep b->Region.wanted o (yielded ops.toArray a.tmps)=b):=by
 unfold Region.wanted Ff;cases o.guard with
 |none=>simp
 |some p=>
  obtain⟨j,want⟩:=p;simp only[G_];cases ops[j]? with
  |none=>simp
  |some p=>
   simp only;cases p.dst with
   |none=>simp
   |some d=>
    simp only;have hv:=f d;have e:=A0u hv;have hb:(a.tmps[d]?).bind Wm=Wm (a.tmps.getD d undef):=by
     rw[WX];cases a.tmps[d]?<;>rfl
    rw[hb];cases c:Rs (F7 t d) with
    |run=>exact absurd c e.2.2
    |skip=>rw[e.2.1 c];simp
    |bad=>simp
    |dep b=>rw[e.1 b c];simp
def A77(P:Program)(G:Gl)(o:Oper)(t:Tm)(H:Hp)(K:AV->Hp->Prop):Prop:=
 ∀w0 s0 C N a w,St G w0 s0 C N t H a w->∃v c y C' w',K v c/\((execOp a.eval o).run P w=.ok (.value y) w'\/((execOp a.eval o).run P w=.ok .skip w'/\y=undef))/\VRel C' w' v y/\Rel G w0 C' c w'/\Ext w0.own C w C' w'
def Qx(P:Program)(G:Gl)(ro:Option Nat)(N:Nat)(o:Oper)(t:Tm)(H:Hp)(K:AV->Hp->Prop):Prop:=
 ∀w0 s0 C a w(Q:Exit->Act->World->Prop),St G w0 s0 C N t H a w->o.wpIn (Fe ro) 0 P a w (λe w'=>∃v y C' c,e=a.put o.dst y/\K v c/\VRel C' w' v y/\Rel G w0 C' c w'/\Ext w0.own C w C' w') Q
def A6Z(h:Q .normal t H):uO P G ro m N ops [] Q t H:=λw0 s0 C a w s=>⟨C,t,H,s,.refl _ _,h⟩
def Pi{o:Oper}{K g:Act->World->Prop}(h:∀a w,K a w->g a w)(c:o.wpIn F n P a w K q):o.wpIn F n P a w g q:=by
 unfold Oper.wpIn at*;refine⟨c.1,?_⟩;have c:=c.2;generalize (o.semAt F.round a.eval).run P w=r at*;cases r with
 |ok x w'=>
  cases x<;>simp only[Oper.uponIn]at c⊢ <;>
   first
    |exact h _ _ c
    |exact⟨c.1,CallsIn.mono c.2 (λe f he=>by cases e<;>first|exact h _ _ he|exact he)⟩
    |exact⟨c.1,RowsIn.mono c.2 (λ_ _ he=>h _ _ he)⟩
    |exact⟨c.1,RoundIn.mono c.2 (λe f he=>by cases e<;>first|exact h _ _ he|exact he)⟩
 |halt x w'=>cases x<;>simp only[Oper.uponIn]at c⊢ <;>exact c
def mR{q q':Exit->Act->World->Prop}(hq:∀e a w,q e a w->q' e a w):∀(l:List Oper)(a:Act)(w:World),wpListIn F n P ops q l a w->wpListIn F n P ops q' l a w:=by
 intro l
 induction l with
 |nil=>intro a w h;exact hq _ _ _ h
 |cons o l ih=>
  intro a w h;simp only[wpListIn]at h⊢;split
  ·rename_i c;rw[CJ c]at h;unfold Oper.wpIn at h⊢;refine⟨h.1,?_⟩;have h:=h.2;generalize (o.semAt F.round a.eval).run P w=r at*;cases r with
   |ok x w'=>
    cases x<;>simp only[Oper.uponIn]at h⊢ <;>
     first
      |exact ih _ _ h
      |exact⟨h.1,CallsIn.mono h.2 (λe f he=>by cases e<;>first|exact ih _ _ he|exact hq _ _ _ he|exact(let⟨a,w,k⟩:=he;⟨a,w,hq _ _ _ k⟩))⟩
      |exact⟨h.1,RowsIn.mono h.2 (λ_ _ he=>ih _ _ he)⟩
      |exact⟨h.1,RoundIn.mono h.2 (λe f he=>by cases e<;>first|exact ih _ _ he|exact hq _ _ _ he|exact(let⟨a,w,k⟩:=he;⟨a,w,hq _ _ _ k⟩))⟩
   |halt x w'=>cases x<;>simp only[Oper.uponIn]at h⊢ <;>first|exact hq _ _ _ h|exact h
  ·rename_i c;rw[Co c]at h;exact⟨h.1,ih _ _ h.2⟩
def uO.run{l:List Oper}{c:Act}(h:uO P G ro m N ops l Q t H)(s:St G w0 s0 C' N t H c w')(e:Frm m w0.own C w C' w'):
 wpListIn (Fe ro) 0 P ops (Ko G w0 s0 m C N w Q) l c w':=
 mR (λ_ _ _=>Ko.later e) l c w' (h w0 s0 C' c w' s)
def M!{c:Hp}(s:St G w0 s0 C N t H a w)(hr:Rel G w0 C' c w')(e:Ext O C w C' w')(hv:VRel C' w' v y)(f:dok N d):St G w0 s0 C' N (OJ t d v) c (a.put d y) w':=
 ⟨hr,(A56 _ _ _).trans s.size,A6V s.size s.tmps e hv f,by rw[Q?];exact s.defers.mono e.B e.keepB,WW s.le e.grow⟩
def A3i{ops rest:List Oper}{o:Oper}(c:dok N o.dst)(s:St G w0 s0 C N t H a w)(e:Region.wanted o (yielded ops.toArray a.tmps)=false)(h:uO P G ro m N ops.toArray rest Q (OJ t o.dst (.v undef)) H):
 wpListIn (Fe ro) 0 P ops.toArray (Ko G w0 s0 m C N w Q) (o::rest) a w:=by
 simp only[wpListIn,e,mL,if_false];exact⟨λf _=>trivial,uO.run h (M! s s.rel (.refl (λ_=>False) _ _) (.v undef) c) (.refl _ _)⟩
def zW{ops rest:List Oper}{o:Oper}(c:dok N o.dst)(s:St G w0 s0 C N t H a w)(j:Region.wanted o (yielded ops.toArray a.tmps)=true)(h:Qx P G ro N o t H (λv f=>uO P G ro m N ops.toArray rest Q (OJ t o.dst v) f)):
 wpListIn (Fe ro) 0 P ops.toArray (Ko G w0 s0 m C N w Q) (o::rest) a w:=by
 simp only[wpListIn,j,if_true];exact Pi (λk w' ⟨v,y,C',f,i,g,hv,hr,e⟩=>by rw[i];exact uO.run g (M! s hr e hv c) e.frm) (h w0 s0 C a w _ s)
def Qx.mono{o:Oper}{K e:AV->Hp->Prop}(h:Qx P G ro N o t H K)(hk:∀v H,K v H->e v H):Qx P G ro N o t H e:=
 λw0 s0 C a w Q s=>Pi (λ_ _ ⟨v,y,C',c,g,f,rest⟩=>⟨v,y,C',c,g,hk v c f,rest⟩) (h w0 s0 C a w Q s)
def Rv{o:Oper}(k:∀c,o.op≠.defer c)(h:A77 P G o t H K):Qx P G ro N o t H K:=by
 intro w0 s0 C a w Q s;obtain⟨v,i,y,C',w',j,g,hv,hr,e⟩:=h w0 s0 C N a w s;refine⟨λf _=>trivial,?_⟩;rw[Oper.semAt_eq _ _ _ k];rcases g with g|⟨g,rfl⟩
 ·rw[g];exact⟨v,y,C',i,rfl,j,hv,hr,e⟩
 ·rw[g];exact⟨v,undef,C',i,rfl,j,hv,hr,e⟩
def A0v{id:Nat}{l:List Oper}(h:uO P G ro m N l.toArray l Q t H):NC P G ro m N (.region id l.toArray false) Q t H:=λw0 s0 C a w s=>wpIn_region_lit (h w0 s0 C a w s)
def zU{c:Operand}{x y:Code}{b:Bool}(hc:HC G t c=.v (.bool b))(h1:b=true->NC P G ro m N x Q t H)(h2:b=false->NC P G ro m N y Q t H):NC P G ro m N (.cond c x y) Q t H:=λw0 s0 C a w s=>by
 have:=AJ s c;rw[hc]at this;have he:a.eval c=.bool b:=A6.1 this;exact wpIn_cond_split he (λhb=>h1 hb w0 s0 C a w s) (λhb=>h2 hb w0 s0 C a w s)
def mE(s:St G w0 s0 C N t H a w)(l:List Operand):BU C w (l.map (HC G t)) (l.map a.eval):=by
 refine⟨by simp,λi b hb=>?_⟩;rw[pS]at hb⊢;cases c:l[i]? with
 |none=>rw[c]at hb;simp at hb
 |some x=>rw[c]at hb;simp at hb;subst hb;exact⟨_,rfl,AJ s x⟩
def PW{o:Oper}{c:Call}{f:FuncId}{x:Operand}{first cap:Is}(p:o.op=.call c)(k:c.callee=.value x)(V:HC G t x=.fn (.func f) first cap){fn:Func}(A:P.funcs[f]?=some fn)(g:fn.body.isNone=false)(i:(fn.name== "runtime.NumGoroutine")=false)(h:Oa P G f (first++c.args.toList.map (HC G t)++cap) H K):Qx P G ro N o t H K:=by
 intro w0 s0 C a w Q s;have hv:=AJ s x;rw[V]at hv;obtain⟨J,L,he,B,D⟩:=GL.1 hv;have j:=(B.append (mE s c.args.toList)).append D;have hc:=h w0 C w _ s.rel j;refine⟨λf _=>trivial,?_⟩;rw[Oper.semAt_eq _ _ _ (by rw[p];intro c hc;cases hc)];have r:(execOp a.eval o).run P w=.ok (.enter f (J++c.args.toList.map a.eval++L).toArray) w:=by
  simp only[execOp,p,resolve,k,he,Deferred.ofValue,Cr,Zn,Eu,invoke,callFunc,run_program,A,i,g,mL,if_false]
  congr 2
  apply fB;simp
 rw[r];refine⟨λR=>by simp[mJ]at R,?_⟩;have:CallsIn (Fe ro) 0 P f (J++c.args.toList.map a.eval++L).toArray w (λe w'=>∃v y C' u,e=.returned y/\Rel G w0 C' u w'/\VRel C' w' v y/\Frm (Ay H) w0.own C w C' w'/\K v u):=by
  cases ro with
  |none=>exact callsIn_wide.2 hc
  |some l=>exact CallsIn.mono (callsIn_wide (n:=0).2 hc) (λ_ _ h=>h)
 refine CallsIn.mono this ?_;rintro e w' ⟨v,y,C',u,rfl,hr,hv,X,M⟩;exact⟨v,y,C',u,rfl,M,hv,hr,X.ext_of s.rel⟩
end
end
section
variable{a:AV}{K:AV->Prop}{w0:Base}{q:Bool}{C:Ctx}{H:Hp}{r:Nat}{fz:Nat×Nat}{y:Value}
inductive TD where
 |int (k:IntKind)|bool|string|pointer (e:TypeId)
 |slice (e:TypeId) (esz:Nat)
 |array (n:Nat) (e:TypeId) (esz:Nat)
 |struct (fs:List (Nat×Nat×TypeId))
 |map (k e:TypeId)|func|iface|other
def td(P:Program):TypeDesc->TD
 |.int k=>.int k
 |.bool=>.bool
 |.string=>.string
 |.pointer e=>.pointer e
 |.slice e=>.slice e (P.cellsOf e)
 |.array n e=>.array n e (P.cellsOf e)
 |.struct c=>.struct (c.toList.map λf=>(f.offset,P.cellsOf f.type,f.type))
 |.map k e=>.map k e
 |.func .. =>.func
 |.interface .. =>.iface
 |_=>.other
def TD.isAgg:TD->Bool
 |.struct _=>true
 |.array .. =>true
 |_=>false
structure TI where
 size:Nat
 bytes:Nat
 d:TD
 zero:AV
structure TOk1(P:Program)(t:TypeId)(i:TI):Prop where
 sb:(P.info? t).map (λx=>(x.size,x.bytes))=some (i.size,i.bytes)
 z:((P.info? t).bind (·.zero)).map pN=some i.zero
 u:(P.underlying t).map (td P)=some i.d
abbrev Ty:=TypeId->Option TI
def Y8(P:Program)(T:Ty):Prop:=∀t i,T t=some i->TOk1 P t i
section
variable{P:Program}{t:TypeId}{i:TI}(w:World)
def TOk1.info(h:TOk1 P t i):∃x z,P.info? t=some x/\x.size=i.size/\x.bytes=i.bytes/\x.zero=some z/\pN z=i.zero:=by
 have h1:=h.sb;have h2:=h.z;cases c:P.info? t with
 |none=>rw[c]at h1;simp at h1
 |some x=>
  rw[c]at h1 h2;simp at h1 h2;obtain⟨z,hz,e⟩:=h2;exact⟨x,z,rfl,h1.1,h1.2,hz,e⟩
def TOk1.under(h:TOk1 P t i):∃u,P.underlying t=some u/\td P u=i.d:=by
 have h1:=h.u;cases c:P.underlying t with
 |none=>rw[c]at h1;simp at h1
 |some u=>rw[c]at h1;simp at h1;exact⟨u,rfl,h1⟩
def TOk1.run_size(h:TOk1 P t i):(sizeOf t).run P w=.ok i.size w:=by
 obtain⟨x,z,d,c,_⟩:=h.info;simp[sizeOf,typeInfo,d,c]
theorem TOk1.cellsOf(h:TOk1 P t i):P.cellsOf t=i.size:=by
 obtain⟨x,z,d,c,_⟩:=h.info;simp[Program.cellsOf,d,c]
def TOk1.run_isAgg(h:TOk1 P t i):(isAgg t).run P w=.ok i.d.isAgg w:=by
 obtain⟨u,c,e⟩:=h.under;unfold isAgg;rw[Cr,run_underlying c w,<-e];cases u<;>rfl
def TOk1.run_zero(h:TOk1 P t i):∃z,(zeroValue t).run P w=.ok z w/\pN z=i.zero:=by
 obtain⟨x,z,c,_,_,hz,e⟩:=h.info;exact⟨z,by simp[zeroValue,typeInfo,c,hz],e⟩
end
def Kv(C:Ctx)(w:World)(b o:Nat)(cs:Is):Prop:=∃vs:Hx,BU C w cs vs/\∀j v,vs[j]?=some v->w.cell? ⟨b,o+j,none⟩=some v
theorem Kv.drop{w:World}{b o:Nat}{cs:Is}(h:Kv C w b o cs)(k:Nat):Kv C w b (o+k) (cs.drop k):=by
 obtain⟨vs,h1,h2⟩:=h;refine⟨vs.drop k,h1.drop k,λj v hv=>?_⟩;rw[fX]at hv;rw[WE];exact h2 _ v hv
theorem Kv.take{w:World}{b o:Nat}{cs:Is}(h:Kv C w b o cs)(k:Nat):Kv C w b o (cs.take k):=by
 obtain⟨vs,h1,h2⟩:=h;refine⟨vs.take k,h1.take k,λj v hv=>?_⟩;rw[oI]at hv;split at hv
 ·exact h2 _ v hv
 ·simp at hv
theorem Laid.at{w:World}{T:TypeId}{cs:Is}{b base:Nat}{arr:Array Value}(h:Laid C w r q T cs b base arr fz):Kv C w b base cs:=by
 refine⟨_,h.vals.unsel,λj v hv=>?_⟩;rw[h.cell];rw[oI]at hv;split at hv
 ·rw[fX]at hv;simpa using hv
 ·simp at hv
def Laid.atq{w:World}{T:TypeId}{cs:Is}{b base:Nat}{arr:Array Value}(h:Laid C w r q T cs b base arr fz):Kv (C.sel q) w b base cs:=by
 refine⟨_,h.vals,λj v hv=>?_⟩;rw[h.cell];rw[oI]at hv;split at hv
 ·rw[fX]at hv;simpa using hv
 ·simp at hv
def mA{w:World}{b o:Nat}{cs:Is}(vs:Nat->Value)(hc:∀i,i<cs.length->w.cell? ⟨b,o+i,none⟩=some (vs i))(hv:∀i(d:i<cs.length),VRel C w cs[i] (vs i)):Kv C w b o cs:=by
 refine⟨(List.range cs.length).map vs,⟨by simp,λi a e=>?_⟩,λj v c=>?_⟩
 ·obtain⟨d,rfl⟩:=pR.1 e;exact⟨vs i,by simp[d],hv i d⟩
 ·rw[pS]at c;by_cases h:j<cs.length
  ·simp[h]at c;subst c;exact hc j h
  ·simp[l1e (by simpa using h:(List.range cs.length).length<=j)]at c
def HQ(b o k:Nat):(⟨b,o,none⟩:Addr).add k=⟨b,o+k,none⟩:=by unfold Addr.add;split<;>simp_all
def YL{P:Program}{w:World}{b o:Nat}{cs:Is}(h:Kv C w b o cs)(n:Nat)(hn:n<=cs.length):∃vs,(loadCells ⟨b,o,none⟩ n).run P w=.ok vs.toArray w/\BU C w (cs.take n) vs:=by
 obtain⟨vs,h1,h2⟩:=h.take n;have c:vs.length=n:=by rw[h1.1];simp[hn]
 refine⟨vs,?_,h1⟩;have:=run_loadCells_list (P:=P) w ⟨b,o,none⟩ vs (λj v hv=>by rw[HQ];exact h2 j v hv)
 rwa[c]at this
def UR(T:Ty)(ty:TypeId)(cs:Is)(K:AV->Prop):Prop:=
 match T ty with
 |some i=>if i.d.isAgg then i.size<=cs.length/\K (.agg (cs.take i.size)) else match cs with
  |c::_=>K c
  |[]=>False
 |none=>False
def Uo{P:Program}{T:Ty}(k:Y8 P T){w:World}{b o:Nat}{cs:Is}{ty:TypeId}(h:Kv C w b o cs)(e:UR T ty cs K):
 ∃v y,(loadVar ty ⟨b,o,none⟩).run P w=.ok y w/\VRel C w v y/\K v:=by
 unfold UR at e;cases j:T ty with
 |none=>rw[j]at e;exact e.elim
 |some i=>
  rw[j]at e;have ok:=k ty i j;simp only at e;by_cases f:i.d.isAgg=true
  ·rw[CJ f]at e;obtain⟨vs,hr,hv⟩:=YL (P:=P) h i.size e.1;refine⟨_,.agg vs.toArray,?_,D5.2 ⟨vs,rfl,hv⟩,e.2⟩;simp[loadVar,ok.run_isAgg,f,ok.run_size,hr]
  ·rw[Co f]at e;have g:i.d.isAgg=false:=by simpa using f
   cases cs with
   |nil=>exact e.elim
   |cons c cs=>
    obtain⟨vs,h1,h2⟩:=h;obtain⟨y,m,rfl,hv,_⟩:=h1.cons_inv;refine⟨c,y,?_,hv,e⟩;have:=h2 0 y rfl;simp only[Nat.add_zero]at this;simp[loadVar,ok.run_isAgg,g,this]
def vF(T:Ty)(ty:TypeId)(a:AV)(H:Hp)(K:AV->Prop):Prop:=
 match a with
 |.iptr cs=>UR T ty cs K
 |.ptr r p k=>match Ao H r with
  |some (.cells _ _ cs)=>UR T ty (cs.drop (p+k)) K
  |_=>False
 |_=>False
def ZO{P:Program}{T:Ty}(j:Y8 P T){G:Gl}{w:World}{ty:TypeId}(hr:Rel G w0 C H w)(m:VRel C w a y)(h:vF T ty a H K):
 ∃v z,(Instr.loadAt ty y).run P w=.ok z w/\VRel C w v z/\K v:=by
 cases a with
 |iptr cs=>
  cases m with
  |iptr vs D hc hv=>
   obtain⟨v,z,h1,h2,c⟩:=Uo (P:=P) j (mA vs hc (λi A=>(hv i A).up rfl rfl)) h;exact⟨v,z,by simp[Instr.loadAt,Instr.sureAddr,h1],h2,c⟩
 |ptr r p k=>
  simp only[vF]at h;cases d:Ao H r with
  |none=>rw[d]at h;exact h.elim
  |some x=>
   rw[d]at h;cases x with
   |map q B=>exact h.elim
   |loop=>exact h.elim
   |iter=>exact h.elim
   |gone=>exact h.elim
   |cells q Ty cs=>
    cases m with
    |ptr f=>
     rcases hr.rows r _ d with⟨h1,h2⟩|⟨b,g,arr,fz,n⟩
     ·rw[h2]at f;cases f
     ·have e:=n.at_.symm.trans f;injection e with e;injection e with e;injection e with s u;subst s u
      obtain⟨v,z,h1,h2,c⟩:=Uo (P:=P) j (n.at.drop (p+k)) h;exact⟨v,z,by simp[Instr.loadAt,Instr.sureAddr,h1],h2,c⟩
 |_=>exact h.elim
def gS(T:Ty)(ty:TypeId)(a v:AV)(H:Hp)(K:Hp->Prop):Prop:=
 match a with
 |.ptr r p k=>match Ao H r,T ty with
  |some (.cells q E cs),some i=>(Br v).length=i.size/\(Br v).all AV.one=true/\(p+k)+(Br v).length<=cs.length/\K (upd H r (.cells q E (splice cs (p+k) (Br v))))
  |_,_=>False
 |_=>False
def rJ{P:Program}{T:Ty}(R:Y8 P T){G:Gl}{w:World}{ty:TypeId}{a v:AV}{y z:Value}{K:Hp->Prop}(hr:Rel G w0 C H w)(V:VRel C w a y)(hv:VRel C w v z)(h:gS T ty a v H K):
 ∃D n,(Instr.storeAt ty y z).run P w=.ok () n/\Rel G w0 C D n/\Ext w0.own C w C n/\K D:=by
 cases a with
 |ptr r p k=>
  simp only[gS]at h;cases s:Ao H r with
  |none=>rw[s]at h;exact h.elim
  |some x=>
   rw[s]at h;cases x with
   |map q Y=>exact h.elim
   |loop=>exact h.elim
   |iter=>exact h.elim
   |gone=>exact h.elim
   |cells q E cs=>
    cases u:T ty with
    |none=>rw[u]at h;exact h.elim
    |some i=>
     rw[u]at h;obtain⟨h1,h2,M,N⟩:=h;have ok:=R ty i u;obtain⟨g,j⟩:=hv.cells h2;cases V with
     |ptr B=>
      rcases hr.rows r _ s with⟨Z,Q⟩|⟨b,c,arr,fz,d⟩
      ·rw[Q]at B;cases B
      ·have e:=d.at_.symm.trans B;injection e with e;injection e with e;injection e with J L;subst J L
       have F:=d.fits;have A:BU (C.sel q) w (Br v) z.cells.toList:=g;have f:z.cells.toList.length=(Br v).length:=g.1;obtain⟨n,m,X⟩:=K0 (P:=P) z.cells.toList w arr (c+(p+k)) 0 d.block d.free (by omega) j;have:=hr.store (O:=w0.own) s d M A (by simpa using X);refine⟨_,n,?_,this.1,this.2,N⟩;have hsz:¬z.cells.size≠i.size:=by simp at f;omega
       simp[Instr.storeAt,Instr.sureAddr,storeVar,ok.run_size,hsz,m]
 |_=>exact h.elim
end
section
variable{op:BinOp}{k:IntKind}{P:Program}{α:Type}{v:Value}
def dZ(op:BinOp)(k:IntKind)(a b:Int):Option Value:=
 match op with
 |.add=>some (.int k (k.wrap (a+b)))
 |.sub=>some (.int k (k.wrap (a-b)))
 |.mul=>some (.int k (k.wrap (a*b)))
 |.quo=>if b=0 then none else some (.int k (k.wrap (a.tdiv b)))
 |.rem=>if b=0 then none else some (.int k (a.tmod b))
 |.and=>some (.int k (k.wrap ((BitVec.ofInt k.bits a&&&BitVec.ofInt k.bits b).toNat)))
 |.or=>some (.int k (k.wrap ((BitVec.ofInt k.bits a|||BitVec.ofInt k.bits b).toNat)))
 |.xor=>some (.int k (k.wrap ((BitVec.ofInt k.bits a^^^BitVec.ofInt k.bits b).toNat)))
 |.andNot=>some (.int k (k.wrap ((BitVec.ofInt k.bits a&&& ~~~BitVec.ofInt k.bits b).toNat)))
 |.eql=>some (.bool (a==b))
 |.neq=>some (.bool (a !=b))
 |.lss=>some (.bool (decide (a<b)))
 |.leq=>some (.bool (decide (a<=b)))
 |.gtr=>some (.bool (decide (a>b)))
 |.geq=>some (.bool (decide (a≥b)))
 |_=>none
def YV(op:BinOp)(k:IntKind)(a b:Int):Option Value:=
 if b<0 then none else match op with
 |.shl=>some (.int k (k.wrap (a*2^(min b.toNat k.bits))))
 |.shr=>some (.int k (a.fdiv (2^(min b.toNat k.bits))))
 |_=>none
def A2p(op:BinOp)(a b:ByteArray):Option Value:=
 match op with
 |.add=>if((a.size+b.size:Nat):Int)>IntKind.i64.max then none else some (.string (a++b))
 |.eql=>some (.bool (a.toList==b.toList))
 |.neq=>some (.bool !(a.toList==b.toList))
 |.lss=>some (.bool (Op.bytesLess a.toList b.toList))
 |.leq=>some (.bool (Op.bytesLess a.toList b.toList||a.toList==b.toList))
 |.gtr=>some (.bool !(Op.bytesLess a.toList b.toList||a.toList==b.toList))
 |.geq=>some (.bool !Op.bytesLess a.toList b.toList)
 |_=>none
def Gz:BinOp->Bool
 |.shl=>true
 |.shr=>true
 |_=>false
def J3(o:Option α)(K:α->Prop):Prop:=
 match o with
 |some v=>K v
 |none=>False
def xA:TD->AV->AV->Option Bool
 |.pointer _,.v (.pointer none),.v (.pointer none)=>some true
 |.pointer _,.ptr ..,.v (.pointer none)=>some false
 |.pointer _,.iptr ..,.v (.pointer none)=>some false
 |.pointer _,.v (.pointer none),.ptr .. =>some false
 |.pointer _,.v (.pointer none),.iptr .. =>some false
 |.func,.v .nilFunc,.v .nilFunc=>some true
 |.func,.fn ..,.v .nilFunc=>some false
 |.func,.v .nilFunc,.fn .. =>some false
 |.slice ..,.v (.slice none 0 0),.v (.slice none 0 0)=>some true
 |.slice ..,.list (_+1) _,.v (.slice none 0 0)=>some false
 |.slice ..,.sl _ _ _ (_+1),.v (.slice none 0 0)=>some false
 |_,_,_=>none
def hY(T:Ty)(op:BinOp)(ty:TypeId)(a b:AV)(K:AV->Prop):Prop:=
 match a,b with
 |.v (.int k m),.v (.int c n)=>if Gz op then J3 (YV op k m n) (λv=>K (.v v)) else k=c/\J3 (dZ op k m n) (λv=>K (.v v))
 |.v (.string s),.v (.string u)=>J3 (A2p op s u) (λv=>K (.v v))
 |.v (.bool p),.v (.bool q)=>(∃i,T ty=some i/\i.d=.bool)/\(match op with|.eql=>K (.v (.bool (p==q)))|.neq=>K (.v (.bool (!(p==q))))|_=>False)
 |a,b=>match T ty with
  |some i=>match xA i.d a b with
   |some q=>(match op with|.eql=>K (.v (.bool q))|.neq=>K (.v (.bool (!q)))|_=>False)
   |none=>False
  |none=>False
def A5e{a b:Int}(c:Gz op=false)(h:dZ op k a b=some v)(ty:TypeId)(w:World):(binOp op ty (.int k a) (.int k b)).run P w=.ok v w:=by
 cases op<;>simp[dZ,Gz]at h c<;>try (subst h;simp[binOp,Op.intArith,Op.intBits,Op.intCmp];done)
 ·obtain⟨h1,rfl⟩:=h;simp[binOp,Op.intDiv,h1]
 ·obtain⟨h1,rfl⟩:=h;simp[binOp,Op.intDiv,h1]
def R'{k c:IntKind}{a b:Int}(h:YV op k a b=some v)(ty:TypeId)(w:World):(binOp op ty (.int k a) (.int c b)).run P w=.ok v w:=by
 unfold YV at h;split at h
 ·cases h
 ·rename_i hb;cases op<;>simp at h<;>(subst h;simp[binOp,Op.shift,hb])
def A58{a b:ByteArray}(h:A2p op a b=some v)(ty:TypeId)(w:World):(binOp op ty (.string a) (.string b)).run P w=.ok v w:=by
 cases op<;>simp only[A2p]at h<;>try (simp at h;done)
 ·split at h
  ·cases h
  ·rename_i hb;injection h with h;subst h;simp only[binOp,Op.stringOp,Co hb];rfl
 all_goals (injection h with h;subst h;rfl)
def A5L{c:Prop}[Decidable c]{x y z:α}(h1:x=z)(h2:y=z):(if c then x else y)=z:=by split<;>assumption
def dD{ty:TypeId}{x y:Operand}{a b:Value}(w:World)(h:(∀xs c,a=.agg xs->b=.agg c->False)/\¬(a=.nilIface/\b=.nilIface)):(eqGuard op ty x y a b).run P w=.ok () w:=by
 unfold eqGuard;rw[Sem.run_ite];refine A5L (by simp) ?_;split
 ·exact absurd ⟨rfl,rfl⟩ h.2
 ·exact(h.1 _ _ rfl rfl).elim
 ·rfl
def hM{T:Ty}(D:Y8 P T){C:Ctx}{w:World}{ty:TypeId}{a b:AV}{y z:Value}{K:AV->Prop}(H J:Operand)(f:VRel C w a y)(hb:VRel C w b z)(h:hY T op ty a b K):
 ∃v u,(do eqGuard op ty H J y z;binOp op ty y z).run P w=.ok u w/\VRel C w v u/\K v:=by
 have c:∀{u:Value},((∀xs B,y=.agg xs->z=.agg B->False)/\¬(y=.nilIface/\z=.nilIface))->(binOp op ty y z).run P w=.ok u w->(do eqGuard op ty H J y z;binOp op ty y z).run P w=.ok u w:=by
  intro u g hr;rw[Cr,dD w g];simpa using hr
 unfold hY at h;split at h
 ·rename_i k m L n;obtain rfl:=A6.1 f;obtain rfl:=A6.1 hb;split at h
  ·rename_i F;unfold J3 at h;split at h
   ·rename_i v hv;exact⟨_,_,c ⟨by simp,by simp⟩ (R' hv ty w),.v _,h⟩
   ·exact h.elim
  ·rename_i F;obtain⟨rfl,h⟩:=h;unfold J3 at h;split at h
   ·rename_i v hv;exact⟨_,_,c ⟨by simp,by simp⟩ (A5e (by simpa using F) hv ty w),.v _,h⟩
   ·exact h.elim
 ·obtain rfl:=A6.1 f;obtain rfl:=A6.1 hb;unfold J3 at h;split at h
  ·rename_i v hv;exact⟨_,_,c ⟨by simp,by simp⟩ (A58 hv ty w),.v _,h⟩
  ·exact h.elim
 ·rename_i p q;obtain rfl:=A6.1 f;obtain rfl:=A6.1 hb;obtain⟨⟨i,t,s⟩,h⟩:=h;obtain⟨u,x,e⟩:=(D ty i t).under;have A:u=.bool:=by rw[s]at e;cases u<;>simp[td]at e;rfl
  subst A;have he:(Op.equal ty (.bool p) (.bool q)).run P w=.ok (p==q) w:=by
   show(Op.equalIn (9999+1) ty _ _).run P w=_;unfold Op.equalIn;rw[Cr,run_underlying x w];rfl
  cases op<;>simp only at h<;>try exact h.elim
  ·exact⟨_,_,c ⟨by simp,by simp⟩ (by simp[binOp,he]),.v _,h⟩
  ·exact⟨_,_,c ⟨by simp,by simp⟩ (by simp[binOp,he]),.v _,h⟩
 ·split at h
  ·rename_i i t;split at h
   ·rename_i q hq;obtain⟨u,x,e⟩:=(D ty i t).under;have key:(Op.equal ty y z).run P w=.ok q w/\((∀xs B,y=.agg xs->z=.agg B->False)/\¬(y=.nilIface/\z=.nilIface))/\(binOp .eql ty y z=(do pure (.bool (<-Op.equal ty y z))))/\(binOp .neq ty y z=(do pure (.bool (!(<-Op.equal ty y z))))):=by
     unfold xA at hq;split at hq<;>first
      |(have s:=‹i.d=_›
        injection hq with hq;subst hq
        rw[s]at e;cases u<;>simp[td]at e
        cases f<;>cases hb<;>(refine⟨by(show(Op.equalIn (9999+1) ty _ _).run P w=_);unfold Op.equalIn;rw[Cr,run_underlying x w];rfl,⟨by simp,by simp⟩,rfl,rfl⟩))
      |(cases hq;done)
    obtain⟨he,g,j,r⟩:=key;cases op<;>simp only at h<;>try exact h.elim
    ·exact⟨_,_,c g (by rw[j];simp[he]),.v _,h⟩
    ·exact⟨_,_,c g (by rw[r];simp[he]),.v _,h⟩
   ·exact h.elim
  ·exact h.elim
end
section
variable{a:AV}{K:AV->Prop}{C:Ctx}{esz f:Nat}{P:Program}{i:TI}{e t:TypeId}{y:Value}{w:World}
def xun(op:UnOp)(a:AV)(K:AV->Prop):Prop:=
 match op,a with
 |.neg,.v (.int k n)=>K (.v (.int k (k.wrap (0-n))))
 |.xor,.v (.int k n)=>K (.v (.int k (k.wrap ((BitVec.ofInt k.bits (if k.signed then-1 else k.max)^^^BitVec.ofInt k.bits n).toNat))))
 |.not,.v (.bool b)=>K (.v (.bool !b))
 |_,_=>False
def A1U{op:UnOp}(c:VRel C w a y)(h:xun op a K):∃v u,(Op.unary op y).run P w=.ok u w/\VRel C w v u/\K v:=by
 unfold xun at h;split at h
 ·obtain rfl:=A6.1 c;exact⟨_,_,rfl,.v _,h⟩
 ·obtain rfl:=A6.1 c;exact⟨_,_,rfl,.v _,h⟩
 ·obtain rfl:=A6.1 c;exact⟨_,_,rfl,.v _,h⟩
 ·exact h.elim
def A3P(a:AV)(K:AV->Prop):Prop:=
 match a with
 |.ptr .. =>K a
 |.iptr .. =>K a
 |.fn (.func _) _ _=>K a
 |.fn (.yield _) _ _=>K a
 |_=>False
def oV(T:Ty)(src dst:TypeId)(a:AV)(K:AV->Prop):Prop:=
 match T src,T dst with
 |some i,some j=>match j.d,a with
  |.int k,.v (.int _ n)=>K (.v (.int k (k.wrap n)))
  |.string,.v (.string s)=>(match i.d with|.string=>True|_=>False)/\K (.v (.string s))
  |_,_=>False
 |_,_=>False
def vG{T:Ty}(r:Y8 P T){src dst:TypeId}(x:VRel C w a y)(h:oV T src dst a K):∃v u,(convert src dst y).run P w=.ok u w/\VRel C w v u/\K v:=by
 unfold oV at h;split at h
 ·rename_i i j A D;obtain⟨u1,g,F⟩:=(r src i A).under;obtain⟨p,m,d⟩:=(r dst j D).under;split at h
  ·rename_i k _ n q;obtain rfl:=A6.1 x;rw[q]at d;have c:p=.int k:=by cases p<;>simp[td]at d;rw[d]
   subst c;refine⟨_,_,?_,.v _,h⟩;unfold convert;rw[Cr,run_underlying g w];simp only[Eu,Cr,run_underlying m w];rfl
  ·rename_i s q;obtain rfl:=A6.1 x;obtain⟨B,h⟩:=h;rw[q]at d;have c:p=.string:=by cases p<;>simp[td]at d;rfl
   subst c;refine⟨_,_,?_,.v _,h⟩;unfold convert;rw[Cr,run_underlying g w];simp only[Eu,Cr,run_underlying m w];rfl
  ·exact h.elim
 ·exact h.elim
def YG(T:Ty)(ty:TypeId)(a:AV)(f:Nat)(K:AV->Prop):Prop:=
 match T ty with
 |some i=>match i.d with
  |.struct h=>match h[f]? with
   |some (off,sz,_)=>sz≠0/\(match a with
    |.ptr r p k=>∃g c,g+c=p+(k+off)/\K (.ptr r g c)
    |.iptr cs=>K (.iptr (cs.drop off))
    |_=>False)
   |none=>False
  |_=>False
 |none=>False
def Zo{cs:Is}{b o:Nat}(h:VRel C w (.iptr cs) (.pointer (some ⟨b,o,none⟩)))(k:Nat):VRel C w (.iptr (cs.drop k)) (.pointer (some ⟨b,o+k,none⟩)):=by
 cases h with
 |iptr vs d hc hv=>
  refine .iptr (λi=>vs (k+i)) (λi c=>?_) (λi c=>?_) (λi c=>?_)
  ·rw[WE];exact d _ (by simp at c;omega)
  ·rw[WE];exact hc _ (by simp at c;omega)
  ·rw[List.getElem_drop];exact hv _ (by simp at c;omega)
def pU{cs:Is}{b o:Nat}(h:VRel C w (.iptr cs) (.pointer (some ⟨b,o,none⟩)))(k:Nat):VRel C w (.iptr (cs.take k)) (.pointer (some ⟨b,o,none⟩)):=by
 cases h with
 |iptr vs d hc hv=>
  refine .iptr vs (λi c=>?_) (λi c=>?_) (λi c=>?_)
  ·exact d _ (by simp at c;omega)
  ·exact hc _ (by simp at c;omega)
  ·rw[List.getElem_take];exact hv _ (by simp at c;omega)
def kM{cs:Is}(h:VRel C w (.iptr cs) y):∃b o,y=.pointer (some ⟨b,o,none⟩):=by
 cases h with
 |iptr vs c hc hv=>exact⟨_,_,rfl⟩
def B2(w:World)(h:P.cellsOf t≠0):(sizeOf t).run P w=.ok (P.cellsOf t) w:=by
 unfold Program.cellsOf at h⊢;cases c:P.info? t with
 |none=>rw[c]at h;simp at h
 |some x=>simp[sizeOf,typeInfo,c]
def rO{T:Ty}(p:Y8 P T){ty:TypeId}(k:VRel C w a y)(h:YG T ty a f K):∃v u,(Instr.fieldAt ty y f).run P w=.ok u w/\VRel C w v u/\K v:=by
 unfold YG at h;split at h
 ·rename_i i r;obtain⟨u1,m,g⟩:=(p ty i r).under;split at h
  ·rename_i B q;split at h
   ·rename_i off sz ft d;obtain⟨hsz,h⟩:=h;rw[q]at g;cases u1<;>simp[td]at g
    rename_i fields;subst g;rw[pS]at d;cases c:fields.toList[f]? with
    |none=>rw[c]at d;simp at d
    |some fd=>
     rw[c]at d;simp at d;obtain⟨g,n,A⟩:=d;have j:fields[f]?=some fd:=by simpa using c
     have x:(sizeOf fd.type).run P w=.ok sz w:=by rw[<-n];exact B2 w (by rw[n];exact hsz)
     have run:∀b o,(Instr.fieldAt ty (.pointer (some ⟨b,o,none⟩)) f).run P w=.ok (.pointer (some ⟨b,o+off,none⟩)) w:=by
      intro b o;simp[Instr.fieldAt,run_underlying m,j,Instr.sureAddr,fieldPlace,x,hsz,HQ,g]
     split at h
     ·cases k with
      |ptr s=>
       obtain⟨F,D,he,h⟩:=h;exact⟨_,_,run _ _,by rw[WE,WE,<-he];exact .ptr s,h⟩
     ·obtain⟨b,o,rfl⟩:=kM k;exact⟨_,_,run _ _,Zo k _,h⟩
     ·exact h.elim
   ·exact h.elim
  ·exact h.elim
 ·exact h.elim
def hC(T:Ty)(ty:TypeId)(a:AV)(f:Nat)(K:AV->Prop):Prop:=
 match T ty with
 |some i=>match i.d,a with
  |.struct c,.agg cs=>match c[f]? with
   |some (off,_,ft)=>UR T ft (cs.drop off) K
   |none=>False
  |_,_=>False
 |none=>False
def wC{T:Ty}(q:Y8 P T){ft:TypeId}{off:Nat}{cs:Is}{ys:Hx}(n:BU C w cs ys)(h:UR T ft (cs.drop off) K):
 ∃v u,(part ft ys.toArray off).run P w=.ok u w/\VRel C w v u/\K v:=by
 unfold UR at h;cases k:T ft with
 |none=>rw[k]at h;exact h.elim
 |some i=>
  rw[k]at h;have ok:=q ft i k;simp only at h;by_cases g:i.d.isAgg=true
  ·rw[CJ g]at h;refine⟨_,.agg ((ys.drop off).take i.size).toArray,?_,D5.2 ⟨_,rfl,(n.drop off).take _⟩,h.2⟩;simp only[part,Cr,ok.run_isAgg,g,ok.run_size,Eu,if_true,Zn]
   congr 2
   apply fB;simp[List.take_drop]
  ·rw[Co g]at h;have j:i.d.isAgg=false:=by simpa using g
   cases hc:cs.drop off with
   |nil=>rw[hc]at h;exact h.elim
   |cons c p=>
    rw[hc]at h;have m:=n.drop off;rw[hc]at m;obtain⟨y,s,e,hv,_⟩:=m.cons_inv;have r:ys.toArray[off]?=some y:=by
     have:(ys.drop off)[0]?=some y:=by rw[e];rfl
     rw[fX]at this;simpa using this
    exact⟨c,y,by simp[part,ok.run_isAgg,j,r],hv,h⟩
def rN{T:Ty}(m:Y8 P T){ty:TypeId}(q:VRel C w a y)(h:hC T ty a f K):∃v u,(Instr.field ty y f).run P w=.ok u w/\VRel C w v u/\K v:=by
 unfold hC at h;split at h
 ·rename_i i s;obtain⟨u1,k,g⟩:=(m ty i s).under;split at h
  ·rename_i B cs r;split at h
   ·rename_i off sz ft d;rw[r]at g;cases u1<;>simp[td]at g
    rename_i fields;subst g;rw[pS]at d;cases c:fields.toList[f]? with
    |none=>rw[c]at d;simp at d
    |some fd=>
     rw[c]at d;simp at d;obtain⟨g,A,n⟩:=d;have j:fields[f]?=some fd:=by simpa using c
     obtain⟨D,rfl,x⟩:=D5.1 q;obtain⟨v,u,h1,h2,p⟩:=wC (P:=P) m x h;refine⟨v,u,?_,h2,p⟩;simp[Instr.field,run_underlying k,j,asAgg,g,n,h1]
   ·exact h.elim
  ·exact h.elim
 ·exact h.elim
def gZ(T:Ty)(ty:TypeId)(a i:AV)(K:AV->Prop):Prop:=
 match T ty,i with
 |some h,.v (.int _ n)=>match h.d,a with
  |.slice _ esz,.list m cs=>(0<=n/\n<m)/\K (.iptr ((cs.drop (n.toNat*esz)).take esz))
  |.slice _ esz,.sl _ r o m=>(0<=n/\n<m)/\K (.ptr r (o+n.toNat*esz) 0)
  |.array m _ esz,.ptr r p k=>(0<=n/\n<m)/\∃g c,g+c=p+(k+n.toNat*esz)/\K (.ptr r g c)
  |.array m _ esz,.iptr cs=>(0<=n/\n<m)/\K (.iptr ((cs.drop (n.toNat*esz)).take esz))
  |_,_=>False
 |_,_=>False
def TOk1.elem_slice(h:TOk1 P t i)(g:i.d=.slice e esz):P.underlying t=some (.slice e)/\P.cellsOf e=esz:=by
 obtain⟨u,j,c⟩:=h.under;rw[g]at c;cases u<;>simp[td]at c
 rw[j,c.1];exact⟨rfl,c.1▸c.2⟩
def TOk1.elem_array(h:TOk1 P t i){n:Nat}(g:i.d=.array n e esz):P.underlying t=some (.array n e)/\P.cellsOf e=esz:=by
 obtain⟨u,j,c⟩:=h.under;rw[g]at c;cases u<;>simp[td]at c
 rw[j,c.1,c.2.1];exact⟨rfl,c.2.1▸c.2.2⟩
def rM{T:Ty}(J:Y8 P T)(A:∀t i e esz,T t=some i->(i.d=.slice e esz\/∃n,i.d=.array n e esz)->esz≠0){ty:TypeId}{a i:AV}{y z:Value}(q:VRel C w a y)(M:VRel C w i z)(h:gZ T ty a i K):
 ∃v u,(Instr.indexAt ty y z).run P w=.ok u w/\VRel C w v u/\K v:=by
 unfold gZ at h;split at h
 ·rename_i x k n g;obtain rfl:=A6.1 M;have ok:=J ty x g;split at h
  ·rename_i e esz m cs c;obtain⟨j,hc⟩:=ok.elem_slice c;have hsz:(sizeOf e).run P w=.ok esz w:=by rw[<-hc];exact B2 w (by rw[hc];exact A ty x e esz g (.inl c))
   obtain⟨hb,h⟩:=h;cases q with
   |list0=>omega
   |list s vs H B hv=>
    refine⟨_,_,?_,pU (Zo (.iptr vs H B hv) _) _,h⟩;simp[Instr.indexAt,asIntOf,run_underlying j,hb,hsz,HQ]
  ·rename_i e esz sz r o m c;obtain⟨j,hc⟩:=ok.elem_slice c;have hsz:(sizeOf e).run P w=.ok esz w:=by rw[<-hc];exact B2 w (by rw[hc];exact A ty x e esz g (.inl c))
   obtain⟨hb,h⟩:=h;cases q with
   |slz=>omega
   |sl D s L F=>
    refine⟨_,_,?_,.ptr D,h⟩;simp[Instr.indexAt,asIntOf,run_underlying j,hb,hsz,HQ,WE]
  ·rename_i m e esz r p kk c;obtain⟨j,hc⟩:=ok.elem_array c;have hsz:(sizeOf e).run P w=.ok esz w:=by rw[<-hc];exact B2 w (by rw[hc];exact A ty x e esz g (.inr ⟨m,c⟩))
   obtain⟨hb,h⟩:=h;cases q with
   |ptr D=>
    obtain⟨O,N,he,h⟩:=h;refine⟨_,_,?_,.ptr D,h⟩;simp[Instr.indexAt,asIntOf,run_underlying j,hb,hsz,HQ,he,WE,Instr.sureAddr]
  ·rename_i m e esz cs c;obtain⟨j,hc⟩:=ok.elem_array c;have hsz:(sizeOf e).run P w=.ok esz w:=by rw[<-hc];exact B2 w (by rw[hc];exact A ty x e esz g (.inr ⟨m,c⟩))
   obtain⟨hb,h⟩:=h;obtain⟨b,o,rfl⟩:=kM q;refine⟨_,_,?_,pU (Zo q _) _,h⟩;simp[Instr.indexAt,asIntOf,run_underlying j,hb,hsz,HQ,Instr.sureAddr]
  ·exact h.elim
 ·exact h.elim
def gY(T:Ty)(ty:TypeId)(a i:AV)(K:AV->Prop):Prop:=
 match T ty,i with
 |some c,.v (.int _ n)=>match c.d,a with
  |.string,.v (.string s)=>(0<=n/\n<s.size)/\K (.v (.int .u8 (s.data.toList.getD n.toNat 0).toNat))
  |.array m e esz,.agg cs=>(0<=n/\n<m)/\UR T e (cs.drop (n.toNat*esz)) K
  |_,_=>False
 |_,_=>False
def rL{T:Ty}(x:Y8 P T)(F:∀t i e esz,T t=some i->(i.d=.slice e esz\/∃n,i.d=.array n e esz)->esz≠0){ty:TypeId}{a i:AV}{y z:Value}(A:VRel C w a y)(H:VRel C w i z)(h:gY T ty a i K):
 ∃v u,(Instr.index ty y z).run P w=.ok u w/\VRel C w v u/\K v:=by
 unfold gY at h;split at h
 ·rename_i B k n g;obtain rfl:=A6.1 H;have ok:=x ty B g;split at h
  ·rename_i s j;obtain⟨u,p,r⟩:=ok.under;rw[j]at r;have q:u=.string:=by cases u<;>simp[td]at r;rfl
   subst q;obtain rfl:=A6.1 A;obtain⟨hb,h⟩:=h;refine⟨_,_,?_,.v _,h⟩;have c:n.toNat<s.size:=by omega
   have L:s[n.toNat]?=some s[n.toNat]:=by simp[c]
   have M:s.data.toList.getD n.toNat 0=s[n.toNat]:=by
    rw[Tc,II (by simpa using c)];rfl
   rw[M];simp[Instr.index,asIntOf,run_underlying p,hb.1,L]
  ·rename_i m e esz cs j;obtain⟨p,hc⟩:=ok.elem_array j;have hsz:(sizeOf e).run P w=.ok esz w:=by rw[<-hc];exact B2 w (by rw[hc];exact F ty B e esz g (.inr ⟨m,j⟩))
   obtain⟨hb,h⟩:=h;obtain⟨N,rfl,J⟩:=D5.1 A;obtain⟨v,u,h1,h2,D⟩:=wC (P:=P) x J h;refine⟨v,u,?_,h2,D⟩;simp[Instr.index,asIntOf,run_underlying p,hb,hsz,h1]
  ·exact h.elim
 ·exact h.elim
end
section
variable{a:AV}{C:Ctx}{hi lo mx:Option AV}{yh yl ym:Option Value}{P:Program}{y:Value}{w:World}
def B5j:AV->Option Int
 |.v (.int _ n)=>some n
 |_=>none
def V7:Option AV->Nat->Option Int
 |none,d=>some d
 |some a,_=>B5j a
def gW(T:Ty)(ty:TypeId)(a:AV)(lo hi mx:Option AV)(K:AV->Prop):Prop:=
 match T ty with
 |some e=>match e.d,a with
  |.string,.v (.string s)=>mx.isNone=true/\J3 (V7 lo 0) λl=>J3 (V7 hi s.size) λh=>(0<=l/\l<=h/\h<=s.size)/\K (.v (.string (s.extract l.toNat h.toNat)))
  |.slice _ c,.list m cs=>J3 (V7 lo 0) λl=>J3 (V7 hi m) λh=>J3 (V7 mx m) λx=>(0<=l/\l<=h/\h<=x/\x<=m)/\(mx.isSome=true->hi.isSome=true)/\K (.list (h-l).toNat ((cs.drop (l.toNat*c)).take ((h-l).toNat*c)))
  |.slice _ c,.sl sz r o m=>c=sz/\J3 (V7 lo 0) λl=>J3 (V7 hi m) λh=>J3 (V7 mx m) λx=>(0<=l/\l<=h/\h<=x/\x<=m)/\(mx.isSome=true->hi.isSome=true)/\K (.sl sz r (o+l.toNat*c) (h-l).toNat)
  |.slice _ _,.v (.slice none 0 0)=>J3 (V7 lo 0) λl=>J3 (V7 hi 0) λh=>mx.isNone=true/\(l=0/\h=0)/\K (.v (.slice none 0 0))
  |_,_=>False
 |none=>False
def ZJ{n:Int}(h:VRel C w a y)(hb:B5j a=some n){c:Nat}(d:0<=n)(h1:n<=c)(code:BoundsCode):(Instr.sliceBound y c code).run P w=.ok n.toNat w:=by
 unfold B5j at hb;split at hb
 ·rename_i k m;injection hb with hb
  subst hb;obtain rfl:=A6.1 h;simp[Instr.sliceBound,asIntOf,d,h1]
 ·cases hb
def uK(C:Ctx)(w:World):Option AV->Option Value->Prop
 |none,none=>True
 |some a,some y=>VRel C w a y
 |_,_=>False
def PV(c:uK C w lo yl)(i:uK C w hi yh)(hm:uK C w mx ym){isS:Bool}{len cap:Nat}{l h x:Int}(hc:len<=cap)(s:V7 lo 0=some l)(r:V7 hi len=some h)(bx:V7 mx cap=some x)(hb:0<=l/\l<=h/\h<=x/\x<=cap)(p:mx.isSome=true->hi.isSome=true):
 (Instr.sliceBounds isS len cap yl yh ym).run P w=.ok (l.toNat,h.toNat,x.toNat) w:=by
 have h1:∀(a:AV)(y:Value),mx=some a->VRel C w a y->∀code,(Instr.sliceBound y cap code).run P w=.ok x.toNat w:=λa y e hv code=>by
  subst e;exact ZJ hv bx (by omega) (by omega) _
 have h2:∀(a:AV)(y:Value),hi=some a->VRel C w a y->∀code,(Instr.sliceBound y x.toNat code).run P w=.ok h.toNat w:=λa y e hv code=>by
  subst e;exact ZJ hv r (by omega) (by omega) _
 have n:∀(a:AV)(y:Value),lo=some a->VRel C w a y->∀code,(Instr.sliceBound y h.toNat code).run P w=.ok l.toNat w:=λa y e hv code=>by
  subst e;exact ZJ hv s (by omega) (by omega) _
 have j:mx=none->x.toNat=cap:=λe=>by subst e;simp[V7]at bx;omega
 have k:hi=none->h.toNat=len:=λe=>by subst e;simp[V7]at r;omega
 have d:lo=none->l.toNat=0:=λe=>by subst e;simp[V7]at s;omega
 cases mx with
 |none=>
  cases ym with
  |some _=>exact hm.elim
  |none=>
   have g:=j rfl;cases hi with
   |none=>
    cases yh with
    |some _=>exact i.elim
    |none=>
     have t:=k rfl;cases lo with
     |none=>
      cases yl with
      |some _=>exact c.elim
      |none=>simp[Instr.sliceBounds,g,t,d rfl]
     |some a=>
      cases yl with
      |none=>exact c.elim
      |some y=>have:=n a y rfl c;simp only[Instr.sliceBounds,pure_bind,Cr,Option.isSome_none,mL,if_false,<-g,<-t,this,Eu,Zn]
   |some b=>
    cases yh with
    |none=>exact i.elim
    |some z=>
     have f:=h2 b z rfl i;rw[g]at f;cases lo with
     |none=>
      cases yl with
      |some _=>exact c.elim
      |none=>simp[Instr.sliceBounds,g,d rfl,f]
     |some a=>
      cases yl with
      |none=>exact c.elim
      |some y=>have:=n a y rfl c;simp only[Instr.sliceBounds,pure_bind,Cr,Option.isSome_none,mL,if_false,g,f,this,Eu,Zn]
 |some m=>
  cases ym with
  |none=>exact hm.elim
  |some q=>
   have u:=h1 m q rfl hm;cases hi with
   |none=>simp at p
   |some b=>
    cases yh with
    |none=>exact i.elim
    |some z=>
     have f:=h2 b z rfl i;cases lo with
     |none=>
      cases yl with
      |some _=>exact c.elim
      |none=>simp[Instr.sliceBounds,d rfl,u,f]
     |some a=>
      cases yl with
      |none=>exact c.elim
      |some y=>have:=n a y rfl c;simp only[Instr.sliceBounds,Cr,Option.isSome_some,if_true,u,f,this,Eu,Zn]
def A5z{n cap:Nat}{cs:Is}{b o:Nat}(h:VRel C w (.list n cs) (.slice (some ⟨b,o,none⟩) n cap))(k m c:Nat)(j:Nat)(hm:m<=c):VRel C w (.list m ((cs.drop k).take j)) (.slice (some ⟨b,o+k,none⟩) m c):=by
 cases h with
 |list0=>
  refine .list hm (λ_=>undef) (λi hi=>?_) (λi hi=>?_) (λi hi=>?_)<;>simp at hi
 |list hc vs e d hv=>
  refine .list hm (λi=>vs (k+i)) (λi hi=>?_) (λi hi=>?_) (λi hi=>?_)
  ·rw[WE];exact e _ (by simp at hi;omega)
  ·rw[WE];exact d _ (by simp at hi;omega)
  ·rw[List.getElem_take,List.getElem_drop];exact hv _ (by simp at hi;omega)
def rK{T:Ty}(hT:Y8 P T)(hP:∀t i e c,T t=some i->(i.d=.slice e c\/∃n,i.d=.array n e c)->c≠0){ty:TypeId}{K:AV->Prop}(O:VRel C w a y)(Y:uK C w lo yl)(X:uK C w hi yh)(hm:uK C w mx ym)(h:gW T ty a lo hi mx K):∃v u,(Instr.sliceAt ty y yl yh ym).run P w=.ok u w/\VRel C w v u/\K v:=by
 unfold gW at h;split at h
 ·rename_i ti N;have ok:=hT ty ti N;have aa:∀u,P.underlying ty=some u->(∀n e,u≠.array n e)->Instr.sliceAt ty y yl yh ym=Instr.sliceAt ty y yl yh ym:=λ_ _ _=>rfl;split at h
  ·rename_i s M;obtain⟨u,J,e1⟩:=ok.under;rw[M]at e1;have af:u=.string:=by cases u<;>simp[td]at e1;rfl
   subst af;obtain rfl:=A6.1 O;obtain⟨hn,h⟩:=h;cases mx with
   |some _=>simp at hn
   |none=>
    cases ym with
    |some _=>exact hm.elim
    |none=>
     cases g:V7 lo 0 with
     |none=>rw[g]at h;exact h.elim
     |some l=>
      rw[g]at h;cases f:V7 hi s.size with
      |none=>rw[f]at h;exact h.elim
      |some ag=>
       rw[f]at h;simp only[J3]at h;obtain⟨hb,h⟩:=h;have k:=PV (P:=P) (isS:=false) Y X hm (MZ s.size) g f (show V7 none s.size=some (s.size:Int) from rfl) ⟨hb.1,hb.2.1,hb.2.2,Int.le_refl _⟩ (by simp);refine⟨_,_,?_,.v _,h⟩;unfold Instr.sliceAt;rw[Cr,run_underlying J w];simp only[Eu];unfold Instr.slice;rw[Cr,run_underlying J w];simp only[Eu,Option.isSome_none,mL,if_false];rw[Cr,k];rfl
  ·rename_i e c m cs M;obtain⟨J,hc⟩:=ok.elem_slice M;have hsz:(sizeOf e).run P w=.ok c w:=by rw[<-hc];exact B2 w (by rw[hc];exact hP ty ti e c N (.inl M))
   cases g:V7 lo 0 with
   |none=>rw[g]at h;exact h.elim
   |some l=>
    rw[g]at h;cases f:V7 hi m with
    |none=>rw[f]at h;exact h.elim
    |some h1=>
     rw[f]at h;cases p:V7 mx m with
     |none=>rw[p]at h;exact h.elim
     |some x=>
      rw[p]at h;simp only[J3]at h;obtain⟨hb,Q,h⟩:=h;obtain⟨B,cap,rfl,j⟩:∃B cap,y=.slice B m cap/\m<=cap:=by
       cases O with
       |list0=>exact⟨_,_,rfl,xQ _⟩
       |list j=>exact⟨_,_,rfl,j⟩
      obtain⟨q,D,L⟩:∃q:Int,V7 mx cap=some q/\h1<=q/\q<=cap:=by
       cases mx with
       |none=>exact⟨cap,rfl,by simp[V7]at p;omega,Int.le_refl _⟩
       |some mm=>exact⟨x,p,by omega,by omega⟩
      have k:=PV (P:=P) (isS:=true) Y X hm j g f D ⟨hb.1,hb.2.1,L.1,L.2⟩ Q;have A:(Instr.sliceAt ty (.slice B m cap) yl yh ym).run P w=.ok (.slice (if q.toNat=l.toNat then B else B.map (·.add (l.toNat*c))) (h1.toNat-l.toNat) (q.toNat-l.toNat)) w:=by
       unfold Instr.sliceAt;rw[Cr,run_underlying J w];simp only[Eu];unfold Instr.slice;rw[Cr,run_underlying J w];simp only[Eu];rw[Cr,k];simp only[Eu];rw[Cr,hsz];rfl
      refine⟨_,_,A,?_,h⟩;have H:h1.toNat-l.toNat=(h1-l).toNat:=by omega
      rw[H];by_cases hz:(h1-l).toNat=0
      ·rw[hz];simp;exact .list0
      ·have ae:q.toNat≠l.toNat:=by omega
       rw[Co ae];cases O with
       |list0=>omega
       |list F vs hF ac hv=>
        simp only[oH,HQ];exact A5z (.list F vs hF ac hv) _ _ _ _ (by omega)
  ·rename_i e c sz r o m M;obtain⟨J,hc⟩:=ok.elem_slice M;have hsz:(sizeOf e).run P w=.ok c w:=by rw[<-hc];exact B2 w (by rw[hc];exact hP ty ti e c N (.inl M))
   obtain⟨rfl,h⟩:=h;cases g:V7 lo 0 with
   |none=>rw[g]at h;exact h.elim
   |some l=>
    rw[g]at h;cases f:V7 hi m with
    |none=>rw[f]at h;exact h.elim
    |some h1=>
     rw[f]at h;cases p:V7 mx m with
     |none=>rw[p]at h;exact h.elim
     |some x=>
      rw[p]at h;simp only[J3]at h;obtain⟨hb,Q,h⟩:=h;obtain⟨B,cap,rfl,j⟩:∃B cap,y=.slice B m cap/\m<=cap:=by
       cases O with
       |slz=>exact⟨_,_,rfl,xQ _⟩
       |sl Z j R V=>exact⟨_,_,rfl,j⟩
      obtain⟨q,D,L⟩:∃q:Int,V7 mx cap=some q/\h1<=q/\q<=cap:=by
       cases mx with
       |none=>exact⟨cap,rfl,by simp[V7]at p;omega,Int.le_refl _⟩
       |some mm=>exact⟨x,p,by omega,by omega⟩
      have k:=PV (P:=P) (isS:=true) Y X hm j g f D ⟨hb.1,hb.2.1,L.1,L.2⟩ Q;have A:(Instr.sliceAt ty (.slice B m cap) yl yh ym).run P w=.ok (.slice (if q.toNat=l.toNat then B else B.map (·.add (l.toNat*c))) (h1.toNat-l.toNat) (q.toNat-l.toNat)) w:=by
       unfold Instr.sliceAt;rw[Cr,run_underlying J w];simp only[Eu];unfold Instr.slice;rw[Cr,run_underlying J w];simp only[Eu];rw[Cr,k];simp only[Eu];rw[Cr,hsz];rfl
      refine⟨_,_,A,?_,h⟩;have H:h1.toNat-l.toNat=(h1-l).toNat:=by omega
      rw[H];by_cases hz:q.toNat=l.toNat
      ·have h0:(h1-l).toNat=0:=by omega
       have ab:q.toNat-l.toNat=0:=by omega
       rw[h0,ab];cases O with
       |slz hr=>exact .slz hr
       |sl Z=>exact .slz (by rw[Z];simp)
      ·rw[Co hz];cases O with
       |slz hr=>
        exact absurd (by omega) hz
       |sl Z F R V=>
        simp only[oH,HQ,WE];refine .sl Z (by omega) R ?_;have h3:(q.toNat-l.toNat)*c+l.toNat*c=q.toNat*c:=by rw[<-B!];congr 1;omega
        have h4:q.toNat*c<=cap*c:=l22 _ (by omega);omega
  ·rename_i e c M;obtain⟨J,hc⟩:=ok.elem_slice M;have hsz:(sizeOf e).run P w=.ok c w:=by rw[<-hc];exact B2 w (by rw[hc];exact hP ty ti e c N (.inl M))
   obtain rfl:=A6.1 O;cases g:V7 lo 0 with
   |none=>rw[g]at h;exact h.elim
   |some l=>
    rw[g]at h;cases f:V7 hi 0 with
    |none=>rw[f]at h;exact h.elim
    |some h1=>
     rw[f]at h;simp only[J3]at h;obtain⟨hn,⟨rfl,rfl⟩,h⟩:=h;cases mx with
     |some _=>simp at hn
     |none=>
      cases ym with
      |some _=>exact hm.elim
      |none=>
       have k:=PV (P:=P) (isS:=true) Y X hm (MZ 0) g f (show V7 none 0=some ((0:Nat):Int) from rfl) ⟨by omega,by omega,by omega,by omega⟩ (by simp);refine⟨_,_,?_,.v _,h⟩;unfold Instr.sliceAt;rw[Cr,run_underlying J w];simp only[Eu];unfold Instr.slice;rw[Cr,run_underlying J w];simp only[Eu];rw[Cr,k];simp only[Eu];rw[Cr,hsz];rfl
  ·exact h.elim
 ·exact h.elim
end
end Go.Abs
end
