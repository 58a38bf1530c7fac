import Derived.CallsIn
import Derived.Below
import Derived.Laws.Rows
import Derived.TacticsIn
/- Proved: ExchangeClosedCardSaid, the card of the law ExchangeClosed as the given rows state it (every draw that the row admits is answered as the law says). Conditions: none beyond the given statement's own; nothing is assumed ahead of it. -/
set_option linter.all false
set_option maxHeartbeats 100000000
noncomputable section
abbrev r_{p:Prop}(h:p):p:=h
def oK:=@List.flatMap_cons
def XS:=@List.map_append
def Ez:=@List.length_append
def Kk:=@Nat.zero_add
def oJ:=@List.take_succ_eq_append_getElem
def NT:=@List.getElem_mem
def wC:=@List.take_length
def Dn:=@Go.Sem.run_bind
def FY:=@Go.Result.andThen_ok
def kE:=@Nat.add_assoc
def xU:=@List.getElem?_map
def mJ:=@Go.Sem.run_pure
def qK:=@Array.ext'
def qJ:=@List.getElem?_drop
def UT:=@List.getD_eq_getElem?_getD
def KL:=@List.getElem?_eq_getElem
def zF:=@List.length_take
def G9:=@List.all_eq_true
def KT:=@List.mem_range
def zE:=@List.getElem?_eq_some_iff
def eK:=@List.append_assoc
def l0m:=@List.getElem?_append_left
def zD:=@List.getElem?_take
def l0o:=@List.getElem?_append_right
def l0p:=@List.ext_getElem?
def Mr:=@List.length_cons
def l0r:=@List.getElem?_cons_succ
def l0s:=@Array.getElem?_modify
def l0t:=@Go.World.cell?_of_block
def l0u:=@List.length_drop
def LH:=@Nat.le_refl
def KK:=@Bool.and_eq_true
def uQ:=@Bool.eq_iff_iff
def zC:=@Option.map_some
def l0z:=@Option.some.injEq
def xT:=@Bool.false_eq_true
def l15:=@List.getElem?_toArray
def rF:=@List.drop_eq_getElem_cons
def Rk:=@List.length_nil
def rE:=@Nat.beq_eq
def l19:=@Bool.not_eq_true'
def l1a:=@List.drop_drop
def l1b:=@Bool.true_and
def l1c:=@List.replicate_succ
def l1d:=@List.flatten_cons
def l1e:=@Nat.add_mul
def l1f:=@List.length_eq_one_iff
def l1g:=@Bool.and_true
def l1h:=@Nat.zero_le
def l1i:=@Bool.or_eq_true
def l1j:=@List.getElem?_eq_none
def Xe:=@Nat.blt_eq
def l1l:=@Nat.lt_irrefl
def l1m:=@List.mem_of_getElem?
def XC:=@List.map_cons
def fJ:=@Array.getD_eq_getD_getElem?
def l1p:=@Array.getElem?_eq_getElem
def l1q:=@Option.getD_some
def fG:=@Nat.le_trans
def rC:=@List.drop_zero
def US:=@List.append_nil
def l1u:=@Nat.le_succ
def l1v:=@Array.getElem?_eq_some_iff
def kD:=@Nat.ble_eq
def kC:=@List.eq_nil_of_length_eq_zero
def l1y:=@Function.comp_def
def Po:=@List.length_map
def Zy:=@Nat.eq_of_beq_eq_true
def l21:=@List.getElem?_cons_zero
def l22:=@Nat.min_eq_left
def mI:=@Int.toNat_natCast
def l25:=@List.take_of_length_le
def l26:=@List.pairwise_iff_getElem
def l27:=@Array.getElem?_toList
def l28:=@Nat.mul_le_mul_right
def l29:=@List.mem_of_mem_take
def Xd:=@List.mem_cons
def l2b:=@Option.some.inj
def l2c:=@Array.getElem?_push
def oI:=@Nat.mul_one
def oH:=@Nat.beq_refl
def PW:=@List.mem_map
def VO:=@List.getD_cons_zero
def VN:=@List.getD_cons_succ
def R':=@Eq.trans
def Zx:=@List.mem_append
def XR:=@List.mem_singleton
def l2l:=@List.flatMap_append
def l2m:=@List.filter_cons
def l2n:=@List.getElem_map
def oG:=@List.all_cons
def l2p:=@List.pairwise_cons
def l2q:=@Go.MapKept.run_getObj_map
def l2r:=@Nat.lt_of_lt_of_le
def l2s:=@Array.toList_push
def l2t:=@Array.toList_modify
def GI:=@decide_eq_true
def HN:=@decide_eq_false
def CD:=@if_neg
def Dr:=@if_pos
def l2y:=@of_decide_eq_true
def l2z:=@List.mem_filter
def l30:=@List.length_filter_le
def l32:=@List.take_append_of_le_length
def l34:=@List.drop_append_of_le_length
def l35:=@List.perm_ext_iff_of_nodup
def l36:=@List.nodup_append
def l37:=@Classical.byContradiction
def l38:=@List.take_append_drop
def l39:=@List.mem_flatMap
def l3a:=@List.all_nil
def l3b:=@List.nil_append
namespace Go.Abs
open Go.RowKit
abbrev Hx:=List Value
abbrev Hb:=List Nat
abbrev Ha:=List UInt8
inductive AV where
 |v (x:Value)
 |ptr (r p k:Nat)
 |iptr (cs:List AV)
 |list (n:Nat) (cs:List AV)
 |sl (sz r o n:Nat)
 |fn (f:Fn) (first cap:List AV)
 |agg (cs:List AV)
 |tup (vs:List AV)
 |mp (r:Nat)
 |imap (es:List (Value×AV))
 |yl (r:Nat)
 |it (r:Nat)
 |dk
abbrev IH:=List (Value×AV)
abbrev Is:=List AV
structure Ctx where
 π:Nat->Option (Option (Nat×Nat))
 F:Nat->Nat->Prop
 B:Nat->Prop
def Ctx.bare(C:Ctx):Ctx:={π:=λ_=>none,F:=C.F,B:=C.B}
inductive VRel:Ctx->World->AV->Value->Prop
 |v {C:Ctx} {w:World} (x:Value):VRel C w (.v x) x
 |ptr {C:Ctx} {w:World} {r p k b base:Nat} (h:C.π r=some (some (b,base))):VRel C w (.ptr r p k) (.pointer (some ⟨b,base+(p+k),none⟩))
 |iptr {C:Ctx} {w:World} {cs:Is} {b o:Nat} (vs:Nat->Value) (hF:∀i,i<cs.length->C.F b (o+i)) (hc:∀i,i<cs.length->w.cell? ⟨b,o+i,none⟩=some (vs i))
  (hv:∀i(hi:i<cs.length),VRel C.bare w cs[i] (vs i)):VRel C w (.iptr cs) (.pointer (some ⟨b,o,none⟩))
 |list0 {C:Ctx} {w:World} {cap:Nat} {a:Option Addr}:VRel C w (.list 0 []) (.slice a 0 cap)
 |list {C:Ctx} {w:World} {n cap:Nat} {cs:Is} {b o:Nat} (h:n<=cap) (vs:Nat->Value) (hF:∀i,i<cs.length->C.F b (o+i)) (hc:∀i,i<cs.length->w.cell? ⟨b,o+i,none⟩=some (vs i))
  (hv:∀i(hi:i<cs.length),VRel C.bare w cs[i] (vs i)):VRel C w (.list n cs) (.slice (some ⟨b,o,none⟩) n cap)
 |sl {C:Ctx} {w:World} {sz r o n b base cap:Nat} {arr:Array Value} {T:TypeId} {fz:Nat×Nat} (h:C.π r=some (some (b,base))) (hcap:n<=cap) (hb:w.heap[b]?=some (.cells arr T fz))
  (hsz:base+o+cap*sz<=arr.size):VRel C w (.sl sz r o n) (.slice (some ⟨b,base+o,none⟩) n cap)
 |slz {C:Ctx} {w:World} {sz r o:Nat} {a:Option Addr} (hr:C.π r≠none):VRel C w (.sl sz r o 0) (.slice a 0 0)
 |fn {C:Ctx} {w:World} {f:Fn} {fs cs:Is} (ys zs:Array Value) (hl:ys.size=fs.length) (hl':zs.size=cs.length) (hy:∀i(hi:i<fs.length),VRel C w fs[i] (ys.getD i undef))
  (hz:∀i(hi:i<cs.length),VRel C w cs[i] (zs.getD i undef)):VRel C w (.fn f fs cs) (.func f ys zs)
 |agg {C:Ctx} {w:World} {cs:Is} (ys:Array Value) (hl:ys.size=cs.length) (hy:∀i(hi:i<cs.length),VRel C w cs[i] (ys.getD i undef)):VRel C w (.agg cs) (.agg ys)
 |tup {C:Ctx} {w:World} {cs:Is} (ys:Array Value) (hl:ys.size=cs.length) (hy:∀i(hi:i<cs.length),VRel C w cs[i] (ys.getD i undef)):VRel C w (.tup cs) (.tuple ys)
 |mp {C:Ctx} {w:World} {r b base:Nat} (h:C.π r=some (some (b,base))):VRel C w (.mp r) (.map (some b))
 |imap {C:Ctx} {w:World} {es:IH} {b clock:Nat} (ms:Array MapEntry) (hB:C.B b) (hb:w.heap[b]?=some (.map ms clock)) (hl:ms.size=es.length) (hk:∀i(hi:i<es.length),(ms.getD i default).key=es[i].1)
  (hn:∀i j,i<j->j<ms.size->(ms.getD i default).born≠(ms.getD j default).born) (hc:∀i,i<ms.size->(ms.getD i default).born<clock)
  (hv:∀i(hi:i<es.length),VRel C.bare w es[i].2 (ms.getD i default).val):VRel C w (.imap es) (.map (some b))
 |yl {C:Ctx} {w:World} {r b base:Nat} (h:C.π r=some (some (b,base))):VRel C w (.yl r) (.func (.yield b) #[] #[])
 |it {C:Ctx} {w:World} {r b base:Nat} (h:C.π r=some (some (b,base))):VRel C w (.it r) (.pointer (some ⟨b,0,none⟩))
 |dk {C:Ctx} {w:World} (y:Value):VRel C w .dk y
structure Ext(O:Nat->Prop)(C:Ctx)(w:World)(C':Ctx)(w':World):Prop where
 π:∀r,C.π r≠none->C'.π r=C.π r
 F:∀b i,C.F b i->C'.F b i
 keep:∀b i,C.F b i->w'.cell? ⟨b,i,none⟩=w.cell? ⟨b,i,none⟩
 B:∀b,C.B b->C'.B b
 keepB:∀b,C.B b->w'.heap[b]?=w.heap[b]?
 size:∀(b:Nat)(arr:Array Value)(T:TypeId)(fz:Nat×Nat),w.heap[b]?=some (.cells arr T fz)->∃(arr':Array Value)(fz':Nat×Nat),w'.heap[b]?=some (.cells arr' T fz')/\arr'.size=arr.size
 new:∀b i,C'.F b i->C.F b i\/O b
 newB:∀b,C'.B b->C.B b\/O b
 grow:w.heap.size<=w'.heap.size
structure Frm(m:Nat)(O:Nat->Prop)(C:Ctx)(w:World)(C':Ctx)(w':World):Prop where
 π:∀r,r<m->C.π r≠none->C'.π r=C.π r
 F:∀b i,C.F b i->C'.F b i
 keep:∀b i,C.F b i->w'.cell? ⟨b,i,none⟩=w.cell? ⟨b,i,none⟩
 B:∀b,C.B b->C'.B b
 keepB:∀b,C.B b->w'.heap[b]?=w.heap[b]?
 size:∀(b:Nat)(arr:Array Value)(T:TypeId)(fz:Nat×Nat),w.heap[b]?=some (.cells arr T fz)->∃(arr':Array Value)(fz':Nat×Nat),w'.heap[b]?=some (.cells arr' T fz')/\arr'.size=arr.size
 new:∀b i,C'.F b i->C.F b i\/O b
 newB:∀b,C'.B b->C.B b\/O b
 grow:w.heap.size<=w'.heap.size
theorem Ext.refl(O:Nat->Prop)(C:Ctx)(w:World):Ext O C w C w:=
 ⟨λ_ _=>rfl,λ_ _ h=>h,λ_ _ _=>rfl,λ_ h=>h,λ_ _=>rfl,λ_ arr _ fz h=>⟨arr,fz,h,rfl⟩,λ_ _ h=>.inl h,λ_ h=>.inl h,LH _⟩
theorem sX{w w' d:World}(h:∀(b:Nat)(arr:Array Value)(T:TypeId)(fz:Nat×Nat),w.heap[b]?=some (.cells arr T fz)->∃(a:Array Value)(c:Nat×Nat),w'.heap[b]?=some (.cells a T c)/\a.size=arr.size)(k:∀(b:Nat)(arr:Array Value)(T:TypeId)(fz:Nat×Nat),w'.heap[b]?=some (.cells arr T fz)->∃(a:Array Value)(c:Nat×Nat),d.heap[b]?=some (.cells a T c)/\a.size=arr.size):
 ∀(b:Nat)(arr:Array Value)(T:TypeId)(fz:Nat×Nat),w.heap[b]?=some (.cells arr T fz)->∃(a:Array Value)(c:Nat×Nat),d.heap[b]?=some (.cells a T c)/\a.size=arr.size:=λb arr T fz hb=>by
 obtain⟨a1,f1,h1,e⟩:=h b arr T fz hb;obtain⟨a2,f2,h2,f⟩:=k b a1 T f1 h1;exact⟨a2,f2,h2,f.trans e⟩
theorem Ext.trans{O:Nat->Prop}{C C' c:Ctx}{w w' d:World}(h:Ext O C w C' w')(k:Ext O C' w' c d):Ext O C w c d:=
 ⟨λr hr=>(k.π r (by rw[h.π r hr];exact hr)).trans (h.π r hr),λb i a=>k.F b i (h.F b i a),
  λb i a=>(k.keep b i (h.F b i a)).trans (h.keep b i a),λb hb=>k.B b (h.B b hb),λb hb=>(k.keepB b (h.B b hb)).trans (h.keepB b hb),
  sX h.size k.size,
  λb i a=>by
   rcases k.new b i a with h1|h1
   ·exact h.new b i h1
   ·exact .inr h1,
  λb a=>by
   rcases k.newB b a with h1|h1
   ·exact h.newB b h1
   ·exact .inr h1,fG h.grow k.grow⟩
theorem Ext.frm{m:Nat}{O:Nat->Prop}{C C':Ctx}{w w':World}(h:Ext O C w C' w'):Frm m O C w C' w':=
 ⟨λr _ hr=>h.π r hr,h.F,h.keep,h.B,h.keepB,h.size,h.new,h.newB,h.grow⟩
theorem Frm.refl{m:Nat}(O:Nat->Prop){C:Ctx}(w:World):Frm m O C w C w:=(Ext.refl O C w).frm
theorem Frm.trans{m:Nat}{O:Nat->Prop}{C C' c:Ctx}{w w' d:World}(h:Frm m O C w C' w')(k:Frm m O C' w' c d):Frm m O C w c d:=
 ⟨λr hm hr=>(k.π r hm (by rw[h.π r hm hr];exact hr)).trans (h.π r hm hr),λb i a=>k.F b i (h.F b i a),
  λb i a=>(k.keep b i (h.F b i a)).trans (h.keep b i a),λb hb=>k.B b (h.B b hb),λb hb=>(k.keepB b (h.B b hb)).trans (h.keepB b hb),
  sX h.size k.size,
  λb i a=>by
   rcases k.new b i a with h1|h1
   ·exact h.new b i h1
   ·exact .inr h1,
  λb a=>by
   rcases k.newB b a with h1|h1
   ·exact h.newB b h1
   ·exact .inr h1,fG h.grow k.grow⟩
theorem Frm.ext{m:Nat}{O:Nat->Prop}{C C':Ctx}{w w':World}(h:Frm m O C w C' w')(hm:∀r,C.π r≠none->r<m):Ext O C w C' w':=
 ⟨λr hr=>h.π r (hm r hr) hr,h.F,h.keep,h.B,h.keepB,h.size,h.new,h.newB,h.grow⟩
theorem Ext.bare{O:Nat->Prop}{C C':Ctx}{w w':World}(h:Ext O C w C' w'):Ext O C.bare w C'.bare w':=
 ⟨λ_ _=>rfl,h.F,h.keep,h.B,h.keepB,h.size,h.new,h.newB,h.grow⟩
theorem Ext.at{O:Nat->Prop}{C C':Ctx}{w w':World}(e:Ext O C w C' w'){r:Nat}{x:Option (Nat×Nat)}(h:C.π r=some x):C'.π r=some x:=
 (e.π r (by rw[h];simp)).trans h
theorem VRel.mono{O:Nat->Prop}{C C':Ctx}{w w':World}{a:AV}{y:Value}(h:VRel C w a y)(e:Ext O C w C' w'):VRel C' w' a y:=by
 induction h generalizing C' with
 |v x=>exact .v x
 |ptr h=>exact .ptr (e.at h)
 |iptr vs c hc _ ih=>exact .iptr vs (λi hi=>e.F _ _ (c i hi)) (λi hi=>(e.keep _ _ (c i hi)).trans (hc i hi)) (λi hi=>ih i hi e.bare)
 |list0=>exact .list0
 |list h vs c hc _ ih=>exact .list h vs (λi hi=>e.F _ _ (c i hi)) (λi hi=>(e.keep _ _ (c i hi)).trans (hc i hi)) (λi hi=>ih i hi e.bare)
 |sl h d hb hsz=>
  obtain⟨a1,f1,h1,n⟩:=e.size _ _ _ _ hb;exact .sl (e.at h) d h1 (by rw[n];exact hsz)
 |slz hr=>exact .slz (by rw[e.π _ hr];exact hr)
 |fn f q b g _ _ j k=>exact .fn f q b g (λi hi=>j i hi e) (λi hi=>k i hi e)
 |agg f b _ ih=>exact .agg f b (λi hi=>ih i hi e)
 |tup f b _ ih=>exact .tup f b (λi hi=>ih i hi e)
 |mp h=>exact .mp (e.at h)
 |imap ms m hb b p hn hc _ ih=>exact .imap ms (e.B _ m) ((e.keepB _ m).trans hb) b p hn hc (λi hi=>ih i hi e.bare)
 |yl h=>exact .yl (e.at h)
 |it h=>exact .it (e.at h)
 |dk y=>exact .dk y
theorem VRel.up{C C':Ctx}{w:World}{a:AV}{y:Value}(h:VRel C.bare w a y)(c:C'.F=C.F)(d:C'.B=C.B):VRel C' w a y:=by
 generalize hc:C.bare=D at h
 induction h generalizing C C' with
 |v x=>exact .v x
 |ptr h=>subst hc;cases h
 |iptr vs e b hv _=>subst hc;exact .iptr vs (λi hi=>by rw[c];exact e i hi) b (λi hi=>by have:=hv i hi;simpa [Ctx.bare,c,d] using this)
 |list0=>exact .list0
 |list h vs e b hv _=>subst hc;exact .list h vs (λi hi=>by rw[c];exact e i hi) b (λi hi=>by have:=hv i hi;simpa [Ctx.bare,c,d] using this)
 |sl h=>subst hc;cases h
 |slz hr=>subst hc;exact absurd rfl hr
 |fn g q f k _ _ m n=>exact .fn g q f k (λi hi=>m i hi c d hc) (λi hi=>n i hi c d hc)
 |agg g f _ ih=>exact .agg g f (λi hi=>ih i hi c d hc)
 |tup g f _ ih=>exact .tup g f (λi hi=>ih i hi c d hc)
 |mp h=>subst hc;cases h
 |imap ms j hb f p hn b hv _=>subst hc;exact .imap ms (by rw[d];exact j) hb f p hn b (λi hi=>by have:=hv i hi;simpa [Ctx.bare,c,d] using this)
 |yl h=>subst hc;cases h
 |it h=>subst hc;cases h
 |dk y=>exact .dk y
def eW:Nat->AV->Bool
 |_,.v _=>true
 |_,.iptr _=>true
 |_,.list _ _=>true
 |_,.imap _=>true
 |_,.dk=>true
 |k+1,.fn _ a cs=>a.all (eW k)&&cs.all (eW k)
 |k+1,.agg cs=>cs.all (eW k)
 |k+1,.tup cs=>cs.all (eW k)
 |_,_=>false
theorem VRel.down{C C':Ctx}{w:World}(d:C'.F=C.F)(f:C'.B=C.B):∀(k:Nat)(a:AV)(y:Value),eW k a=true->VRel C w a y->VRel C' w a y:=by
 intro k
 induction k with
 |zero=>
  intro a y hc h;cases h with
  |v=>exact .v _
  |iptr vs c b hv=>exact .iptr vs (λi hi=>by rw[d];exact c i hi) b (λi hi=>by have:=hv i hi;simpa [Ctx.bare,d,f] using this)
  |list0=>exact .list0
  |list h vs c b hv=>exact .list h vs (λi hi=>by rw[d];exact c i hi) b (λi hi=>by have:=hv i hi;simpa [Ctx.bare,d,f] using this)
  |imap ms g hb e n hn b hv=>exact .imap ms (by rw[f];exact g) hb e n hn b (λi hi=>by have:=hv i hi;simpa [Ctx.bare,d,f] using this)
  |dk y=>exact .dk y
  |_=>simp[eW]at hc
 |succ k ih=>
  intro a y hc h;cases h with
  |v=>exact .v _
  |iptr vs c b hv=>exact .iptr vs (λi hi=>by rw[d];exact c i hi) b (λi hi=>by have:=hv i hi;simpa [Ctx.bare,d,f] using this)
  |list0=>exact .list0
  |list h vs c b hv=>exact .list h vs (λi hi=>by rw[d];exact c i hi) b (λi hi=>by have:=hv i hi;simpa [Ctx.bare,d,f] using this)
  |imap ms g hb e n hn b hv=>exact .imap ms (by rw[f];exact g) hb e n hn b (λi hi=>by have:=hv i hi;simpa [Ctx.bare,d,f] using this)
  |dk y=>exact .dk y
  |fn m q e p j hz=>
   simp only[eW,KK,G9]at hc;exact .fn m q e p (λi hi=>ih _ _ (hc.1 _ (NT hi)) (j i hi)) (λi hi=>ih _ _ (hc.2 _ (NT hi)) (hz i hi))
  |agg m e j=>
   simp only[eW,G9]at hc;exact .agg m e (λi hi=>ih _ _ (hc _ (NT hi)) (j i hi))
  |tup m e j=>
   simp only[eW,G9]at hc;exact .tup m e (λi hi=>ih _ _ (hc _ (NT hi)) (j i hi))
  |_=>simp[eW]at hc
def CF(C:Ctx)(w:World)(b:Is)(ys:Hx):Prop:=ys.length=b.length/\∀(i:Nat)(a:AV),b[i]?=some a->∃y,ys[i]?=some y/\VRel C w a y
theorem CF.mono{O:Nat->Prop}{C C':Ctx}{w w':World}{b:Is}{ys:Hx}(h:CF C w b ys)(e:Ext O C w C' w'):CF C' w' b ys:=
 ⟨h.1,λi a c=>let⟨y,d,hv⟩:=h.2 i a c;⟨y,d,hv.mono e⟩⟩
theorem CF.up{C C':Ctx}{w:World}{b:Is}{ys:Hx}(h:CF C.bare w b ys)(d:C'.F=C.F)(c:C'.B=C.B):CF C' w b ys:=
 ⟨h.1,λi a e=>let⟨y,f,hv⟩:=h.2 i a e;⟨y,f,hv.up d c⟩⟩
theorem CF.down{C C':Ctx}{w:World}{b:Is}{ys:Hx}(k:Nat)(hc:b.all (eW k)=true)(h:CF C w b ys)(e:C'.F=C.F)(d:C'.B=C.B):CF C' w b ys:=
 ⟨h.1,λi a c=>let⟨y,f,hv⟩:=h.2 i a c;⟨y,f,hv.down e d k _ _ (G9.1 hc _ (l1m c))⟩⟩
theorem CF.nil{C:Ctx}{w:World}:CF C w [] []:=⟨rfl,λ_ _ h=>by simp at h⟩
theorem CF.cons{C:Ctx}{w:World}{a:AV}{y:Value}{c:Is}{ys:Hx}(h:VRel C w a y)(d:CF C w c ys):CF C w (a::c) (y::ys):=
 ⟨by simp[d.1],λi b hb=>by
  cases i with
  |zero=>simp at hb;subst hb;exact⟨y,rfl,h⟩
  |succ i=>simpa using d.2 i b (by simpa using hb)⟩
theorem CF.cons_inv{C:Ctx}{w:World}{a:AV}{d:Is}{ys:Hx}(h:CF C w (a::d) ys):∃y c,ys=y::c/\VRel C w a y/\CF C w d c:=by
 cases ys with
 |nil=>simp[CF]at h
 |cons y ys=>
  obtain⟨z,hz,hv⟩:=h.2 0 a rfl;simp at hz;subst hz;exact⟨y,ys,rfl,hv,by simpa using h.1,λi b hb=>by simpa using h.2 (i+1) b (by simpa using hb)⟩
theorem CF.nil_inv{C:Ctx}{w:World}{ys:Hx}(h:CF C w [] ys):ys=[]:=kC (by simpa using h.1)
theorem CF.get{C:Ctx}{w:World}{a:Is}{ys:Hx}(h:CF C w a ys)(i:Nat)(hi:i<a.length):VRel C w a[i] (ys[i]'(by rw[h.1];exact hi)):=by
 obtain⟨y,b,hv⟩:=h.2 i a[i] (KL hi);rw[KL (by rw[h.1];exact hi)]at b;injection b with b
 rw[b];exact hv
theorem CF.take{C:Ctx}{w:World}{c:Is}{ys:Hx}(h:CF C w c ys)(k:Nat):CF C w (c.take k) (ys.take k):=
 ⟨by simp[h.1],λi a b=>by
  rw[zD]at b⊢;split at b
  ·rename_i d;rw[Dr d];exact h.2 i a b
  ·simp at b⟩
theorem CF.drop{C:Ctx}{w:World}{b:Is}{ys:Hx}(h:CF C w b ys)(k:Nat):CF C w (b.drop k) (ys.drop k):=
 ⟨by simp[h.1],λi a c=>by
  rw[qJ]at c⊢;exact h.2 _ a c⟩
theorem CF.append{C:Ctx}{w:World}{c d:Is}{ys zs:Hx}(h:CF C w c ys)(k:CF C w d zs):CF C w (c++d) (ys++zs):=
 ⟨by simp[h.1,k.1],λi a b=>by
  rw[List.getElem?_append]at b⊢;rw[h.1];split at b
  ·rename_i hi;rw[Dr hi];exact h.2 i a b
  ·rename_i hi;rw[CD hi];exact k.2 _ a b⟩
theorem XA0{C:Ctx}{w:World}{cs:Is}{y:Value}:VRel C w (.agg cs) y↔∃b:Hx,y=.agg b.toArray/\CF C w cs b:=by
 constructor
 ·intro h;cases h with
  |agg b c d=>
   refine⟨b.toList,by simp,by simpa using c,λi a e=>?_⟩;obtain⟨hi,rfl⟩:=zE.1 e;have h1:=d i hi;refine⟨_,?_,h1⟩;simp[c,hi]
 ·rintro⟨b,rfl,c,h⟩;refine .agg _ (by simpa using c) λi hi=>?_;obtain⟨y,d,hv⟩:=h i _ (KL hi);have:b.toArray.getD i undef=y:=by simp[fJ,d]
  rw[this];exact hv
theorem DJ{C:Ctx}{w:World}{cs:Is}{y:Value}:VRel C w (.tup cs) y↔∃b:Hx,y=.tuple b.toArray/\CF C w cs b:=by
 constructor
 ·intro h;cases h with
  |tup b c d=>
   refine⟨b.toList,by simp,by simpa using c,λi a e=>?_⟩;obtain⟨hi,rfl⟩:=zE.1 e;have h1:=d i hi;refine⟨_,?_,h1⟩;simp[c,hi]
 ·rintro⟨b,rfl,c,h⟩;refine .tup _ (by simpa using c) λi hi=>?_;obtain⟨y,d,hv⟩:=h i _ (KL hi);have:b.toArray.getD i undef=y:=by simp[fJ,d]
  rw[this];exact hv
theorem AM{C:Ctx}{w:World}{x y:Value}:VRel C w (.v x) y↔y=x:=⟨λh=>by cases h;rfl,λh=>by subst h;exact .v _⟩
theorem Ju{C:Ctx}{w:World}{f:Fn}{k cs:Is}{y:Value}:VRel C w (.fn f k cs) y↔∃c d:Hx,y=.func f c.toArray d.toArray/\CF C w k c/\CF C w cs d:=by
 constructor
 ·intro h;cases h with
  |fn c d g b e hz=>
   refine⟨c.toList,d.toList,by simp,⟨by simpa using g,λi a j=>?_⟩,by simpa using b,λi a j=>?_⟩
   ·obtain⟨hi,rfl⟩:=zE.1 j;have h1:=e i hi;refine⟨_,?_,h1⟩;simp[g,hi]
   ·obtain⟨hi,rfl⟩:=zE.1 j;have h1:=hz i hi;refine⟨_,?_,h1⟩;simp[b,hi]
 ·rintro⟨c,d,rfl,⟨g,h⟩,b,m⟩;refine .fn _ _ (by simpa using g) (by simpa using b) (λi hi=>?_) λi hi=>?_
  ·obtain⟨y,e,hv⟩:=h i _ (KL hi);have:c.toArray.getD i undef=y:=by simp[fJ,e]
   rw[this];exact hv
  ·obtain⟨y,e,hv⟩:=m i _ (KL hi);have:d.toArray.getD i undef=y:=by simp[fJ,e]
   rw[this];exact hv
end Go.Abs
end
noncomputable section
namespace Go.Abs
open Go.RowKit
section
variable{s:Nat}
abbrev Tm:=List (Nat×AV)
def HW:Tm->Nat->AV
 |[],_=>.dk
 |(k,v)::t,i=>if i=k then v else HW t i
def Xz(C:Ctx)(w:World)(t:Tm)(tmps:Array Value):Prop:=∀i,VRel C w (HW t i) (tmps.getD i undef)
theorem Xz.mono{O:Nat->Prop}{C C':Ctx}{w w':World}{t:Tm}{tmps:Array Value}(h:Xz C w t tmps)(e:Ext O C w C' w'):Xz C' w' t tmps:=λi=>(h i).mono e
inductive Row where
 |cells (q:Bool) (T:TypeId) (cs:Is)
 |map (q:Bool) (es:IH) (bo:Option (Hb×Nat))
 |loop (N:Nat) (t:Tm) (ps:Array Tmp) (aZ bd:Code) (pend:Option (Option Code))
 |iter (left:IH) (last:Option (Value×AV))
 |gone
def Row.live:Row->Option Row
 |.gone=>none
 |x=>some x
abbrev Hp:=List (Nat×Row)
def Ai:Hp->Nat->Option Row
 |[],_=>none
 |(k,x)::l,r=>if r=k then x.live else Ai l r
def upd:Hp->Nat->Row->Hp
 |[],_,_=>[]
 |(k,x)::l,r,y=>if r=k then(k,y)::l else(k,x)::upd l r y
def cut(H:Hp)(r:Nat):Hp:=upd H r .gone
def Ar:Hp->Nat
 |[]=>0
 |(k,_)::_=>k+1
def B1(H:Hp)(r:Nat)(y:Row):Ar (upd H r y)=Ar H:=by
 cases H with
 |nil=>rfl
 |cons p H=>
  obtain⟨k,z⟩:=p;by_cases a:r=k<;>simp[upd,a,Ar]
def BF{H:Hp}{r:Nat}{x y:Row}(h:Ai H r=some x):Ai (upd H r y) r=y.live:=by
 induction H with
 |nil=>simp[Ai]at h
 |cons p H ih=>
  obtain⟨k,z⟩:=p;simp only[Ai]at h;by_cases a:r=k
  ·simp[upd,a,Ai]
  ·simp only[CD a]at h;simp[upd,a,Ai,ih h]
def Ag{H:Hp}{r s:Nat}{y:Row}(h:s≠r):Ai (upd H r y) s=Ai H s:=by
 induction H with
 |nil=>rfl
 |cons p H ih=>
  obtain⟨k,z⟩:=p;by_cases a:r=k
  ·subst a;simp[upd,Ai,h]
  ·simp only[upd,CD a,Ai,ih]
def MP{H:Hp}{r:Nat}:Ai (cut H r) r=none:=by
 induction H with
 |nil=>rfl
 |cons p H ih=>
  obtain⟨k,z⟩:=p;by_cases a:r=k
  ·simp[cut,upd,a,Ai,Row.live]
  ·simp only[cut,upd,CD a,Ai];exact ih
def Qw{H:Hp}{r s:Nat}(h:s≠r):Ai (cut H r) s=Ai H s:=Ag h
def iF{x y:Row}(h:x.live=some y):x=y/\y≠.gone:=by cases x<;>simp[Row.live]at h<;>subst h<;>simp
def EC{H:Hp}{r:Nat}{x:Row}(h:Ai H r=some x):x≠.gone:=by
 induction H with
 |nil=>simp[Ai]at h
 |cons p H ih=>
  obtain⟨k,z⟩:=p;simp only[Ai]at h;split at h
  ·exact(iF h).2
  ·exact ih h
def Ctx.sel(C:Ctx)(_:Bool):Ctx:=C
def VRel.unsel{C:Ctx}{w:World}{q:Bool}{a:AV}{y:Value}(h:VRel (C.sel q) w a y):VRel C w a y:=h
def CF.unsel{C:Ctx}{w:World}{q:Bool}{a:Is}{ys:Hx}(h:CF (C.sel q) w a ys):CF C w a ys:=h
theorem Ext.sel{O:Nat->Prop}{C C':Ctx}{w w':World}(h:Ext O C w C' w')(q:Bool):Ext O (C.sel q) w (C'.sel q) w':=h
structure Base where
 w:World
 U:Nat->Prop
def Base.own(B:Base)(b:Nat):Prop:=B.w.heap.size<=b\/B.U b
structure Keep(B:Base)(w:World):Prop where
 os:w.os=B.w.os
 tape:w.tape=B.w.tape
 output:w.output=B.w.output
 size:B.w.heap.size<=w.heap.size
 block:∀b,b<B.w.heap.size->¬B.U b->w.heap[b]?=B.w.heap[b]?
def Keep.refl(w:World)(U:Nat->Prop):Keep ⟨w,U⟩ w:=⟨rfl,rfl,rfl,LH _,λ_ _ _=>rfl⟩
def Keep.below{B:Base}{w w':World}(h:Keep B w)(hb:Below w.heap.size w w'):Keep B w':=
 ⟨hb.os.trans h.os,hb.tape.trans h.tape,hb.output.trans h.output,fG h.size hb.size,λb a c=>(hb.block b (l2r a h.size)).trans (h.block b a c)⟩
structure Laid(C:Ctx)(w:World)(r:Nat)(q:Bool)(T:TypeId)(cs:Is)(b base:Nat)(arr:Array Value)(fz:Nat×Nat):Prop where
 at_:C.π r=some (some (b,base))
 block:w.heap[b]?=some (.cells arr T fz)
 free:∀i,i<arr.size->¬(fz.1<=i/\i<fz.2)
 fits:base+cs.length<=arr.size
 vals:CF (C.sel q) w cs ((arr.toList.drop base).take cs.length)
 exact:q=true->base=0/\arr.size=cs.length
def Mb(C:Ctx)(w:World)(es:IH)(ms:List MapEntry):Prop:=
 ms.length=es.length/\∀(i:Nat)(p:Value×AV),es[i]?=some p->∃m:MapEntry,ms[i]?=some m/\m.key=p.1/\VRel C w p.2 m.val
structure MOk(ms:Array MapEntry)(clock:Nat):Prop where
 born:ms.toList.Pairwise λa b=>a.born≠b.born
 lt:∀m∈ms.toList,m.born<clock
def BOk:Option (Hb×Nat)->Array MapEntry->Nat->Prop
 |none,_,_=>True
 |some (a,c),ms,clock=>ms.toList.map (·.born)=a/\clock=c
theorem Mb.mono{O:Nat->Prop}{C C':Ctx}{w w':World}{es:IH}{ms:List MapEntry}(h:Mb C w es ms)(e:Ext O C w C' w'):Mb C' w' es ms:=
 ⟨h.1,λi p c=>let⟨m,hm,a,hv⟩:=h.2 i p c;⟨m,hm,a,hv.mono e⟩⟩
def fE(C:Ctx)(w:World)(ms:Array MapEntry)(seen:Array Nat):Option (Value×AV)->Prop
 |none=>True
 |some p=>∃m∈ms.toList,seen.back?=some m.born/\m.key=p.1/\VRel C w p.2 m.val
theorem fE.mono{O:Nat->Prop}{C C':Ctx}{w w':World}{ms:Array MapEntry}{seen:Array Nat}:∀{x:Option (Value×AV)},fE C w ms seen x->Ext O C w C' w'->fE C' w' ms seen x
 |none,_,_=>trivial
 |some _,⟨m,h1,h2,a,c⟩,e=>⟨m,h1,h2,a,c.mono e⟩
def B3W:Option (Option Code)->LoopState
 |none=>.busy
 |some none=>.ready
 |some (some _)=>.done
def Ts(C:Ctx)(w:World)(r:Nat):Row->Prop
 |.cells q T cs=>(cs=[]/\C.π r=some none)\/∃b base arr fz,Laid C w r q T cs b base arr fz
 |.map q i h=>∃(b:Nat)(ms:Array MapEntry)(clock:Nat),C.π r=some (some (b,0))/\w.heap[b]?=some (.map ms clock)/\MOk ms clock/\Mb (C.sel q) w i ms.toList/\BOk h ms clock
 |.loop N t ps f g a=>∃(b:Nat)(l:Loop),C.π r=some (some (b,0))/\w.heap[b]?=some (.loop l)/\l.state=B3W a/\l.pending=a.join/\l.tmps.size=N/\l.params=ps/\l.assign=f/\l.body=g/\Xz C w t l.tmps
 |.iter left c=>∃(b:Nat)(d:Option Nat)(since:Nat)(seen:Array Nat)(last:Nat),C.π r=some (some (b,0))/\w.heap[b]?=some (.mapIter d since seen last)/\
  ((d=none/\left=[]/\c=none)\/∃(m:Nat)(ms:Array MapEntry)(clock:Nat),d=some m/\since=clock/\last=clock/\C.B m/\w.heap[m]?=some (.map ms clock)/\MOk ms clock/\Mb C.bare w left (ms.toList.filter λe=>!seen.contains e.born)/\fE C.bare w ms seen c)
 |.gone=>True
def B5V(G:Nat->Option Hx)(F:Nat->Nat->Prop)(w:World):Prop:=∀(g:Nat)(cs:Hx),G g=some cs->∀(i:Nat)(v:Value),cs[i]?=some v->F g i/\w.cell? ⟨g,i,none⟩=some v
structure Rel(G:Nat->Option Hx)(w0:Base)(C:Ctx)(H:Hp)(w:World):Prop where
 glob:B5V G C.F w
 below:Keep w0 w
 lt:∀r x,Ai H r=some x->C.π r≠none
 rows:∀r x,Ai H r=some x->Ts C w r x
 own:∀r x b o,Ai H r=some x->C.π r=some (some (b,o))->w0.own b/\(∀i,¬C.F b i)/\¬C.B b
 sep:∀r r' x x' b o o',Ai H r=some x->Ai H r'=some x'->C.π r=some (some (b,o))->C.π r'=some (some (b,o'))->r=r'
 fin:∀b i,C.F b i->b<w.heap.size
 finB:∀b,C.B b->b<w.heap.size
 nx:∀r,Ar H<=r->C.π r=none
section
variable{G:Nat->Option Hx}{w0:Base}{C C':Ctx}{H H':Hp}{w w':World}{O:Nat->Prop}{r:Nat}{q:Bool}{T:TypeId}{cs:Is}{b base:Nat}{arr:Array Value}{fz:Nat×Nat}
def B5V.mono(h:B5V G C.F w)(e:Ext O C w C' w'):B5V G C'.F w':=λg cs a i v hv=>⟨e.F _ _ (h g cs a i v hv).1,(e.keep _ _ (h g cs a i v hv).1).trans (h g cs a i v hv).2⟩
def Laid.lt(h:Laid C w r q T cs b base arr fz):b<w.heap.size:=(l1v.1 h.block).1
def Laid.cell(h:Laid C w r q T cs b base arr fz)(i:Nat):w.cell? ⟨b,i,none⟩=arr[i]?:=cell_of_row w b i arr T fz h.block
def Laid.get(h:Laid C w r q T cs b base arr fz)(i:Nat)(hi:i<cs.length):∃v,w.cell? ⟨b,base+i,none⟩=some v/\VRel C w cs[i] v:=by
 obtain⟨y,a,hv⟩:=h.vals.2 i _ (KL hi);refine⟨y,?_,hv.unsel⟩;rw[h.cell];rw[zD,Dr hi,qJ]at a;simpa using a
def Laid.frozen(h:Laid C w r q T cs b base arr fz)(i:Nat)(hi:i<arr.size):w.frozen? ⟨b,i,none⟩=false:=by
 have:=h.free i hi;simp only[World.frozen?,h.block];simp;intro h1;omega
theorem Laid.mono(h:Laid C w r q T cs b base arr fz)(e:Ext O C w C' w')(hb:w'.heap[b]?=w.heap[b]?):Laid C' w' r q T cs b base arr fz:=
 ⟨e.at h.at_,hb.trans h.block,h.free,h.fits,h.vals.mono (e.sel q),h.exact⟩
theorem Ts.mono{x:Row}(h:Ts C w r x)(e:Ext O C w C' w')(hb:∀b base,C.π r=some (some (b,base))->w'.heap[b]?=w.heap[b]?):Ts C' w' r x:=by
 cases x with
 |cells q T cs=>
  rcases h with⟨h1,h2⟩|⟨b,base,arr,fz,h⟩
  ·exact .inl ⟨h1,e.at h2⟩
  ·exact .inr ⟨b,base,arr,fz,h.mono e (hb b base h.at_)⟩
 |map q J F=>
  obtain⟨b,ms,clock,h1,a,c,d,f⟩:=h;exact⟨b,ms,clock,e.at h1,(hb b 0 h1).trans a,c,d.mono (e.sel q),f⟩
 |loop N t ps A D j=>
  obtain⟨b,l,h1,h2,a,c,d,f,g,i,u⟩:=h;exact⟨b,l,e.at h1,(hb b 0 h1).trans h2,a,c,d,f,g,i,u.mono e⟩
 |iter left v=>
  obtain⟨b,y,since,seen,last,h1,h2,a⟩:=h;refine⟨b,y,since,seen,last,e.at h1,(hb b 0 h1).trans h2,?_⟩;rcases a with a|⟨m,ms,clock,k,n,p,c,d,f,g,i⟩
  ·exact .inl a
  ·exact .inr ⟨m,ms,clock,k,n,p,e.B _ c,(e.keepB _ c).trans d,f,g.mono e.bare,i.mono e.bare⟩
 |gone=>trivial
theorem Ts.block{x:Row}(h:Ts C w r x)(g:x≠.gone)(hb:C.π r=some (some (b,base))):b<w.heap.size:=by
 have key:∀{a:Nat}{o:Nat}{j:Obj},C.π r=some (some (a,o))->w.heap[a]?=some j->b<w.heap.size:=λh1 h2=>by
  have:=h1.symm.trans hb;injection this with this
  injection this with this
  injection this with f p
  subst f;exact(l1v.1 h2).1
 cases x with
 |cells q T cs=>
  rcases h with⟨h1,h2⟩|⟨a,c,arr,fz,h⟩
  ·rw[h2]at hb;cases hb
  ·exact key h.at_ h.block
 |map q u n=>
  obtain⟨a,ms,clock,h1,d,v,y,_⟩:=h;exact key h1 d
 |loop N t ps k m e=>
  obtain⟨a,l,h1,h2,_⟩:=h;exact key h1 h2
 |iter left i=>
  obtain⟨a,A,since,seen,last,h1,h2,d⟩:=h;exact key h1 h2
 |gone=>exact absurd rfl g
def Rel.sub(h:Rel G w0 C H w)(c:∀r x,Ai H' r=some x->Ai H r=some x)(g:Ar H<=Ar H'):Rel G w0 C H' w:=
 ⟨h.glob,h.below,λr x a=>h.lt r x (c r x a),λr x a=>h.rows r x (c r x a),λr x b o a=>h.own r x b o (c r x a),λr e x f b o i a d=>h.sep r e x f b o i (c r x a) (c e f d),h.fin,h.finB,λr hr=>h.nx r (fG g hr)⟩
def Rel.cut_row(h:Rel G w0 C H w)(r:Nat):Rel G w0 C (cut H r) w:=
 h.sub (λs x a=>by
  by_cases c:s=r
  ·subst c;rw[MP]at a;cases a
  ·rwa[Qw c]at a) (by rw[cut,B1];exact LH _)
def Ext.of_below(hb:Below w.heap.size w w')(c:∀b i,C.F b i->b<w.heap.size)(a:∀b,C.B b->b<w.heap.size):Ext O C w C w':=
 ⟨λ_ _=>rfl,λ_ _ h=>h,λb i h=>hb.cell (p:=⟨b,i,none⟩) (c b i h),λ_ h=>h,λb h=>hb.block b (a b h),
  λb arr T fz h=>⟨arr,fz,(hb.block b (l1v.1 h).1).trans h,rfl⟩,λ_ _ h=>.inl h,λ_ h=>.inl h,hb.size⟩
def Rel.ext_below(h:Rel G w0 C H w)(hb:Below w.heap.size w w'):Ext O C w C w':=Ext.of_below hb h.fin h.finB
def Rel.of_below(h:Rel G w0 C H w)(hb:Below w.heap.size w w'):Rel G w0 C H w':=
 have e:Ext (λ_=>False) C w C w':=h.ext_below hb
 ⟨h.glob.mono e,h.below.below hb,h.lt,λr x a=>(h.rows r x a).mono e (λb base f=>hb.block b ((h.rows r x a).block (EC a) f)),
  h.own,h.sep,λb i d=>l2r (h.fin b i d) hb.size,λb c=>l2r (h.finB b c) hb.size,h.nx⟩
def Ctx.put(C:Ctx)(r:Nat)(p:Option (Nat×Nat)):Ctx:={π:=λs=>if s=r then some p else C.π s,F:=C.F,B:=C.B}
def Ctx.put_n(C:Ctx)(r:Nat)(p:Option (Nat×Nat)):(C.put r p).π r=some p:=by simp[Ctx.put]
def Ctx.put_ne(C:Ctx)(p:Option (Nat×Nat))(h:s≠r):(C.put r p).π s=C.π s:=by simp[Ctx.put,h]
def Ctx.put_ext{p:Option (Nat×Nat)}(hr:C.π r=none)(e:Ext O C w C w'):Ext O C w (C.put r p) w':=
 ⟨λs a=>C.put_ne p (λe=>a (e▸hr)),e.F,e.keep,e.B,e.keepB,e.size,e.new,e.newB,e.grow⟩
def yZ(h:Rel G w0 C H w)(hr:C.π r≠none):r<Ar H:=by
 rcases Nat.lt_or_ge r (Ar H) with h1|h1
 ·exact h1
 ·exact absurd (h.nx r h1) hr
def Rel.new_row(h:Rel G w0 C H w){x:Row}(hb:Below w.heap.size w w')(k:Ts (C.put (Ar H) (some (w.heap.size,0))) w' (Ar H) x):Rel G w0 (C.put (Ar H) (some (w.heap.size,0))) ((Ar H,x)::H) w':=by
 have j:C.π (Ar H)=none:=h.nx _ (LH _);have e:Ext (λ_=>False) C w (C.put (Ar H) (some (w.heap.size,0))) w':=Ctx.put_ext j (h.ext_below hb);have g:(C.put (Ar H) (some (w.heap.size,0))).π (Ar H)=some (some (w.heap.size,0)):=C.put_n _ _;have m:∀r x,Ai H r=some x->r≠Ar H:=λr x a e=>h.lt r x a (e▸j);refine⟨h.glob.mono e,h.below.below hb,?_,?_,?_,?_,λb i t=>l2r (h.fin b i t) hb.size,λb p=>l2r (h.finB b p) hb.size,?_⟩
 ·intro r x a;simp only[Ai]at a;split at a
  ·rename_i hr;subst hr;rw[g];simp
  ·rw[e.π r (h.lt r x a)];exact h.lt r x a
 ·intro r x a;simp only[Ai]at a;split at a
  ·rename_i hr;subst hr;rw[<-(iF a).1];exact k
  ·exact(h.rows r x a).mono e (λb base c=>hb.block b ((h.rows r x a).block (EC a) c))
 ·intro r x b o a c;simp only[Ai]at a;split at a
  ·rename_i hr;subst hr;rw[g]at c;injection c with c;injection c with c;injection c with h1 h2;subst h1
   exact⟨.inl h.below.size,λi t=>l1l _ (h.fin _ _ t),λp=>l1l _ (h.finB _ p)⟩
  ·rw[C.put_ne _ (m r x a)]at c;exact h.own r x b o a c
 ·intro r u x v b o A a f c d;simp only[Ai]at a f;split at a<;>split at f
  ·rename_i h1 h2;exact h1.trans h2.symm
  ·rename_i h1 h2;subst h1;rw[g]at c;rw[C.put_ne _ h2]at d;injection c with c;injection c with c;injection c with n y;subst n
   exact absurd ((h.rows u v f).block (EC f) d) (l1l _)
  ·rename_i h1 h2;subst h2;rw[g]at d;rw[C.put_ne _ h1]at c;injection d with d;injection d with d;injection d with n y;subst n
   exact absurd ((h.rows r x a).block (EC a) c) (l1l _)
  ·rename_i h1 h2;rw[C.put_ne _ h1]at c;rw[C.put_ne _ h2]at d;exact h.sep r u x v b o A a f c d
 ·intro r hr;have hr:Ar H+1<=r:=hr;rw[C.put_ne _ (by omega)];exact h.nx r (by omega)
def Rel.new_ext(h:Rel G w0 C H w)(hb:Below w.heap.size w w'):Ext O C w (C.put (Ar H) (some (w.heap.size,0))) w':=Ctx.put_ext (h.nx _ (LH _)) (h.ext_below hb)
def Rel.new(h:Rel G w0 C H w)(hb:Below w.heap.size w w')(c:w'.heap[w.heap.size]?=some (.cells arr T fz))(Rl:∀i,i<arr.size->¬(fz.1<=i/\i<fz.2))(a:cs.length<=arr.size)(hv:CF (C.sel q) w cs (arr.toList.take cs.length))(hq:q=true->arr.size=cs.length):Rel G w0 (C.put (Ar H) (some (w.heap.size,0))) ((Ar H,.cells q T cs)::H) w':=by
 have e:Ext (λ_=>False) C w (C.put (Ar H) (some (w.heap.size,0))) w':=h.new_ext hb;exact h.new_row hb (Or.inr ⟨w.heap.size,0,arr,fz,C.put_n _ _,c,Rl,by omega,by simpa using hv.mono (e.sel q),λh=>⟨rfl,hq h⟩⟩)
end
end
section
variable{arr':Array Value}{α:Type}{y:Value}
def AV.one:AV->Bool
 |.v x=>x.oneCell'
 |.agg _=>false
 |.tup _=>false
 |.dk=>false
 |_=>true
def B0:AV->Is
 |.agg cs=>cs
 |a=>[a]
theorem VRel.one{C:Ctx}{w:World}{a:AV}(h:VRel C w a y)(h1:a.one=true):y.oneCell'=true:=by
 cases h<;>first|exact h1|rfl|(simp[AV.one]at h1)
def A7Z(h:y.oneCell'=true):y.cells= #[y]:=by cases y<;>first|rfl|(simp[Value.oneCell']at h)
theorem VRel.cells{C:Ctx}{w:World}{a:AV}(h:VRel C w a y)(h1:(B0 a).all AV.one=true):CF C w (B0 a) y.cells.toList/\∀v∈y.cells.toList,v.oneCell'=true:=by
 have key:∀(b:AV)(y:Value),VRel C w b y->B0 b=[b]->(B0 b).all AV.one=true->CF C w (B0 b) y.cells.toList/\∀v∈y.cells.toList,v.oneCell'=true:=by
  intro b y hb e h1;rw[e]at h1⊢;have g:y.oneCell'=true:=hb.one (by simpa using h1);rw[A7Z g];exact⟨.cons hb .nil,by simpa using g⟩
 cases a with
 |agg cs=>
  obtain⟨ys,rfl,d⟩:=XA0.1 h;refine⟨by simpa [B0,Value.cells] using d,λv hv=>?_⟩;simp only[Value.cells]at hv;obtain⟨i,hi⟩:=List.getElem?_of_mem hv;have c:i<cs.length:=by
   have:=(zE.1 hi).1;rw[<-d.1];simpa using this
  have:=d.get i c;have h2:ys[i]'(by rw[d.1];exact c)=v:=by simpa [zE,d.1,c] using hi
  rw[h2]at this;exact this.one (G9.1 (by simpa [B0] using h1) _ (NT c))
 |v x=>exact key _ _ h rfl h1
 |ptr r p k=>exact key _ _ h rfl h1
 |iptr cs=>exact key _ _ h rfl h1
 |list n cs=>exact key _ _ h rfl h1
 |sl sz r o n=>exact key _ _ h rfl h1
 |fn f a b=>exact key _ _ h rfl h1
 |tup vs=>exact key _ _ h rfl h1
 |mp r=>exact key _ _ h rfl h1
 |imap j=>exact key _ _ h rfl h1
 |yl r=>exact key _ _ h rfl h1
 |it r=>exact key _ _ h rfl h1
 |dk=>exact key _ _ h rfl h1
def splice(l:List α)(o:Nat)(vs:List α):List α:=l.take o++vs++l.drop (o+vs.length)
def FX{l:List α}{o:Nat}{vs:List α}(h:o+vs.length<=l.length):(splice l o vs).length=l.length:=by simp[splice];omega
def Py{l:List α}{o:Nat}{vs:List α}(h:o+vs.length<=l.length)(i:Nat):(splice l o vs)[i]?=if i<o then l[i]? else if i<o+vs.length then vs[i-o]? else l[i]?:=by
 unfold splice;by_cases h1:i<o
 ·rw[Dr h1,eK,l0m (by simp;omega),zD,Dr h1]
 ·rw[CD h1];by_cases h2:i<o+vs.length
  ·rw[Dr h2,eK,l0o (by simp;omega),l0m (by simp;omega)]
   congr 1
   simp;omega
  ·rw[CD h2,l0o (by simp;omega),qJ]
   congr 1
   simp;omega
def sW(l:List α)(o:Nat):splice l o []=l:=by simp[splice]
def oB{l:List α}{o:Nat}{v:α}{vs:List α}(h:o+(v::vs).length<=l.length):splice (l.set o v) (o+1) vs=splice l o (v::vs):=by
 apply l0p;intro i;rw[Py (by simp at h⊢;omega),Py h];simp only[Mr]at h⊢;by_cases h1:i<o
 ·rw[Dr h1,Dr (by omega),List.getElem?_set_ne (by omega)]
 ·by_cases h2:i=o
  ·subst h2;rw[Dr (by omega),CD (by omega),Dr (by omega),List.getElem?_set_self (by omega)];simp
  ·rw[CD h1,CD (by omega)];by_cases a:i<o+(vs.length+1)
   ·rw[Dr a,Dr (by omega)];have:i-o=(i-(o+1))+1:=by omega
    rw[this,l0r]
   ·rw[CD a,CD (by omega),List.getElem?_set_ne (by omega)]
structure SameBut(w w':World)(b:Nat)(T:TypeId)(arr':Array Value)(fz:Nat×Nat):Prop where
 os:w'.os=w.os
 tape:w'.tape=w.tape
 output:w'.output=w.output
 size:w'.heap.size=w.heap.size
 here:w'.heap[b]?=some (.cells arr' T fz)
 others:∀k,k≠b->w'.heap[k]?=w.heap[k]?
def Nh{P:Program}{T:TypeId}{fz:Nat×Nat}{b:Nat}(vs:Hx):∀(w:World)(arr:Array Value)(o i:Nat),w.heap[b]?=some (.cells arr T fz)->(∀i,i<arr.size->¬(fz.1<=i/\i<fz.2))->
 o+i+vs.length<=arr.size->(∀v∈vs,v.oneCell'=true)->∃w',(storeCells ⟨b,o,none⟩ vs i).run P w=.ok () w'/\SameBut w w' b T (splice arr.toList (o+i) vs).toArray fz:=by
 induction vs with
 |nil=>intro w arr o i hb _ _ _;exact⟨w,rfl,rfl,rfl,rfl,rfl,by simp[sW,hb],λ_ _=>rfl⟩
 |cons v vs ih=>
  intro w arr o i hb Rl a c;have h:o+i<arr.size:=by simp at a;omega
  have g:(⟨b,o,none⟩:Addr).add i=⟨b,o+i,none⟩:=by unfold Addr.add;split<;>simp_all
  have d:w.cell? ⟨b,o+i,none⟩=some arr[o+i]:=by simp[World.cell?,hb,h]
  have p:w.frozen? ⟨b,o+i,none⟩=false:=by
   have:=Rl _ h;simp only[World.frozen?,hb];simp;intro h1;omega
  have n:(w.setCell ⟨b,o+i,none⟩ v).heap[b]?=some (.cells (arr.setIfInBounds (o+i) v) T fz):=by simp[World.setCell,l0s,hb]
  have j:∀k,k≠b->(w.setCell ⟨b,o+i,none⟩ v).heap[k]?=w.heap[k]?:=λk m=>Below.heap_setCell w _ v k m;obtain⟨w',hr,f⟩:=ih (w.setCell ⟨b,o+i,none⟩ v) (arr.setIfInBounds (o+i) v) o (i+1) n (by simpa using Rl) (by simp at a⊢;omega) (λx s=>c x (by simp[s]));refine⟨w',?_,f.os.trans rfl,f.tape.trans rfl,f.output.trans rfl,f.size.trans (by simp[World.setCell]),?_,λk m=>(f.others k m).trans (j k m)⟩
  ·simp only[storeCells,Dn,g,run_store P w _ v _ (c v (by simp)),d,p];simpa using hr
  ·rw[f.here];have e:=oB (l:=arr.toList) (o:=o+i) (v:=v) (vs:=vs) (by simpa using a);rw[<-e];simp[kE]
def Keep.same{B:Base}{w w':World}{b:Nat}{T:TypeId}{fz:Nat×Nat}(h:Keep B w)(a:SameBut w w' b T arr' fz)(c:B.own b):Keep B w':=
 ⟨a.os.trans h.os,a.tape.trans h.tape,a.output.trans h.output,by rw[a.size];exact h.size,λk f d=>(a.others k (λe=>by
  subst e;rcases c with c|c
  ·omega
  ·exact d c)).trans (h.block k f d)⟩
section
variable{G:Nat->Option Hx}{w0:Base}{C:Ctx}{H:Hp}{w w':World}{O:Nat->Prop}{r:Nat}{q:Bool}{T:TypeId}{cs aZ:Is}{b base o:Nat}{arr:Array Value}{fz:Nat×Nat}{ys:Hx}
def SameBut.ext(c:SameBut w w' b T arr' fz)(hb:w.heap[b]?=some (.cells arr T fz))(hsz:arr'.size=arr.size)(j:∀i,¬C.F b i)(g:¬C.B b):Ext O C w C w':=by
 refine⟨λ_ _=>rfl,λ_ _ h=>h,λk i h=>?_,λ_ h=>h,λk h=>c.others k (λe=>g (e▸h)),λk a t f h=>?_,λ_ _ h=>.inl h,λ_ h=>.inl h,Nat.le_of_eq c.size.symm⟩
 ·have:k≠b:=λe=>j i (e▸h);exact l0t (c.others k this)
 ·by_cases e:k=b
  ·subst e;rw[hb]at h;injection h with h;injection h with h1 h2 d
   subst h1 h2 d;exact⟨arr',fz,c.here,hsz⟩
  ·exact⟨a,f,(c.others k e).trans h,rfl⟩
def Rel.store(h:Rel G w0 C H w)(t:Ai H r=some (.cells q T cs))(m:Laid C w r q T cs b base arr fz)(c:o+aZ.length<=cs.length)(hv:CF (C.sel q) w aZ ys)(v:SameBut w w' b T (splice arr.toList (base+o) ys).toArray fz):Rel G w0 C (upd H r (.cells q T (splice cs o aZ))) w'/\Ext O C w C w':=by
 have j:=h.own r _ b base t m.at_;have aa:ys.length=aZ.length:=hv.1;have F:=m.fits;have hsz:(splice arr.toList (base+o) ys).toArray.size=arr.size:=by
  simp only[List.size_toArray];rw[FX (by simp;omega)];simp
 have e:Ext O C w C w':=v.ext m.block hsz j.2.1 j.2.2;refine⟨⟨h.glob.mono e,?_,?_,?_,?_,?_,λk i hF=>v.size▸h.fin k i hF,λk Z=>v.size▸h.finB k Z,λk Q=>h.nx k (by rw[B1]at Q;exact Q)⟩,e⟩
 ·exact h.below.same v j.1
 ·intro s x f;by_cases d:s=r
  ·subst d;exact h.lt s _ t
  ·rw[Ag d]at f;exact h.lt s x f
 ·intro s x f;by_cases d:s=r
  ·subst d;rw[BF t]at f;injection f with f;subst f
   refine Or.inr ⟨b,base,_,fz,m.at_,v.here,by rw[hsz];exact m.free,by rw[hsz,FX c];exact m.fits,?_,by rw[hsz,FX c];exact m.exact⟩;have A:=(m.vals.mono (e.sel q))
   have K:=hv.mono (e.sel q);refine⟨by rw[FX c,zF,l0u,FX (by simp;omega)];simp;omega,λi a g=>?_⟩;have B:i<cs.length:=by
    have:=(zE.1 g).1
    rwa[FX c]at this
   rw[Py c]at g;rw[FX c,zD,Dr B,qJ,Py (by simp;omega)];have n:∀a,cs[i]?=some a->∃y,arr.toList[base+i]?=some y/\VRel (C.sel q) w' a y:=λa g=>by
    obtain⟨y,R,L⟩:=A.2 i a g;rw[zD,Dr B,qJ]at R;exact⟨y,R,L⟩
   by_cases h1:i<o
   ·rw[Dr h1]at g;rw[Dr (by omega)];exact n a g
   ·rw[CD h1]at g;rw[CD (by omega)];by_cases h2:i<o+aZ.length
    ·rw[Dr h2]at g;rw[Dr (by omega)];have:base+i-(base+o)=i-o:=by omega
     rw[this];exact K.2 _ a g
    ·rw[CD h2]at g;rw[CD (by omega)];exact n a g
  ·rw[Ag d]at f;refine(h.rows s x f).mono e (λk D u=>v.others k (λY=>?_));subst Y;exact d (h.sep s r x _ _ _ _ f t u m.at_)
 ·intro s x k V f u;by_cases d:s=r
  ·subst d;exact h.own s _ k V t u
  ·rw[Ag d]at f;exact h.own s x k V f u
 ·intro s X x x' k o1 o2 f M u J;have key:∀p z,Ai (upd H r (.cells q T (splice cs o aZ))) p=some z->∃P,Ai H p=some P:=λp z hz=>by
   by_cases hq:p=r
   ·subst hq;exact⟨_,t⟩
   ·rw[Ag hq]at hz;exact⟨z,hz⟩
  obtain⟨z,hz⟩:=key s x f;obtain⟨P,N⟩:=key X x' M;exact h.sep s X z P k o1 o2 hz N u J
def Ctx.fix(C:Ctx)(b:Nat):Ctx:={C with F:=λk i=>C.F k i\/k=b}
def Ctx.fix_ext(c:O b):Ext O C w (C.fix b) w:=
 ⟨λ_ _=>rfl,λ_ _ h=>.inl h,λ_ _ _=>rfl,λ_ h=>h,λ_ _=>rfl,λ_ a _ f h=>⟨a,f,h,rfl⟩,λk i h=>by rcases h with h|h;exact .inl h;exact .inr (h▸c),λ_ h=>.inl h,LH _⟩
def Rel.freeze(h:Rel G w0 C H w)(u:Ai H r=some (.cells q T cs))(m:Laid C w r q T cs b base arr fz):Rel G w0 (C.fix b) (cut H r) w/\Ext w0.own C w (C.fix b) w:=by
 have g:=h.own r _ b base u m.at_;have e:Ext w0.own C w (C.fix b) w:=Ctx.fix_ext g.1;have a:∀s x,Ai (cut H r) s=some x->s≠r/\Ai H s=some x:=λs x c=>by
  by_cases p:s=r
  ·subst p;rw[MP]at c;cases c
  ·rw[Qw p]at c;exact⟨p,c⟩
 refine⟨⟨h.glob.mono e,h.below,λs x c=>h.lt s x (a s x c).2,λs x c=>(h.rows s x (a s x c).2).mono e (λ_ _ _=>rfl),?_,?_,?_,h.finB,?_⟩,e⟩
 ·intro s x k B c j;have f:=h.own s x k B (a s x c).2 j;refine⟨f.1,λi d=>?_,f.2.2⟩;rcases d with d|d
  ·exact f.2.1 i d
  ·subst d;exact(a s x c).1 (h.sep s r x _ _ _ _ (a s x c).2 u j m.at_)
 ·intro s v x A k D F c t j n;exact h.sep s v x A k D F (a s x c).2 (a v A t).2 j n
 ·intro k i d;rcases d with d|d
  ·exact h.fin k i d
  ·subst d;exact m.lt
 ·intro k f;rw[cut,B1]at f;exact h.nx k f
end
end
section
variable{a:Act}{w0:Base}{c:Code}{C C':Ctx}{e:Exit}{s0:Nat}{w w' w'':World}
abbrev Gl:=Nat->Option Hx
def Fe(ro:Option Nat):Fence:={Fence.wide with round:=ro}
def wA(ro:Option Nat):(Fe ro).depth=none:=rfl
def P!(b:Nat):Deferred:={target:=.collected b,args:= #[]}
def DOk(w0:Base)(s0:Nat)(C:Ctx)(w:World)(ds:List Deferred):Prop:=
 ∃d:Hb,d.Nodup/\ds=d.map P! /\∀b∈d,s0<=b/\w0.own b/\C.B b/\w.heap[b]?=some (.deferred (some []))
def DOk.nil:DOk w0 s0 C w []:=⟨[],by simp,rfl,by simp⟩
def DOk.mono{ds:List Deferred}(h:DOk w0 s0 C w ds)(g:∀b,C.B b->C'.B b)(i:∀b,C.B b->w'.heap[b]?=w.heap[b]?):DOk w0 s0 C' w' ds:=
 let⟨f,h1,h2,d⟩:=h
 ⟨f,h1,h2,λb hb=>⟨(d b hb).1,(d b hb).2.1,g b (d b hb).2.2.1,(i b (d b hb).2.2.1).trans (d b hb).2.2.2⟩⟩
structure St(G:Gl)(w0:Base)(s0:Nat)(C:Ctx)(N:Nat)(t:Tm)(H:Hp)(a:Act)(w:World):Prop where
 rel:Rel G w0 C H w
 size:a.tmps.size=N
 tmps:Xz C w t a.tmps
 defers:DOk w0 s0 C w a.defers
 le:s0<=w.heap.size
def MT(G:Gl)(w0:Base)(s0 m:Nat)(C:Ctx)(N:Nat)(w:World)(Q:Exit->Tm->Hp->Prop):Exit->Act->World->Prop:=
 λe f w'=>∃C' d b,St G w0 s0 C' N d b f w'/\Frm m w0.own C w C' w'/\Q e d b
def QA(P:Program)(G:Gl)(ro:Option Nat)(m N:Nat)(c:Code)(Q:Exit->Tm->Hp->Prop)(t:Tm)(H:Hp):Prop:=
 ∀w0 s0 C a w,St G w0 s0 C N t H a w->c.wpIn (Fe ro) 0 P (MT G w0 s0 m C N w Q) a w
def A05(P:Program)(G:Gl)(ro:Option Nat)(m N:Nat)(ops:Array Oper)(l:List Oper)(Q:Exit->Tm->Hp->Prop)(t:Tm)(H:Hp):Prop:=
 ∀w0 s0 C a w,St G w0 s0 C N t H a w->wpListIn (Fe ro) 0 P ops (MT G w0 s0 m C N w Q) l a w
def Rh(P:Program)(G:Gl)(f:FuncId)(args:Is)(H:Hp)(Q:AV->Hp->Prop):Prop:=
 ∀w0 C w d,Rel G w0 C H w->CF C w args d->Calls P f d.toArray w λe w'=>
  ∃v y C' b,e=.returned y/\Rel G w0 C' b w'/\VRel C' w' v y/\Frm (Ar H) w0.own C w C' w'/\Q v b
def Frm.ext_of{G:Gl}{H:Hp}{O:Nat->Prop}(h:Frm (Ar H) O C w C' w')(hr:Rel G w0 C H w):Ext O C w C' w':=h.ext λ_ h=>yZ hr h
section
variable{P:Program}{G:Gl}{ro:Option Nat}{m N:Nat}{Q Q':Exit->Tm->Hp->Prop}{t:Tm}{H:Hp}
def MT.later(f:Frm m w0.own C w C' w')(h:MT G w0 s0 m C' N w' Q e a w''):MT G w0 s0 m C N w Q e a w'':=
 let⟨b,g,d,s,x,q⟩:=h
 ⟨b,g,d,s,f.trans x,q⟩
def MT.mono(hq:∀e t H,Q e t H->Q' e t H)(h:MT G w0 s0 m C N w Q e a w''):MT G w0 s0 m C N w Q' e a w'':=
 let⟨b,f,d,s,x,q⟩:=h
 ⟨b,f,d,s,x,hq _ _ _ q⟩
theorem QA.mono(h:QA P G ro m N c Q t H)(hq:∀e t H,Q e t H->Q' e t H):QA P G ro m N c Q' t H:=
 λw0 s0 C a w s=>wpIn_mono (h w0 s0 C a w s) λ_ _ _=>MT.mono hq
def B2i(h:Q .normal t H):QA P G ro m N .skip Q t H:=λw0 s0 C a w s=>wpIn_skip ⟨C,t,H,s,.refl _ _,h⟩
def B2k{id:Nat}(h:Q (.exit id) t H):QA P G ro m N (.exit id) Q t H:=λw0 s0 C a w s=>wpIn_exit ⟨C,t,H,s,.refl _ _,h⟩
def B2j{l:Nat}(h:Q (.goto l) t H):QA P G ro m N (.goto l) Q t H:=λw0 s0 C a w s=>wpIn_goto ⟨C,t,H,s,.refl _ _,h⟩
def A84{l:Nat}(h:Q .normal t H):QA P G ro m N (.label l) Q t H:=λw0 s0 C a w s=>wpIn_label ⟨C,t,H,s,.refl _ _,h⟩
def B5O(h:Q .ret t H):QA P G ro m N .ret Q t H:=λw0 s0 C a w s=>wpIn_ret ⟨C,t,H,s,.refl _ _,h⟩
def B0h(K:Tm->Hp->Prop)(Q:Exit->Tm->Hp->Prop):Exit->Tm->Hp->Prop
 |.normal,t,H=>K t H
 |e,t,H=>Q e t H
def A3C(id:Nat)(Q:Exit->Tm->Hp->Prop):Exit->Tm->Hp->Prop
 |.exit i,t,H=>if i=id then Q .normal t H else Q (.exit i) t H
 |e,t,H=>Q e t H
def B5N{x y:Code}(h:QA P G ro m N x (B0h (QA P G ro m N y Q) Q) t H):QA P G ro m N (.seq x y) Q t H:=λw0 s0 C a w s=>
 wpIn_seq (wpIn_mono (h w0 s0 C a w s) λe i w' ⟨b,j,g,d,f,q⟩=>by
  cases e with
  |normal=>exact wpIn_mono (q w0 s0 b i w' d) λ_ _ _=>MT.later f
  |_=>exact⟨b,j,g,d,f,q⟩)
def A85{id:Nat}(h:QA P G ro m N c (A3C id Q) t H):QA P G ro m N (.block id c) Q t H:=λw0 s0 C a w s=>
 wpIn_block (wpIn_mono (h w0 s0 C a w s) λe k w' ⟨b,g,d,f,j,q⟩=>by
  cases e with
  |exit i=>
   simp only[A3C]at q;simp only[Exit.inBlock];split at q
   ·rename_i hi;rw[Dr hi];exact⟨b,g,d,f,j,q⟩
   ·rename_i hi;rw[CD hi];exact⟨b,g,d,f,j,q⟩
  |_=>exact⟨b,g,d,f,j,q⟩)
def oU(P:Program)(G:Gl)(ro:Option Nat)(m N:Nat)(c:Code)(Q:Exit->Tm->Hp->Prop)(t:Tm)(H:Hp):Prop:=
 ∀w0 s0 C a w,St G w0 s0 C N t H a w->∀(b:Frame)(k:List Item)(cs:List Frame),b.roundOf=(Fe ro).round->(Fe ro).fn b.fn->(Fe ro).room (cs.length+1+0)->
  ∃e d w',MT G w0 s0 m C N w Q e d w'/\ArrivesIn (Machine.fenced P (Fe ro)) P (lone (b.atR a (.code c:: .inLoop c::k)) cs w) b k cs e d w'
def A2m(h:oU P G ro m N c Q t H):QA P G ro m N (.loop c) Q t H:=by
 intro w0 s0 C a w s b k cs f hb hr;obtain⟨e,g,w',hq,d⟩:=h w0 s0 C a w s b k cs f hb hr;exact⟨e,g,w',hq,.of_steps (.one (fenced_calm hb hr rfl) stepR_loop) d⟩
def A4R(h:QA P G ro m N c (B0h (oU P G ro m N c Q) Q) t H):oU P G ro m N c Q t H:=by
 intro w0 s0 C a w s b k cs r hb hr;obtain⟨e,a1,j,hq,d⟩:=h w0 s0 C a w s b (.inLoop c::k) cs r hb hr;obtain⟨g,u,p,i,n,q⟩:=hq;cases e with
 |normal=>
  obtain⟨y,a2,A,v,f⟩:=q w0 s0 g a1 j i b k cs r hb hr;exact⟨y,a2,A,MT.later n v,.of_steps (StepsIn.trans d (.one (fenced_calm hb hr rfl) stepR_inLoop)) f⟩
 |exit id=>exact⟨_,a1,j,⟨g,u,p,i,n,q⟩,.pass (x:=.inLoop c) rfl (λ_ _=>.inl (by simp)) d⟩
 |goto l=>exact⟨_,a1,j,⟨g,u,p,i,n,q⟩,.pass (x:=.inLoop c) rfl (λ_ _=>.inl (by simp)) d⟩
 |ret=>exact⟨_,a1,j,⟨g,u,p,i,n,q⟩,.pass (x:=.inLoop c) rfl (λ_ _=>.inl (by simp)) d⟩
 |panic B=>exact⟨_,a1,j,⟨g,u,p,i,n,q⟩,.pass (x:=.inLoop c) rfl (λ_ _=>.inl (by simp)) d⟩
 |outgrown=>exact⟨_,a1,j,⟨g,u,p,i,n,q⟩,.pass (x:=.inLoop c) rfl (λ_ _=>.inl (by simp)) d⟩
end
end
section
variable{v:AV}{K:AV->Hp->Prop}{ops:Array Oper}{C':Ctx}{q:Exit->Act->World->Prop}{F:Fence}{n:Nat}{O:Nat->Prop}{d:Option Tmp}{y:Value}{w':World}
def tQ:Value->AV
 |.agg cs=>.agg (cs.toList.map .v)
 |x=>.v x
def Xc{C:Ctx}{w:World}(l:Hx):CF C w (l.map .v) l:=
 ⟨by simp,λi a b=>by
  rw[xU]at b;cases h:l[i]? with
  |none=>rw[h]at b;simp at b
  |some y=>rw[h]at b;simp at b;subst b;exact⟨y,rfl,.v y⟩⟩
def gY{C:Ctx}{w:World}(x:Value):VRel C w (tQ x) x:=by
 cases x with
 |agg cs=>exact XA0.2 ⟨cs.toList,by simp,Xc _⟩
 |_=>exact .v _
def JP(G:Gl)(t:Tm):Operand->AV
 |.tmp i=>HW t i
 |.const v=>tQ v
 |.global g=>match G g with
  |some cs=>.iptr (cs.map .v)
  |none=>.v (.pointer (some ⟨g,0,none⟩))
 |.func f=>.fn (.func f) [] []
def RS(t:Tm)(d:Option Tmp)(v:AV):Tm:=
 match d with
 |some d=>(d,v)::t
 |none=>t
def dok(N:Nat)(d:Option Tmp):Prop:=
 match d with
 |some d=>d<N
 |none=>True
inductive Gd where
 |run|skip|dep (b:Bool)|bad
def UP:AV->Gd
 |.v (.bool b)=>.dep b
 |.dk=>.bad
 |_=>.skip
def Hf(ops:List Oper)(t:Tm)(o:Oper):Gd:=
 match o.guard with
 |none=>.run
 |some (j,want)=>match ops[j]? with
  |some p=>match p.dst with
   |some d=>match UP (HW t d) with
    |.dep b=>.dep (b==want)
    |g=>g
   |none=>.skip
  |none=>.skip
section
variable{P:Program}{G:Gl}{ro:Option Nat}{m N:Nat}{Q:Exit->Tm->Hp->Prop}{t:Tm}{H:Hp}{w0:Base}{s0:Nat}{w:World}{C:Ctx}{a:Act}
def Bb(s:St G w0 s0 C N t H a w)(x:Operand):VRel C w (JP G t x) (a.eval x):=by
 have hr:=s.rel;have b:=s.tmps;cases x with
 |tmp i=>exact b i
 |const v=>exact gY v
 |global g=>
  simp only[JP,Act.eval];cases h:G g with
  |none=>exact .v _
  |some cs=>
   refine .iptr (λi=>cs.getD i undef) (λi hi=>?_) (λi hi=>?_) (λi hi=>?_)
   ·simp at hi;simpa using(hr.glob g cs h i _ (KL hi)).1
   ·simp at hi;rw[UT,KL hi];simpa using(hr.glob g cs h i _ (KL hi)).2
   ·simp at hi;simp[UT,KL hi];exact .v _
 |func f=>exact Ju.2 ⟨[],[],rfl,.nil,.nil⟩
def B2m(g:a.tmps.size=N)(c:Xz C w t a.tmps)(e:Ext O C w C' w')(hv:VRel C' w' v y)(f:dok N d):Xz C' w' (RS t d v) (a.put d y).tmps:=by
 cases d with
 |none=>exact c.mono e
 |some d=>
  intro i;simp only[RS,Act.put,HW];by_cases hi:i=d
  ·subst hi;have b:i<a.tmps.size:=by rw[g];exact f
   rw[Dr rfl];simp[fJ,b];exact hv
  ·rw[CD hi];have:=(c.mono e) i;simp only[fJ]at this⊢;rw[Array.getElem?_setIfInBounds_ne (by omega)];exact this
def A3E(a:Act)(d:Option Tmp)(y:Value):(a.put d y).defers=a.defers:=by cases d<;>rfl
def B0i(a:Act)(d:Option Tmp)(y:Value):(a.put d y).tmps.size=a.tmps.size:=by cases d<;>simp[Act.put]
def dR:Value->Option Bool
 |.bool b=>some b
 |_=>none
def A4M{x:AV}(h:VRel C w x y):(∀b,UP x=.dep b->dR y=some b)/\(UP x=.skip->dR y=none)/\UP x≠.run:=by
 cases h with
 |v=>cases y<;>simp[UP,dR]
 |_=>simp[UP,dR]
theorem A2V(ops:List Oper)(j:Nat):yielded ops.toArray a.tmps j=match ops[j]? with
 |some p=>match p.dst with
  |some d=>(a.tmps[d]?).bind dR
  |none=>none
 |none=>none:=by
 simp only[yielded,l15];cases ops[j]? with
 |none=>rfl
 |some p=>
  simp only[Option.bind_some];cases p.dst with
  |none=>rfl
  |some d=>
   simp only[Option.bind_some];cases a.tmps[d]? with
   |none=>rfl
   |some y=>cases y<;>rfl
def vV(f:Xz C w t a.tmps)(ops:List Oper)(o:Oper):(Hf ops t o=.run->Region.wanted o (yielded ops.toArray a.tmps)=true)/\(Hf ops t o=.skip->Region.wanted o (yielded ops.toArray a.tmps)=false)/\(∀b,Hf ops t o=.dep b->Region.wanted o (yielded ops.toArray a.tmps)=b):=by
 unfold Region.wanted Hf;cases o.guard with
 |none=>simp
 |some p=>
  obtain⟨j,want⟩:=p;simp only[A2V];cases ops[j]? with
  |none=>simp
  |some p=>
   simp only;cases p.dst with
   |none=>simp
   |some d=>
    simp only;have hv:=f d;have e:=A4M hv;have hb:(a.tmps[d]?).bind dR=dR (a.tmps.getD d undef):=by
     rw[fJ];cases a.tmps[d]?<;>rfl
    rw[hb];cases c:UP (HW t d) with
    |run=>exact absurd c e.2.2
    |skip=>rw[e.2.1 c];simp
    |bad=>simp
    |dep b=>rw[e.1 b c];simp
def B2w(P:Program)(G:Gl)(o:Oper)(t:Tm)(H:Hp)(K:AV->Hp->Prop):Prop:=
 ∀w0 s0 C N a w,St G w0 s0 C N t H a w->∃v b y C' w',K v b/\((execOp a.eval o).run P w=.ok (.value y) w'\/((execOp a.eval o).run P w=.ok .skip w'/\y=undef))/\VRel C' w' v y/\Rel G w0 C' b w'/\Ext w0.own C w C' w'
def TR(P:Program)(G:Gl)(ro:Option Nat)(N:Nat)(o:Oper)(t:Tm)(H:Hp)(K:AV->Hp->Prop):Prop:=
 ∀w0 s0 C a w(Q:Exit->Act->World->Prop),St G w0 s0 C N t H a w->o.wpIn (Fe ro) 0 P a w (λc w'=>∃v y C' b,c=a.put o.dst y/\K v b/\VRel C' w' v y/\Rel G w0 C' b w'/\Ext w0.own C w C' w') Q
def B2p(h:Q .normal t H):A05 P G ro m N ops [] Q t H:=λw0 s0 C a w s=>⟨C,t,H,s,.refl _ _,h⟩
def Sx{o:Oper}{K f:Act->World->Prop}(h:∀a w,K a w->f a w)(b:o.wpIn F n P a w K q):o.wpIn F n P a w f q:=by
 unfold Oper.wpIn at*;refine⟨b.1,?_⟩;have b:=b.2;generalize (o.semAt F.round a.eval).run P w=r at*;cases r with
 |ok x w'=>
  cases x<;>simp only[Oper.uponIn]at b⊢ <;>
   first
    |exact h _ _ b
    |exact⟨b.1,CallsIn.mono b.2 (λe c he=>by cases e<;>first|exact h _ _ he|exact he)⟩
    |exact⟨b.1,RowsIn.mono b.2 (λ_ _ he=>h _ _ he)⟩
    |exact⟨b.1,RoundIn.mono b.2 (λe c he=>by cases e<;>first|exact h _ _ he|exact he)⟩
 |halt x w'=>cases x<;>simp only[Oper.uponIn]at b⊢ <;>exact b
def wJ{q q':Exit->Act->World->Prop}(hq:∀e a w,q e a w->q' e a w):∀(l:List Oper)(a:Act)(w:World),wpListIn F n P ops q l a w->wpListIn F n P ops q' l a w:=by
 intro l
 induction l with
 |nil=>intro a w h;exact hq _ _ _ h
 |cons o l ih=>
  intro a w h;simp only[wpListIn]at h⊢;split
  ·rename_i b;rw[Dr b]at h;unfold Oper.wpIn at h⊢;refine⟨h.1,?_⟩;have h:=h.2;generalize (o.semAt F.round a.eval).run P w=r at*;cases r with
   |ok x w'=>
    cases x<;>simp only[Oper.uponIn]at h⊢ <;>
     first
      |exact ih _ _ h
      |exact⟨h.1,CallsIn.mono h.2 (λe c he=>by cases e<;>first|exact ih _ _ he|exact hq _ _ _ he|exact(let⟨a,w,k⟩:=he;⟨a,w,hq _ _ _ k⟩))⟩
      |exact⟨h.1,RowsIn.mono h.2 (λ_ _ he=>ih _ _ he)⟩
      |exact⟨h.1,RoundIn.mono h.2 (λe c he=>by cases e<;>first|exact ih _ _ he|exact hq _ _ _ he|exact(let⟨a,w,k⟩:=he;⟨a,w,hq _ _ _ k⟩))⟩
   |halt x w'=>cases x<;>simp only[Oper.uponIn]at h⊢ <;>first|exact hq _ _ _ h|exact h
  ·rename_i b;rw[CD b]at h;exact⟨h.1,ih _ _ h.2⟩
def A05.run{l:List Oper}{b:Act}(h:A05 P G ro m N ops l Q t H)(s:St G w0 s0 C' N t H b w')(e:Frm m w0.own C w C' w'):
 wpListIn (Fe ro) 0 P ops (MT G w0 s0 m C N w Q) l b w':=
 wJ (λ_ _ _=>MT.later e) l b w' (h w0 s0 C' b w' s)
def A3n{H':Hp}(s:St G w0 s0 C N t H a w)(hr:Rel G w0 C' H' w')(e:Ext O C w C' w')(hv:VRel C' w' v y)(b:dok N d):St G w0 s0 C' N (RS t d v) H' (a.put d y) w':=
 ⟨hr,(B0i _ _ _).trans s.size,B2m s.size s.tmps e hv b,by rw[A3E];exact s.defers.mono e.B e.keepB,fG s.le e.grow⟩
def A86{ops rest:List Oper}{o:Oper}(b:dok N o.dst)(s:St G w0 s0 C N t H a w)(c:Region.wanted o (yielded ops.toArray a.tmps)=false)(h:A05 P G ro m N ops.toArray rest Q (RS t o.dst (.v undef)) H):
 wpListIn (Fe ro) 0 P ops.toArray (MT G w0 s0 m C N w Q) (o::rest) a w:=by
 simp only[wpListIn,c,xT,if_false];exact⟨λf _=>trivial,A05.run h (A3n s s.rel (.refl (λ_=>False) _ _) (.v undef) b) (.refl _ _)⟩
def A2s{ops rest:List Oper}{o:Oper}(b:dok N o.dst)(s:St G w0 s0 C N t H a w)(i:Region.wanted o (yielded ops.toArray a.tmps)=true)(h:TR P G ro N o t H (λv c=>A05 P G ro m N ops.toArray rest Q (RS t o.dst v) c)):
 wpListIn (Fe ro) 0 P ops.toArray (MT G w0 s0 m C N w Q) (o::rest) a w:=by
 simp only[wpListIn,i,if_true];exact Sx (λj w' ⟨v,y,C',c,g,f,hv,hr,e⟩=>by rw[g];exact A05.run f (A3n s hr e hv b) e.frm) (h w0 s0 C a w _ s)
def TR.mono{o:Oper}{K c:AV->Hp->Prop}(h:TR P G ro N o t H K)(g:∀v H,K v H->c v H):TR P G ro N o t H c:=
 λw0 s0 C a w Q s=>Sx (λ_ _ ⟨v,y,C',b,f,e,rest⟩=>⟨v,y,C',b,f,g v b e,rest⟩) (h w0 s0 C a w Q s)
def UQ{o:Oper}(j:∀c,o.op≠.defer c)(h:B2w P G o t H K):TR P G ro N o t H K:=by
 intro w0 s0 C a w Q s;obtain⟨v,g,y,C',w',i,b,hv,hr,e⟩:=h w0 s0 C N a w s;refine⟨λf _=>trivial,?_⟩;rw[Oper.semAt_eq _ _ _ j];rcases b with b|⟨b,rfl⟩
 ·rw[b];exact⟨v,y,C',g,rfl,i,hv,hr,e⟩
 ·rw[b];exact⟨v,undef,C',g,rfl,i,hv,hr,e⟩
def A4N{id:Nat}{l:List Oper}(h:A05 P G ro m N l.toArray l Q t H):QA P G ro m N (.region id l.toArray false) Q t H:=λw0 s0 C a w s=>wpIn_region_lit (h w0 s0 C a w s)
def A2o{c:Operand}{x y:Code}{b:Bool}(hc:JP G t c=.v (.bool b))(h1:b=true->QA P G ro m N x Q t H)(h2:b=false->QA P G ro m N y Q t H):QA P G ro m N (.cond c x y) Q t H:=λw0 s0 C a w s=>by
 have:=Bb s c;rw[hc]at this;have he:a.eval c=.bool b:=AM.1 this;exact wpIn_cond_split he (λhb=>h1 hb w0 s0 C a w s) (λhb=>h2 hb w0 s0 C a w s)
def vT(s:St G w0 s0 C N t H a w)(l:List Operand):CF C w (l.map (JP G t)) (l.map a.eval):=by
 refine⟨by simp,λi b hb=>?_⟩;rw[xU]at hb⊢;cases c:l[i]? with
 |none=>rw[c]at hb;simp at hb
 |some x=>rw[c]at hb;simp at hb;subst hb;exact⟨_,rfl,Bb s x⟩
def To{o:Oper}{c:Call}{f:FuncId}{u:Operand}{first cap:Is}(k:o.op=.call c)(j:c.callee=.value u)(R:JP G t u=.fn (.func f) first cap){fn:Func}(x:P.funcs[f]?=some fn)(b:fn.body.isNone=false)(g:(fn.name== "runtime.NumGoroutine")=false)(h:Rh P G f (first++c.args.toList.map (JP G t)++cap) H K):TR P G ro N o t H K:=by
 intro w0 s0 C a w Q s;have hv:=Bb s u;rw[R]at hv;obtain⟨D,J,he,A,B⟩:=Ju.1 hv;have i:=(A.append (vT s c.args.toList)).append B;have hc:=h w0 C w _ s.rel i;refine⟨λf _=>trivial,?_⟩;rw[Oper.semAt_eq _ _ _ (by rw[k];intro c hc;cases hc)];have p:(execOp a.eval o).run P w=.ok (.enter f (D++c.args.toList.map a.eval++J).toArray) w:=by
  simp only[execOp,k,resolve,j,he,Deferred.ofValue,Dn,mJ,FY,invoke,callFunc,run_program,x,g,b,xT,if_false]
  congr 2
  apply qK;simp
 rw[p];refine⟨λM=>by simp[wA]at M,?_⟩;have:CallsIn (Fe ro) 0 P f (D++c.args.toList.map a.eval++J).toArray w (λe w'=>∃v y C' r,e=.returned y/\Rel G w0 C' r w'/\VRel C' w' v y/\Frm (Ar H) w0.own C w C' w'/\K v r):=by
  cases ro with
  |none=>exact callsIn_wide.2 hc
  |some l=>exact CallsIn.mono (callsIn_wide (n:=0).2 hc) (λ_ _ h=>h)
 refine CallsIn.mono this ?_;rintro e w' ⟨v,y,C',r,rfl,hr,hv,V,L⟩;exact⟨v,y,C',r,rfl,L,hv,hr,V.ext_of s.rel⟩
end
end
section
variable{a:AV}{K:AV->Prop}{w0:Base}{q:Bool}{C:Ctx}{H:Hp}{b base r:Nat}{fz:Nat×Nat}{y:Value}
inductive TD where
 |int (k:IntKind)|bool|string|pointer (e:TypeId)
 |slice (e:TypeId) (esz:Nat)
 |array (n:Nat) (e:TypeId) (esz:Nat)
 |struct (fs:List (Nat×Nat×TypeId))
 |map (k e:TypeId)|func|iface|other
def td(P:Program):TypeDesc->TD
 |.int k=>.int k
 |.bool=>.bool
 |.string=>.string
 |.pointer e=>.pointer e
 |.slice e=>.slice e (P.cellsOf e)
 |.array n e=>.array n e (P.cellsOf e)
 |.struct c=>.struct (c.toList.map λf=>(f.offset,P.cellsOf f.type,f.type))
 |.map k e=>.map k e
 |.func .. =>.func
 |.interface .. =>.iface
 |_=>.other
def TD.isAgg:TD->Bool
 |.struct _=>true
 |.array .. =>true
 |_=>false
structure TI where
 size:Nat
 bytes:Nat
 d:TD
 zero:AV
structure TOk1(P:Program)(t:TypeId)(i:TI):Prop where
 sb:(P.info? t).map (λx=>(x.size,x.bytes))=some (i.size,i.bytes)
 z:((P.info? t).bind (·.zero)).map tQ=some i.zero
 u:(P.underlying t).map (td P)=some i.d
abbrev Ty:=TypeId->Option TI
def jX(P:Program)(T:Ty):Prop:=∀t i,T t=some i->TOk1 P t i
section
variable{P:Program}{t:TypeId}{i:TI}(w:World)
def TOk1.info(h:TOk1 P t i):∃x z,P.info? t=some x/\x.size=i.size/\x.bytes=i.bytes/\x.zero=some z/\tQ z=i.zero:=by
 have h1:=h.sb;have h2:=h.z;cases c:P.info? t with
 |none=>rw[c]at h1;simp at h1
 |some x=>
  rw[c]at h1 h2;simp at h1 h2;obtain⟨z,hz,e⟩:=h2;exact⟨x,z,rfl,h1.1,h1.2,hz,e⟩
def TOk1.under(h:TOk1 P t i):∃u,P.underlying t=some u/\td P u=i.d:=by
 have h1:=h.u;cases c:P.underlying t with
 |none=>rw[c]at h1;simp at h1
 |some u=>rw[c]at h1;simp at h1;exact⟨u,rfl,h1⟩
def TOk1.run_size(h:TOk1 P t i):(sizeOf t).run P w=.ok i.size w:=by
 obtain⟨x,z,d,c,_⟩:=h.info;simp[sizeOf,typeInfo,d,c]
theorem TOk1.cellsOf(h:TOk1 P t i):P.cellsOf t=i.size:=by
 obtain⟨x,z,d,c,_⟩:=h.info;simp[Program.cellsOf,d,c]
def TOk1.run_isAgg(h:TOk1 P t i):(isAgg t).run P w=.ok i.d.isAgg w:=by
 obtain⟨u,c,e⟩:=h.under;unfold isAgg;rw[Dn,run_underlying c w,<-e];cases u<;>rfl
def TOk1.run_zero(h:TOk1 P t i):∃z,(zeroValue t).run P w=.ok z w/\tQ z=i.zero:=by
 obtain⟨x,z,c,_,_,hz,e⟩:=h.info;exact⟨z,by simp[zeroValue,typeInfo,c,hz],e⟩
end
def Nf(C:Ctx)(w:World)(b o:Nat)(cs:Is):Prop:=∃vs:Hx,CF C w cs vs/\∀j v,vs[j]?=some v->w.cell? ⟨b,o+j,none⟩=some v
theorem Nf.drop{w:World}{b o:Nat}{cs:Is}(h:Nf C w b o cs)(k:Nat):Nf C w b (o+k) (cs.drop k):=by
 obtain⟨vs,h1,h2⟩:=h;refine⟨vs.drop k,h1.drop k,λj v hv=>?_⟩;rw[qJ]at hv;rw[kE];exact h2 _ v hv
theorem Nf.take{w:World}{b o:Nat}{cs:Is}(h:Nf C w b o cs)(k:Nat):Nf C w b o (cs.take k):=by
 obtain⟨vs,h1,h2⟩:=h;refine⟨vs.take k,h1.take k,λj v hv=>?_⟩;rw[zD]at hv;split at hv
 ·exact h2 _ v hv
 ·simp at hv
theorem Laid.at{w:World}{T:TypeId}{cs:Is}{arr:Array Value}(h:Laid C w r q T cs b base arr fz):Nf C w b base cs:=by
 refine⟨_,h.vals.unsel,λj v hv=>?_⟩;rw[h.cell];rw[zD]at hv;split at hv
 ·rw[qJ]at hv;simpa using hv
 ·simp at hv
def Laid.atq{w:World}{T:TypeId}{cs:Is}{arr:Array Value}(h:Laid C w r q T cs b base arr fz):Nf (C.sel q) w b base cs:=by
 refine⟨_,h.vals,λj v hv=>?_⟩;rw[h.cell];rw[zD]at hv;split at hv
 ·rw[qJ]at hv;simpa using hv
 ·simp at hv
def vQ{w:World}{b o:Nat}{cs:Is}(vs:Nat->Value)(hc:∀i,i<cs.length->w.cell? ⟨b,o+i,none⟩=some (vs i))(hv:∀i(hi:i<cs.length),VRel C w cs[i] (vs i)):Nf C w b o cs:=by
 refine⟨(List.range cs.length).map vs,⟨by simp,λi a d=>?_⟩,λj v c=>?_⟩
 ·obtain⟨hi,rfl⟩:=zE.1 d;exact⟨vs i,by simp[hi],hv i hi⟩
 ·rw[xU]at c;by_cases h:j<cs.length
  ·simp[h]at c;subst c;exact hc j h
  ·simp[l1j (by simpa using h:(List.range cs.length).length<=j)]at c
def Kl(b o k:Nat):(⟨b,o,none⟩:Addr).add k=⟨b,o+k,none⟩:=by unfold Addr.add;split<;>simp_all
def kX{P:Program}{w:World}{b o:Nat}{cs:Is}(h:Nf C w b o cs)(n:Nat)(hn:n<=cs.length):∃vs,(loadCells ⟨b,o,none⟩ n).run P w=.ok vs.toArray w/\CF C w (cs.take n) vs:=by
 obtain⟨vs,h1,h2⟩:=h.take n;have c:vs.length=n:=by rw[h1.1];simp[hn]
 refine⟨vs,?_,h1⟩;have:=run_loadCells_list (P:=P) w ⟨b,o,none⟩ vs (λj v hv=>by rw[Kl];exact h2 j v hv)
 rwa[c]at this
def YO(T:Ty)(ty:TypeId)(cs:Is)(K:AV->Prop):Prop:=
 match T ty with
 |some i=>if i.d.isAgg then i.size<=cs.length/\K (.agg (cs.take i.size)) else match cs with
  |c::_=>K c
  |[]=>False
 |none=>False
def Ym{P:Program}{T:Ty}(j:jX P T){w:World}{b o:Nat}{cs:Is}{ty:TypeId}(h:Nf C w b o cs)(e:YO T ty cs K):
 ∃v y,(loadVar ty ⟨b,o,none⟩).run P w=.ok y w/\VRel C w v y/\K v:=by
 unfold YO at e;cases hi:T ty with
 |none=>rw[hi]at e;exact e.elim
 |some i=>
  rw[hi]at e;have ok:=j ty i hi;simp only at e;by_cases f:i.d.isAgg=true
  ·rw[Dr f]at e;obtain⟨vs,hr,hv⟩:=kX (P:=P) h i.size e.1;refine⟨_,.agg vs.toArray,?_,XA0.2 ⟨vs,rfl,hv⟩,e.2⟩;simp[loadVar,ok.run_isAgg,f,ok.run_size,hr]
  ·rw[CD f]at e;have g:i.d.isAgg=false:=by simpa using f
   cases cs with
   |nil=>exact e.elim
   |cons c cs=>
    obtain⟨vs,h1,h2⟩:=h;obtain⟨y,k,rfl,hv,_⟩:=h1.cons_inv;refine⟨c,y,?_,hv,e⟩;have:=h2 0 y rfl;simp only[Nat.add_zero]at this;simp[loadVar,ok.run_isAgg,g,this]
def A0s(T:Ty)(ty:TypeId)(a:AV)(H:Hp)(K:AV->Prop):Prop:=
 match a with
 |.iptr cs=>YO T ty cs K
 |.ptr r p k=>match Ai H r with
  |some (.cells _ _ cs)=>YO T ty (cs.drop (p+k)) K
  |_=>False
 |_=>False
def nZ{P:Program}{T:Ty}(g:jX P T){G:Gl}{w:World}{ty:TypeId}(hr:Rel G w0 C H w)(j:VRel C w a y)(h:A0s T ty a H K):
 ∃v z,(Instr.loadAt ty y).run P w=.ok z w/\VRel C w v z/\K v:=by
 cases a with
 |iptr cs=>
  cases j with
  |iptr vs A hc hv=>
   obtain⟨v,z,h1,h2,c⟩:=Ym (P:=P) g (vQ vs hc (λi hi=>(hv i hi).up rfl rfl)) h;exact⟨v,z,by simp[Instr.loadAt,Instr.sureAddr,h1],h2,c⟩
 |ptr r p k=>
  simp only[A0s]at h;cases d:Ai H r with
  |none=>rw[d]at h;exact h.elim
  |some x=>
   rw[d]at h;cases x with
   |map q u=>exact h.elim
   |loop=>exact h.elim
   |iter=>exact h.elim
   |gone=>exact h.elim
   |cells q Ty cs=>
    cases j with
    |ptr f=>
     rcases hr.rows r _ d with⟨h1,h2⟩|⟨b,base,arr,fz,m⟩
     ·rw[h2]at f;cases f
     ·have e:=m.at_.symm.trans f;injection e with e;injection e with e;injection e with n s;subst n s
      obtain⟨v,z,h1,h2,c⟩:=Ym (P:=P) g (m.at.drop (p+k)) h;exact⟨v,z,by simp[Instr.loadAt,Instr.sureAddr,h1],h2,c⟩
 |_=>exact h.elim
def rW(T:Ty)(ty:TypeId)(a v:AV)(H:Hp)(K:Hp->Prop):Prop:=
 match a with
 |.ptr r p k=>match Ai H r,T ty with
  |some (.cells q E cs),some i=>(B0 v).length=i.size/\(B0 v).all AV.one=true/\(p+k)+(B0 v).length<=cs.length/\K (upd H r (.cells q E (splice cs (p+k) (B0 v))))
  |_,_=>False
 |_=>False
def G!{P:Program}{T:Ty}(N:jX P T){G:Gl}{w:World}{ty:TypeId}{a v:AV}{y z:Value}{K:Hp->Prop}(hr:Rel G w0 C H w)(Q:VRel C w a y)(hv:VRel C w v z)(h:rW T ty a v H K):
 ∃A m,(Instr.storeAt ty y z).run P w=.ok () m/\Rel G w0 C A m/\Ext w0.own C w C m/\K A:=by
 cases a with
 |ptr r p k=>
  simp only[rW]at h;cases n:Ai H r with
  |none=>rw[n]at h;exact h.elim
  |some x=>
   rw[n]at h;cases x with
   |map q V=>exact h.elim
   |loop=>exact h.elim
   |iter=>exact h.elim
   |gone=>exact h.elim
   |cells q E cs=>
    cases hi:T ty with
    |none=>rw[hi]at h;exact h.elim
    |some i=>
     rw[hi]at h;obtain⟨h1,h2,J,L⟩:=h;have ok:=N ty i hi;obtain⟨f,g⟩:=hv.cells h2;cases Q with
     |ptr u=>
      rcases hr.rows r _ n with⟨X,M⟩|⟨b,base,arr,fz,c⟩
      ·rw[M]at u;cases u
      ·have e:=c.at_.symm.trans u;injection e with e;injection e with e;injection e with D F;subst D F
       have B:=c.fits;have s:CF (C.sel q) w (B0 v) z.cells.toList:=f;have d:z.cells.toList.length=(B0 v).length:=f.1;obtain⟨m,j,R⟩:=Nh (P:=P) z.cells.toList w arr (base+(p+k)) 0 c.block c.free (by omega) g;have:=hr.store (O:=w0.own) n c J s (by simpa using R);refine⟨_,m,?_,this.1,this.2,L⟩;have hsz:¬z.cells.size≠i.size:=by simp at d;omega
       simp[Instr.storeAt,Instr.sureAddr,storeVar,ok.run_size,hsz,j]
 |_=>exact h.elim
end
section
variable{op:BinOp}{a b:Int}{k:IntKind}{P:Program}{α:Type}{v:Value}
def pM(op:BinOp)(k:IntKind)(a b:Int):Option Value:=
 match op with
 |.add=>some (.int k (k.wrap (a+b)))
 |.sub=>some (.int k (k.wrap (a-b)))
 |.mul=>some (.int k (k.wrap (a*b)))
 |.quo=>if b=0 then none else some (.int k (k.wrap (a.tdiv b)))
 |.rem=>if b=0 then none else some (.int k (a.tmod b))
 |.and=>some (.int k (k.wrap ((BitVec.ofInt k.bits a&&&BitVec.ofInt k.bits b).toNat)))
 |.or=>some (.int k (k.wrap ((BitVec.ofInt k.bits a|||BitVec.ofInt k.bits b).toNat)))
 |.xor=>some (.int k (k.wrap ((BitVec.ofInt k.bits a^^^BitVec.ofInt k.bits b).toNat)))
 |.andNot=>some (.int k (k.wrap ((BitVec.ofInt k.bits a&&& ~~~BitVec.ofInt k.bits b).toNat)))
 |.eql=>some (.bool (a==b))
 |.neq=>some (.bool (a !=b))
 |.lss=>some (.bool (decide (a<b)))
 |.leq=>some (.bool (decide (a<=b)))
 |.gtr=>some (.bool (decide (a>b)))
 |.geq=>some (.bool (decide (a≥b)))
 |_=>none
def lL(op:BinOp)(k:IntKind)(a b:Int):Option Value:=
 if b<0 then none else match op with
 |.shl=>some (.int k (k.wrap (a*2^(min b.toNat k.bits))))
 |.shr=>some (.int k (a.fdiv (2^(min b.toNat k.bits))))
 |_=>none
def A78(op:BinOp)(a b:ByteArray):Option Value:=
 match op with
 |.add=>if((a.size+b.size:Nat):Int)>IntKind.i64.max then none else some (.string (a++b))
 |.eql=>some (.bool (a.toList==b.toList))
 |.neq=>some (.bool !(a.toList==b.toList))
 |.lss=>some (.bool (Op.bytesLess a.toList b.toList))
 |.leq=>some (.bool (Op.bytesLess a.toList b.toList||a.toList==b.toList))
 |.gtr=>some (.bool !(Op.bytesLess a.toList b.toList||a.toList==b.toList))
 |.geq=>some (.bool !Op.bytesLess a.toList b.toList)
 |_=>none
def Jb:BinOp->Bool
 |.shl=>true
 |.shr=>true
 |_=>false
def Mm(o:Option α)(K:α->Prop):Prop:=
 match o with
 |some v=>K v
 |none=>False
def A1j:TD->AV->AV->Option Bool
 |.pointer _,.v (.pointer none),.v (.pointer none)=>some true
 |.pointer _,.ptr ..,.v (.pointer none)=>some false
 |.pointer _,.iptr ..,.v (.pointer none)=>some false
 |.pointer _,.v (.pointer none),.ptr .. =>some false
 |.pointer _,.v (.pointer none),.iptr .. =>some false
 |.func,.v .nilFunc,.v .nilFunc=>some true
 |.func,.fn ..,.v .nilFunc=>some false
 |.func,.v .nilFunc,.fn .. =>some false
 |.slice ..,.v (.slice none 0 0),.v (.slice none 0 0)=>some true
 |.slice ..,.list (_+1) _,.v (.slice none 0 0)=>some false
 |.slice ..,.sl _ _ _ (_+1),.v (.slice none 0 0)=>some false
 |_,_,_=>none
def sF(T:Ty)(op:BinOp)(ty:TypeId)(a b:AV)(K:AV->Prop):Prop:=
 match a,b with
 |.v (.int k m),.v (.int c n)=>if Jb op then Mm (lL op k m n) (λv=>K (.v v)) else k=c/\Mm (pM op k m n) (λv=>K (.v v))
 |.v (.string s),.v (.string u)=>Mm (A78 op s u) (λv=>K (.v v))
 |.v (.bool p),.v (.bool q)=>(∃i,T ty=some i/\i.d=.bool)/\(match op with|.eql=>K (.v (.bool (p==q)))|.neq=>K (.v (.bool (!(p==q))))|_=>False)
 |a,b=>match T ty with
  |some i=>match A1j i.d a b with
   |some q=>(match op with|.eql=>K (.v (.bool q))|.neq=>K (.v (.bool (!q)))|_=>False)
   |none=>False
  |none=>False
def B0s(c:Jb op=false)(h:pM op k a b=some v)(ty:TypeId)(w:World):(binOp op ty (.int k a) (.int k b)).run P w=.ok v w:=by
 cases op<;>simp[pM,Jb]at h c<;>try (subst h;simp[binOp,Op.intArith,Op.intBits,Op.intCmp];done)
 ·obtain⟨h1,rfl⟩:=h;simp[binOp,Op.intDiv,h1]
 ·obtain⟨h1,rfl⟩:=h;simp[binOp,Op.intDiv,h1]
def A3G{k c:IntKind}(h:lL op k a b=some v)(ty:TypeId)(w:World):(binOp op ty (.int k a) (.int c b)).run P w=.ok v w:=by
 unfold lL at h;split at h
 ·cases h
 ·rename_i hb;cases op<;>simp at h<;>(subst h;simp[binOp,Op.shift,hb])
def B0k{a b:ByteArray}(h:A78 op a b=some v)(ty:TypeId)(w:World):(binOp op ty (.string a) (.string b)).run P w=.ok v w:=by
 cases op<;>simp only[A78]at h<;>try (simp at h;done)
 ·split at h
  ·cases h
  ·rename_i hb;injection h with h;subst h;simp only[binOp,Op.stringOp,CD hb];rfl
 all_goals (injection h with h;subst h;rfl)
def B11{c:Prop}[Decidable c]{x y z:α}(h1:x=z)(h2:y=z):(if c then x else y)=z:=by split<;>assumption
def oO{ty:TypeId}{x y:Operand}{a b:Value}(w:World)(h:(∀xs c,a=.agg xs->b=.agg c->False)/\¬(a=.nilIface/\b=.nilIface)):(eqGuard op ty x y a b).run P w=.ok () w:=by
 unfold eqGuard;rw[Sem.run_ite];refine B11 (by simp) ?_;split
 ·exact absurd ⟨rfl,rfl⟩ h.2
 ·exact(h.1 _ _ rfl rfl).elim
 ·rfl
def sE{T:Ty}(B:jX P T){C:Ctx}{w:World}{ty:TypeId}{a b:AV}{y z:Value}{K:AV->Prop}(F H:Operand)(f:VRel C w a y)(hb:VRel C w b z)(h:sF T op ty a b K):
 ∃v u,(do eqGuard op ty F H y z;binOp op ty y z).run P w=.ok u w/\VRel C w v u/\K v:=by
 have c:∀{u:Value},((∀xs A,y=.agg xs->z=.agg A->False)/\¬(y=.nilIface/\z=.nilIface))->(binOp op ty y z).run P w=.ok u w->(do eqGuard op ty F H y z;binOp op ty y z).run P w=.ok u w:=by
  intro u g hr;rw[Dn,oO w g];simpa using hr
 unfold sF at h;split at h
 ·rename_i k m J n;obtain rfl:=AM.1 f;obtain rfl:=AM.1 hb;split at h
  ·rename_i D;unfold Mm at h;split at h
   ·rename_i v hv;exact⟨_,_,c ⟨by simp,by simp⟩ (A3G hv ty w),.v _,h⟩
   ·exact h.elim
  ·rename_i D;obtain⟨rfl,h⟩:=h;unfold Mm at h;split at h
   ·rename_i v hv;exact⟨_,_,c ⟨by simp,by simp⟩ (B0s (by simpa using D) hv ty w),.v _,h⟩
   ·exact h.elim
 ·obtain rfl:=AM.1 f;obtain rfl:=AM.1 hb;unfold Mm at h;split at h
  ·rename_i v hv;exact⟨_,_,c ⟨by simp,by simp⟩ (B0k hv ty w),.v _,h⟩
  ·exact h.elim
 ·rename_i p q;obtain rfl:=AM.1 f;obtain rfl:=AM.1 hb;obtain⟨⟨i,hi,s⟩,h⟩:=h;obtain⟨u,t,e⟩:=(B ty i hi).under;have x:u=.bool:=by rw[s]at e;cases u<;>simp[td]at e;rfl
  subst x;have he:(Op.equal ty (.bool p) (.bool q)).run P w=.ok (p==q) w:=by
   show(Op.equalIn (9999+1) ty _ _).run P w=_;unfold Op.equalIn;rw[Dn,run_underlying t w];rfl
  cases op<;>simp only at h<;>try exact h.elim
  ·exact⟨_,_,c ⟨by simp,by simp⟩ (by simp[binOp,he]),.v _,h⟩
  ·exact⟨_,_,c ⟨by simp,by simp⟩ (by simp[binOp,he]),.v _,h⟩
 ·split at h
  ·rename_i i hi;split at h
   ·rename_i q hq;obtain⟨u,t,e⟩:=(B ty i hi).under;have key:(Op.equal ty y z).run P w=.ok q w/\((∀xs A,y=.agg xs->z=.agg A->False)/\¬(y=.nilIface/\z=.nilIface))/\(binOp .eql ty y z=(do pure (.bool (<-Op.equal ty y z))))/\(binOp .neq ty y z=(do pure (.bool (!(<-Op.equal ty y z))))):=by
     unfold A1j at hq;split at hq<;>first
      |(have s:=‹i.d=_›
        injection hq with hq;subst hq
        rw[s]at e;cases u<;>simp[td]at e
        cases f<;>cases hb<;>(refine⟨by(show(Op.equalIn (9999+1) ty _ _).run P w=_);unfold Op.equalIn;rw[Dn,run_underlying t w];rfl,⟨by simp,by simp⟩,rfl,rfl⟩))
      |(cases hq;done)
    obtain⟨he,g,j,r⟩:=key;cases op<;>simp only at h<;>try exact h.elim
    ·exact⟨_,_,c g (by rw[j];simp[he]),.v _,h⟩
    ·exact⟨_,_,c g (by rw[r];simp[he]),.v _,h⟩
   ·exact h.elim
  ·exact h.elim
end
section
variable{a:AV}{K:AV->Prop}{C:Ctx}{esz f:Nat}{P:Program}{i:TI}{e t:TypeId}{y:Value}{w:World}
def xun(op:UnOp)(a:AV)(K:AV->Prop):Prop:=
 match op,a with
 |.neg,.v (.int k n)=>K (.v (.int k (k.wrap (0-n))))
 |.xor,.v (.int k n)=>K (.v (.int k (k.wrap ((BitVec.ofInt k.bits (if k.signed then-1 else k.max)^^^BitVec.ofInt k.bits n).toNat))))
 |.not,.v (.bool b)=>K (.v (.bool !b))
 |_,_=>False
def A6A{op:UnOp}(b:VRel C w a y)(h:xun op a K):∃v u,(Op.unary op y).run P w=.ok u w/\VRel C w v u/\K v:=by
 unfold xun at h;split at h
 ·obtain rfl:=AM.1 b;exact⟨_,_,rfl,.v _,h⟩
 ·obtain rfl:=AM.1 b;exact⟨_,_,rfl,.v _,h⟩
 ·obtain rfl:=AM.1 b;exact⟨_,_,rfl,.v _,h⟩
 ·exact h.elim
def A8C(a:AV)(K:AV->Prop):Prop:=
 match a with
 |.ptr .. =>K a
 |.iptr .. =>K a
 |.fn (.func _) _ _=>K a
 |.fn (.yield _) _ _=>K a
 |_=>False
def yG(T:Ty)(src dst:TypeId)(a:AV)(K:AV->Prop):Prop:=
 match T src,T dst with
 |some i,some j=>match j.d,a with
  |.int k,.v (.int _ n)=>K (.v (.int k (k.wrap n)))
  |.string,.v (.string s)=>(match i.d with|.string=>True|_=>False)/\K (.v (.string s))
  |_,_=>False
 |_,_=>False
def A0t{T:Ty}(q:jX P T){src dst:TypeId}(r:VRel C w a y)(h:yG T src dst a K):∃v u,(convert src dst y).run P w=.ok u w/\VRel C w v u/\K v:=by
 unfold yG at h;split at h
 ·rename_i i j hi A;obtain⟨u1,d,B⟩:=(q src i hi).under;obtain⟨m,g,c⟩:=(q dst j A).under;split at h
  ·rename_i k _ n p;obtain rfl:=AM.1 r;rw[p]at c;have b:m=.int k:=by cases m<;>simp[td]at c;rw[c]
   subst b;refine⟨_,_,?_,.v _,h⟩;unfold convert;rw[Dn,run_underlying d w];simp only[FY,Dn,run_underlying g w];rfl
  ·rename_i s p;obtain rfl:=AM.1 r;obtain⟨x,h⟩:=h;rw[p]at c;have b:m=.string:=by cases m<;>simp[td]at c;rfl
   subst b;refine⟨_,_,?_,.v _,h⟩;unfold convert;rw[Dn,run_underlying d w];simp only[FY,Dn,run_underlying g w];rfl
  ·exact h.elim
 ·exact h.elim
def kL(T:Ty)(ty:TypeId)(a:AV)(f:Nat)(K:AV->Prop):Prop:=
 match T ty with
 |some i=>match i.d with
  |.struct g=>match g[f]? with
   |some (off,sz,_)=>sz≠0/\(match a with
    |.ptr r p k=>∃c b,c+b=p+(k+off)/\K (.ptr r c b)
    |.iptr cs=>K (.iptr (cs.drop off))
    |_=>False)
   |none=>False
  |_=>False
 |none=>False
def mL{cs:Is}{b o:Nat}(h:VRel C w (.iptr cs) (.pointer (some ⟨b,o,none⟩)))(k:Nat):VRel C w (.iptr (cs.drop k)) (.pointer (some ⟨b,o+k,none⟩)):=by
 cases h with
 |iptr vs c hc hv=>
  refine .iptr (λi=>vs (k+i)) (λi hi=>?_) (λi hi=>?_) (λi hi=>?_)
  ·rw[kE];exact c _ (by simp at hi;omega)
  ·rw[kE];exact hc _ (by simp at hi;omega)
  ·rw[List.getElem_drop];exact hv _ (by simp at hi;omega)
def zH{cs:Is}{b o:Nat}(h:VRel C w (.iptr cs) (.pointer (some ⟨b,o,none⟩)))(k:Nat):VRel C w (.iptr (cs.take k)) (.pointer (some ⟨b,o,none⟩)):=by
 cases h with
 |iptr vs c hc hv=>
  refine .iptr vs (λi hi=>?_) (λi hi=>?_) (λi hi=>?_)
  ·exact c _ (by simp at hi;omega)
  ·exact hc _ (by simp at hi;omega)
  ·rw[List.getElem_take];exact hv _ (by simp at hi;omega)
def uT{cs:Is}(h:VRel C w (.iptr cs) y):∃b o,y=.pointer (some ⟨b,o,none⟩):=by
 cases h with
 |iptr vs c hc hv=>exact⟨_,_,rfl⟩
def BZ(w:World)(h:P.cellsOf t≠0):(sizeOf t).run P w=.ok (P.cellsOf t) w:=by
 unfold Program.cellsOf at h⊢;cases b:P.info? t with
 |none=>rw[b]at h;simp at h
 |some x=>simp[sizeOf,typeInfo,b]
def H_{T:Ty}(p:jX P T){ty:TypeId}(k:VRel C w a y)(h:kL T ty a f K):∃v u,(Instr.fieldAt ty y f).run P w=.ok u w/\VRel C w v u/\K v:=by
 unfold kL at h;split at h
 ·rename_i i hi;obtain⟨u1,m,g⟩:=(p ty i hi).under;split at h
  ·rename_i A q;split at h
   ·rename_i off sz ft d;obtain⟨hsz,h⟩:=h;rw[q]at g;cases u1<;>simp[td]at g
    rename_i fields;subst g;rw[xU]at d;cases c:fields.toList[f]? with
    |none=>rw[c]at d;simp at d
    |some fd=>
     rw[c]at d;simp at d;obtain⟨g,n,x⟩:=d;have j:fields[f]?=some fd:=by simpa using c
     have s:(sizeOf fd.type).run P w=.ok sz w:=by rw[<-n];exact BZ w (by rw[n];exact hsz)
     have run:∀b o,(Instr.fieldAt ty (.pointer (some ⟨b,o,none⟩)) f).run P w=.ok (.pointer (some ⟨b,o+off,none⟩)) w:=by
      intro b o;simp[Instr.fieldAt,run_underlying m,j,Instr.sureAddr,fieldPlace,s,hsz,Kl,g]
     split at h
     ·cases k with
      |ptr r=>
       obtain⟨D,B,he,h⟩:=h;exact⟨_,_,run _ _,by rw[kE,kE,<-he];exact .ptr r,h⟩
     ·obtain⟨b,o,rfl⟩:=uT k;exact⟨_,_,run _ _,mL k _,h⟩
     ·exact h.elim
   ·exact h.elim
  ·exact h.elim
 ·exact h.elim
def sC(T:Ty)(ty:TypeId)(a:AV)(f:Nat)(K:AV->Prop):Prop:=
 match T ty with
 |some i=>match i.d,a with
  |.struct b,.agg cs=>match b[f]? with
   |some (off,_,ft)=>YO T ft (cs.drop off) K
   |none=>False
  |_,_=>False
 |none=>False
def A0T{T:Ty}(n:jX P T){ft:TypeId}{off:Nat}{cs:Is}{ys:Hx}(k:CF C w cs ys)(h:YO T ft (cs.drop off) K):
 ∃v u,(part ft ys.toArray off).run P w=.ok u w/\VRel C w v u/\K v:=by
 unfold YO at h;cases hi:T ft with
 |none=>rw[hi]at h;exact h.elim
 |some i=>
  rw[hi]at h;have ok:=n ft i hi;simp only at h;by_cases b:i.d.isAgg=true
  ·rw[Dr b]at h;refine⟨_,.agg ((ys.drop off).take i.size).toArray,?_,XA0.2 ⟨_,rfl,(k.drop off).take _⟩,h.2⟩;simp only[part,Dn,ok.run_isAgg,b,ok.run_size,FY,if_true,mJ]
   congr 2
   apply qK;simp[List.take_drop]
  ·rw[CD b]at h;have g:i.d.isAgg=false:=by simpa using b
   cases hc:cs.drop off with
   |nil=>rw[hc]at h;exact h.elim
   |cons c m=>
    rw[hc]at h;have j:=k.drop off;rw[hc]at j;obtain⟨y,q,e,hv,_⟩:=j.cons_inv;have p:ys.toArray[off]?=some y:=by
     have:(ys.drop off)[0]?=some y:=by rw[e];rfl
     rw[qJ]at this;simpa using this
    exact⟨c,y,by simp[part,ok.run_isAgg,g,p],hv,h⟩
def H?{T:Ty}(k:jX P T){ty:TypeId}(p:VRel C w a y)(h:sC T ty a f K):∃v u,(Instr.field ty y f).run P w=.ok u w/\VRel C w v u/\K v:=by
 unfold sC at h;split at h
 ·rename_i i hi;obtain⟨u1,j,d⟩:=(k ty i hi).under;split at h
  ·rename_i x cs q;split at h
   ·rename_i off sz ft c;rw[q]at d;cases u1<;>simp[td]at d
    rename_i fields;subst d;rw[xU]at c;cases b:fields.toList[f]? with
    |none=>rw[b]at c;simp at c
    |some fd=>
     rw[b]at c;simp at c;obtain⟨d,s,m⟩:=c;have g:fields[f]?=some fd:=by simpa using b
     obtain⟨A,rfl,r⟩:=XA0.1 p;obtain⟨v,u,h1,h2,n⟩:=A0T (P:=P) k r h;refine⟨v,u,?_,h2,n⟩;simp[Instr.field,run_underlying j,g,asAgg,d,m,h1]
   ·exact h.elim
  ·exact h.elim
 ·exact h.elim
def sB(T:Ty)(ty:TypeId)(a i:AV)(K:AV->Prop):Prop:=
 match T ty,i with
 |some g,.v (.int _ n)=>match g.d,a with
  |.slice _ esz,.list m cs=>(0<=n/\n<m)/\K (.iptr ((cs.drop (n.toNat*esz)).take esz))
  |.slice _ esz,.sl _ r o m=>(0<=n/\n<m)/\K (.ptr r (o+n.toNat*esz) 0)
  |.array m _ esz,.ptr r p k=>(0<=n/\n<m)/\∃c b,c+b=p+(k+n.toNat*esz)/\K (.ptr r c b)
  |.array m _ esz,.iptr cs=>(0<=n/\n<m)/\K (.iptr ((cs.drop (n.toNat*esz)).take esz))
  |_,_=>False
 |_,_=>False
def TOk1.elem_slice(h:TOk1 P t i)(c:i.d=.slice e esz):P.underlying t=some (.slice e)/\P.cellsOf e=esz:=by
 obtain⟨u,g,b⟩:=h.under;rw[c]at b;cases u<;>simp[td]at b
 rw[g,b.1];exact⟨rfl,b.1▸b.2⟩
def TOk1.elem_array(h:TOk1 P t i){n:Nat}(c:i.d=.array n e esz):P.underlying t=some (.array n e)/\P.cellsOf e=esz:=by
 obtain⟨u,g,b⟩:=h.under;rw[c]at b;cases u<;>simp[td]at b
 rw[g,b.1,b.2.1];exact⟨rfl,b.2.1▸b.2.2⟩
def H!{T:Ty}(J:jX P T)(A:∀t i e esz,T t=some i->(i.d=.slice e esz\/∃n,i.d=.array n e esz)->esz≠0){ty:TypeId}{a i:AV}{y z:Value}(q:VRel C w a y)(hi:VRel C w i z)(h:sB T ty a i K):
 ∃v u,(Instr.indexAt ty y z).run P w=.ok u w/\VRel C w v u/\K v:=by
 unfold sB at h;split at h
 ·rename_i x k n g;obtain rfl:=AM.1 hi;have ok:=J ty x g;split at h
  ·rename_i e esz m cs c;obtain⟨j,hc⟩:=ok.elem_slice c;have hsz:(sizeOf e).run P w=.ok esz w:=by rw[<-hc];exact BZ w (by rw[hc];exact A ty x e esz g (.inl c))
   obtain⟨hb,h⟩:=h;cases q with
   |list0=>omega
   |list s vs H B hv=>
    refine⟨_,_,?_,zH (mL (.iptr vs H B hv) _) _,h⟩;simp[Instr.indexAt,asIntOf,run_underlying j,hb,hsz,Kl]
  ·rename_i e esz sz r o m c;obtain⟨j,hc⟩:=ok.elem_slice c;have hsz:(sizeOf e).run P w=.ok esz w:=by rw[<-hc];exact BZ w (by rw[hc];exact A ty x e esz g (.inl c))
   obtain⟨hb,h⟩:=h;cases q with
   |slz=>omega
   |sl D s L F=>
    refine⟨_,_,?_,.ptr D,h⟩;simp[Instr.indexAt,asIntOf,run_underlying j,hb,hsz,Kl,kE]
  ·rename_i m e esz r p kk c;obtain⟨j,hc⟩:=ok.elem_array c;have hsz:(sizeOf e).run P w=.ok esz w:=by rw[<-hc];exact BZ w (by rw[hc];exact A ty x e esz g (.inr ⟨m,c⟩))
   obtain⟨hb,h⟩:=h;cases q with
   |ptr D=>
    obtain⟨N,M,he,h⟩:=h;refine⟨_,_,?_,.ptr D,h⟩;simp[Instr.indexAt,asIntOf,run_underlying j,hb,hsz,Kl,he,kE,Instr.sureAddr]
  ·rename_i m e esz cs c;obtain⟨j,hc⟩:=ok.elem_array c;have hsz:(sizeOf e).run P w=.ok esz w:=by rw[<-hc];exact BZ w (by rw[hc];exact A ty x e esz g (.inr ⟨m,c⟩))
   obtain⟨hb,h⟩:=h;obtain⟨b,o,rfl⟩:=uT q;refine⟨_,_,?_,zH (mL q _) _,h⟩;simp[Instr.indexAt,asIntOf,run_underlying j,hb,hsz,Kl,Instr.sureAddr]
  ·exact h.elim
 ·exact h.elim
def sA(T:Ty)(ty:TypeId)(a i:AV)(K:AV->Prop):Prop:=
 match T ty,i with
 |some b,.v (.int _ n)=>match b.d,a with
  |.string,.v (.string s)=>(0<=n/\n<s.size)/\K (.v (.int .u8 (s.data.toList.getD n.toNat 0).toNat))
  |.array m e esz,.agg cs=>(0<=n/\n<m)/\YO T e (cs.drop (n.toNat*esz)) K
  |_,_=>False
 |_,_=>False
def G_{T:Ty}(r:jX P T)(D:∀t i e esz,T t=some i->(i.d=.slice e esz\/∃n,i.d=.array n e esz)->esz≠0){ty:TypeId}{a i:AV}{y z:Value}(x:VRel C w a y)(hi:VRel C w i z)(h:sA T ty a i K):
 ∃v u,(Instr.index ty y z).run P w=.ok u w/\VRel C w v u/\K v:=by
 unfold sA at h;split at h
 ·rename_i A k n c;obtain rfl:=AM.1 hi;have ok:=r ty A c;split at h
  ·rename_i s g;obtain⟨u,j,q⟩:=ok.under;rw[g]at q;have p:u=.string:=by cases u<;>simp[td]at q;rfl
   subst p;obtain rfl:=AM.1 x;obtain⟨hb,h⟩:=h;refine⟨_,_,?_,.v _,h⟩;have b:n.toNat<s.size:=by omega
   have H:s[n.toNat]?=some s[n.toNat]:=by simp[b]
   have J:s.data.toList.getD n.toNat 0=s[n.toNat]:=by
    rw[UT,KL (by simpa using b)];rfl
   rw[J];simp[Instr.index,asIntOf,run_underlying j,hb.1,H]
  ·rename_i m e esz cs g;obtain⟨j,hc⟩:=ok.elem_array g;have hsz:(sizeOf e).run P w=.ok esz w:=by rw[<-hc];exact BZ w (by rw[hc];exact D ty A e esz c (.inr ⟨m,g⟩))
   obtain⟨hb,h⟩:=h;obtain⟨L,rfl,F⟩:=XA0.1 x;obtain⟨v,u,h1,h2,B⟩:=A0T (P:=P) r F h;refine⟨v,u,?_,h2,B⟩;simp[Instr.index,asIntOf,run_underlying j,hb,hsz,h1]
  ·exact h.elim
 ·exact h.elim
end
section
variable{a:AV}{C:Ctx}{yh yl ym:Option Value}{P:Program}{y:Value}{w:World}
def C1a:AV->Option Int
 |.v (.int _ n)=>some n
 |_=>none
def ZG:Option AV->Nat->Option Int
 |none,d=>some d
 |some a,_=>C1a a
def rY(T:Ty)(ty:TypeId)(a:AV)(c hi mx:Option AV)(K:AV->Prop):Prop:=
 match T ty with
 |some e=>match e.d,a with
  |.string,.v (.string s)=>mx.isNone=true/\Mm (ZG c 0) λl=>Mm (ZG hi s.size) λh=>(0<=l/\l<=h/\h<=s.size)/\K (.v (.string (s.extract l.toNat h.toNat)))
  |.slice _ b,.list m cs=>Mm (ZG c 0) λl=>Mm (ZG hi m) λh=>Mm (ZG mx m) λx=>(0<=l/\l<=h/\h<=x/\x<=m)/\(mx.isSome=true->hi.isSome=true)/\K (.list (h-l).toNat ((cs.drop (l.toNat*b)).take ((h-l).toNat*b)))
  |.slice _ b,.sl sz r o m=>b=sz/\Mm (ZG c 0) λl=>Mm (ZG hi m) λh=>Mm (ZG mx m) λx=>(0<=l/\l<=h/\h<=x/\x<=m)/\(mx.isSome=true->hi.isSome=true)/\K (.sl sz r (o+l.toNat*b) (h-l).toNat)
  |.slice _ _,.v (.slice none 0 0)=>Mm (ZG c 0) λl=>Mm (ZG hi 0) λh=>mx.isNone=true/\(l=0/\h=0)/\K (.v (.slice none 0 0))
  |_,_=>False
 |none=>False
def nS{n:Int}(h:VRel C w a y)(hb:C1a a=some n){c:Nat}(b:0<=n)(h1:n<=c)(code:BoundsCode):(Instr.sliceBound y c code).run P w=.ok n.toNat w:=by
 unfold C1a at hb;split at hb
 ·rename_i k m;injection hb with hb
  subst hb;obtain rfl:=AM.1 h;simp[Instr.sliceBound,asIntOf,b,h1]
 ·cases hb
def A02(C:Ctx)(w:World):Option AV->Option Value->Prop
 |none,none=>True
 |some a,some y=>VRel C w a y
 |_,_=>False
def Tn{f hi mx:Option AV}(c:A02 C w f yl)(j:A02 C w hi yh)(hm:A02 C w mx ym){isS:Bool}{len cap:Nat}{l h x:Int}(hc:len<=cap)(t:ZG f 0=some l)(s:ZG hi len=some h)(u:ZG mx cap=some x)(hb:0<=l/\l<=h/\h<=x/\x<=cap)(r:mx.isSome=true->hi.isSome=true):
 (Instr.sliceBounds isS len cap yl yh ym).run P w=.ok (l.toNat,h.toNat,x.toNat) w:=by
 have h1:∀(a:AV)(y:Value),mx=some a->VRel C w a y->∀code,(Instr.sliceBound y cap code).run P w=.ok x.toNat w:=λa y e hv code=>by
  subst e;exact nS hv u (by omega) (by omega) _
 have h2:∀(a:AV)(y:Value),hi=some a->VRel C w a y->∀code,(Instr.sliceBound y x.toNat code).run P w=.ok h.toNat w:=λa y e hv code=>by
  subst e;exact nS hv s (by omega) (by omega) _
 have p:∀(a:AV)(y:Value),f=some a->VRel C w a y->∀code,(Instr.sliceBound y h.toNat code).run P w=.ok l.toNat w:=λa y e hv code=>by
  subst e;exact nS hv t (by omega) (by omega) _
 have k:mx=none->x.toNat=cap:=λe=>by subst e;simp[ZG]at u;omega
 have n:hi=none->h.toNat=len:=λe=>by subst e;simp[ZG]at s;omega
 have d:f=none->l.toNat=0:=λe=>by subst e;simp[ZG]at t;omega
 cases mx with
 |none=>
  cases ym with
  |some _=>exact hm.elim
  |none=>
   have i:=k rfl;cases hi with
   |none=>
    cases yh with
    |some _=>exact j.elim
    |none=>
     have v:=n rfl;cases f with
     |none=>
      cases yl with
      |some _=>exact c.elim
      |none=>simp[Instr.sliceBounds,i,v,d rfl]
     |some a=>
      cases yl with
      |none=>exact c.elim
      |some y=>have:=p a y rfl c;simp only[Instr.sliceBounds,pure_bind,Dn,Option.isSome_none,xT,if_false,<-i,<-v,this,FY,mJ]
   |some b=>
    cases yh with
    |none=>exact j.elim
    |some z=>
     have g:=h2 b z rfl j;rw[i]at g;cases f with
     |none=>
      cases yl with
      |some _=>exact c.elim
      |none=>simp[Instr.sliceBounds,i,d rfl,g]
     |some a=>
      cases yl with
      |none=>exact c.elim
      |some y=>have:=p a y rfl c;simp only[Instr.sliceBounds,pure_bind,Dn,Option.isSome_none,xT,if_false,i,g,this,FY,mJ]
 |some m=>
  cases ym with
  |none=>exact hm.elim
  |some q=>
   have A:=h1 m q rfl hm;cases hi with
   |none=>simp at r
   |some b=>
    cases yh with
    |none=>exact j.elim
    |some z=>
     have g:=h2 b z rfl j;cases f with
     |none=>
      cases yl with
      |some _=>exact c.elim
      |none=>simp[Instr.sliceBounds,d rfl,A,g]
     |some a=>
      cases yl with
      |none=>exact c.elim
      |some y=>have:=p a y rfl c;simp only[Instr.sliceBounds,Dn,Option.isSome_some,if_true,A,g,this,FY,mJ]
def B0L{n cap:Nat}{cs:Is}{b o:Nat}(h:VRel C w (.list n cs) (.slice (some ⟨b,o,none⟩) n cap))(k m c:Nat)(j:Nat)(hm:m<=c):VRel C w (.list m ((cs.drop k).take j)) (.slice (some ⟨b,o+k,none⟩) m c):=by
 cases h with
 |list0=>
  refine .list hm (λ_=>undef) (λi hi=>?_) (λi hi=>?_) (λi hi=>?_)<;>simp at hi
 |list hc vs e d hv=>
  refine .list hm (λi=>vs (k+i)) (λi hi=>?_) (λi hi=>?_) (λi hi=>?_)
  ·rw[kE];exact e _ (by simp at hi;omega)
  ·rw[kE];exact d _ (by simp at hi;omega)
  ·rw[List.getElem_take,List.getElem_drop];exact hv _ (by simp at hi;omega)
def G?{T:Ty}(hT:jX P T)(hP:∀t i e b,T t=some i->(i.d=.slice e b\/∃n,i.d=.array n e b)->b≠0){ty:TypeId}{Q hi mx:Option AV}{K:AV->Prop}(N:VRel C w a y)(Y:A02 C w Q yl)(X:A02 C w hi yh)(hm:A02 C w mx ym)(h:rY T ty a Q hi mx K):∃v u,(Instr.sliceAt ty y yl yh ym).run P w=.ok u w/\VRel C w v u/\K v:=by
 unfold rY at h;split at h
 ·rename_i ti M;have ok:=hT ty ti M;have aa:∀u,P.underlying ty=some u->(∀n e,u≠.array n e)->Instr.sliceAt ty y yl yh ym=Instr.sliceAt ty y yl yh ym:=λ_ _ _=>rfl;split at h
  ·rename_i s L;obtain⟨u,H,e1⟩:=ok.under;rw[L]at e1;have af:u=.string:=by cases u<;>simp[td]at e1;rfl
   subst af;obtain rfl:=AM.1 N;obtain⟨hn,h⟩:=h;cases mx with
   |some _=>simp at hn
   |none=>
    cases ym with
    |some _=>exact hm.elim
    |none=>
     cases f:ZG Q 0 with
     |none=>rw[f]at h;exact h.elim
     |some l=>
      rw[f]at h;cases c:ZG hi s.size with
      |none=>rw[c]at h;exact h.elim
      |some ag=>
       rw[c]at h;simp only[Mm]at h;obtain⟨hb,h⟩:=h;have j:=Tn (P:=P) (isS:=false) Y X hm (LH s.size) f c (show ZG none s.size=some (s.size:Int) from rfl) ⟨hb.1,hb.2.1,hb.2.2,Int.le_refl _⟩ (by simp);refine⟨_,_,?_,.v _,h⟩;unfold Instr.sliceAt;rw[Dn,run_underlying H w];simp only[FY];unfold Instr.slice;rw[Dn,run_underlying H w];simp only[FY,Option.isSome_none,xT,if_false];rw[Dn,j];rfl
  ·rename_i e b m cs L;obtain⟨H,hc⟩:=ok.elem_slice L;have hsz:(sizeOf e).run P w=.ok b w:=by rw[<-hc];exact BZ w (by rw[hc];exact hP ty ti e b M (.inl L))
   cases f:ZG Q 0 with
   |none=>rw[f]at h;exact h.elim
   |some l=>
    rw[f]at h;cases c:ZG hi m with
    |none=>rw[c]at h;exact h.elim
    |some h1=>
     rw[c]at h;cases k:ZG mx m with
     |none=>rw[k]at h;exact h.elim
     |some x=>
      rw[k]at h;simp only[Mm]at h;obtain⟨hb,O,h⟩:=h;obtain⟨A,cap,rfl,g⟩:∃A cap,y=.slice A m cap/\m<=cap:=by
       cases N with
       |list0=>exact⟨_,_,rfl,l1h _⟩
       |list g=>exact⟨_,_,rfl,g⟩
      obtain⟨p,B,J⟩:∃p:Int,ZG mx cap=some p/\h1<=p/\p<=cap:=by
       cases mx with
       |none=>exact⟨cap,rfl,by simp[ZG]at k;omega,Int.le_refl _⟩
       |some mm=>exact⟨x,k,by omega,by omega⟩
      have j:=Tn (P:=P) (isS:=true) Y X hm g f c B ⟨hb.1,hb.2.1,J.1,J.2⟩ O;have q:(Instr.sliceAt ty (.slice A m cap) yl yh ym).run P w=.ok (.slice (if p.toNat=l.toNat then A else A.map (·.add (l.toNat*b))) (h1.toNat-l.toNat) (p.toNat-l.toNat)) w:=by
       unfold Instr.sliceAt;rw[Dn,run_underlying H w];simp only[FY];unfold Instr.slice;rw[Dn,run_underlying H w];simp only[FY];rw[Dn,j];simp only[FY];rw[Dn,hsz];rfl
      refine⟨_,_,q,?_,h⟩;have F:h1.toNat-l.toNat=(h1-l).toNat:=by omega
      rw[F];by_cases hz:(h1-l).toNat=0
      ·rw[hz];simp;exact .list0
      ·have ae:p.toNat≠l.toNat:=by omega
       rw[CD ae];cases N with
       |list0=>omega
       |list D vs hF ac hv=>
        simp only[zC,Kl];exact B0L (.list D vs hF ac hv) _ _ _ _ (by omega)
  ·rename_i e b sz r o m L;obtain⟨H,hc⟩:=ok.elem_slice L;have hsz:(sizeOf e).run P w=.ok b w:=by rw[<-hc];exact BZ w (by rw[hc];exact hP ty ti e b M (.inl L))
   obtain⟨rfl,h⟩:=h;cases f:ZG Q 0 with
   |none=>rw[f]at h;exact h.elim
   |some l=>
    rw[f]at h;cases c:ZG hi m with
    |none=>rw[c]at h;exact h.elim
    |some h1=>
     rw[c]at h;cases k:ZG mx m with
     |none=>rw[k]at h;exact h.elim
     |some x=>
      rw[k]at h;simp only[Mm]at h;obtain⟨hb,O,h⟩:=h;obtain⟨A,cap,rfl,g⟩:∃A cap,y=.slice A m cap/\m<=cap:=by
       cases N with
       |slz=>exact⟨_,_,rfl,l1h _⟩
       |sl Z g R V=>exact⟨_,_,rfl,g⟩
      obtain⟨p,B,J⟩:∃p:Int,ZG mx cap=some p/\h1<=p/\p<=cap:=by
       cases mx with
       |none=>exact⟨cap,rfl,by simp[ZG]at k;omega,Int.le_refl _⟩
       |some mm=>exact⟨x,k,by omega,by omega⟩
      have j:=Tn (P:=P) (isS:=true) Y X hm g f c B ⟨hb.1,hb.2.1,J.1,J.2⟩ O;have q:(Instr.sliceAt ty (.slice A m cap) yl yh ym).run P w=.ok (.slice (if p.toNat=l.toNat then A else A.map (·.add (l.toNat*b))) (h1.toNat-l.toNat) (p.toNat-l.toNat)) w:=by
       unfold Instr.sliceAt;rw[Dn,run_underlying H w];simp only[FY];unfold Instr.slice;rw[Dn,run_underlying H w];simp only[FY];rw[Dn,j];simp only[FY];rw[Dn,hsz];rfl
      refine⟨_,_,q,?_,h⟩;have F:h1.toNat-l.toNat=(h1-l).toNat:=by omega
      rw[F];by_cases hz:p.toNat=l.toNat
      ·have h0:(h1-l).toNat=0:=by omega
       have ab:p.toNat-l.toNat=0:=by omega
       rw[h0,ab];cases N with
       |slz hr=>exact .slz hr
       |sl Z=>exact .slz (by rw[Z];simp)
      ·rw[CD hz];cases N with
       |slz hr=>
        exact absurd (by omega) hz
       |sl Z D R V=>
        simp only[zC,Kl,kE];refine .sl Z (by omega) R ?_;have h3:(p.toNat-l.toNat)*b+l.toNat*b=p.toNat*b:=by rw[<-l1e];congr 1;omega
        have h4:p.toNat*b<=cap*b:=l28 _ (by omega);omega
  ·rename_i e b L;obtain⟨H,hc⟩:=ok.elem_slice L;have hsz:(sizeOf e).run P w=.ok b w:=by rw[<-hc];exact BZ w (by rw[hc];exact hP ty ti e b M (.inl L))
   obtain rfl:=AM.1 N;cases f:ZG Q 0 with
   |none=>rw[f]at h;exact h.elim
   |some l=>
    rw[f]at h;cases c:ZG hi 0 with
    |none=>rw[c]at h;exact h.elim
    |some h1=>
     rw[c]at h;simp only[Mm]at h;obtain⟨hn,⟨rfl,rfl⟩,h⟩:=h;cases mx with
     |some _=>simp at hn
     |none=>
      cases ym with
      |some _=>exact hm.elim
      |none=>
       have j:=Tn (P:=P) (isS:=true) Y X hm (LH 0) f c (show ZG none 0=some ((0:Nat):Int) from rfl) ⟨by omega,by omega,by omega,by omega⟩ (by simp);refine⟨_,_,?_,.v _,h⟩;unfold Instr.sliceAt;rw[Dn,run_underlying H w];simp only[FY];unfold Instr.slice;rw[Dn,run_underlying H w];simp only[FY];rw[Dn,j];simp only[FY];rw[Dn,hsz];rfl
  ·exact h.elim
 ·exact h.elim
end
section
variable{K:AV->Prop}{C:Ctx}{P:Program}{w:World}
def B1b(off:Nat)(l:Hx):∀(k:Nat)(cs:Array Value),off+k+l.length<=cs.size->(l.zipIdx k).foldl (λ(cs:Array Value)(p:Value×Nat)=>cs.setIfInBounds (off+p.2) p.1) cs=(splice cs.toList (off+k) l).toArray:=by
 induction l with
 |nil=>intro k cs _;simp[sW]
 |cons v l ih=>
  intro k cs h;simp only[List.zipIdx_cons,List.foldl_cons];simp only[Mr]at h;rw[ih (k+1) _ (by simp;omega)]
  congr 1
  rw[<-oB (by simp;omega)];simp[kE]
def A4a(v:Value)(off:Nat)(cs:Array Value)(h:off+v.cells.size<=cs.size):v.cells.zipIdx.foldl (λ(cs:Array Value)(p:Value×Nat)=>cs.setIfInBounds (off+p.2) p.1) cs=(splice cs.toList off v.cells.toList).toArray:=by
 have:=B1b off v.cells.toList 0 cs (by simpa using h);rw[<-Array.foldl_toList];simpa using this
def Tp(place:Nat->Option (Nat×Nat)):List (Nat×AV)->Is->Option Is
 |[],cs=>some cs
 |(i,a)::rest,cs=>match place i with
  |none=>none
  |some (off,sz)=>if(B0 a).length=sz/\off+(B0 a).length<=cs.length/\(B0 a).all AV.one=true then Tp place rest (splice cs off (B0 a)) else none
theorem CF.splice{cs a:Is}{ys zs:Hx}{o:Nat}(h:CF C w cs ys)(k:CF C w a zs):CF C w (splice cs o a) (splice ys o zs):=by
 unfold Abs.splice;rw[k.1];exact((h.take o).append k).append (h.drop _)
def jA{place:Nat->Option (Nat×Nat)}:∀(ps:List (Nat×AV))(b:List (Nat×Value))(cs:Is)(ys:Hx)(r:Is),ps.length=b.length->(∀(j:Nat)(p:Nat×AV),ps[j]?=some p->∃z,b[j]?=some (p.1,z)/\VRel C w p.2 z)->CF C w cs ys->
 Tp place ps cs=some r->∃f:Hx,Instr.fill place ys.toArray b=some f.toArray/\CF C w r f:=by
 intro ps
 induction ps with
 |nil=>
  intro b cs ys r e _ hr h;cases b with
  |cons _ _=>simp at e
  |nil=>simp[Tp]at h;subst h;exact⟨ys,rfl,hr⟩
 |cons p ps ih=>
  intro b cs ys r e hq hr h;obtain⟨i,a⟩:=p;cases b with
  |nil=>simp at e
  |cons q b=>
   obtain⟨z,hz,hv⟩:=hq 0 (i,a) rfl;simp at hz;subst hz;simp only[Tp]at h;split at h
   ·cases h
   ·rename_i off sz t;split at h
    ·rename_i hc;obtain⟨h1,h2,m⟩:=hc;obtain⟨c,k⟩:=hv.cells m;have g:z.cells.size=(B0 a).length:=by have:=c.1;simpa using this
     have u:ys.length=cs.length:=hr.1;obtain⟨f,n,d⟩:=ih b _ (splice ys off z.cells.toList) r (by simpa using e) (λj p s=>by have:=hq (j+1) p (by simpa using s);simpa using this) (hr.splice c) h;refine⟨f,?_,d⟩;simp only[Instr.fill,t];have c1:¬(z.cells.size≠sz||off+z.cells.size>ys.toArray.size)=true:=by simp;omega
     rw[CD c1];rw[A4a z off ys.toArray (by simp;omega)];simpa using n
    ·cases h
def sD(T:Ty)(ty:TypeId)(ps:List (Nat×AV))(K:AV->Prop):Prop:=
 match T ty with
 |some i=>match i.d with
  |.struct b=>(b.all λf=>f.2.1 !=0)=true/\Mm (Tp (λj=>(b[j]?).map λf=>(f.1,f.2.1)) ps (B0 i.zero)) λcs=>K (.agg cs)
  |.array _ _ a=>a≠0/\Mm (Tp (λj=>some (j*a,a)) ps (B0 i.zero)) λcs=>K (.agg cs)
  |_=>False
 |none=>False
def yY(z:Value)(h:∀vs,z≠.tuple vs):CF C w (B0 (tQ z)) z.cells.toList:=by
 cases z with
 |agg cs=>simpa [tQ,B0,Value.cells] using Xc (C:=C) (w:=w) cs.toList
 |tuple vs=>exact absurd rfl (h vs)
 |_=>exact .cons (.v _) .nil
def A1q(w:World):∀(l:List Field),(l.all λf=>P.cellsOf f.type !=0)=true->(l.mapM (λf=>do pure (f.offset,<-sizeOf f.type):Field->Sem (Nat×Nat))).run P w=.ok (l.map λf=>(f.offset,P.cellsOf f.type)) w:=by
 intro l
 induction l with
 |nil=>intro _;rfl
 |cons f l ih=>
  intro h;simp only[oG,KK,bne_iff_ne,ne_eq]at h;rw[List.mapM_cons];simp only[Dn,BZ w h.1,FY,mJ,ih h.2,XC]
def I'{T:Ty}(H:jX P T){ty:TypeId}{ps:List (Nat×AV)}{k:List (Nat×Value)}(b:ps.length=k.length)(hq:∀(j:Nat)(p:Nat×AV),ps[j]?=some p->∃z,k[j]?=some (p.1,z)/\VRel C w p.2 z)(h:sD T ty ps K):∃v u,(Instr.build ty k.toArray).run P w=.ok u w/\VRel C w v u/\K v:=by
 unfold sD at h;split at h
 ·rename_i i hi;have ok:=H ty i hi;obtain⟨z,hz,D⟩:=ok.run_zero (P:=P) w;obtain⟨u,J,e⟩:=ok.under;have A:(B0 i.zero).length=z.cells.size->CF C w (B0 i.zero) z.cells.toList:=by
   intro _;rw[<-D];cases z with
   |tuple vs=>exact .cons (.v _) .nil
   |agg cs=>exact yY _ (by simp)
   |_=>exact .cons (.v _) .nil
  have B:(B0 i.zero).length=z.cells.size:=by
   rw[<-D];cases z<;>simp[tQ,B0,Value.cells]
  have g:=A B;split at h
  ·rename_i F q;obtain⟨a,h⟩:=h;rw[q]at e;cases u<;>simp[td]at e
   rename_i fields;cases d:Tp (λj=>(F[j]?).map λf=>(f.1,f.2.1)) ps (B0 i.zero) with
   |none=>rw[d]at h;exact h.elim
   |some r=>
    rw[d]at h;obtain⟨m,h1,h2⟩:=jA (C:=C) (w:=w) ps k _ _ r b hq g d;refine⟨.agg r,.agg m.toArray,?_,XA0.2 ⟨m,rfl,h2⟩,h⟩;have hm:=A1q (P:=P) w fields.toList (by
     rw[<-e]at a;simpa [List.all_map,l1y] using a)
    have s:(fields.mapM (λf=>do pure (f.offset,<-sizeOf f.type):Field->Sem (Nat×Nat))).run P w=.ok (fields.toList.map λf=>(f.offset,P.cellsOf f.type)).toArray w:=by
     rw[Array.mapM_eq_mapM_toList,Sem.run_map,hm];rfl
    have x:(λ(j:Nat)=>((fields.toList.map λf=>(f.offset,P.cellsOf f.type)).toArray)[j]?)=(λ(j:Nat)=>(F[j]?).map λ(f:Nat×Nat×TypeId)=>(f.1,f.2.1)):=by
     funext j
     rw[<-e];simp[xU,l1y]
    unfold Instr.build;rw[Dn,hz];simp only[FY];rw[Dn,run_underlying J w];simp only[FY];rw[Dn,s];simp only[FY];rw[x];simp only[Array.toArray_toList]at h1;simp[h1]
  ·rename_i n el c q;obtain⟨t,h⟩:=h;obtain⟨y,hc⟩:=ok.elem_array q;have hsz:(sizeOf el).run P w=.ok c w:=by rw[<-hc];exact BZ w (by rw[hc];exact t)
   cases d:Tp (λj=>some (j*c,c)) ps (B0 i.zero) with
   |none=>rw[d]at h;exact h.elim
   |some r=>
    rw[d]at h;obtain⟨m,h1,h2⟩:=jA (C:=C) (w:=w) ps k _ _ r b hq g d;refine⟨.agg r,.agg m.toArray,?_,XA0.2 ⟨m,rfl,h2⟩,h⟩;simp only[Array.toArray_toList]at h1;unfold Instr.build;rw[Dn,hz];simp only[FY];rw[Dn,run_underlying y w];simp only[FY];rw[Dn,hsz];simp[h1]
  ·exact h.elim
 ·exact h.elim
def A8D(T:Ty)(ty:TypeId)(a:AV)(K:AV->Prop):Prop:=
 match T ty with
 |some i=>match i.d,a with
  |.string,.v (.string s)=>K (.v (.int .i64 s.size))
  |.slice ..,.list n _=>K (.v (.int .i64 n))
  |.slice ..,.sl _ _ _ n=>K (.v (.int .i64 n))
  |.slice ..,.v (.slice none 0 0)=>K (.v (.int .i64 0))
  |.array n _ _,_=>K (.v (.int .i64 n))
  |_,_=>False
 |none=>False
def A2X{T:Ty}(g:jX P T){ty rt:TypeId}{ts:Array TypeId}{a:AV}{y:Value}(b:ts[0]?=some ty)(f:VRel C w a y)(h:A8D T ty a K):∃v u,(Builtin.len_ ts rt #[y]).run P w=.ok u w/\VRel C w v u/\K v:=by
 unfold A8D at h;split at h
 ·rename_i i hi;have ok:=g ty i hi;obtain⟨u,d,e⟩:=ok.under;split at h
  ·rename_i s c;obtain rfl:=AM.1 f;rw[c]at e;cases u<;>simp[td]at e
   exact⟨_,_,by simp[Builtin.len_,b,run_underlying d];rfl,.v _,h⟩
  ·rename_i c;rw[c]at e;cases u<;>simp[td]at e
   cases f with
   |list0=>exact⟨_,_,by simp[Builtin.len_,b,run_underlying d];rfl,.v _,h⟩
   |list=>exact⟨_,_,by simp[Builtin.len_,b,run_underlying d];rfl,.v _,h⟩
  ·rename_i c;rw[c]at e;cases u<;>simp[td]at e
   cases f with
   |slz=>exact⟨_,_,by simp[Builtin.len_,b,run_underlying d];rfl,.v _,h⟩
   |sl=>exact⟨_,_,by simp[Builtin.len_,b,run_underlying d];rfl,.v _,h⟩
  ·rename_i c;obtain rfl:=AM.1 f;rw[c]at e;cases u<;>simp[td]at e
   exact⟨_,_,by simp[Builtin.len_,b,run_underlying d];rfl,.v _,h⟩
  ·rename_i c;rw[c]at e;cases u<;>simp[td]at e
   obtain⟨rfl,_⟩:=e;exact⟨_,_,by simp[Builtin.len_,b,run_underlying d];rfl,.v _,h⟩
  ·exact h.elim
 ·exact h.elim
end
end Go.Abs
end
