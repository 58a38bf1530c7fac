import Derived.ProofKit
import Derived.Deep.Slices
import Derived.OpenShut
import Derived.Test.YtlbhdmbfdcohhaaGreatDoorRows
import Derived.LaidMore
import Derived.Stop.Joined
import Derived.MakeChecks
import Derived.FnData
import Derived.DataElems
import Derived.Lay
import Derived.Test.YtlbhdmbfdcohhaaGreatDoorTie
import Derived.Test.YtlbhdmbfdcohhaaGreatDoorCards
import Derived.SevenTiedAt
import Derived.Test.YtlbhdmbfdcohhaaGreatDoorS15
import Derived.Test.YtlbhdmbfdcohhaaGreatDoorS51
import Derived.Test.YtlbhdmbfdcohhaaGreatDoorS52
set_option linter.all false
set_option maxHeartbeats 100000000
noncomputable section
namespace Go.Abs
open Go.RowKit Go.Proofs
set_option maxRecDepth 100000
theorem B3h (L n:Nat):RSound A1c (E L) Tryz.prog (rt L n):=A8H (C7S L) (C4S L) (C4P _) n
def Y7.vs (y:Y7):List Value:=[.int .i64 y.y0,.int .i64 y.y1,.int .i64 y.y2,.int .i64 y.y3,.int .i64 y.y4,.int .i64 y.y5,.int .i64 y.y6]
theorem C3Q (xs:List Y7):xs.flatMap Y7.cs=(xs.flatMap Y7.vs).map λx=> .v x:=by
 induction xs with
 |nil=>rfl
 |cons y xs ih=>rw[l00,l00,Zl,ih];rfl
theorem B4J {α β:Type} (f:α→List β) (w:Nat) (hf:∀x,(f x).length=w):∀(l:List α) (i j:Nat) (h:i<l.length),j<w→(l.flatMap f)[i*w+j]?=(f l[i])[j]?:=by
 intro l
 induction l with
 |nil=>intro i j h;simp at h
 |cons a l ih=>
  intro i j h hj
  rw[l00]
  cases i with
  |zero=>
   rw[Nat.zero_mul,KF,l0l (by rw[hf];exact hj)];rfl
  |succ i=>
   have e:(i+1)*w+j=(f a).length+(i*w+j):=by rw[hf,l19];omega
   rw[e,l0n (by omega),Nat.add_sub_cancel_left,List.getElem_cons_succ]
   exact ih i j (by simpa using h) hj
theorem A3R {α β:Type} (f:α→List β) (w:Nat) (hf:∀x,(f x).length=w):∀l:List α,(l.flatMap f).length=l.length*w:=by
 intro l
 induction l with
 |nil=>simp
 |cons a l ih=>simp[ih,hf,l19,Nat.add_comm]
def B5h (W:World):Ctx:={π:= λ_=>none,F:= λb _=>b<W.heap.size,B:= λ_=>False}
theorem B5r {W:World} {b i:Nat} {v:Value} (h:W.cell? ⟨b,i,none⟩=some v):b<W.heap.size:=by
 unfold World.cell? at h
 split at h
 ·rename_i c t f he
  exact(l1q.1 he).1
 ·cases h
theorem C6Q {W:World} {G:Gl} (hG:∀(g:Nat) (cs:List Value),G g=some cs→∀(i:Nat) (v:Value),cs[i]?=some v→W.cell? ⟨g,i,none⟩=some v):Rel G ⟨W,λ_=>False⟩ (B5h W) [] W where
 glob:= λg cs hg i v hv=>⟨B5r (hG g cs hg i v hv),hG g cs hg i v hv⟩
 below:=Keep.refl W _
 lt:= λr x h=>by cases h
 rows:= λr x h=>by cases h
 own:= λr x b o h=>by cases h
 sep:= λr r' x x' b o o' h=>by cases h
 fin:= λb i h=>h
 finB:= λb h=>h.elim
 nx:= λr _=>rfl
theorem B6q {W:World} {n cap:Nat} {a:Option Addr} {vs:List Value} (hn:n≤cap) (h0:n=0→vs=[]) (h:∀i (hi:i<vs.length),∃b o,a=some ⟨b,o,none⟩∧W.cell? ⟨b,o+i,none⟩=some vs[i]) (hne:0<n→0<vs.length):VRel (B5h W) W (.list n (vs.map λx=> .v x)) (.slice a n cap):=by
 by_cases h1:n=0
 ·subst h1
  rw[h0 rfl]
  exact .list0
 ·have h2:=hne (by omega)
  obtain⟨b,o,ha, -⟩:=h 0 h2
  subst ha
  have hc:∀i (hi:i<vs.length),W.cell? ⟨b,o+i,none⟩=some vs[i]:= λi hi=>by
   obtain⟨b',o',e,hc⟩:=h i hi
   cases e
   exact hc
  refine .list hn (λi=>vs.getD i undef) (λi hi=> ?_) (λi hi=> ?_) (λi hi=> ?_)
  ·exact B5r (hc i (by simpa using hi))
  ·have hi':i<vs.length:=by simpa using hi
   rw[hc i hi',TW,Kq hi'];rfl
  ·have hi':i<vs.length:=by simpa using hi
   have:(vs.map λx=>AV.v x)[i]= .v (vs.getD i undef):=by
    rw[l2i,TW,Kq hi'];rfl
   rw[this]
   exact .v _
end Go.Abs
end
noncomputable section
namespace Go.Proofs.YtlbhdmbfdcohhaaGreatDoor
open Go.ChangeShapes Go.WideShapes Go.ChangeAt Go.WideMaps Go.WideElems Go.RowKit Go.Abs
set_option maxRecDepth 100000
theorem own:ownKnob Tryz.prog.godebug=none:=by kernel_rfl
theorem B7N:laidOutB Tryz.prog=true:=by kernel_rfl
theorem u22:Tryz.prog.underlying 22=some (.slice 73):=by kernel_rfl
theorem u73:Tryz.prog.underlying 73=some (.array 7 3):=by kernel_rfl
theorem u3:Tryz.prog.underlying 3=some (.int .i64):=by kernel_rfl
theorem u4:Tryz.prog.underlying 4=some .bool:=by kernel_rfl
theorem c3:Tryz.prog.cellsOf 3=1:=by kernel_rfl
theorem c73:Tryz.prog.cellsOf 73=7:=by kernel_rfl
theorem A4b {H:Type} {enc:TypeId×Value→H} {P:Program} {W:World} {base:Nat} {spare:Nat→Bool} {held:Bool} {fuel:Nat} {t e:TypeId} {k:IntKind} {cs:List Value} {ns:List Int} {pl:List MemPlace} (ht:P.underlying t=some (.array ns.length e)) (he:P.underlying e=some (.int k)) (ce:P.cellsOf e=1)
 (ct:P.cellsOf t=ns.length) (h:DataW.trod enc P W base spare held fuel t cs=some (.agg (ns.map λz=> .lit (.int k z)),pl)):cs=ns.map λz=>Value.int k z:=by
 obtain⟨xs,m,_,hx,hlen,hn,hel⟩:=DataW.trod_array ht h
 simp only[Prod.mk.injEq,DataW.agg.injEq] at hx
 obtain⟨hx,_⟩:=hx
 apply List.ext_getElem
 ·rw[hlen,ct,Wv]
 ·intro i h1 h2
  have hi:i<ns.length:=by simpa using h2
  have hxi:i<xs.length:=by omega
  have h0:=hel i hi
  rw[ce,l28,Kq hxi] at h0
  obtain⟨z,e1,e2,_⟩:=DataW.trod_int he h0
  have e3:(cs.drop i).take 1=[cs[i]]:=by rw[l11 h1];rfl
  rw[e3] at e1
  have e4:(ns.map λz=>DataW.lit (H:=H) (.int k z))[i]'(by simpa using hi)=(xs.map (·.1))[i]'(by simpa using hxi):=by simp only[hx]
  rw[l2i,l2i,e2] at e4
  have e5:ns[i]=z:=by simpa using e4
  rw[l2i,e5]
  simpa using e1
def B7H (l:List AV):List Int:=l.map λa=>match a with| .v (.int _ z)=>z|_=>0
theorem C55:Rows.laid_yardstick_digest_round (H:=Unit)= .agg ((B7H gl0).map λz=> .lit (.int .u32 z)):=by kernel_rfl
theorem C54:Rows.laid_internal_strconv_uint64pow10 (H:=Unit)= .agg ((B7H gl1).map λz=> .lit (.int .u64 z)):=by kernel_rfl
theorem C5F:gl0.map unV=(B7H gl0).map λz=>Value.int .u32 z:=by kernel_rfl
theorem C5D:gl1.map unV=(B7H gl1).map λz=>Value.int .u64 z:=by kernel_rfl
theorem gn0:Tryz.prog.globalNamed "yardstick/digest.round" =some 0:=by kernel_rfl
theorem gn1:Tryz.prog.globalNamed "internal/strconv.uint64pow10" =some 1:=by kernel_rfl
theorem B7G {W:World} (h:laidMetH Tryz.prog Rows.graphRealizedRow.laid W):∀L (g:Nat) (cs:List Value),(E L).G g=some cs→∀(i:Nat) (v:Value),cs[i]?=some v→W.cell? ⟨g,i,none⟩=some v:=by
 rw[MakeChecks.laidMetH_plain _ _ _ (by kernel_rfl)] at h
 obtain⟨ps,hv,_,_⟩:=h
 obtain⟨_,_,_,_,_,_,_,_,_,_,hv,_⟩:=hv
 obtain⟨_,_,_,_,_,_,_,_,_,_,hv,_⟩:=hv
 obtain⟨g1,t1,cs1,f1,p1,q1,hg1,ht1,hv1,hd1,hv,_⟩:=hv
 obtain⟨_,_,_,_,_,_,_,_,_,_,hv,_⟩:=hv
 obtain⟨_,_,_,_,_,_,_,_,_,_,hv,_⟩:=hv
 obtain⟨_,_,_,_,_,_,_,_,_,_,hv,_⟩:=hv
 obtain⟨g0,t0,cs0,f0,p0,q0,hg0,ht0,hv0,hd0, -,_⟩:=hv
 obtain rfl:=l26 (gn0.symm.trans hg0)
 obtain rfl:=l26 (gn1.symm.trans hg1)
 have tt0:(Tryz.prog.globals[0]?).map (·.type)=some 252:=by kernel_rfl
 have tt1:(Tryz.prog.globals[1]?).map (·.type)=some 360:=by kernel_rfl
 obtain rfl:=l26 (tt0.symm.trans ht0)
 obtain rfl:=l26 (tt1.symm.trans ht1)
 rw[show(Rows.laid_yardstick_digest_round (H:=Unit))=_ from C55] at hd0
 rw[show(Rows.laid_internal_strconv_uint64pow10 (H:=Unit))=_ from C54] at hd1
 have k0:=A4b (e:=127) (by kernel_rfl) (by kernel_rfl) (by kernel_rfl) (by kernel_rfl) hd0
 have k1:=A4b (e:=158) (by kernel_rfl) (by kernel_rfl) (by kernel_rfl) (by kernel_rfl) hd1
 intro L g cs hg i v hvv
 match g,hg with
 |0,hg=>
  have e:(E L).G 0=some (gl0.map unV):=rfl
  rw[e] at hg
  obtain rfl:=l26 hg
  rw[World.var?_cell hg0 hv0 i,←l21,k0,←C5F]
  exact hvv
 |1,hg=>
  have e:(E L).G 1=some (gl1.map unV):=rfl
  rw[e] at hg
  obtain rfl:=l26 hg
  rw[World.var?_cell hg1 hv1 i,←l21,k1,←C5D]
  exact hvv
 |g+2,hg=>
  exfalso
  have e:(E L).G (g+2)=(glB.get (g+2)).map λcs=>cs.map unV:=rfl
  have e1:Nat.beq (g+2) 1=false:=rfl
  have e2:Nat.blt (g+2) 1=false:=rfl
  have e3:glB.get (g+2)=none:=by
   unfold glB
   simp only[BT.get,e1,e2]
  rw[e,e3] at hg
  cases hg
theorem B9x {z:Int} (h:(Lit.int .i64 z).wf=true):Le z:=by
 have h1: -9223372036854775808≤z∧z≤9223372036854775807:=by simpa [Lit.wf,IntKind.min,IntKind.max,IntKind.signed,IntKind.bits] using h
 exact⟨h1.1,by omega⟩
theorem A8B {H:Type} {enc:TypeId×Value→H} {W:World} {base:Nat} {spare:Nat→Bool} {held:Bool} {fuel:Nat} {cs:List Value} {x:DataW H×List MemPlace} (h:DataW.trod enc Tryz.prog W base spare held fuel 22 cs=some x):
 cs=[.slice none 0 0]∨∃(a:Addr) (cap:Nat) (ys:List Y7),cs=[.slice (some a) ys.length cap]∧ys.length≤cap∧(∀y∈ys,y.Ok)∧∀i (hi:i<(ys.flatMap Y7.vs).length),W.cell? (a.add i)=some (ys.flatMap Y7.vs)[i]:=by
 rcases Deep.open_slice u22 h with⟨h0,_⟩|⟨a,len,cap,m,n,D,Pl,rfl,hb,hl,hm,hmm,rfl,hx⟩
 ·exact .inl h0
 right
 have hlm:len≤m:=by rw[hmm];split<;>omega
 have hrow:∀i,i<len→∃y:Y7,y.Ok∧∀j (hj:j<7),W.cell? (a.add (i*7+j))=(Y7.vs y)[j]?:=by
  intro i hi
  obtain⟨cs',hc,ht⟩:=hx i (by omega)
  rw[c73] at hc
  obtain⟨_,hl7,hcell⟩:=World.cells?_some hc
  obtain⟨xs,m',_,_,_,hn,hel⟩:=DataW.trod_array u73 ht
  have hz:∀j,j<7→∃z:Int,cs'[j]?=some (.int .i64 z)∧Le z:=by
   intro j hj
   have h0:=hel j hj
   rw[c3,l28,Kq (show j<xs.length by omega)] at h0
   obtain⟨z,e1,_,e3⟩:=DataW.trod_int u3 h0
   have hj':j<cs'.length:=by omega
   refine⟨z,?_,?_⟩
   ·rw[Kq hj']
    have e4:(cs'.drop j).take 1=[cs'[j]]:=by rw[l11 hj'];rfl
    rw[e4] at e1
    have:cs'[j]= .int .i64 z:=by simpa using e1
    rw[this]
   ·exact B9x e3
  obtain⟨Z,hZ⟩:=Deep.choose_lt hz
  refine⟨⟨Z 0,Z 1,Z 2,Z 3,Z 4,Z 5,Z 6⟩,⟨(hZ 0 (by omega)).2,(hZ 1 (by omega)).2,(hZ 2 (by omega)).2,(hZ 3 (by omega)).2,(hZ 4 (by omega)).2,(hZ 5 (by omega)).2,(hZ 6 (by omega)).2⟩,λj hj=> ?_⟩
  have hc2:W.cell? ((a.add (i*7)).add j)=cs'[j]?:=hcell j hj
  rw[Addr.add_add] at hc2
  rw[hc2,(hZ j hj).1]
  obtain rfl|rfl|rfl|rfl|rfl|rfl|rfl:j=0∨j=1∨j=2∨j=3∨j=4∨j=5∨j=6:=by omega
  all_goals rfl
 haveI:Inhabited Y7:=⟨⟨0,0,0,0,0,0,0⟩⟩
 obtain⟨V,hV⟩:=Deep.choose_lt hrow
 refine⟨a,cap,(List.range len).map V,by simp,by simpa using hl,λy hy=> ?_,λi hi=> ?_⟩
 ·obtain⟨k,hk,rfl⟩:=l2a.1 hy
  exact(hV k (Ju.1 hk)).1
 ·have h7:(((List.range len).map V).flatMap Y7.vs).length=len*7:=by rw[A3R Y7.vs 7 (λ_=>rfl)];simp
  have hi':i<len*7:=by omega
  have hd:i/7<len:=by omega
  have e:=B4J Y7.vs 7 (λ_=>rfl) ((List.range len).map V) (i/7) (i%7) (by simpa using hd) (by omega)
  rw[show i/7*7+i%7=i by omega,Kq hi] at e
  have h1:=(hV (i/7) hd).2 (i%7) (by omega)
  rw[show i/7*7+i%7=i by omega] at h1
  rw[h1,e]
  simp
theorem B2i {W:World} {a:Addr} {v:Value} (h:W.cell? a=some v):a=⟨a.block,a.off,none⟩:=by
 obtain⟨b,o,sp⟩:=a
 cases sp with
 |none=>rfl
 |some k=>
  unfold World.cell? at h
  split at h
  ·simp at h
  ·cases h
theorem B5F {a:Addr} (i:Nat) (h:a=⟨a.block,a.off,none⟩):a.add i=⟨a.block,a.off+i,none⟩:=by
 rw[h]
 unfold Addr.add
 by_cases hi:i=0
 ·subst hi;rfl
 ·rw[if_neg hi]
theorem A2U {H:Type} {enc:TypeId×Value→H} {P:Program} {f:Func} {s:ChangeSpec} {apart fresh A58 again:Bool} {W W':World} {args:Array Value} {v:Value} {ds gs:List (DataW H)} {before pa pv:List MemPlace}
 (hW:DataW.Whole enc P f.params.toList s.vars apart W args.toList ds gs before)
 (hres:∀(b:Nat) (sp:Nat→Bool) (hd:Bool),DataW.TrodAll enc P W' b sp hd f.resultTypes.toList (v.resultList f.resultTypes.size) (s.fn H (ds++gs)).results [])
 (hargs:∀sp:Nat→Bool,(∀p∈before,sp p.block=true)→DataW.TrodAll enc P W' 0 sp true f.params.toList args.toList (s.fn H (ds++gs)).args pa)
 (hvars:∀sp:Nat→Bool,(∀p∈before,sp p.block=true)→DataW.TrodVars enc P W' sp s.vars (s.fn H (ds++gs)).vars pv)
 (hps:before=pa++pv) (hb:Below W.heap.size W W')
 (hok:∀(j:Nat) (t:TypeId) (r:Value),f.resultTypes[j]?=some t→(v.resultList f.resultTypes.size)[j]?=some r→Value.okWide P W' .any 0 t r):
 s.post enc P f apart fresh A58 again W args v W':=by
 have hold:∀p∈before,(λb=>decide (b<W.heap.size)) p.block=true:= λp hp=>by simpa using hW.lt p hp
 have hlt:=hW.lt
 refine⟨ds,gs,before,[],pa,pv,hW,hres _ _ _,hargs _ hold,hvars _ hold,World.keptBut_mono (λp hp=>⟨hp,?_⟩) (hb.frame (· ∈before)),λ_=> ?_⟩
 ·rw[hps,Zi] at hp
  exact Or.inr hp
 ·obtain⟨_,_,_,_,_,hz,hn⟩:=hW
  refine⟨hok,_,_,([]++pa)++pv,⟨[]++pa,pv,trodAll_append (hargs _ (λ_ _=>rfl)) (hres _ _ _),hvars _ (λ_ _=>rfl),rfl,?_,?_⟩,?_⟩
  ·intro b off hp
   have hm:MemPlace.cell b off∈before:=by rw[hps];simpa using hp
   rw[hb.frozen (hlt _ hm)]
   exact hz b off hm
  ·intro ha
   have:=hn ha
   rw[hps] at this
   simpa using this
  ·intro p hp _
   rw[hps]
   simpa using hp
end Go.Proofs.YtlbhdmbfdcohhaaGreatDoor
end
noncomputable section
namespace Go.Abs
open Go.RowKit Go.Proofs
set_option maxRecDepth 100000
theorem B7M {W:World} (hG:∀L (g:Nat) (cs:List Value),(E L).G g=some cs→∀(i:Nat) (v:Value),cs[i]?=some v→W.cell? ⟨g,i,none⟩=some v) {xs:List Y7} {v0:Value}
 (h0:VRel (B5h W) W (.list xs.length (xs.flatMap Y7.cs)) v0) (hok:∀y∈xs,y.Ok):
 Calls Tryz.prog 3 #[v0] W λe W'=>e= .returned (.bool true)∧Below W.heap.size W W':=by
 obtain⟨L,hL⟩:∃L,200000<L:=⟨200001,by decide⟩
 have h:=B9J (L:=L) (n:=0) (xs:=xs) (a0:= .list xs.length (xs.flatMap Y7.cs)) (K:= λv _=>some (v,[])) hL (.inl rfl) hok (λ_=>rfl)
 have ac:=((B3h (L+20) (0+82)).call _ _ _ _ _ h).2 ⟨W,λ_=>False⟩ (B5h W) W [v0] (C6Q (hG _)) ?_
 ·refine ac.mono λe W' ⟨v,y,C',H',he,hr,hv,_,hq⟩=> ?_
  injection hq with hq
  injection hq with hq _
  subst hq
  have hy:y= .bool true:=AI.1 hv
  subst hy
  have hb:=hr.below
  exact⟨he,hb.os,hb.tape,hb.output,hb.size,λk hk=>hb.block k hk (λhf=>hf)⟩
 ·refine⟨rfl,λi v hv=> ?_⟩
  match i,hv with
  |0,hv=>cases hv;exact⟨_,rfl,h0⟩
end Go.Abs
namespace Go.Proofs.YtlbhdmbfdcohhaaGreatDoor
open Go.ChangeShapes Go.WideShapes Go.ChangeAt Go.WideMaps Go.WideElems Go.RowKit Go.Abs
set_option maxRecDepth 100000
theorem A4L:Tryz.f3.params= #[22]:=by kernel_rfl
theorem B7J (os:Os) (started:os.Started) (H:Type) (enc:TypeId×Value→H):
 ReturnsInHanded {} Tryz.checked os 3 .any (λw args=>(Rows.graphOrderSpec.pre enc Tryz.prog Tryz.f3 [] false w args∧laidMetH Tryz.prog Rows.graphOrderRow.laid w)∧sizedMet enc Tryz.prog Tryz.f3 (OpenSpec.ofChange Rows.graphOrderSpec) false w args)
  (Rows.graphOrderSpec.post enc Tryz.prog Tryz.f3 false true false false):=by
 refine returnsInHanded_of_change_and (C:=Tryz.checked) (X:= λw _=>laidMetH Tryz.prog Rows.graphOrderRow.laid w) (λ_ _ _ hh h=>h.of_heap hh) own started (by kernel_rfl) Tryz.func3
  (ChangeSpec.witness_shaped (enc:=enc) (C:=Tryz.checked) (os:=os) (X:= λw _=>laidMetH Tryz.prog Rows.graphOrderRow.laid w) false (World.laidAll Tryz.prog os Rows.graphOrderRow.laid) #[.slice none 0 0] 8 (World.laidAll_os _ _ _)
   (World.shaped_of_ZipB (by kernel_rfl) (by kernel_rfl)) (by kernel_rfl) (by kernel_rfl) (by kernel_rfl)
   (by rw[MakeChecks.laidMetH_plain _ _ _ (by kernel_rfl)];exact laidMet_laidAll _ (by kernel_rfl) (by kernel_rfl))) ?_
 intro W base args ds gs before hval0 hW _ _ hL _
 have hval:∀(j:Nat) t v,Tryz.f3.params[j]?=some t→args[j]?=some v→Value.okWide Tryz.prog W .any base t v:=hval0
 have hW':=hW
 obtain⟨p,q,hA0,hV,rfl,hfz,hnd⟩:=hW
 have hA:DataW.TrodAll enc Tryz.prog W 0 (λ_=>true) true Tryz.f3.params.toList args.toList ds p:=hA0
 rw[A4L] at hA hval
 obtain⟨v0,d0,rfl,rfl,h0⟩:=trodAll_one hA
 obtain⟨rfl,rfl⟩:=trodVars_none hV
 obtain⟨a0,n0,k0,rfl⟩:=okWide_slice u22 (hval 0 22 v0 rfl rfl)
 have hG:=B7G hL
 have hX:∃xs:List Y7,(∀y∈xs,y.Ok)∧VRel (B5h W) W (.list xs.length (xs.flatMap Y7.cs)) (.slice a0 n0 k0):=by
  obtain⟨f,hf⟩:=h0
  rcases A8B hf with hc|⟨a,cap,ys,hc,hle,hok,hcell⟩
  ·simp only[Value.cells,List.cons.injEq,Value.slice.injEq,and_true] at hc
   obtain⟨rfl,rfl,rfl⟩:=hc
   exact⟨[],by simp,.list0⟩
  ·simp only[Value.cells,List.cons.injEq,Value.slice.injEq,and_true] at hc
   obtain⟨rfl,rfl,rfl⟩:=hc
   refine⟨ys,hok,?_⟩
   rw[C3Q]
   refine B6q hle (λe=>by rw[l1s e];rfl) (λi hi=> ?_) (λe=>by rw[A3R Y7.vs 7 (λ_=>rfl)];omega)
   have h0:=hcell 0 (by omega)
   have hs:a=⟨a.block,a.off,none⟩:=B2i (v:=(ys.flatMap Y7.vs)[0]'(by omega)) (by simpa [Addr.add] using h0)
   exact⟨a.block,a.off,by rw[←hs],by rw[←B5F i hs];exact hcell i hi⟩
 obtain⟨xs,hok,hx⟩:=hX
 refine(B7M hG hx hok).mono λe W' ⟨he,hb⟩=> ?_
 subst he
 simp only[XR] at hW'
 have hlt:=hW'.lt
 refine⟨_,rfl,A2U (pa:=p) (pv:=[]) hW' (λ_ _ _=>trodAll_mk1 (shut_bool u4 true)) (λsp hsp=> ?_) (λ_ _=>rfl) (by simp) hb (ok_one (by kernel_rfl) rfl (okWide_bool_mk u4 true))⟩
 show DataW.TrodAll enc Tryz.prog W' 0 sp true Tryz.f3.params.toList [.slice a0 n0 k0] [d0] p
 rw[A4L]
 exact trodAll_mk1 (WideElems.Trod_stays B7N (by kernel_rfl) (of_decide_eq_true (by kernel_rfl)) h0 (λx hx=>hb.same (hlt x (by simpa using hx))) (λx hx=>hsp x (by simpa using hx)))
end Go.Proofs.YtlbhdmbfdcohhaaGreatDoor
end
noncomputable section
namespace Go.Proofs.YtlbhdmbfdcohhaaGreatDoor
open Go.ChangeShapes Go.WideShapes Go.ChangeAt Go.WideMaps Go.WideElems Go.RowKit
set_option maxRecDepth 100000
theorem graphOrder_holds:Rows.GraphOrderSaid:=
 OpenClaim.holds_of_wide 3 Tryz.f3 rfl rfl rfl rfl rfl rfl rfl ⟨rfl,rfl,rfl,rfl,rfl⟩ rfl rfl rfl rfl rfl YI Tryz.func3 B8w
  (of_decide_eq_true (by kernel_rfl)) (by unfold Func.isWrapper;first|(rw[if_pos (by decide+kernel)];kernel_rfl)|(rw[if_neg (by decide+kernel)];exact⟨rfl,rfl⟩))
  (λos started H enc _=>B7J os started H enc)
theorem C5h:Rows.graphOrderRow.wfByText (OpenSpec.ofChange Rows.graphOrderSpec)=true:=by kernel_rfl
theorem B7V:Tryz.pinned.checked.prog.mainIs=some (true, "56e114718464d5c995b4c5c07a4122fa4910b2cc3870d7422c418940f44386d7".toList):=by kernel_rfl
theorem B4u:true=Tryz.pinned.checked.prog.looks []:=by kernel_rfl
theorem A6D:Tryz.prog.funcs.any Func.goes=false:=by kernel_rfl
theorem B7W:false=Rows.graphOrderRow.goesBy Tryz.pinned.checked.prog:=by
 have h1:∀l:List FuncId,(l.any λg=>(Tryz.prog.funcs[g]?).any Func.goes)=false:=by
  intro l
  rw[List.any_eq_false]
  intro g _
  cases hg:Tryz.prog.funcs[g]? with
  |none=>simp
  |some fn=>
   have h2:=Array.any_eq_false.1 A6D
   obtain⟨hlt,e⟩:=l1q.1 hg
   have:=h2 g hlt
   rw[e] at this
   simpa using this
 have h3:Tryz.prog.goes 3=false:=by
  unfold Program.goes
  rw[h1,A6D,Bool.and_false,Bool.or_false]
 have hs:Rows.graphOrderRow.start= .entering:=rfl
 have hp:Tryz.pinned.checked.prog=Tryz.prog:=rfl
 have hn:Tryz.prog.funcNamed Rows.graphOrderRow.func=some 3:=YI
 unfold OpenClaim.goesBy Program.goesAt Program.goesFrom
 rw[hs,hp,hn,Option.any_some,h3]
 rfl
theorem B4t:([22].all λu=> !Tryz.prog.wantsStandIn u)=true:=by kernel_rfl
theorem graphOrder_card:Rows.GraphOrderCardSaid:=
 Claim7.holds_tied_plain_at .later [] [.data,.data,.data,.data,.sentinel,.sentinel,.data,.pinned] true (true, "56e114718464d5c995b4c5c07a4122fa4910b2cc3870d7422c418940f44386d7") true
  graphOrder_holds (λ_ h=>by cases h) C5h (λ_ h=>by cases h) graphOrder_row_tie rfl ⟨rfl,rfl⟩ B7V rfl
  (λf fn hf hfn=>by
   obtain rfl:f=3:=l26 (YI.symm.trans hf)|>.symm
   obtain rfl:fn=Tryz.f3:=(l26 (Tryz.func3.symm.trans hfn)).symm
   exact⟨B4u,λj t ht=>by
    rw[A4L] at ht
    have hm:t∈[22]:=by simpa using Array.mem_of_getElem? ht
    exact(show Tryz.prog.wantsStandIn t=false by simpa using HB.1 B4t t hm)⟩)
  B7W
end Go.Proofs.YtlbhdmbfdcohhaaGreatDoor
end
