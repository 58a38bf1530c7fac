import Derived.Shelf.Strings.OnBuilder
import Derived.Shelf.Strings.Repeat
import Derived.Shelf.Sort.Plain
import Derived.Shelf.Spec.SlicesGrow
import Derived.Test.YtobbbklaopaiaaaGreatDoorProg
import Derived.ProofKit
import Derived.Deep.Slices
import Derived.OpenShut
import Derived.Test.YtobbbklaopaiaaaGreatDoorRows
import Derived.LaidMore
import Derived.Stop.Joined
import Derived.MakeChecks
import Derived.FnData
import Derived.DataElems
import Derived.Lay
import Derived.Test.YtobbbklaopaiaaaGreatDoorTie
import Derived.Test.YtobbbklaopaiaaaGreatDoorCards
import Derived.SevenTiedAt
import Derived.Test.YtobbbklaopaiaaaGreatDoorP32
import Derived.Test.YtobbbklaopaiaaaGreatDoorP33
import Derived.Test.YtobbbklaopaiaaaGreatDoorP34
set_option linter.all false
set_option maxHeartbeats 100000000
noncomputable section
namespace Go.Abs
open Go.RowKit Go.Proofs
set_option maxRecDepth 100000
section
variable{L n:Nat}
section
variable{K:KV}
def B1L(a:200000<L):∀(H:Hp)(K:K2),Ao (r! L (n+86)) Rm [] H K=K (Bo true):=λH K=>AR (A9a (n:=n+1) a) AK
def A0n{xs:List Y7}{a0 D:AV}{k m:Int}{fs:List Int}(j:200000<L)(P:XA xs a0)(r:∀y∈xs,y.Ok)(h1:Lm k)(h2:Lm m)(O:NA fs D)(hK:∀Z,K (Bo true) Z=some (Bo true,[])):(r! L (n+87)).call OX [a0,I k,I m,D] [] K=some (Bo true,[]):=by
 rw[Va];unfold KO Dk Hl A3 Mf HS;obtain⟨d,e⟩:=B0H xs (min 8 xs.length) (by omega);have s:Fx true depth a0 a0 [] false:=by
  rcases P with rfl|⟨_,rfl⟩
  ·exact On
  ·exact C7
 rw[B1L j,K1 (A9H (n:=n+21) (by omega) P r) (An s AK)];generalize Qx xs (min 8 xs.length)=q at d e;have M:=YY q;refine rF (n:=n+19) (by omega) d h1 M Fl λr1 m1 H1 v e1 l1=>?_;rw[F3,PT];have w1:=l1.wf Fl;refine rF (n:=n+19) (by omega) d h2 M w1 λr2 m2 H2 R e2 l2=>?_;rw[F3,PT];have w2:=l2.wf w1;have h:=v.kp l2 w1;have q1:m1<As H1:=w1.lt v.mm;have f:=A5d (z:=k) d (i:=0);have g:=A5d (z:=m) d (i:=0);generalize QR k 0 q=A at v h f;generalize QR m 0 q=B at R g;simp only[Et,Bool.not_true,ZC,xG,gT,gU,Cb,Tt,Sf,Bh,BJ];have hm:m1≠m2:=by omega
 refine A1d (n:=n) (N:=1000) j d O O.2.2 (by decide) (λw x H3 t Q w3 sa sb=>?_) hm (L+20) 0 A B Aw Aw [] [] H2 (by omega) (by omega) (by decide) (by decide)
  ⟨w2,h,R,⟨by simp,.inl ⟨rfl,rfl⟩⟩,⟨by simp,.inl ⟨rfl,rfl⟩⟩,λu hu=>absurd hu HV,by simp,by simp,by decide,by decide,f,g,hm⟩
 refine B6v (n:=n+1) j d t Q w3 sa sb hm λg4 d4 C a4 b4 l4=>?_;rw[F3,PT];have p:∀{a b c:AV}{F:K2},C9 (.tup [a,b,c]) 2 F=F c:=λ{a b c F}=>r_ rfl;rw[p];obtain⟨_,t2,V,t4,X⟩:=A53 d t Q (n:=30) (by decide);rw[t2];generalize (Qh w 30 x (Dx x (Mk w)).2).1=Y at b4 V t4 X;have H:=t.ok d;have J:=V.ok d;have v1:∀{F:K2},Ao (r! L (n+86)) L6 [.ptr r2 0 0,.ptr r1 0 0] C F=F (Bo true):=λ{F}=>by rw[A8M (n:=n+2) J H j b4.sv a4.sv,B54 H J X]
 simp only[v1,ZC,xG,gT,gU,Cb,Tt,Sf];exact hK C
end
end
end Go.Abs
end
noncomputable section
namespace Go.Proofs
open Go.Shelf
def Tryz.lays156_ren:Go.Shelf.Ren:=⟨λ|156=>180|165=>242|166=>175|169=>111|240=>240|241=>276|276=>274|277=>313|n=>n,λ|31=>32|9=>9|3=>3|4=>4|0=>0|20=>20|72=>164|76=>225|70=>162|37=>141|75=>224|127=>234|164=>317|5=>5|80=>173|n=>n,λ|n=>n⟩
theorem Tryz.lays156:Go.Proofs.Lays.n156 Tryz.prog Tryz.lays156_ren:={
 mixed:=by kernel_rfl
 f156:=Tryz.func180.trans (congrArg some (by kernel_rfl))
 f165:=Tryz.func242.trans (congrArg some (by kernel_rfl))
 f166:=Tryz.func175.trans (congrArg some (by kernel_rfl))
 f169:=Tryz.func111.trans (congrArg some (by kernel_rfl))
 f240:=Tryz.func240.trans (congrArg some (by kernel_rfl))
 f241:=Tryz.func276.trans (congrArg some (by kernel_rfl))
 f276:=Tryz.func274.trans (congrArg some (by kernel_rfl))
 f277:=Tryz.func313.trans (congrArg some (by kernel_rfl))
 t0:=Tryz.underlying0
 a0:=Tryz.isAgg0
 z0:=Tryz.sizeOf0
 v0:=Tryz.zeroValue0
 t3:=Tryz.underlying3
 a3:=Tryz.isAgg3
 z3:=Tryz.sizeOf3
 v3:=Tryz.zeroValue3
 t4:=Tryz.underlying4
 a4:=Tryz.isAgg4
 z4:=Tryz.sizeOf4
 v4:=Tryz.zeroValue4
 t9:=Tryz.underlying9
 a9:=Tryz.isAgg9
 z9:=Tryz.sizeOf9
 v9:=Tryz.zeroValue9
 t20:=Tryz.underlying20
 a20:=Tryz.isAgg20
 z20:=Tryz.sizeOf20
 v20:=Tryz.zeroValue20
 t31:=Tryz.underlying32
 a31:=Tryz.isAgg32
 z31:=Tryz.sizeOf32
 v31:=Tryz.zeroValue32
 t37:=Tryz.underlying141
 a37:=Tryz.isAgg141
 z37:=Tryz.sizeOf141
 v37:=Tryz.zeroValue141
 t70:=Tryz.underlying162
 a70:=Tryz.isAgg162
 z70:=Tryz.sizeOf162
 v70:=Tryz.zeroValue162
 t72:=Tryz.underlying164
 a72:=Tryz.isAgg164
 z72:=Tryz.sizeOf164
 v72:=Tryz.zeroValue164
 t75:=Tryz.underlying224
 a75:=Tryz.isAgg224
 z75:=Tryz.sizeOf224
 v75:=Tryz.zeroValue224
 t76:=Tryz.underlying225
 a76:=Tryz.isAgg225
 z76:=Tryz.sizeOf225
 v76:=Tryz.zeroValue225
 t127:=Tryz.underlying234
 a127:=Tryz.isAgg234
 z127:=Tryz.sizeOf234
 v127:=Tryz.zeroValue234
 t164:=Tryz.underlying317
 a164:=Tryz.isAgg317
 z164:=Tryz.sizeOf317
 v164:=Tryz.zeroValue317}
theorem Tryz.Builder_Extra_156:Builder.Extra Tryz.prog Tryz.lays156_ren:={
 sizeBuilder:=by kernel_rfl
 liesBuilder:=by kernel_rfl
 t5:=Tryz.underlying5
 a5:=Tryz.isAgg5
 z5:=Tryz.sizeOf5
 v5:=Tryz.zeroValue5
 infoByte:=by kernel_rfl
 cellsByte:=by kernel_rfl
 sizeByte:=by kernel_rfl
 neB5:=by decide}
open Go.RowKit in
theorem Tryz.strings_Join_none(a:Option Addr)(c:Nat)(sep:ByteArray)(w:World):
 Calls Tryz.prog 180 #[.slice a 0 c,.string sep] w λe w'=>e=.returned (.string ⟨#[]⟩)/\w'=w:=Any.strings_Join_none Tryz.lays156 Tryz.Builder_Extra_156 a c sep w
open Go.RowKit in
theorem Tryz.strings_Join(bk o c:Nat)(xs:List ByteArray)(sep:ByteArray)(w:World)(hcells:∀(j:Nat)x,xs[j]?=some x->w.cell? ⟨bk,o+j,none⟩=some (.string x))(hbk:bk<w.heap.size)(hN:xs.length<=140737488355328)(hcap:xs.length<=c)(hlen:(Lib.join (xs.map (·.data.toList)) sep.data.toList).length<=140737488355328):
 Calls Tryz.prog 180 #[.slice (some ⟨bk,o,none⟩) xs.length c,.string sep] w λe w'=>e=.returned (.string ⟨(Lib.join (xs.map (·.data.toList)) sep.data.toList).toArray⟩)/\Below w.heap.size w w':=Any.strings_Join Tryz.lays156 Tryz.Builder_Extra_156 bk o c xs sep w hcells hbk hN hcap hlen
def Tryz.lays190_ren:Go.Shelf.Ren:=⟨λ|190=>61|125=>101|258=>100|128=>164|129=>165|302=>155|303=>156|304=>157|305=>158|306=>159|307=>160|308=>161|309=>162|310=>163|333=>214|329=>215|330=>216|334=>217|335=>218|336=>219|344=>260|n=>n,λ|31=>32|9=>9|3=>3|46=>144|0=>0|51=>139|53=>220|4=>4|183=>212|182=>211|131=>216|5=>5|218=>263|222=>267|228=>303|229=>304|n=>n,λ|n=>n⟩
theorem Tryz.lays190:Go.Proofs.Lays.n190 Tryz.prog Tryz.lays190_ren:={
 mixed:=by kernel_rfl
 f125:=Tryz.func101.trans (congrArg some (by kernel_rfl))
 f128:=Tryz.func164.trans (congrArg some (by kernel_rfl))
 f129:=Tryz.func165.trans (congrArg some (by kernel_rfl))
 f190:=Tryz.func61.trans (congrArg some (by kernel_rfl))
 f258:=Tryz.func100.trans (congrArg some (by kernel_rfl))
 f302:=Tryz.func155.trans (congrArg some (by kernel_rfl))
 f303:=Tryz.func156.trans (congrArg some (by kernel_rfl))
 f304:=Tryz.func157.trans (congrArg some (by kernel_rfl))
 f305:=Tryz.func158.trans (congrArg some (by kernel_rfl))
 f306:=Tryz.func159.trans (congrArg some (by kernel_rfl))
 f307:=Tryz.func160.trans (congrArg some (by kernel_rfl))
 f308:=Tryz.func161.trans (congrArg some (by kernel_rfl))
 f309:=Tryz.func162.trans (congrArg some (by kernel_rfl))
 f310:=Tryz.func163.trans (congrArg some (by kernel_rfl))
 f329:=Tryz.func215.trans (congrArg some (by kernel_rfl))
 f330:=Tryz.func216.trans (congrArg some (by kernel_rfl))
 f333:=Tryz.func214.trans (congrArg some (by kernel_rfl))
 f334:=Tryz.func217.trans (congrArg some (by kernel_rfl))
 f335:=Tryz.func218.trans (congrArg some (by kernel_rfl))
 f336:=Tryz.func219.trans (congrArg some (by kernel_rfl))
 f344:=Tryz.func260.trans (congrArg some (by kernel_rfl))
 t0:=Tryz.underlying0
 a0:=Tryz.isAgg0
 z0:=Tryz.sizeOf0
 v0:=Tryz.zeroValue0
 t3:=Tryz.underlying3
 a3:=Tryz.isAgg3
 z3:=Tryz.sizeOf3
 v3:=Tryz.zeroValue3
 t4:=Tryz.underlying4
 a4:=Tryz.isAgg4
 z4:=Tryz.sizeOf4
 v4:=Tryz.zeroValue4
 t5:=Tryz.underlying5
 a5:=Tryz.isAgg5
 z5:=Tryz.sizeOf5
 v5:=Tryz.zeroValue5
 t9:=Tryz.underlying9
 a9:=Tryz.isAgg9
 z9:=Tryz.sizeOf9
 v9:=Tryz.zeroValue9
 t31:=Tryz.underlying32
 a31:=Tryz.isAgg32
 z31:=Tryz.sizeOf32
 v31:=Tryz.zeroValue32
 t46:=Tryz.underlying144
 a46:=Tryz.isAgg144
 z46:=Tryz.sizeOf144
 v46:=Tryz.zeroValue144
 t51:=Tryz.underlying139
 a51:=Tryz.isAgg139
 z51:=Tryz.sizeOf139
 v51:=Tryz.zeroValue139
 t53:=Tryz.underlying220
 a53:=Tryz.isAgg220
 z53:=Tryz.sizeOf220
 v53:=Tryz.zeroValue220
 t131:=Tryz.underlying216
 a131:=Tryz.isAgg216
 z131:=Tryz.sizeOf216
 v131:=Tryz.zeroValue216
 t182:=Tryz.underlying211
 a182:=Tryz.isAgg211
 z182:=Tryz.sizeOf211
 v182:=Tryz.zeroValue211
 t183:=Tryz.underlying212
 a183:=Tryz.isAgg212
 z183:=Tryz.sizeOf212
 v183:=Tryz.zeroValue212
 t218:=Tryz.underlying263
 a218:=Tryz.isAgg263
 z218:=Tryz.sizeOf263
 v218:=Tryz.zeroValue263
 t222:=Tryz.underlying267
 a222:=Tryz.isAgg267
 z222:=Tryz.sizeOf267
 v222:=Tryz.zeroValue267
 t228:=Tryz.underlying303
 a228:=Tryz.isAgg303
 z228:=Tryz.sizeOf303
 v228:=Tryz.zeroValue303
 t229:=Tryz.underlying304
 a229:=Tryz.isAgg304
 z229:=Tryz.sizeOf304
 v229:=Tryz.zeroValue304}
open Go.Sort Go.RowKit in
theorem Tryz.slices_Sort_string(blk off cap:Nat)(ss:List (List UInt8))(w:World)(hH:Holds encStr w blk off ss.toArray)(hblk:blk<w.heap.size)(hsz:ss.length<4611686018427387904):
 Calls Tryz.prog 61 #[.slice (some ⟨blk,off,none⟩) ss.length cap] w λe w'=>
  e=.returned (.tuple #[])/\∃n os,w'=grow (putRow encStr (Sort.ahead w n) blk off (ss.mergeSort λx y=>decide (x<=y)).toArray) os:=Any.slices_Sort_string Tryz.lays190 blk off cap ss w hH hblk hsz
def Tryz.lays105_ren:Go.Shelf.Ren:=⟨λ|105=>330|212=>366|99=>367|165=>242|166=>175|170=>110|169=>111|263=>384|264=>385|206=>377|240=>240|241=>276|276=>274|277=>313|n=>n,λ|9=>9|3=>3|4=>4|20=>20|0=>0|46=>144|109=>382|5=>5|72=>164|76=>225|51=>139|146=>395|53=>220|148=>397|70=>162|37=>141|75=>224|127=>234|164=>317|80=>173|n=>n,λ|n=>n⟩
theorem Tryz.lays105:Go.Proofs.Lays.n105 Tryz.prog Tryz.lays105_ren:={
 mixed:=by kernel_rfl
 f99:=Tryz.func367.trans (congrArg some (by kernel_rfl))
 f105:=Tryz.func330.trans (congrArg some (by kernel_rfl))
 f165:=Tryz.func242.trans (congrArg some (by kernel_rfl))
 f166:=Tryz.func175.trans (congrArg some (by kernel_rfl))
 f169:=Tryz.func111.trans (congrArg some (by kernel_rfl))
 f170:=Tryz.func110.trans (congrArg some (by kernel_rfl))
 f206:=Tryz.func377.trans (congrArg some (by kernel_rfl))
 f212:=Tryz.func366.trans (congrArg some (by kernel_rfl))
 f240:=Tryz.func240.trans (congrArg some (by kernel_rfl))
 f241:=Tryz.func276.trans (congrArg some (by kernel_rfl))
 f263:=Tryz.func384.trans (congrArg some (by kernel_rfl))
 f264:=Tryz.func385.trans (congrArg some (by kernel_rfl))
 f276:=Tryz.func274.trans (congrArg some (by kernel_rfl))
 f277:=Tryz.func313.trans (congrArg some (by kernel_rfl))
 t0:=Tryz.underlying0
 a0:=Tryz.isAgg0
 z0:=Tryz.sizeOf0
 v0:=Tryz.zeroValue0
 t3:=Tryz.underlying3
 a3:=Tryz.isAgg3
 z3:=Tryz.sizeOf3
 v3:=Tryz.zeroValue3
 t4:=Tryz.underlying4
 a4:=Tryz.isAgg4
 z4:=Tryz.sizeOf4
 v4:=Tryz.zeroValue4
 t5:=Tryz.underlying5
 a5:=Tryz.isAgg5
 z5:=Tryz.sizeOf5
 v5:=Tryz.zeroValue5
 t9:=Tryz.underlying9
 a9:=Tryz.isAgg9
 z9:=Tryz.sizeOf9
 v9:=Tryz.zeroValue9
 t20:=Tryz.underlying20
 a20:=Tryz.isAgg20
 z20:=Tryz.sizeOf20
 v20:=Tryz.zeroValue20
 t37:=Tryz.underlying141
 a37:=Tryz.isAgg141
 z37:=Tryz.sizeOf141
 v37:=Tryz.zeroValue141
 t46:=Tryz.underlying144
 a46:=Tryz.isAgg144
 z46:=Tryz.sizeOf144
 v46:=Tryz.zeroValue144
 t51:=Tryz.underlying139
 a51:=Tryz.isAgg139
 z51:=Tryz.sizeOf139
 v51:=Tryz.zeroValue139
 t53:=Tryz.underlying220
 a53:=Tryz.isAgg220
 z53:=Tryz.sizeOf220
 v53:=Tryz.zeroValue220
 t70:=Tryz.underlying162
 a70:=Tryz.isAgg162
 z70:=Tryz.sizeOf162
 v70:=Tryz.zeroValue162
 t72:=Tryz.underlying164
 a72:=Tryz.isAgg164
 z72:=Tryz.sizeOf164
 v72:=Tryz.zeroValue164
 t75:=Tryz.underlying224
 a75:=Tryz.isAgg224
 z75:=Tryz.sizeOf224
 v75:=Tryz.zeroValue224
 t76:=Tryz.underlying225
 a76:=Tryz.isAgg225
 z76:=Tryz.sizeOf225
 v76:=Tryz.zeroValue225
 t109:=Tryz.underlying382
 a109:=Tryz.isAgg382
 z109:=Tryz.sizeOf382
 v109:=Tryz.zeroValue382
 t127:=Tryz.underlying234
 a127:=Tryz.isAgg234
 z127:=Tryz.sizeOf234
 v127:=Tryz.zeroValue234
 t146:=Tryz.underlying395
 a146:=Tryz.isAgg395
 z146:=Tryz.sizeOf395
 v146:=Tryz.zeroValue395
 t148:=Tryz.underlying397
 a148:=Tryz.isAgg397
 z148:=Tryz.sizeOf397
 v148:=Tryz.zeroValue397
 t164:=Tryz.underlying317
 a164:=Tryz.isAgg317
 z164:=Tryz.sizeOf317
 v164:=Tryz.zeroValue317}
theorem Tryz.Builder_Extra_105:Builder.Extra Tryz.prog Tryz.lays105_ren:={
 sizeBuilder:=by kernel_rfl
 liesBuilder:=by kernel_rfl
 t5:=Tryz.underlying5
 a5:=Tryz.isAgg5
 z5:=Tryz.sizeOf5
 v5:=Tryz.zeroValue5
 infoByte:=by kernel_rfl
 cellsByte:=by kernel_rfl
 sizeByte:=by kernel_rfl
 neB5:=by decide}
open Go.RowKit Go.Lib in
theorem Tryz.strings_Repeat(s:ByteArray)(c:Nat)(w:World)(hc:c<=9223372036854775807)(hlen:s.size*c<=140737488355328):
 Calls Tryz.prog 330 #[.string s,.int .i64 c] w λe w'=>e=.returned (.string ⟨(Lib.repeatL s.data.toList c).toArray⟩)/\Below w.heap.size w w':=Any.strings_Repeat Tryz.lays105 Tryz.Builder_Extra_105 s c w hc hlen
def Tryz.growS_ren:Go.Shelf.Ren:=⟨λ|4=>154|n=>n,λ|22=>32|25=>9|3=>3|4=>4|9=>9|20=>20|0=>0|n=>n,λn=>n⟩
theorem Tryz.growS:Go.Proofs.Lays8.n4 Tryz.prog Tryz.growS_ren:={
 mixed:=by kernel_rfl
 f4:=⟨Tryz.f154.name,by kernel_rfl,Tryz.func154.trans (congrArg some (by kernel_rfl))⟩
 t0:=Tryz.underlying0
 a0:=Tryz.isAgg0
 z0:=Tryz.sizeOf0
 v0:=Tryz.zeroValue0
 t3:=Tryz.underlying3
 a3:=Tryz.isAgg3
 z3:=Tryz.sizeOf3
 v3:=Tryz.zeroValue3
 t4:=Tryz.underlying4
 a4:=Tryz.isAgg4
 z4:=Tryz.sizeOf4
 v4:=Tryz.zeroValue4
 t9:=Tryz.underlying9
 a9:=Tryz.isAgg9
 z9:=Tryz.sizeOf9
 v9:=Tryz.zeroValue9
 t20:=Tryz.underlying20
 a20:=Tryz.isAgg20
 z20:=Tryz.sizeOf20
 v20:=Tryz.zeroValue20
 t22:=Tryz.underlying32
 a22:=Tryz.isAgg32
 z22:=Tryz.sizeOf32
 v22:=Tryz.zeroValue32
}
theorem Tryz.slices_Grow_0(w:World):Calls Tryz.prog 154 #[.slice none 0 0,.int .i64 0] w λe w'=>e=.returned (.slice none 0 0)/\w'=w:=
 Any8.slices_Grow_room Tryz.growS none 0 0 0 w (Nat.le_refl _) (by decide) (by decide) (Nat.le_refl _)
theorem Tryz.slices_Grow_n(n:Nat)(w:World)(h0:0<n)(h1:n<=1000000):Calls Tryz.prog 154 #[.slice none 0 0,.int .i64 n] w λe w'=>∃(arr:Array Value)(fz:Nat×Nat)(cap:Nat),cap<=arr.size/\e=.returned (.slice (some ⟨w.heap.size,0,none⟩) 0 cap)/\Go.RowKit.Below w.heap.size w w'/\w'.heap[w.heap.size]?=some (.cells arr 9 fz)/\∀i,i<arr.size->¬(fz.1<=i/\i<fz.2):=by
 have hs:(Tryz.prog.info? 9).isSome=true:=by kernel_rfl
 obtain⟨i0,hi0⟩:=Option.isSome_iff_exists.1 hs
 have hz:(Tryz.prog.info? 9).bind (λi=>i.zero)=some (.string ⟨#[]⟩):=by kernel_rfl
 have hz1:(Tryz.prog.info? 9).map (λi=>i.size)=some 1:=by kernel_rfl
 have hz2:(Tryz.prog.info? 9).map (λi=>i.bytes)=some 16:=by kernel_rfl
 rw[hi0]at hz hz1 hz2
 have hz:i0.zero=some (.string ⟨#[]⟩):=hz
 have hz1:i0.size=1:=Option.some.inj hz1
 have hz2:i0.bytes=16:=Option.some.inj hz2
 refine(Any8.slices_Grow_grow Tryz.growS i0 (.string ⟨#[]⟩) hi0 hz (by rw[hz1];decide) none 0 0 n [] w (Nat.le_refl _) (by omega) (by rw[hz2];omega) (by omega) (by simp) (λ_=>rfl) (λa h=>by cases h)).mono ?_
 rintro e w' ⟨he,hw⟩
 have hzc:∀k,(Builtin.zeroCells (Value.string ⟨#[]⟩).cells k).size=k:=λk=>by
  have e:(Value.string ⟨#[]⟩).cells= #[.string ⟨#[]⟩]:=rfl
  rw[e]
  simp[Builtin.zeroCells]
 have key:∃arr:Array Value,w'=w.drew.alloc (.cells arr 9)/\grownCap w (0+n) 0 (Tryz.growS_ren.t 25)<=arr.size:=⟨_,hw,by
  simp only[Array.size_append,hzc]
  omega⟩
 obtain⟨arr,hw,hsz⟩:=key
 refine⟨arr,(0,0),_,hsz,he,?_,?_,λi _ h=>Nat.not_lt_zero _ h.2⟩
 ·rw[hw]
  exact((Go.RowKit.Below.refl _ _).drew).alloc (Nat.le_refl _) _
 ·rw[hw]
  show(w.heap.push _)[w.heap.size]?=_
  rw[Array.getElem?_push_size]
end Go.Proofs
end
noncomputable section
namespace Go.Abs
open Go.RowKit Go.Proofs
set_option maxRecDepth 100000
theorem C30:ZF Tryz.prog 180:=⟨Tryz.f180,by kernel_rfl,by kernel_rfl,by kernel_rfl⟩
theorem C4G:ZF Tryz.prog 61:=⟨Tryz.f61,by kernel_rfl,by kernel_rfl,by kernel_rfl⟩
theorem C31:ZF Tryz.prog 154:=⟨Tryz.f154,by kernel_rfl,by kernel_rfl,by kernel_rfl⟩
theorem C2Z:ZF Tryz.prog 330:=⟨Tryz.f330,by kernel_rfl,by kernel_rfl,by kernel_rfl⟩
theorem C1X(E:XE):oT.All (zZ E Tryz.prog):=
 ⟨B0z C30 Tryz.strings_Join_none Tryz.strings_Join,⟨B0I C31 Tryz.slices_Grow_0 Tryz.slices_Grow_n,⟨A95 C4G Tryz.slices_Sort_string,trivial,trivial⟩,trivial⟩,⟨A3e C2Z Tryz.strings_Repeat,trivial,trivial⟩⟩
theorem A9e(L n:Nat):RSound sA (E L) Tryz.prog (rt L n):=A3v (C5g L) (C20 L) (C1X _) n
def Y7.vs(y:Y7):List Value:=[.int .i64 y.y0,.int .i64 y.y1,.int .i64 y.y2,.int .i64 y.y3,.int .i64 y.y4,.int .i64 y.y5,.int .i64 y.y6]
theorem C0V(xs:List Y7):xs.flatMap Y7.cs=(xs.flatMap Y7.vs).map λx=>.v x:=by
 induction xs with
 |nil=>rfl
 |cons y xs ih=>rw[qB,qB,Za,ih];rfl
theorem B0P{α β:Type}(f:α->List β)(w:Nat)(hf:∀x,(f x).length=w):∀(l:List α)(i j:Nat)(h:i<l.length),j<w->(l.flatMap f)[i*w+j]?=(f l[i])[j]?:=by
 intro l
 induction l with
 |nil=>intro i j h;simp at h
 |cons a l ih=>
  intro i j h hj
  rw[qB]
  cases i with
  |zero=>
   rw[Nat.zero_mul,Jt,l0m (by rw[hf];exact hj)];rfl
  |succ i=>
   have e:(i+1)*w+j=(f a).length+(i*w+j):=by rw[hf,Z'];omega
   rw[e,l0o (by omega),Nat.add_sub_cancel_left,List.getElem_cons_succ]
   exact ih i j (by simpa using h) hj
theorem yW{α β:Type}(f:α->List β)(w:Nat)(hf:∀x,(f x).length=w):∀l:List α,(l.flatMap f).length=l.length*w:=by
 intro l
 induction l with
 |nil=>simp
 |cons a l ih=>simp[ih,hf,Z',Nat.add_comm]
def A4j(W:World):Ctx:={π:=λ_=>none,F:=λb _=>b<W.heap.size,B:=λ_=>False}
theorem B1P{W:World}{b i:Nat}{v:Value}(h:W.cell? ⟨b,i,none⟩=some v):b<W.heap.size:=by
 unfold World.cell? at h
 split at h
 ·rename_i c t f he
  exact(l1v.1 he).1
 ·cases h
theorem C4a{W:World}{G:Gl}(hG:∀(g:Nat)(cs:List Value),G g=some cs->∀(i:Nat)(v:Value),cs[i]?=some v->W.cell? ⟨g,i,none⟩=some v):Rel G ⟨W,λ_=>False⟩ (A4j W) [] W where
 glob:=λg cs hg i v hv=>⟨B1P (hG g cs hg i v hv),hG g cs hg i v hv⟩
 below:=Keep.refl W _
 lt:=λr x h=>by cases h
 rows:=λr x h=>by cases h
 own:=λr x b o h=>by cases h
 sep:=λr r' x x' b o o' h=>by cases h
 fin:=λb i h=>h
 finB:=λb h=>h.elim
 nx:=λr _=>rfl
theorem A4Y{W:World}{n cap:Nat}{a:Option Addr}{vs:List Value}(hn:n<=cap)(h0:n=0->vs=[])(h:∀i(hi:i<vs.length),∃b o,a=some ⟨b,o,none⟩/\W.cell? ⟨b,o+i,none⟩=some vs[i])(hne:0<n->0<vs.length):VRel (A4j W) W (.list n (vs.map λx=>.v x)) (.slice a n cap):=by
 by_cases h1:n=0
 ·subst h1
  rw[h0 rfl]
  exact .list0
 ·have h2:=hne (by omega)
  obtain⟨b,o,ha, -⟩:=h 0 h2
  subst ha
  have hc:∀i(hi:i<vs.length),W.cell? ⟨b,o+i,none⟩=some vs[i]:=λi hi=>by
   obtain⟨b',o',e,hc⟩:=h i hi
   cases e
   exact hc
  refine .list hn (λi=>vs.getD i undef) (λi hi=>?_) (λi hi=>?_) (λi hi=>?_)
  ·exact B1P (hc i (by simpa using hi))
  ·have hi':i<vs.length:=by simpa using hi
   rw[hc i hi',Vf,K8 hi'];rfl
  ·have hi':i<vs.length:=by simpa using hi
   have:(vs.map λx=>AV.v x)[i]=.v (vs.getD i undef):=by
    rw[l2o,Vf,K8 hi'];rfl
   rw[this]
   exact .v _
end Go.Abs
end
noncomputable section
namespace Go.Proofs.YtobbbklaopaiaaaGreatDoor
open Go.ChangeShapes Go.WideShapes Go.ChangeAt Go.WideMaps Go.WideElems Go.RowKit Go.Abs
set_option maxRecDepth 100000
theorem own:ownKnob Tryz.prog.godebug=none:=by kernel_rfl
theorem A5q:laidOutB Tryz.prog=true:=by kernel_rfl
theorem u22:Tryz.prog.underlying 22=some (.slice 73):=by kernel_rfl
theorem u90:Tryz.prog.underlying 73=some (.array 7 3):=by kernel_rfl
theorem u23:Tryz.prog.underlying 23=some (.slice 3):=by kernel_rfl
theorem u3:Tryz.prog.underlying 3=some (.int .i64):=by kernel_rfl
theorem u4:Tryz.prog.underlying 4=some .bool:=by kernel_rfl
theorem c3:Tryz.prog.cellsOf 3=1:=by kernel_rfl
theorem c90:Tryz.prog.cellsOf 73=7:=by kernel_rfl
theorem zV{H:Type}{enc:TypeId×Value->H}{P:Program}{W:World}{base:Nat}{spare:Nat->Bool}{held:Bool}{fuel:Nat}{t e:TypeId}{k:IntKind}{cs:List Value}{ns:List Int}{pl:List MemPlace}(ht:P.underlying t=some (.array ns.length e))(he:P.underlying e=some (.int k))(ce:P.cellsOf e=1)(ct:P.cellsOf t=ns.length)(h:DataW.trod enc P W base spare held fuel t cs=some (.agg (ns.map λz=>.lit (.int k z)),pl)):cs=ns.map λz=>Value.int k z:=by
 obtain⟨xs,m,_,hx,hlen,hn,hel⟩:=DataW.trod_array ht h
 simp only[Prod.mk.injEq,DataW.agg.injEq]at hx
 obtain⟨hx,_⟩:=hx
 apply List.ext_getElem
 ·rw[hlen,ct,Qa]
 ·intro i h1 h2
  have hi:i<ns.length:=by simpa using h2
  have hxi:i<xs.length:=by omega
  have h0:=hel i hi
  rw[ce,pZ,K8 hxi]at h0
  obtain⟨z,e1,e2,_⟩:=DataW.trod_int he h0
  have e3:(cs.drop i).take 1=[cs[i]]:=by rw[vM h1];rfl
  rw[e3]at e1
  have e4:(ns.map λz=>DataW.lit (H:=H) (.int k z))[i]'(by simpa using hi)=(xs.map (·.1))[i]'(by simpa using hxi):=by simp only[hx]
  rw[l2o,l2o,e2]at e4
  have e5:ns[i]=z:=by simpa using e4
  rw[l2o,e5]
  simpa using e1
def B4f(l:List AV):List Int:=l.map λa=>match a with|.v (.int _ z)=>z|_=>0
theorem C2h:Rows.laid_yardstick_digest_round (H:=Unit)=.agg ((B4f gl0).map λz=>.lit (.int .u32 z)):=by kernel_rfl
theorem C2g:Rows.laid_internal_strconv_uint64pow10 (H:=Unit)=.agg ((B4f gl1).map λz=>.lit (.int .u64 z)):=by kernel_rfl
theorem C2Q:gl0.map unV=(B4f gl0).map λz=>Value.int .u32 z:=by kernel_rfl
theorem C2O:gl1.map unV=(B4f gl1).map λz=>Value.int .u64 z:=by kernel_rfl
theorem gn0:Tryz.prog.globalNamed "yardstick/digest.round" =some 0:=by kernel_rfl
theorem gn1:Tryz.prog.globalNamed "internal/strconv.uint64pow10" =some 1:=by kernel_rfl
theorem B4e{W:World}(h:laidMetH Tryz.prog Rows.exchangeLossyRow.laid W):∀L(g:Nat)(cs:List Value),(E L).G g=some cs->∀(i:Nat)(v:Value),cs[i]?=some v->W.cell? ⟨g,i,none⟩=some v:=by
 rw[MakeChecks.laidMetH_plain _ _ _ (by kernel_rfl)]at h
 obtain⟨ps,hv,_,_⟩:=h
 obtain⟨_,_,_,_,_,_,_,_,_,_,hv,_⟩:=hv
 obtain⟨_,_,_,_,_,_,_,_,_,_,hv,_⟩:=hv
 obtain⟨g1,t1,cs1,f1,p1,q1,hg1,ht1,hv1,hd1,hv,_⟩:=hv
 obtain⟨_,_,_,_,_,_,_,_,_,_,hv,_⟩:=hv
 obtain⟨_,_,_,_,_,_,_,_,_,_,hv,_⟩:=hv
 obtain⟨_,_,_,_,_,_,_,_,_,_,hv,_⟩:=hv
 obtain⟨g0,t0,cs0,f0,p0,q0,hg0,ht0,hv0,hd0, -,_⟩:=hv
 obtain rfl:=l2c (gn0.symm.trans hg0)
 obtain rfl:=l2c (gn1.symm.trans hg1)
 have tt0:(Tryz.prog.globals[0]?).map (·.type)=some 237:=by kernel_rfl
 have tt1:(Tryz.prog.globals[1]?).map (·.type)=some 362:=by kernel_rfl
 obtain rfl:=l2c (tt0.symm.trans ht0)
 obtain rfl:=l2c (tt1.symm.trans ht1)
 rw[show(Rows.laid_yardstick_digest_round (H:=Unit))=_ from C2h]at hd0
 rw[show(Rows.laid_internal_strconv_uint64pow10 (H:=Unit))=_ from C2g]at hd1
 have k0:=zV (e:=139) (by kernel_rfl) (by kernel_rfl) (by kernel_rfl) (by kernel_rfl) hd0
 have k1:=zV (e:=220) (by kernel_rfl) (by kernel_rfl) (by kernel_rfl) (by kernel_rfl) hd1
 intro L g cs hg i v hvv
 match g,hg with
 |0,hg=>
  have e:(E L).G 0=some (gl0.map unV):=rfl
  rw[e]at hg
  obtain rfl:=l2c hg
  rw[World.var?_cell hg0 hv0 i,<-l27,k0,<-C2Q]
  exact hvv
 |1,hg=>
  have e:(E L).G 1=some (gl1.map unV):=rfl
  rw[e]at hg
  obtain rfl:=l2c hg
  rw[World.var?_cell hg1 hv1 i,<-l27,k1,<-C2O]
  exact hvv
 |g+2,hg=>
  exfalso
  have e:(E L).G (g+2)=(glB.get (g+2)).map λcs=>cs.map unV:=rfl
  have e1:Nat.beq (g+2) 1=false:=rfl
  have e2:Nat.blt (g+2) 1=false:=rfl
  have e3:glB.get (g+2)=none:=by
   unfold glB
   simp only[BT.get,e1,e2]
  rw[e,e3]at hg
  cases hg
theorem E?{z:Int}(h:(Lit.int .i64 z).wf=true):Lm z:=by
 have h1: -9223372036854775808<=z/\z<=9223372036854775807:=by simpa [Lit.wf,IntKind.min,IntKind.max,IntKind.signed,IntKind.bits] using h
 exact⟨h1.1,by omega⟩
theorem A3q{H:Type}{enc:TypeId×Value->H}{W:World}{base:Nat}{spare:Nat->Bool}{held:Bool}{fuel:Nat}{cs:List Value}{x:DataW H×List MemPlace}(h:DataW.trod enc Tryz.prog W base spare held fuel 22 cs=some x):
 cs=[.slice none 0 0]\/∃(a:Addr)(cap:Nat)(ys:List Y7),cs=[.slice (some a) ys.length cap]/\ys.length<=cap/\(∀y∈ys,y.Ok)/\∀i(hi:i<(ys.flatMap Y7.vs).length),W.cell? (a.add i)=some (ys.flatMap Y7.vs)[i]:=by
 rcases Deep.open_slice u22 h with⟨h0,_⟩|⟨a,len,cap,m,n,D,Pl,rfl,hb,hl,hm,hmm,rfl,hx⟩
 ·exact .inl h0
 right
 have hlm:len<=m:=by rw[hmm];split<;>omega
 have hrow:∀i,i<len->∃y:Y7,y.Ok/\∀j(hj:j<7),W.cell? (a.add (i*7+j))=(Y7.vs y)[j]?:=by
  intro i hi
  obtain⟨cs',hc,ht⟩:=hx i (by omega)
  rw[c90]at hc
  obtain⟨_,hl7,hcell⟩:=World.cells?_some hc
  obtain⟨xs,m',_,_,_,hn,hel⟩:=DataW.trod_array u90 ht
  have hz:∀j,j<7->∃z:Int,cs'[j]?=some (.int .i64 z)/\Lm z:=by
   intro j hj
   have h0:=hel j hj
   rw[c3,pZ,K8 (show j<xs.length by omega)]at h0
   obtain⟨z,e1,_,e3⟩:=DataW.trod_int u3 h0
   have hj':j<cs'.length:=by omega
   refine⟨z,?_,?_⟩
   ·rw[K8 hj']
    have e4:(cs'.drop j).take 1=[cs'[j]]:=by rw[vM hj'];rfl
    rw[e4]at e1
    have:cs'[j]=.int .i64 z:=by simpa using e1
    rw[this]
   ·exact E? e3
  obtain⟨Z,hZ⟩:=Deep.choose_lt hz
  refine⟨⟨Z 0,Z 1,Z 2,Z 3,Z 4,Z 5,Z 6⟩,⟨(hZ 0 (by omega)).2,(hZ 1 (by omega)).2,(hZ 2 (by omega)).2,(hZ 3 (by omega)).2,(hZ 4 (by omega)).2,(hZ 5 (by omega)).2,(hZ 6 (by omega)).2⟩,λj hj=>?_⟩
  have hc2:W.cell? ((a.add (i*7)).add j)=cs'[j]?:=hcell j hj
  rw[Addr.add_add]at hc2
  rw[hc2,(hZ j hj).1]
  obtain rfl|rfl|rfl|rfl|rfl|rfl|rfl:j=0\/j=1\/j=2\/j=3\/j=4\/j=5\/j=6:=by omega
  all_goals rfl
 haveI:Inhabited Y7:=⟨⟨0,0,0,0,0,0,0⟩⟩
 obtain⟨V,hV⟩:=Deep.choose_lt hrow
 refine⟨a,cap,(List.range len).map V,by simp,by simpa using hl,λy hy=>?_,λi hi=>?_⟩
 ·obtain⟨k,hk,rfl⟩:=Mj.1 hy
  exact(hV k (KE.1 hk)).1
 ·have h7:(((List.range len).map V).flatMap Y7.vs).length=len*7:=by rw[yW Y7.vs 7 (λ_=>rfl)];simp
  have hi':i<len*7:=by omega
  have hd:i/7<len:=by omega
  have e:=B0P Y7.vs 7 (λ_=>rfl) ((List.range len).map V) (i/7) (i%7) (by simpa using hd) (by omega)
  rw[show i/7*7+i%7=i by omega,K8 hi]at e
  have h1:=(hV (i/7) hd).2 (i%7) (by omega)
  rw[show i/7*7+i%7=i by omega]at h1
  rw[h1,e]
  simp
theorem zW{W:World}{a:Addr}{v:Value}(h:W.cell? a=some v):a=⟨a.block,a.off,none⟩:=by
 obtain⟨b,o,sp⟩:=a
 cases sp with
 |none=>rfl
 |some k=>
  unfold World.cell? at h
  split at h
  ·simp at h
  ·cases h
theorem A2a{a:Addr}(i:Nat)(h:a=⟨a.block,a.off,none⟩):a.add i=⟨a.block,a.off+i,none⟩:=by
 rw[h]
 unfold Addr.add
 by_cases hi:i=0
 ·subst hi;rfl
 ·rw[C5 hi]
theorem wG{H:Type}{enc:TypeId×Value->H}{P:Program}{f:Func}{s:ChangeSpec}{apart fresh O_ again:Bool}{W W':World}{args:Array Value}{v:Value}{ds gs:List (DataW H)}{before pa pv:List MemPlace}(hW:DataW.Whole enc P f.params.toList s.vars apart W args.toList ds gs before)(hres:∀(b:Nat)(sp:Nat->Bool)(hd:Bool),DataW.TrodAll enc P W' b sp hd f.resultTypes.toList (v.resultList f.resultTypes.size) (s.fn H (ds++gs)).results [])(hargs:∀sp:Nat->Bool,(∀p∈before,sp p.block=true)->DataW.TrodAll enc P W' 0 sp true f.params.toList args.toList (s.fn H (ds++gs)).args pa)(hvars:∀sp:Nat->Bool,(∀p∈before,sp p.block=true)->DataW.TrodVars enc P W' sp s.vars (s.fn H (ds++gs)).vars pv)(hps:before=pa++pv)(hb:Below W.heap.size W W')(hok:∀(j:Nat)(t:TypeId)(r:Value),f.resultTypes[j]?=some t->(v.resultList f.resultTypes.size)[j]?=some r->Value.okWide P W' .any 0 t r):
 s.post enc P f apart fresh O_ again W args v W':=by
 have hold:∀p∈before,(λb=>decide (b<W.heap.size)) p.block=true:=λp hp=>by simpa using hW.lt p hp
 have hlt:=hW.lt
 refine⟨ds,gs,before,[],pa,pv,hW,hres _ _ _,hargs _ hold,hvars _ hold,World.keptBut_mono (λp hp=>⟨hp,?_⟩) (hb.frame (· ∈before)),λ_=>?_⟩
 ·rw[hps,Yn]at hp
  exact Or.inr hp
 ·obtain⟨_,_,_,_,_,hz,hn⟩:=hW
  refine⟨hok,_,_,([]++pa)++pv,⟨[]++pa,pv,trodAll_append (hargs _ (λ_ _=>rfl)) (hres _ _ _),hvars _ (λ_ _=>rfl),rfl,?_,?_⟩,?_⟩
  ·intro b off hp
   have hm:MemPlace.cell b off∈before:=by rw[hps];simpa using hp
   rw[hb.frozen (hlt _ hm)]
   exact hz b off hm
  ·intro ha
   have:=hn ha
   rw[hps]at this
   simpa using this
  ·intro p hp _
   rw[hps]
   simpa using hp
theorem B3v{H:Type}{enc:TypeId×Value->H}{W:World}{base:Nat}{spare:Nat->Bool}{held:Bool}{a0:Option Addr}{n0 k0:Nat}{d:DataW H}{p:List MemPlace}(h0:DataW.Trod enc Tryz.prog W base spare held 22 (.slice a0 n0 k0) d p):
 ∃xs:List Y7,(∀y∈xs,y.Ok)/\VRel (A4j W) W (.list xs.length (xs.flatMap Y7.cs)) (.slice a0 n0 k0):=by
 obtain⟨f,hf⟩:=h0
 rcases A3q hf with hc|⟨a,cap,ys,hc,hle,hok,hcell⟩
 ·simp only[Value.cells,List.cons.injEq,Value.slice.injEq,and_true]at hc
  obtain⟨rfl,rfl,rfl⟩:=hc
  exact⟨[],by simp,.list0⟩
 ·simp only[Value.cells,List.cons.injEq,Value.slice.injEq,and_true]at hc
  obtain⟨rfl,rfl,rfl⟩:=hc
  refine⟨ys,hok,?_⟩
  rw[C0V]
  refine A4Y hle (λe=>by rw[gL e];rfl) (λi hi=>?_) (λe=>by rw[yW Y7.vs 7 (λ_=>rfl)];omega)
  have h0:=hcell 0 (by omega)
  have hs:a=⟨a.block,a.off,none⟩:=zW (v:=(ys.flatMap Y7.vs)[0]'(by omega)) (by simpa [Addr.add] using h0)
  exact⟨a.block,a.off,by rw[<-hs],by rw[<-A2a i hs];exact hcell i hi⟩
theorem B4t{H:Type}{enc:TypeId×Value->H}{W:World}{base:Nat}{spare:Nat->Bool}{held:Bool}{a2:Option Addr}{n2 k2:Nat}{d:DataW H}{p:List MemPlace}(h2:DataW.Trod enc Tryz.prog W base spare held 23 (.slice a2 n2 k2) d p):
 ∃ws:List Int,(∀z∈ws,Lm z)/\ws.length<9223372036854775808/\VRel (A4j W) W (.list ws.length (Fa ws)) (.slice a2 n2 k2):=by
 obtain⟨f,hf⟩:=h2
 rcases open_ints u23 u3 c3 hf with⟨hc,_⟩|⟨a,len,cap,zs,hc,_,hle,hmx,hzl,_,hcell,hwf⟩
 ·simp only[Value.cells,List.cons.injEq,Value.slice.injEq,and_true]at hc
  obtain⟨rfl,rfl,rfl⟩:=hc
  exact⟨[],by simp,by decide,.list0⟩
 ·simp only[Value.cells,List.cons.injEq,Value.slice.injEq,and_true]at hc
  obtain⟨rfl,rfl,rfl⟩:=hc
  have hlz:n2<=zs.length:=by rw[hzl];split<;>omega
  have e:Fa (zs.take n2)=((zs.take n2).map λz=>Value.int .i64 z).map λx=>.v x:=by simp only[Fa,List.map_map,List.map_take];rfl
  have el:(zs.take n2).length=n2:=by rw[vN];omega
  refine⟨zs.take n2,λz hz=>E? (hwf z (l2a hz)),?_,?_⟩
  ·rw[el]
   unfold maxLen at hmx
   omega
  ·rw[el,e]
   refine A4Y hle (λe=>by subst e;rfl) (λi hi=>?_) (λe=>by rw[Qa,el];exact e)
   have hi2:i<n2:=by rw[Qa,el]at hi;exact hi
   have h0:=hcell 0 (by omega)
   have hs:a=⟨a.block,a.off,none⟩:=zW (v:=.int .i64 (zs.getD 0 0)) (by simpa [Addr.add] using h0)
   refine⟨a.block,a.off,by rw[<-hs],?_⟩
   rw[<-A2a i hs,hcell i (by omega),l2o,List.getElem_take,Vf,K8 (by omega)];rfl
end Go.Proofs.YtobbbklaopaiaaaGreatDoor
end
noncomputable section
namespace Go.Abs
open Go.RowKit Go.Proofs
set_option maxRecDepth 100000
theorem Ym{W:World}(hG:∀L(g:Nat)(cs:List Value),(E L).G g=some cs->∀(i:Nat)(v:Value),cs[i]?=some v->W.cell? ⟨g,i,none⟩=some v){xs:List Y7}{v0:Value}{z1:Int}{z2:Int}{ws3:List Int}{u3:Value}(h0:VRel (A4j W) W (.list xs.length (xs.flatMap Y7.cs)) v0)(hok:∀y∈xs,y.Ok)(g1:Lm z1)(g2:Lm z2)(g3:VRel (A4j W) W (.list ws3.length (Fa ws3)) u3)(gi3:∀z∈ws3,Lm z)(gl3:ws3.length<9223372036854775808):
 Calls Tryz.prog 3 #[v0,.int .i64 z1,.int .i64 z2,u3] W λe W'=>e=.returned (.bool true)/\Below W.heap.size W W':=by
 obtain⟨L,hL⟩:∃L,200000<L:=⟨200001,by decide⟩
 have h:=A0n (L:=L) (n:=0) (xs:=xs) (a0:=.list xs.length (xs.flatMap Y7.cs)) (K:=λv _=>some (v,[])) hL (.inl rfl) hok g1 g2 ⟨.inl rfl,gl3,gi3⟩ (λ_=>rfl)
 have ac:=((A9e (L+20) (0+87)).call _ _ _ _ _ h).2 ⟨W,λ_=>False⟩ (A4j W) W [v0,.int .i64 z1,.int .i64 z2,u3] (C4a (hG _)) ?_
 ·refine ac.mono λe W' ⟨v,y,C',H',he,hr,hv,_,hq⟩=>?_
  injection hq with hq
  injection hq with hq _
  subst hq
  have hy:y=.bool true:=AM.1 hv
  subst hy
  have hb:=hr.below
  exact⟨he,hb.os,hb.tape,hb.output,hb.size,λk hk=>hb.block k hk (λhf=>hf)⟩
 ·refine⟨rfl,λi v hv=>?_⟩
  match i,hv with
  |0,hv=>cases hv;exact⟨_,rfl,h0⟩
  |1,hv=>cases hv;exact⟨_,rfl,.v _⟩
  |2,hv=>cases hv;exact⟨_,rfl,.v _⟩
  |3,hv=>cases hv;exact⟨_,rfl,g3⟩
end Go.Abs
namespace Go.Proofs.YtobbbklaopaiaaaGreatDoor
open Go.ChangeShapes Go.WideShapes Go.ChangeAt Go.WideMaps Go.WideElems Go.RowKit Go.Abs
set_option maxRecDepth 100000
theorem J':Tryz.f3.params= #[22,3,3,23]:=by kernel_rfl
theorem Yl(os:Os)(started:os.Started)(H:Type)(enc:TypeId×Value->H):
 ReturnsInHanded {} Tryz.checked os 3 .any (λw args=>(Rows.exchangeLossySpec.pre enc Tryz.prog Tryz.f3 [] false w args/\laidMetH Tryz.prog Rows.exchangeLossyRow.laid w)/\sizedMet enc Tryz.prog Tryz.f3 (OpenSpec.ofChange Rows.exchangeLossySpec) false w args)
  (Rows.exchangeLossySpec.post enc Tryz.prog Tryz.f3 false true false false):=by
 refine returnsInHanded_of_change_and (C:=Tryz.checked) (X:=λw _=>laidMetH Tryz.prog Rows.exchangeLossyRow.laid w) (λ_ _ _ hh h=>h.of_heap hh) own started (by kernel_rfl) Tryz.func3
  (ChangeSpec.witness_shaped (enc:=enc) (C:=Tryz.checked) (os:=os) (X:=λw _=>laidMetH Tryz.prog Rows.exchangeLossyRow.laid w) false (World.laidAll Tryz.prog os Rows.exchangeLossyRow.laid) #[.slice none 0 0,.int .i64 0,.int .i64 0,.slice none 0 0] 8 (World.laidAll_os _ _ _)
   (World.shaped_of_ZipB (by kernel_rfl) (by kernel_rfl)) (by kernel_rfl) (by kernel_rfl) (by kernel_rfl)
   (by rw[MakeChecks.laidMetH_plain _ _ _ (by kernel_rfl)];exact laidMet_laidAll _ (by kernel_rfl) (by kernel_rfl))) ?_
 intro W base args ds gs before hval0 hW _ _ hL _
 have hval:∀(j:Nat)t v,Tryz.f3.params[j]?=some t->args[j]?=some v->Value.okWide Tryz.prog W .any base t v:=hval0
 have hW':=hW
 obtain⟨p,q,hA0,hV,rfl,hfz,hnd⟩:=hW
 have hA:DataW.TrodAll enc Tryz.prog W 0 (λ_=>true) true Tryz.f3.params.toList args.toList ds p:=hA0
 rw[J']at hA hval
 obtain⟨v0,v1,v2,v3,d0,d1,d2,d3,p0,p1,p2,p3,rfl,rfl,rfl,h0,h1,h2,h3⟩:=trodAll_four hA
 obtain⟨rfl,rfl⟩:=trodVars_none hV
 obtain⟨a0,n0,k0,rfl⟩:=okWide_slice u22 (hval 0 22 v0 rfl rfl)
 obtain⟨z1,rfl,rfl,rfl,wz1⟩:=open_int u3 (hval 1 3 v1 rfl rfl) h1
 obtain⟨z2,rfl,rfl,rfl,wz2⟩:=open_int u3 (hval 2 3 v2 rfl rfl) h2
 obtain⟨a3,n3,k3,rfl⟩:=okWide_slice u23 (hval 3 23 v3 rfl rfl)
 have hG:=B4e hL
 obtain⟨xs,hok,hx⟩:=B3v h0
 obtain⟨ws3,hws3,hwl3,hw3⟩:=B4t h3
 refine(Ym hG hx hok (E? wz1) (E? wz2) hw3 hws3 hwl3).mono λe W' ⟨he,hb⟩=>?_
 subst he
 simp only[UC]at hW'
 have hlt:=hW'.lt
 refine⟨_,rfl,wG (pa:=p0++p3) (pv:=[]) hW' (λ_ _ _=>trodAll_mk1 (shut_bool u4 true)) (λsp hsp=>?_) (λ_ _=>rfl) (by simp) hb (ok_one (by kernel_rfl) rfl (okWide_bool_mk u4 true))⟩
 show DataW.TrodAll enc Tryz.prog W' 0 sp true Tryz.f3.params.toList [.slice a0 n0 k0,.int .i64 z1,.int .i64 z2,.slice a3 n3 k3] [d0,.lit (.int .i64 z1),.lit (.int .i64 z2),d3] (p0++p3)
 rw[J']
 have h9:=trodAll_mk4 (WideElems.Trod_stays A5q (by kernel_rfl) (l2z (by kernel_rfl)) h0 (λx hx=>hb.same (hlt x (by simp[hx]))) (λx hx=>hsp x (by simp[hx])))
  (shut_int u3 wz1)
  (shut_int u3 wz2)
  (WideElems.Trod_stays A5q (by kernel_rfl) (l2z (by kernel_rfl)) h3 (λx hx=>hb.same (hlt x (by simp[hx]))) (λx hx=>hsp x (by simp[hx])))
 simpa using h9
end Go.Proofs.YtobbbklaopaiaaaGreatDoor
end
noncomputable section
namespace Go.Proofs.YtobbbklaopaiaaaGreatDoor
open Go.ChangeShapes Go.WideShapes Go.ChangeAt Go.WideMaps Go.WideElems Go.RowKit
set_option maxRecDepth 100000
theorem exchangeLossy_holds:Rows.ExchangeLossySaid:=
 OpenClaim.holds_of_wide 3 Tryz.f3 rfl rfl rfl rfl rfl rfl rfl ⟨rfl,rfl,rfl,rfl,rfl⟩ rfl rfl rfl rfl rfl lY Tryz.func3 B57
  (l2z (by kernel_rfl)) (by unfold Func.isWrapper;first|(rw[Dl (by decide+kernel)];kernel_rfl)|(rw[C5 (by decide+kernel)];exact⟨rfl,rfl⟩))
  (λos started H enc _=>Yl os started H enc)
theorem C4r:Rows.exchangeLossyRow.wfByText (OpenSpec.ofChange Rows.exchangeLossySpec)=true:=by kernel_rfl
theorem B9n:Tryz.pinned.checked.prog.mainIs=some (true, "9d3f902bd1003bd32b1f43eb68bf929594b653817bc6c3e785ab54594ff69ce0".toList):=by kernel_rfl
theorem B4r:true=Tryz.pinned.checked.prog.looks []:=by kernel_rfl
theorem A5k:Tryz.prog.funcs.any Func.goes=false:=by kernel_rfl
theorem B9o:false=Rows.exchangeLossyRow.goesBy Tryz.pinned.checked.prog:=by
 have h1:∀l:List FuncId,(l.any λg=>(Tryz.prog.funcs[g]?).any Func.goes)=false:=by
  intro l
  rw[List.any_eq_false]
  intro g _
  cases hg:Tryz.prog.funcs[g]? with
  |none=>simp
  |some fn=>
   have h2:=Array.any_eq_false.1 A5k
   obtain⟨hlt,e⟩:=l1v.1 hg
   have:=h2 g hlt
   rw[e]at this
   simpa using this
 have h3:Tryz.prog.goes 3=false:=by
  unfold Program.goes
  rw[h1,A5k,Bool.and_false,Bool.or_false]
 have hs:Rows.exchangeLossyRow.start=.entering:=rfl
 have hp:Tryz.pinned.checked.prog=Tryz.prog:=rfl
 have hn:Tryz.prog.funcNamed Rows.exchangeLossyRow.func=some 3:=lY
 unfold OpenClaim.goesBy Program.goesAt Program.goesFrom
 rw[hs,hp,hn,Option.any_some,h3]
 rfl
theorem B4q:([22,3,3,23].all λu=>!Tryz.prog.wantsStandIn u)=true:=by kernel_rfl
theorem exchangeLossy_card:Rows.ExchangeLossyCardSaid:=
 Claim7.holds_tied_plain_at .later [] [.data,.data,.data,.data,.sentinel,.sentinel,.data,.pinned] true (true, "9d3f902bd1003bd32b1f43eb68bf929594b653817bc6c3e785ab54594ff69ce0") true
  exchangeLossy_holds (λ_ h=>by cases h) C4r (λ_ h=>by cases h) exchangeLossy_row_tie rfl ⟨rfl,rfl⟩ B9n rfl
  (λf fn hf hfn=>by
   obtain rfl:f=3:=l2c (lY.symm.trans hf)|>.symm
   obtain rfl:fn=Tryz.f3:=(l2c (Tryz.func3.symm.trans hfn)).symm
   exact⟨B4r,λj t ht=>by
    rw[J']at ht
    have hm:t∈[22,3,3,23]:=by simpa using Array.mem_of_getElem? ht
    exact(show Tryz.prog.wantsStandIn t=false by simpa using GE.1 B4q t hm)⟩)
  B9o
end Go.Proofs.YtobbbklaopaiaaaGreatDoor
end
