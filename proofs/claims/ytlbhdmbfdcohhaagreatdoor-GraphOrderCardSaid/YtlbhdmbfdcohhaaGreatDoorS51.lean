import Derived.Shelf.Strings.OnBuilder
import Derived.Shelf.Strings.Repeat
import Derived.Shelf.Sort.Plain
import Derived.Test.YtlbhdmbfdcohhaaGreatDoorProg
import Derived.Test.YtlbhdmbfdcohhaaGreatDoorS16
import Derived.Test.YtlbhdmbfdcohhaaGreatDoorS17
import Derived.Test.YtlbhdmbfdcohhaaGreatDoorS46
import Derived.Test.YtlbhdmbfdcohhaaGreatDoorS49
import Derived.Test.YtlbhdmbfdcohhaaGreatDoorS50
set_option linter.all false
set_option maxHeartbeats 100000000
noncomputable section
namespace Go.Abs
open Go.RowKit Go.Proofs
set_option maxRecDepth 100000
section
variable {L n:Nat}
end
section
variable {L n:Nat}
structure Hw (R:Rt) (gs:List Cd) (a:AV):Prop where
 ok:GOk gs
 la:LA gs a
 bp:∀c∈gs,c.ps.length<100
 an:∀{s:Bt} {H:Hp} {K:AV→Aj},Ah R Du [a,S s] H K=K (Ep (TU gs s))
 inn:∀{l:List Bt} {v:AV} {p:Bt} {H:Hp} {K:AV→Aj},SA l v→l.length<1000→Ah R Ja [v,S p] H K=K (Bo (decide (p∈l)))
 hs:∀{l:List Bt} {v:AV} {p:Bt} {H:Hp} {K:AV→Aj},SA l v→l.length<1000→Ah R IB [v,S p] H K=K (Xr p l 0)
theorem C5z {gs:List Cd} {a:AV} (hL:200000<L) (hg:GOk gs) (hps:∀c∈gs,c.ps.length<100) (ha:LA gs a):Hw (rt (L+20) (n+81)) gs a:=by
 have fs:∀{s:Bt} {H:Hp},Pu true depth [a,S s] [a,S s] H false:= λ{s H}=>Ay (q:=false) (by
  rcases ha with rfl|⟨_,rfl⟩
  ·exact Pj
  ·exact D2) (Ay (q:=false) D2 Be)
 refine⟨hg,ha,hps,λ{s H K}=> ?_,λ{l v p H K} hv hl=> ?_,λ{l v p H K} hv hl=> ?_⟩
 ·exact Ba (A68 (L:=L) (n:=n+1) hg (by omega) hps ha) fs
 ·exact Ba (C6L (n:=n+79) hv hl (by omega)) (Ay (hv.fx H) (Ay (q:=false) D2 Be))
 ·exact Ba (B3K (n:=n+80) hv hl (by omega)) (Ay (hv.fx H) (Ay (q:=false) D2 Be))
section
variable {K:KV} {x:Aj} {H:Hp} {gs:List Cd} {a w:AV} {i:Nat} {R:Rt}
end
theorem C2j (gs:List Cd):∃(v:AV) (e:Int),ZO gs= .tup [v,.v (.int .i64 e)]∧((e=0∧gs.length≤(Kz gs).length∧v=Ep (Kz gs))∨(e≠0∧¬gs.length≤(Kz gs).length∧v=AA)):=by
 unfold ZO
 by_cases h:gs.length≤(Kz gs).length
 ·rw[if_pos h];exact⟨_,0,rfl,.inl ⟨rfl,h,rfl⟩⟩
 ·rw[if_neg h];exact⟨_,220,rfl,.inr ⟨by decide,h,rfl⟩⟩
end
section
variable {L n:Nat}
section
variable {K:KV} {x:Aj} {H:Hp} {gs:List Cd} {a w:AV} {i:Nat} {R:Rt}
theorem B8M {l:List Bt} {k:Nat} (hk:k≤l.length):∃v,(∀K:AV→Aj,Dh Ac (Ep l) none (some (I (k:Int))) none K=K v)∧SA (l.take k) v:=by
 cases l with
 |nil=>
  have:k=0:=by simpa using hk
  subst this
  exact⟨AA,λK=>_root_.id rfl,.inr ⟨rfl,rfl⟩⟩
 |cons a l=>
  refine⟨.list k ((AK (a::l)).take (k*1)),λK=> ?_,.inl ?_⟩
  ·show Dh Ac (.list (a::l).length (AK (a::l))) none (some (I (k:Int))) none K=_
   exact B1M (e:=Au) (w:=1) rfl hk
  ·have e1:(AK (a::l)).take (k*1)=AK ((a::l).take k):=by
    rw[l28,AK,AK,List.map_take]
   have e2:((a::l).take k).length=k:=by rw[l0g];omega
   rw[e1]
   show _=AV.list ((a::l).take k).length _
   rw[e2]
theorem C4L {k143:AV→AV→AV→AV→AV→AV→AV→AV→AV→Hp→Aj} {v ev d0 d1 d2:AV} (h:Hw R gs a):
 ∀(f k:Nat) (b:Bool),k≤gs.length→gs.length-k<f→(∀k',k143 w a (Ep (gs.map Cd.id)) v ev (Bo (b||((gs.map Cd.id).drop k).any λq=>decide (q∈TU gs q))) k' d1 d2 H=x)→
 Gw L R K k143 f w a (Ep (gs.map Cd.id)) v ev (Bo b) (I k) d0 d1 d2 H=x:=by
 intro f
 induction f with
 |zero=>intro k b _ h;omega
 |succ f ih=>
  intro k b hk hf hx
  have h8:=h.ok.len
  rw[TN]
  unfold K6 BS Av Gb
  rw[A4J,Wv]
  by_cases hkl:k<gs.length
  ·have hkl':k<(gs.map Cd.id).length:=by rw[Wv];exact hkl
   have ad:∀{K:AV→Aj},Go.Abs.Ak Ab .add (I k) (.v (.int .i64 1)) K=K (I ((k+1:Nat):Int)):= λ{K}=>D4 (by omega)
   rw[l11 hkl',List.any_cons,←Bool.or_assoc,l2i] at hx
   have nx:=ih (k+1) _ (by omega) (by omega) hx
   have hin:∀{q p:Bt} {H:Hp} {K:AV→Aj},Ah R Ja [Ep (TU gs q),S p] H K=K (Bo (decide (p∈TU gs q))):= λ{q p H K}=>h.inn (JU _) (by have:=A7y (gs:=gs) (s:=q);omega)
   rw[FW (by omega),De]
   cases b with
   |true=>
    rw[Bool.true_or] at nx
    simp only[gFT,Cz,BN,XO]
    rw[ad]
    exact nx
   |false=>
    rw[Bool.false_or] at nx
    simp only[gT,Cz,BN,B9o hkl,Gt,h.an,hin,WV]
    rw[ad]
    exact nx
  ·have:k=gs.length:=by omega
   subst this
   rw[List.drop_of_length_le (by rw[Wv];omega),List.any_nil,Bool.or_false] at hx
   rw[FE (by omega),Bz]
   exact hx _
theorem C4M {k81:AV→AV→AV→AV→AV→AV→AV→AV→AV→AV→Hp→Aj} {ev cv d:AV} {at_ k:Nat} (h:Hw R gs a) (hk:k<gs.length) (hat:at_≤(Kz gs).length) (hpar:∀p∈gs[k].ps,p∈gs.map Cd.id→p∈(Kz gs).take at_)
 (hx:∀m',k81 w a (Ep (gs.map Cd.id)) (Ep (Kz gs)) ev cv d (I k) (I (at_:Int)) m' H=x):
 ∀(f m:Nat),m≤gs[k].ps.length→gs[k].ps.length-m<f→
 Gx L R K k81 f w a (Ep (gs.map Cd.id)) (Ep (Kz gs)) ev cv d (I k) (I (at_:Int)) (I m) H=x:=by
 intro f
 induction f with
 |zero=>intro m _ h;omega
 |succ f ih=>
  intro m hm hf
  have h8:=h.ok.len
  have hb:=h.bp _ (QE hk)
  have hol:=(WX (gs:=gs)).1.len
  obtain⟨p,g1,g2⟩:=C2O gs[k] H
  rw[TO]
  unfold K7 Bc Av Dr
  rw[h.la.ia hk,g1,g2,A4J]
  by_cases hml:m<gs[k].ps.length
  ·have ad:∀{K:AV→Aj},Go.Abs.Ak Ab .add (I m) (.v (.int .i64 1)) K=K (I ((m+1:Nat):Int)):= λ{K}=>D4 (by omega)
   have nx:=ih (m+1) (by omega) (by omega)
   obtain⟨sv,s1,s2⟩:=B8M (l:=Kz gs) hat
   have hin:∀{q:Bt} {H:Hp} {K:AV→Aj},Ah R Ja [Ep (gs.map Cd.id),S q] H K=K (Bo (decide (q∈gs.map Cd.id))):= λ{q H K}=>h.inn (JU _) (by rw[Wv];omega)
   have hin2:∀{q:Bt} {H:Hp} {K:AV→Aj},Ah R Ja [sv,S q] H K=K (Bo (decide (q∈(Kz gs).take at_))):= λ{q H K}=>h.inn s2 (by rw[l0g];omega)
   rw[FW (by omega),De]
   by_cases hp:gs[k].ps[m]∈gs.map Cd.id
   ·have h2:=hpar _ (QE hml) hp
    simp only[h.la.ia hk,g1,g2,BN,(JU gs[k].ps).ia hml,Gt,hin,decide_eq_true hp,gT,Cz,s1,hin2,decide_eq_true h2,ntT,XO]
    rw[Bz,ad]
    exact nx
   ·simp only[h.la.ia hk,g1,g2,BN,(JU gs[k].ps).ia hml,Gt,hin,decide_eq_false hp,gTF,Cz,WV]
    rw[Bz,ad]
    exact nx
  ·rw[FE (by omega),Bz]
   exact hx _
theorem C4N {k34:AV→Hp→Aj} {ev cv d:AV} (h:Hw R gs a) (hL:1000<L) (hfull:gs.length≤(Kz gs).length) (hx:k34 w H=x):
 ∀(f k:Nat) (d1 d2:AV),k≤gs.length→gs.length-k<f→
 Gy L R K k34 f w a (Ep (gs.map Cd.id)) (Ep (Kz gs)) ev cv d (I k) d1 d2 H=x:=by
 intro f
 induction f with
 |zero=>intro k d1 d2 _ h;omega
 |succ f ih=>
  intro k d1 d2 hk hf
  have h8:=h.ok.len
  obtain⟨ho, -⟩:=WX (gs:=gs)
  have hol:=ho.len
  rw[TP]
  unfold K8 Av Dr
  rw[h.la.len]
  by_cases hkl:k<gs.length
  ·have ad:∀{K:AV→Aj},Go.Abs.Ak Ab .add (I k) (.v (.int .i64 1)) K=K (I ((k+1:Nat):Int)):= λ{K}=>D4 (by omega)
   have hm:gs[k].id∈gs.map Cd.id:=l2a.2 ⟨_,QE hkl,rfl⟩
   have hmo:=ho.all hfull hm
   obtain⟨at_,hlt,hat, -,e⟩:=UM (Kz gs) 0 hmo
   have hs:∀{H:Hp} {K:AV→Aj},Ah R IB [Ep (Kz gs),S gs[k].id] H K=K (.tup [Bo true,I ((at_:Nat):Int)]):= λ{H K}=>by
    rw[h.hs (JU _) (by omega),e,KF]
   have hb:=h.bp _ (QE hkl)
   rw[FW (by omega),De]
   simp only[BX]
   rw[B9o hkl,Gt,hs,CZ,CY]
   show GR .not (AV.v (.bool true)) _=_
   rw[ntT,Bz]
   have l1:∀{k81:AV→AV→AV→AV→AV→AV→AV→AV→AV→AV→Hp→Aj},(∀m',k81 w a (Ep (gs.map Cd.id)) (Ep (Kz gs)) ev cv d (I k) (I (at_:Int)) m' H=x)→
    Gx L R K k81 L w a (Ep (gs.map Cd.id)) (Ep (Kz gs)) ev cv d (I k) (I (at_:Int)) (AV.v (.int .i64 0)) H=x:= λ{k81} hk81=>by
    refine C4M h hkl (Nat.le_of_lt hlt) (λp hp hpi=> ?_) hk81 L 0 (by omega) (by omega)
    have e1:Kz gs=(Kz gs).take at_++gs[k].id::(Kz gs).drop (at_+1):=by
     rw[←hat,List.getElem_cons_drop,List.take_append_drop]
    exact ho.pr _ _ _ e1 p (by rw[A4M h.ok.ids hkl];exact hp) hpi
   refine l1 λm'=> ?_
   rw[ad]
   exact ih (k+1) _ _ (by omega) (by omega)
  ·rw[FE (by omega),Bz]
   exact hx
end
theorem B9J {xs:List Y7} {a0:AV} {K:KV} (hL:200000<L) (hx:XA xs a0) (hok:∀y∈xs,y.Ok)
 (hK:∀H0,K (Bo true) H0=some (Bo true,[])):(rt (L+20) (n+82)).call Qt [a0] [] K=some (Bo true,[]):=by
 rw[UC]
 unfold Lu Bc Av Dr
 obtain⟨hg,hlen⟩:=B4z xs (min 8 xs.length) (by omega)
 have hx0:Fx true depth a0 a0 [] false:=by
  rcases hx with rfl|⟨_,rfl⟩
  ·exact Pj
  ·exact D2
 rw[Ba (C1D (n:=n) (by omega)) Be,GS (B3E (n:=n+16) (by omega) hx hok) (Ay hx0 Be)]
 generalize OC xs (min 8 xs.length)=gs at hg hlen
 have ha:=B7I gs
 have h8:=hg.len
 have hps:∀c∈gs,c.ps.length<100:= λc hc=>by have:=B5m (hg.ok c hc);omega
 have hi:∀{H:Hp} {K},Ah (rt (L+20) (n+81)) IA [A4X gs] H K=K (Ep (gs.map Cd.id)):= λ{H K}=>Ba (B3J (L:=L) (n:=n+16) (λc hc=>⟨hg.ok c hc,hg.nd c hc⟩) (by omega) (by omega) ha) (Ay (ha.fx H) Be)
 have ho:∀{H:Hp} {K},Ah (rt (L+20) (n+81)) Iq [A4X gs] H K=K (ZO gs):= λ{H K}=>Ba (B6c (L:=L) (n:=n+1) hg hL hps ha) (Ay (ha.fx H) Be)
 have hw:=C5z (n:=n) (L:=L) hL hg hps ha
 obtain⟨v,e,er,hc⟩:=C2j gs
 rw[hi,ho,er,CZ,CY]
 simp only[BX]
 have l2:∀{k143:AV→AV→AV→AV→AV→AV→AV→AV→AV→Hp→Aj} {d0 d1 d2:AV} {x:Aj},(∀k',k143 (Bo true) (A4X gs) (Ep (gs.map Cd.id)) v (.v (.int .i64 e)) (Bo (((gs.map Cd.id).drop 0).any λq=>decide (q∈TU gs q))) k' d1 d2 []=x)→
  Gw (L+20) (rt (L+20) (n+81)) K k143 (L+20) (Bo true) (A4X gs) (Ep (gs.map Cd.id)) v (.v (.int .i64 e)) (AV.v (.bool false)) (AV.v (.int .i64 0)) d0 d1 d2 []=x:= λ{k143 d0 d1 d2 x} hk=>C4L hw (L+20) 0 false (by omega) (by omega) hk
 refine l2 λk'=> ?_
 have eE:∀{K:AV→Aj},Go.Abs.Ak Ab .eql (.v (.int .i64 e)) (.v (.int .i64 0)) K=K (Bo (decide (e=0))):= λ{K}=>Dd
 have eN:∀{K:AV→Aj},Go.Abs.Ak Ab .neq (.v (.int .i64 e)) (.v (.int .i64 0)) K=K (Bo (!decide (e=0))):= λ{K}=>G6
 have hci:(((gs.map Cd.id).drop 0).any λq=>decide (q∈TU gs q))= !decide (e=0):=by
  rw[l1n]
  have h2:=B44 (gs:=gs) hg.ids
  rcases hc with⟨he,hl,_⟩|⟨he,hl,_⟩
  ·rw[decide_eq_true he]
   rw[Bool.not_true,List.any_eq_false]
   intro q hq
   rw[decide_eq_true_eq,XH]
   exact h2.1 hl q hq
  ·rw[decide_eq_false he,Bool.not_false,List.any_eq_true]
   apply Classical.byContradiction
   intro hno
   refine hl (h2.2 λq hq ha=>hno ⟨q,hq,?_⟩)
   rw[decide_eq_true_eq,XH]
   exact ha
 rw[hci,eE,C7k]
 have e3:(decide (e=0)== !decide (e=0))=false:=by cases decide (e=0)<;>rfl
 rw[e3]
 show Aw (.v (.bool false)) _ _=_
 rw[Bz,eN]
 rcases hc with⟨he,hl,rfl⟩|⟨he,hl,rfl⟩
 ·rw[decide_eq_true he,Bool.not_true]
  show Aw (.v (.bool false)) _ _=_
  have hll:=(WX (gs:=gs)).1.len
  have hle:(Kz gs).length=gs.length:=by omega
  have ne:∀{K:AV→Aj},Go.Abs.Ak Ab .neq (I ((Kz gs).length:Int)) (I (gs.length:Int)) K=K (Bo false):= λ{K}=>by rw[hle,G6,decide_eq_true rfl];rfl
  rw[Bz,A4J,ha.len,ne]
  show Aw (.v (.bool false)) _ _=_
  rw[Bz]
  have e0:(AV.v (.int .i64 0))=I ((0:Nat):Int):=rfl
  have l0:∀{k34:AV→Hp→Aj} {d1 d2 d3 cv ev:AV} {x:Aj},k34 (Bo true) []=x→
   Gy (L+20) (rt (L+20) (n+81)) K k34 (L+20) (Bo true) (A4X gs) (Ep (gs.map Cd.id)) (Ep (Kz gs)) ev cv d1 (AV.v (.int .i64 0)) d2 d3 []=x:= λ{k34 d1 d2 d3 cv ev x} hk=>C4N hw (by omega) hl hk (L+20) 0 _ _ (by omega) (by omega)
  exact l0 (hK [])
 ·rw[decide_eq_false he,Bool.not_false]
  show Aw (.v (.bool true)) _ _=_
  rw[De]
  have en:∀{K:AV→Aj},AQ Ac AA K=K (I 0):= λ{K}=>_root_.id rfl
  have ez:∀{K:AV→Aj},Go.Abs.Ak Ab .eql (I 0) (.v (.int .i64 0)) K=K (Bo true):= λ{K}=>by rw[Dd];rfl
  simp only[gT,Cz,en,ez,XO]
  exact hK []
end
section
variable {L n:Nat}
end
end Go.Abs
end
noncomputable section
namespace Go.Proofs
open Go.Shelf
def Tryz.lays156_ren:Go.Shelf.Ren:=⟨λ|156=>198|165=>252|166=>193|169=>146|240=>250|241=>278|276=>276|277=>313|n=>n,λ|31=>26|9=>9|3=>3|4=>4|0=>0|20=>20|72=>193|76=>242|70=>191|37=>129|75=>241|127=>249|164=>317|5=>5|80=>200|n=>n,λ|n=>n⟩
theorem Tryz.lays156:Go.Proofs.Lays.n156 Tryz.prog Tryz.lays156_ren:={
 mixed:=by kernel_rfl
 f156:=Tryz.func198.trans (congrArg some (by kernel_rfl))
 f165:=Tryz.func252.trans (congrArg some (by kernel_rfl))
 f166:=Tryz.func193.trans (congrArg some (by kernel_rfl))
 f169:=Tryz.func146.trans (congrArg some (by kernel_rfl))
 f240:=Tryz.func250.trans (congrArg some (by kernel_rfl))
 f241:=Tryz.func278.trans (congrArg some (by kernel_rfl))
 f276:=Tryz.func276.trans (congrArg some (by kernel_rfl))
 f277:=Tryz.func313.trans (congrArg some (by kernel_rfl))
 t0:=Tryz.underlying0
 a0:=Tryz.isAgg0
 z0:=Tryz.sizeOf0
 v0:=Tryz.zeroValue0
 t3:=Tryz.underlying3
 a3:=Tryz.isAgg3
 z3:=Tryz.sizeOf3
 v3:=Tryz.zeroValue3
 t4:=Tryz.underlying4
 a4:=Tryz.isAgg4
 z4:=Tryz.sizeOf4
 v4:=Tryz.zeroValue4
 t9:=Tryz.underlying9
 a9:=Tryz.isAgg9
 z9:=Tryz.sizeOf9
 v9:=Tryz.zeroValue9
 t20:=Tryz.underlying20
 a20:=Tryz.isAgg20
 z20:=Tryz.sizeOf20
 v20:=Tryz.zeroValue20
 t31:=Tryz.underlying26
 a31:=Tryz.isAgg26
 z31:=Tryz.sizeOf26
 v31:=Tryz.zeroValue26
 t37:=Tryz.underlying129
 a37:=Tryz.isAgg129
 z37:=Tryz.sizeOf129
 v37:=Tryz.zeroValue129
 t70:=Tryz.underlying191
 a70:=Tryz.isAgg191
 z70:=Tryz.sizeOf191
 v70:=Tryz.zeroValue191
 t72:=Tryz.underlying193
 a72:=Tryz.isAgg193
 z72:=Tryz.sizeOf193
 v72:=Tryz.zeroValue193
 t75:=Tryz.underlying241
 a75:=Tryz.isAgg241
 z75:=Tryz.sizeOf241
 v75:=Tryz.zeroValue241
 t76:=Tryz.underlying242
 a76:=Tryz.isAgg242
 z76:=Tryz.sizeOf242
 v76:=Tryz.zeroValue242
 t127:=Tryz.underlying249
 a127:=Tryz.isAgg249
 z127:=Tryz.sizeOf249
 v127:=Tryz.zeroValue249
 t164:=Tryz.underlying317
 a164:=Tryz.isAgg317
 z164:=Tryz.sizeOf317
 v164:=Tryz.zeroValue317}
theorem Tryz.Builder_Extra_156:Builder.Extra Tryz.prog Tryz.lays156_ren:={
 sizeBuilder:=by kernel_rfl
 liesBuilder:=by kernel_rfl
 t5:=Tryz.underlying5
 a5:=Tryz.isAgg5
 z5:=Tryz.sizeOf5
 v5:=Tryz.zeroValue5
 infoByte:=by kernel_rfl
 cellsByte:=by kernel_rfl
 sizeByte:=by kernel_rfl
 neB5:=by decide}
open Go.RowKit in
theorem Tryz.strings_Join_none (a:Option Addr) (c:Nat) (sep:ByteArray) (w:World):
 Calls Tryz.prog 198 #[.slice a 0 c,.string sep] w λe w'=>e= .returned (.string ⟨#[]⟩)∧w'=w:=Any.strings_Join_none Tryz.lays156 Tryz.Builder_Extra_156 a c sep w
open Go.RowKit in
theorem Tryz.strings_Join (bk o c:Nat) (xs:List ByteArray) (sep:ByteArray) (w:World) (hcells:∀(j:Nat) x,xs[j]?=some x→w.cell? ⟨bk,o+j,none⟩=some (.string x)) (hbk:bk<w.heap.size) (hN:xs.length≤140737488355328) (hcap:xs.length≤c) (hlen:(Lib.join (xs.map (·.data.toList)) sep.data.toList).length≤140737488355328):
 Calls Tryz.prog 198 #[.slice (some ⟨bk,o,none⟩) xs.length c,.string sep] w λe w'=>e= .returned (.string ⟨(Lib.join (xs.map (·.data.toList)) sep.data.toList).toArray⟩)∧Below w.heap.size w w':=Any.strings_Join Tryz.lays156 Tryz.Builder_Extra_156 bk o c xs sep w hcells hbk hN hcap hlen
def Tryz.lays190_ren:Go.Shelf.Ren:=⟨λ|190=>93|125=>74|258=>151|128=>121|129=>122|302=>204|303=>205|304=>206|305=>207|306=>208|307=>209|308=>210|309=>211|310=>212|333=>256|329=>168|330=>169|334=>257|335=>258|336=>123|344=>294|n=>n,λ|31=>26|9=>9|3=>3|46=>132|0=>0|51=>127|53=>158|4=>4|183=>173|182=>172|131=>177|5=>5|218=>224|222=>228|228=>262|229=>263|n=>n,λ|n=>n⟩
theorem Tryz.lays190:Go.Proofs.Lays.n190 Tryz.prog Tryz.lays190_ren:={
 mixed:=by kernel_rfl
 f125:=Tryz.func74.trans (congrArg some (by kernel_rfl))
 f128:=Tryz.func121.trans (congrArg some (by kernel_rfl))
 f129:=Tryz.func122.trans (congrArg some (by kernel_rfl))
 f190:=Tryz.func93.trans (congrArg some (by kernel_rfl))
 f258:=Tryz.func151.trans (congrArg some (by kernel_rfl))
 f302:=Tryz.func204.trans (congrArg some (by kernel_rfl))
 f303:=Tryz.func205.trans (congrArg some (by kernel_rfl))
 f304:=Tryz.func206.trans (congrArg some (by kernel_rfl))
 f305:=Tryz.func207.trans (congrArg some (by kernel_rfl))
 f306:=Tryz.func208.trans (congrArg some (by kernel_rfl))
 f307:=Tryz.func209.trans (congrArg some (by kernel_rfl))
 f308:=Tryz.func210.trans (congrArg some (by kernel_rfl))
 f309:=Tryz.func211.trans (congrArg some (by kernel_rfl))
 f310:=Tryz.func212.trans (congrArg some (by kernel_rfl))
 f329:=Tryz.func168.trans (congrArg some (by kernel_rfl))
 f330:=Tryz.func169.trans (congrArg some (by kernel_rfl))
 f333:=Tryz.func256.trans (congrArg some (by kernel_rfl))
 f334:=Tryz.func257.trans (congrArg some (by kernel_rfl))
 f335:=Tryz.func258.trans (congrArg some (by kernel_rfl))
 f336:=Tryz.func123.trans (congrArg some (by kernel_rfl))
 f344:=Tryz.func294.trans (congrArg some (by kernel_rfl))
 t0:=Tryz.underlying0
 a0:=Tryz.isAgg0
 z0:=Tryz.sizeOf0
 v0:=Tryz.zeroValue0
 t3:=Tryz.underlying3
 a3:=Tryz.isAgg3
 z3:=Tryz.sizeOf3
 v3:=Tryz.zeroValue3
 t4:=Tryz.underlying4
 a4:=Tryz.isAgg4
 z4:=Tryz.sizeOf4
 v4:=Tryz.zeroValue4
 t5:=Tryz.underlying5
 a5:=Tryz.isAgg5
 z5:=Tryz.sizeOf5
 v5:=Tryz.zeroValue5
 t9:=Tryz.underlying9
 a9:=Tryz.isAgg9
 z9:=Tryz.sizeOf9
 v9:=Tryz.zeroValue9
 t31:=Tryz.underlying26
 a31:=Tryz.isAgg26
 z31:=Tryz.sizeOf26
 v31:=Tryz.zeroValue26
 t46:=Tryz.underlying132
 a46:=Tryz.isAgg132
 z46:=Tryz.sizeOf132
 v46:=Tryz.zeroValue132
 t51:=Tryz.underlying127
 a51:=Tryz.isAgg127
 z51:=Tryz.sizeOf127
 v51:=Tryz.zeroValue127
 t53:=Tryz.underlying158
 a53:=Tryz.isAgg158
 z53:=Tryz.sizeOf158
 v53:=Tryz.zeroValue158
 t131:=Tryz.underlying177
 a131:=Tryz.isAgg177
 z131:=Tryz.sizeOf177
 v131:=Tryz.zeroValue177
 t182:=Tryz.underlying172
 a182:=Tryz.isAgg172
 z182:=Tryz.sizeOf172
 v182:=Tryz.zeroValue172
 t183:=Tryz.underlying173
 a183:=Tryz.isAgg173
 z183:=Tryz.sizeOf173
 v183:=Tryz.zeroValue173
 t218:=Tryz.underlying224
 a218:=Tryz.isAgg224
 z218:=Tryz.sizeOf224
 v218:=Tryz.zeroValue224
 t222:=Tryz.underlying228
 a222:=Tryz.isAgg228
 z222:=Tryz.sizeOf228
 v222:=Tryz.zeroValue228
 t228:=Tryz.underlying262
 a228:=Tryz.isAgg262
 z228:=Tryz.sizeOf262
 v228:=Tryz.zeroValue262
 t229:=Tryz.underlying263
 a229:=Tryz.isAgg263
 z229:=Tryz.sizeOf263
 v229:=Tryz.zeroValue263}
open Go.Sort Go.RowKit in
theorem Tryz.slices_Sort_string (blk off cap:Nat) (ss:List (List UInt8)) (w:World) (hH:Holds encStr w blk off ss.toArray) (hblk:blk<w.heap.size) (hsz:ss.length<4611686018427387904):
 Calls Tryz.prog 93 #[.slice (some ⟨blk,off,none⟩) ss.length cap] w λe w'=>
  e= .returned (.tuple #[])∧∃n os,w'=grow (putRow encStr (Sort.ahead w n) blk off (ss.mergeSort λx y=>decide (x≤y)).toArray) os:=Any.slices_Sort_string Tryz.lays190 blk off cap ss w hH hblk hsz
def Tryz.lays105_ren:Go.Shelf.Ren:=⟨λ|105=>330|212=>366|99=>367|165=>252|166=>193|170=>145|169=>146|263=>384|264=>385|206=>377|240=>250|241=>278|276=>276|277=>313|n=>n,λ|9=>9|3=>3|4=>4|20=>20|0=>0|46=>132|109=>380|5=>5|72=>193|76=>242|51=>127|146=>393|53=>158|148=>395|70=>191|37=>129|75=>241|127=>249|164=>317|80=>200|n=>n,λ|n=>n⟩
theorem Tryz.lays105:Go.Proofs.Lays.n105 Tryz.prog Tryz.lays105_ren:={
 mixed:=by kernel_rfl
 f99:=Tryz.func367.trans (congrArg some (by kernel_rfl))
 f105:=Tryz.func330.trans (congrArg some (by kernel_rfl))
 f165:=Tryz.func252.trans (congrArg some (by kernel_rfl))
 f166:=Tryz.func193.trans (congrArg some (by kernel_rfl))
 f169:=Tryz.func146.trans (congrArg some (by kernel_rfl))
 f170:=Tryz.func145.trans (congrArg some (by kernel_rfl))
 f206:=Tryz.func377.trans (congrArg some (by kernel_rfl))
 f212:=Tryz.func366.trans (congrArg some (by kernel_rfl))
 f240:=Tryz.func250.trans (congrArg some (by kernel_rfl))
 f241:=Tryz.func278.trans (congrArg some (by kernel_rfl))
 f263:=Tryz.func384.trans (congrArg some (by kernel_rfl))
 f264:=Tryz.func385.trans (congrArg some (by kernel_rfl))
 f276:=Tryz.func276.trans (congrArg some (by kernel_rfl))
 f277:=Tryz.func313.trans (congrArg some (by kernel_rfl))
 t0:=Tryz.underlying0
 a0:=Tryz.isAgg0
 z0:=Tryz.sizeOf0
 v0:=Tryz.zeroValue0
 t3:=Tryz.underlying3
 a3:=Tryz.isAgg3
 z3:=Tryz.sizeOf3
 v3:=Tryz.zeroValue3
 t4:=Tryz.underlying4
 a4:=Tryz.isAgg4
 z4:=Tryz.sizeOf4
 v4:=Tryz.zeroValue4
 t5:=Tryz.underlying5
 a5:=Tryz.isAgg5
 z5:=Tryz.sizeOf5
 v5:=Tryz.zeroValue5
 t9:=Tryz.underlying9
 a9:=Tryz.isAgg9
 z9:=Tryz.sizeOf9
 v9:=Tryz.zeroValue9
 t20:=Tryz.underlying20
 a20:=Tryz.isAgg20
 z20:=Tryz.sizeOf20
 v20:=Tryz.zeroValue20
 t37:=Tryz.underlying129
 a37:=Tryz.isAgg129
 z37:=Tryz.sizeOf129
 v37:=Tryz.zeroValue129
 t46:=Tryz.underlying132
 a46:=Tryz.isAgg132
 z46:=Tryz.sizeOf132
 v46:=Tryz.zeroValue132
 t51:=Tryz.underlying127
 a51:=Tryz.isAgg127
 z51:=Tryz.sizeOf127
 v51:=Tryz.zeroValue127
 t53:=Tryz.underlying158
 a53:=Tryz.isAgg158
 z53:=Tryz.sizeOf158
 v53:=Tryz.zeroValue158
 t70:=Tryz.underlying191
 a70:=Tryz.isAgg191
 z70:=Tryz.sizeOf191
 v70:=Tryz.zeroValue191
 t72:=Tryz.underlying193
 a72:=Tryz.isAgg193
 z72:=Tryz.sizeOf193
 v72:=Tryz.zeroValue193
 t75:=Tryz.underlying241
 a75:=Tryz.isAgg241
 z75:=Tryz.sizeOf241
 v75:=Tryz.zeroValue241
 t76:=Tryz.underlying242
 a76:=Tryz.isAgg242
 z76:=Tryz.sizeOf242
 v76:=Tryz.zeroValue242
 t109:=Tryz.underlying380
 a109:=Tryz.isAgg380
 z109:=Tryz.sizeOf380
 v109:=Tryz.zeroValue380
 t127:=Tryz.underlying249
 a127:=Tryz.isAgg249
 z127:=Tryz.sizeOf249
 v127:=Tryz.zeroValue249
 t146:=Tryz.underlying393
 a146:=Tryz.isAgg393
 z146:=Tryz.sizeOf393
 v146:=Tryz.zeroValue393
 t148:=Tryz.underlying395
 a148:=Tryz.isAgg395
 z148:=Tryz.sizeOf395
 v148:=Tryz.zeroValue395
 t164:=Tryz.underlying317
 a164:=Tryz.isAgg317
 z164:=Tryz.sizeOf317
 v164:=Tryz.zeroValue317}
theorem Tryz.Builder_Extra_105:Builder.Extra Tryz.prog Tryz.lays105_ren:={
 sizeBuilder:=by kernel_rfl
 liesBuilder:=by kernel_rfl
 t5:=Tryz.underlying5
 a5:=Tryz.isAgg5
 z5:=Tryz.sizeOf5
 v5:=Tryz.zeroValue5
 infoByte:=by kernel_rfl
 cellsByte:=by kernel_rfl
 sizeByte:=by kernel_rfl
 neB5:=by decide}
open Go.RowKit Go.Lib in
theorem Tryz.strings_Repeat (s:ByteArray) (c:Nat) (w:World) (hc:c≤9223372036854775807) (hlen:s.size*c≤140737488355328):
 Calls Tryz.prog 330 #[.string s,.int .i64 c] w λe w'=>e= .returned (.string ⟨(Lib.repeatL s.data.toList c).toArray⟩)∧Below w.heap.size w w':=Any.strings_Repeat Tryz.lays105 Tryz.Builder_Extra_105 s c w hc hlen
end Go.Proofs
end
noncomputable section
namespace Go.Abs
open Go.RowKit Go.Proofs
set_option maxRecDepth 100000
theorem C5N:A0e Tryz.prog 198:=⟨Tryz.f198,by kernel_rfl,by kernel_rfl,by kernel_rfl⟩
theorem C7j:A0e Tryz.prog 93:=⟨Tryz.f93,by kernel_rfl,by kernel_rfl,by kernel_rfl⟩
theorem C5M:A0e Tryz.prog 330:=⟨Tryz.f330,by kernel_rfl,by kernel_rfl,by kernel_rfl⟩
theorem C4P (E:XE):oT.All (A7A E Tryz.prog):=
 ⟨B4v C5N Tryz.strings_Join_none Tryz.strings_Join,⟨B34 C7j Tryz.slices_Sort_string,trivial,trivial⟩,⟨A8q C5M Tryz.strings_Repeat,trivial,trivial⟩⟩
end Go.Abs
end
