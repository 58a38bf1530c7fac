import Derived.Test.YtlbhdmbfdcohhaaGreatDoorP25
set_option linter.all false
set_option maxHeartbeats 100000000
noncomputable section
namespace Go.Abs
open Go.RowKit Go.Proofs
set_option maxRecDepth 100000
section
variable {L n:Nat}
theorem C4Q {cs:List AV} {b:List UInt8} (hL:40000<L) (h1:cs.all AV.one=true) (hz:cs.length=68) (hfx:∀H,Py true depth [.agg cs] [.agg cs] H false) (hb:b.length≤32768) (hB:CS (rt (L+20) (n+62)) Ic [.agg cs] (.tup [S b,I 0])):CS (rt (L+20) (n+63)) Jz [.agg cs] (S (sha b)):=by
 intro K hK
 rw[UQ]
 unfold LY Aq
 rw[EG h1]
 have hc0:=A0 (H:=[]) (x:= .cells true Ak cs) (by simp)
 generalize ((A7 [],Row.cells true Ak cs)::([]:Hp))=H0 at hc0
 rw[Bf rfl hz.symm hc0,AZ hB (hfx H0),CJ,CI,F8]
 show Ar (.v (.bool false)) _ _=_
 rw[BC]
 have hs:∀K,Ah (rt (L+20) (n+62)) NQ [S b] H0 K=K (S (sha b)):= λK=>AZ (C2I (L:=L+20) (n:=n+54) (by omega) (by omega)) (Ay (q:=false) (q':=false) E1 Bl)
 rw[hs]
 exact hK _ _ (λb=>⟨false,λK=>by kernel_rfl⟩)
end
end Go.Abs
end
