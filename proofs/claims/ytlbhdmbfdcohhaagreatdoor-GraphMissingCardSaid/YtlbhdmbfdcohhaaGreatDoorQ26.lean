import Derived.Test.YtlbhdmbfdcohhaaGreatDoorQ25
set_option linter.all false
set_option maxHeartbeats 100000000
noncomputable section
namespace Go.Abs
open Go.RowKit Go.Proofs
set_option maxRecDepth 100000
section
variable {L n:Nat}
theorem C5L {cs:List AV} {b:List UInt8} (hL:40000<L) (h1:cs.all AV.one=true) (hz:cs.length=68) (hfx:∀H,PH true depth [.agg cs] [.agg cs] H false) (hb:b.length≤32768) (hB:CS (rt (L+20) (n+62)) I3 [.agg cs] (.tup [S b,I 0])):CS (rt (L+20) (n+63)) JQ [.agg cs] (S (sha b)):=by
 intro K hK
 rw[V0]
 unfold ME Ar
 rw[Fa h1]
 have hc0:=Ay (H:=[]) (x:= .cells true Ai cs) (by simp)
 generalize ((A3 [],Row.cells true Ai cs)::([]:Hp))=H0 at hc0
 rw[Bk rfl hz.symm hc0,Be hB (hfx H0),CY,CX,Hu]
 show As (.v (.bool false)) _ _=_
 rw[B9]
 have hs:∀K,Ah (rt (L+20) (n+62)) O2 [S b] H0 K=K (S (sha b)):= λK=>Be (C3u (L:=L+20) (n:=n+54) (by omega) (by omega)) (A0 (q:=false) (q':=false) E5 Bp)
 rw[hs]
 exact hK _ _ (λb=>⟨false,λK=>by kernel_rfl⟩)
end
end Go.Abs
end
