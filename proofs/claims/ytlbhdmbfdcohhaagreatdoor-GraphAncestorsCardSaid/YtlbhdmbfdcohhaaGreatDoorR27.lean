import Derived.Test.YtlbhdmbfdcohhaaGreatDoorR26
set_option linter.all false
set_option maxHeartbeats 100000000
noncomputable section
namespace Go.Abs
open Go.RowKit Go.Proofs
set_option maxRecDepth 100000
section
variable {L n:Nat}
theorem C65 {cs:List AV} {b:List UInt8} (hL:40000<L) (h1:cs.all AV.one=true) (hz:cs.length=68) (hfx:∀H,OM true depth [.agg cs] [.agg cs] H false) (hb:b.length≤32768) (hB:CS (rt (L+20) (n+62)) IB [.agg cs] (.tup [S b,I 0])):CS (rt (L+20) (n+63)) JR [.agg cs] (S (sha b)):=by
 intro K hK
 rw[VE]
 unfold MJ Ar
 rw[EY h1]
 have hc0:=A1 (H:=[]) (x:= .cells true Aj cs) (by simp)
 generalize ((A6 [],Row.cells true Aj cs)::([]:Hp))=H0 at hc0
 rw[Bm rfl hz.symm hc0,Bc hB (hfx H0),CW,CV,GF]
 show Av (.v (.bool false)) _ _=_
 rw[BD]
 have hs:∀K,Ah (rt (L+20) (n+62)) OE [S b] H0 K=K (S (sha b)):= λK=>Bc (C3N (L:=L+20) (n:=n+54) (by omega) (by omega)) (A2 (q:=false) (q':=false) Ed Bt)
 rw[hs]
 exact hK _ _ (λb=>⟨false,λK=>by kernel_rfl⟩)
end
end Go.Abs
end
