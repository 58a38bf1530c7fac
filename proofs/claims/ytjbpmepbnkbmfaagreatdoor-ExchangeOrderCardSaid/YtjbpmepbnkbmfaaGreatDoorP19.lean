import Derived.Test.YtjbpmepbnkbmfaaGreatDoorP09
set_option linter.all false
set_option maxHeartbeats 0
noncomputable section
namespace Go.Abs
open Go.RowKit Go.Proofs
set_option maxRecDepth 100000
section
variable(L n:Nat)
def B9Y(i:Nat)(h:i<35):PS (r! L (n+40)) Mb [.agg (uu (i/5)).cs,.agg [I (oC (i%5)),I 1]] (Kt (Yz (i/5) (i%5))):=by
 have h1:=eY (p:=λi=>JY (Bj (Dz (r! L (n+40)) Mb [.agg (uu (i/5)).cs,.agg [I (oC (i%5)),I 1]]) (Kt (Yz (i/5) (i%5))))) (m:=7) (c:=5) (by
  repeat' first|exact fB|apply eZ
  all_goals as_aux_lemma=>kernel_rfl) h
 exact BM (λH=>λK=>by kernel_rfl) h1
end
end Go.Abs
end
