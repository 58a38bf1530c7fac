import Derived.Test.YthfokedilloheaaGreatDoorP11
set_option linter.all false
set_option maxHeartbeats 100000000
noncomputable section
namespace Go.Abs
open Go.RowKit Go.Proofs
set_option maxRecDepth 100000
section
variable(L n:Nat)
def UV(i:Nat)(h:i<52):PS (r! L (n+40)) Jy [.agg (uu i).cs] (.tup [S (L5 i),I 0]):=by
 have h1:=dU (p:=λi=>JQ (Bc (Du (r! L (n+40)) Jy [.agg (uu i).cs]) (.tup [S (L5 i),I 0]))) (m:=4) (c:=13) (by
  repeat' first|exact dW|apply dV
  all_goals as_aux_lemma=>kernel_rfl) h
 exact BM (λH=>λK=>by kernel_rfl) h1
end
end Go.Abs
end
