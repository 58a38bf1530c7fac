import Derived.Test.YthfokedilloheaaGreatDoorP11
set_option linter.all false
set_option maxHeartbeats 100000000
noncomputable section
namespace Go.Abs
open Go.RowKit Go.Proofs
set_option maxRecDepth 100000
section
variable(L n:Nat)
def B9d(i:Nat)(h:i<35):PS (r! L (n+40)) LN [.agg (uu (i/5)).cs,.agg [I (mW (i%5)),I 1]] (Ko (Yh (i/5) (i%5))):=by
 have h1:=dU (p:=λi=>JQ (Bc (Du (r! L (n+40)) LN [.agg (uu (i/5)).cs,.agg [I (mW (i%5)),I 1]]) (Ko (Yh (i/5) (i%5))))) (m:=7) (c:=5) (by
  repeat' first|exact dW|apply dV
  all_goals as_aux_lemma=>kernel_rfl) h
 exact BM (λH=>λK=>by kernel_rfl) h1
end
end Go.Abs
end
