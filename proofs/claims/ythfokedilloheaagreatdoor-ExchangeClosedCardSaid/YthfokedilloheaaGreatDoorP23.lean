import Derived.Test.YthfokedilloheaaGreatDoorP11
set_option linter.all false
set_option maxHeartbeats 100000000
noncomputable section
namespace Go.Abs
open Go.RowKit Go.Proofs
set_option maxRecDepth 100000
section
variable(L n:Nat)
def B76(i:Nat)(h:i<49)(hc:(isU (VM 1 (i/7) (i%7)))=true):PS (r! L (n+40)) Lu [.agg (uu (i/7)).cs,.agg (uu (i%7)).cs] (Ko (VM 1 (i/7) (i%7))):=by
 have h1:=dU (p:=λi=>!(isU (VM 1 (i/7) (i%7)))||JQ (Bc (Du (r! L (n+40)) Lu [.agg (uu (i/7)).cs,.agg (uu (i%7)).cs]) (Ko (VM 1 (i/7) (i%7))))) (m:=7) (c:=7) (by
  repeat' first|exact dW|apply dV
  all_goals as_aux_lemma=>kernel_rfl) h
 simp only[hc,Bool.not_true,Bool.false_or]at h1;exact BM (λH=>λK=>by kernel_rfl) h1
end
end Go.Abs
end
