import Derived.Test.YtojijcneheboaaaGreatDoorP10
set_option linter.all false
set_option maxHeartbeats 0
noncomputable section
namespace Go.Abs
open Go.RowKit Go.Proofs
set_option maxRecDepth 100000
section
variable(L n:Nat)
def B6Q(i:Nat)(h:i<49):PS (r! L (n+40)) SC [.agg (uu (i/7)).cs,.agg (uu (i%7)).cs] (Jp (Ur 3 (i/7) (i%7))):=by
 have h1:=YC (p:=λi=>Jc (AS (CU (r! L (n+40)) SC [.agg (uu (i/7)).cs,.agg (uu (i%7)).cs]) (Jp (Ur 3 (i/7) (i%7))))) (m:=7) (c:=7) (by
  repeat' first|exact YE|apply YD
  all_goals as_aux_lemma=>kernel_rfl) h
 exact B3 (λH=>λK=>by kernel_rfl) h1
end
end Go.Abs
end
