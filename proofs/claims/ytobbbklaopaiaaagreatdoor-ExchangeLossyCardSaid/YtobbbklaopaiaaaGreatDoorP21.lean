import Derived.Test.YtobbbklaopaiaaaGreatDoorP11
set_option linter.all false
set_option maxHeartbeats 100000000
noncomputable section
namespace Go.Abs
open Go.RowKit Go.Proofs
set_option maxRecDepth 100000
section
variable(L n:Nat)
def B8C(i:Nat)(h:i<35):PS (r! L (n+40)) L3 [.agg (uu (i/5)).cs,.agg [I (mC (i%5)),I 1]] (JX (XB (i/5) (i%5))):=by
 have h1:=ZY (p:=λi=>JM (Bc (Dt (r! L (n+40)) L3 [.agg (uu (i/5)).cs,.agg [I (mC (i%5)),I 1]]) (JX (XB (i/5) (i%5))))) (m:=7) (c:=5) (by
  repeat' first|exact dA|apply ZZ
  all_goals as_aux_lemma=>kernel_rfl) h
 exact BK (λH=>λK=>by kernel_rfl) h1
end
end Go.Abs
end
