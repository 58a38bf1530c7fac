import Derived.Test.YtobbbklaopaiaaaGreatDoorP11
set_option linter.all false
set_option maxHeartbeats 100000000
noncomputable section
namespace Go.Abs
open Go.RowKit Go.Proofs
set_option maxRecDepth 100000
section
variable(L n:Nat)
def UF(i:Nat)(h:i<52):PS (r! L (n+40)) Jw [.agg (uu i).cs] (.tup [S (Lo i),I 0]):=by
 have h1:=ZY (p:=λi=>JM (Bc (Dt (r! L (n+40)) Jw [.agg (uu i).cs]) (.tup [S (Lo i),I 0]))) (m:=4) (c:=13) (by
  repeat' first|exact dA|apply ZZ
  all_goals as_aux_lemma=>kernel_rfl) h
 exact BK (λH=>λK=>by kernel_rfl) h1
end
end Go.Abs
end
