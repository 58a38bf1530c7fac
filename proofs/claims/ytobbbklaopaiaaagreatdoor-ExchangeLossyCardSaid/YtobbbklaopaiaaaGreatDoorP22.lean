import Derived.Test.YtobbbklaopaiaaaGreatDoorP11
set_option linter.all false
set_option maxHeartbeats 100000000
noncomputable section
namespace Go.Abs
open Go.RowKit Go.Proofs
set_option maxRecDepth 100000
section
variable(L n:Nat)
def B6o(i:Nat)(h:i<49)(hc:(isU (Vs 0 (i/7) (i%7)))=true):PS (r! L (n+40)) Wz [.agg (uu (i/7)).cs,.agg (uu (i%7)).cs] (JX (Vs 0 (i/7) (i%7))):=by
 have h1:=ZY (p:=λi=>!(isU (Vs 0 (i/7) (i%7)))||JM (Bc (Dt (r! L (n+40)) Wz [.agg (uu (i/7)).cs,.agg (uu (i%7)).cs]) (JX (Vs 0 (i/7) (i%7))))) (m:=7) (c:=7) (by
  repeat' first|exact dA|apply ZZ
  all_goals as_aux_lemma=>kernel_rfl) h
 simp only[hc,Bool.not_true,Bool.false_or]at h1;exact BK (λH=>λK=>by kernel_rfl) h1
end
end Go.Abs
end
