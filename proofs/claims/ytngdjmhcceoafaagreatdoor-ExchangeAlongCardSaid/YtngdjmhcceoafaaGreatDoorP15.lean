import Derived.Test.YtngdjmhcceoafaaGreatDoorP12
set_option linter.all false
set_option maxHeartbeats 100000000
noncomputable section
namespace Go.Abs
open Go.RowKit Go.Proofs
set_option maxRecDepth 100000
section
variable (L n:Nat)
def Xs (i:Nat) (h:i<52):PS (r! L (n+40)) LR [.agg (uu i).cs] (Bo true):=by
 have h1:=ZL (p:= λi=>JI (Ba (Dq (r! L (n+40)) LR [.agg (uu i).cs]) (Bo true))) (m:=4) (c:=13) (by
  repeat' first|exact ZN|apply ZM
  all_goals as_aux_lemma=>kernel_rfl) h
 exact BJ (λH=> λK=>by kernel_rfl) h1
end
end Go.Abs
end
