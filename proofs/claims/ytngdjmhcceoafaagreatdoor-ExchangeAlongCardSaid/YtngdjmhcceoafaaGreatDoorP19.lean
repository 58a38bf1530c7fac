import Derived.Test.YtngdjmhcceoafaaGreatDoorP12
set_option linter.all false
set_option maxHeartbeats 100000000
noncomputable section
namespace Go.Abs
open Go.RowKit Go.Proofs
set_option maxRecDepth 100000
section
variable (L n:Nat)
def B8t (i:Nat) (h:i<49):PS (r! L (n+40)) Kn [.agg (uu (i/7)).cs,.agg (uu (i%7)).cs] (JU (Vi 1 (i/7) (i%7))):=by
 have h1:=ZL (p:= λi=>JI (Ba (Dq (r! L (n+40)) Kn [.agg (uu (i/7)).cs,.agg (uu (i%7)).cs]) (JU (Vi 1 (i/7) (i%7))))) (m:=7) (c:=7) (by
  repeat' first|exact ZN|apply ZM
  all_goals as_aux_lemma=>kernel_rfl) h
 exact BJ (λH=> λK=>by kernel_rfl) h1
end
end Go.Abs
end
