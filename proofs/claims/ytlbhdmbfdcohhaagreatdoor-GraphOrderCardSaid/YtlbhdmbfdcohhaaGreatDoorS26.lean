import Derived.Test.YtlbhdmbfdcohhaaGreatDoorS21
set_option linter.all false
set_option maxHeartbeats 100000000
noncomputable section
namespace Go.Abs
open Go.RowKit Go.Proofs
set_option maxRecDepth 100000
section
variable (L n:Nat)
theorem PW (i:Nat) (h:i<52):PS (rt (L+20) (n+40)) Ee [.agg (uu i).cs] (Bo true):=by
 have h1:=VW (p:= λi=>Iu (AX (CL (rt (L+20) (n+40)) Ee [.agg (uu i).cs]) (Bo true))) (m:=4) (c:=13) (by
  repeat' first|exact VY|apply VX
  all_goals as_aux_lemma=>kernel_rfl) h
 exact B4 (λH=> λK=>by kernel_rfl) h1
theorem RO (i:Nat) (h:i<52):PS (rt (L+20) (n+40)) GJ [.agg (uu i).cs] (.tup [S (JP i),I 0]):=by
 have h1:=VW (p:= λi=>Iu (AX (CL (rt (L+20) (n+40)) GJ [.agg (uu i).cs]) (.tup [S (JP i),I 0]))) (m:=4) (c:=13) (by
  repeat' first|exact VY|apply VX
  all_goals as_aux_lemma=>kernel_rfl) h
 exact B4 (λH=> λK=>by kernel_rfl) h1
end
end Go.Abs
end
