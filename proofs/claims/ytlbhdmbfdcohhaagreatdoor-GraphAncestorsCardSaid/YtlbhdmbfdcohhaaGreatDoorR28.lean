import Derived.Test.YtlbhdmbfdcohhaaGreatDoorR22
set_option linter.all false
set_option maxHeartbeats 100000000
noncomputable section
namespace Go.Abs
open Go.RowKit Go.Proofs
set_option maxRecDepth 100000
section
variable (L n:Nat)
theorem Pk (i:Nat) (h:i<52):PS (rt (L+20) (n+40)) DG [.agg (uu i).cs] (Bo true):=by
 have h1:=V5 (p:= λi=>HQ (AZ (C9 (rt (L+20) (n+40)) DG [.agg (uu i).cs]) (Bo true))) (m:=4) (c:=13) (by
  repeat' first|exact V7|apply V6
  all_goals as_aux_lemma=>kernel_rfl) h
 exact B2 (λH=> λK=>by kernel_rfl) h1
theorem Rx (i:Nat) (h:i<52):PS (rt (L+20) (n+40)) Gt [.agg (uu i).cs] (.tup [S (Jw i),I 0]):=by
 have h1:=V5 (p:= λi=>HQ (AZ (C9 (rt (L+20) (n+40)) Gt [.agg (uu i).cs]) (.tup [S (Jw i),I 0]))) (m:=4) (c:=13) (by
  repeat' first|exact V7|apply V6
  all_goals as_aux_lemma=>kernel_rfl) h
 exact B2 (λH=> λK=>by kernel_rfl) h1
end
end Go.Abs
end
