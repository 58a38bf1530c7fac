import Derived.Test.YtlbhdmbfdcohhaaGreatDoorQ21
set_option linter.all false
set_option maxHeartbeats 100000000
noncomputable section
namespace Go.Abs
open Go.RowKit Go.Proofs
set_option maxRecDepth 100000
section
variable (L n:Nat)
theorem QQ (i:Nat) (h:i<52):PS (rt (L+20) (n+40)) Hh [.agg (uu i).cs] (.tup [S (Jv i),I 0]):=by
 have h1:=Vp (p:= λi=>HN (AW (C4 (rt (L+20) (n+40)) Hh [.agg (uu i).cs]) (.tup [S (Jv i),I 0]))) (m:=4) (c:=13) (by
  repeat' first|exact Vr|apply Vq
  all_goals as_aux_lemma=>kernel_rfl) h
 exact Bu (λH=> λK=>by kernel_rfl) h1
end
end Go.Abs
end
