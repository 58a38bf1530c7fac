import Derived.Test.YtlbhdmbfdcohhaaGreatDoorP22
set_option linter.all false
set_option maxHeartbeats 100000000
noncomputable section
namespace Go.Abs
open Go.RowKit Go.Proofs
set_option maxRecDepth 100000
section
variable (L n:Nat)
theorem C0h (i:Nat) (h:i<35):PS (rt (L+20) (n+40)) GJ [.agg (uu (i/5)).cs,.agg [I (X4 (i%5)),I 1]] (HC (SQ (i/5) (i%5))):=by
 have h1:=UI (p:= λi=>Hg (AU (Cu (rt (L+20) (n+40)) GJ [.agg (uu (i/5)).cs,.agg [I (X4 (i%5)),I 1]]) (HC (SQ (i/5) (i%5))))) (m:=7) (c:=5) (by
  repeat' first|exact UK|apply UJ
  all_goals as_aux_lemma=>kernel_rfl) h
 exact Bt (λH=> λK=>by kernel_rfl) h1
end
end Go.Abs
end
