import Derived.Test.YtlbhdmbfdcohhaaGreatDoorS21
set_option linter.all false
set_option maxHeartbeats 100000000
noncomputable section
namespace Go.Abs
open Go.RowKit Go.Proofs
set_option maxRecDepth 100000
section
variable (L n:Nat)
theorem C1O (i:Nat) (h:i<35):PS (rt (L+20) (n+40)) HU [.agg (uu (i/5)).cs,.agg [I (YN (i%5)),I 1]] (I8 (Uc (i/5) (i%5))):=by
 have h1:=VW (p:= λi=>Iu (AX (CL (rt (L+20) (n+40)) HU [.agg (uu (i/5)).cs,.agg [I (YN (i%5)),I 1]]) (I8 (Uc (i/5) (i%5))))) (m:=7) (c:=5) (by
  repeat' first|exact VY|apply VX
  all_goals as_aux_lemma=>kernel_rfl) h
 exact B4 (λH=> λK=>by kernel_rfl) h1
end
end Go.Abs
end
