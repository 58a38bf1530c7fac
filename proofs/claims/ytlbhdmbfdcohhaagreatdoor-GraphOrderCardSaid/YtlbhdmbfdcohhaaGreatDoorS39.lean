import Derived.Test.YtlbhdmbfdcohhaaGreatDoorS21
set_option linter.all false
set_option maxHeartbeats 100000000
noncomputable section
namespace Go.Abs
open Go.RowKit Go.Proofs
set_option maxRecDepth 100000
section
variable (L n:Nat)
theorem B9D (i:Nat) (h:i<49) (hc:(isU (Su 3 (i/7) (i%7)))=true):PS (rt (L+20) (n+40)) Qq [.agg (uu (i/7)).cs,.agg (uu (i%7)).cs] (I8 (Su 3 (i/7) (i%7))):=by
 have h1:=VW (p:= λi=> !(isU (Su 3 (i/7) (i%7)))||Iu (AX (CL (rt (L+20) (n+40)) Qq [.agg (uu (i/7)).cs,.agg (uu (i%7)).cs]) (I8 (Su 3 (i/7) (i%7))))) (m:=7) (c:=7) (by
  repeat' first|exact VY|apply VX
  all_goals as_aux_lemma=>kernel_rfl) h
 simp only[hc,Bool.not_true,Bool.false_or] at h1
 exact B4 (λH=> λK=>by kernel_rfl) h1
end
end Go.Abs
end
