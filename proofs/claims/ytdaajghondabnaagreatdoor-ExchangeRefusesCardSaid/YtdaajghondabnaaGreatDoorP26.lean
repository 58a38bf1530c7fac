import Derived.Test.YtdaajghondabnaaGreatDoorP11
set_option linter.all false
set_option maxHeartbeats 100000000
noncomputable section
namespace Go.Abs
open Go.RowKit Go.Proofs
set_option maxRecDepth 100000
section
variable(L n:Nat)
def B71(i:Nat)(h:i<35)(hc:(isU (Yk (i/5) (i%5)))=true):PS (r! L (n+40)) SY [.agg (uu (i/5)).cs,.agg [I (mV (i%5)),I 1]] (Kh (Yk (i/5) (i%5))):=by
 have h1:=dZ (p:=λi=>!(isU (Yk (i/5) (i%5)))||JQ (Ba (Du (r! L (n+40)) SY [.agg (uu (i/5)).cs,.agg [I (mV (i%5)),I 1]]) (Kh (Yk (i/5) (i%5))))) (m:=7) (c:=5) (by
  repeat' first|exact eE|apply eC
  all_goals as_aux_lemma=>kernel_rfl) h
 simp only[hc,Bool.not_true,Bool.false_or]at h1;exact BJ (λH=>λK=>by kernel_rfl) h1
end
end Go.Abs
end
