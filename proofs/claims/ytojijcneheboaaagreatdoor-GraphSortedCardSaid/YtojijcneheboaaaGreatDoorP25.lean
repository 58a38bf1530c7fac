import Derived.Test.YtojijcneheboaaaGreatDoorP10
set_option linter.all false
set_option maxHeartbeats 0
noncomputable section
namespace Go.Abs
open Go.RowKit Go.Proofs
set_option maxRecDepth 100000
section
variable(L n:Nat)
def B4B(i:Nat)(h:i<35)(hc:(isU (Wi (i/5) (i%5)))=true):PS (r! L (n+40)) RN [.agg (uu (i/5)).cs,.agg [I (iI (i%5)),I 1]] (Jp (Wi (i/5) (i%5))):=by
 have h1:=YC (p:=λi=>!(isU (Wi (i/5) (i%5)))||Jc (AS (CU (r! L (n+40)) RN [.agg (uu (i/5)).cs,.agg [I (iI (i%5)),I 1]]) (Jp (Wi (i/5) (i%5))))) (m:=7) (c:=5) (by
  repeat' first|exact YE|apply YD
  all_goals as_aux_lemma=>kernel_rfl) h
 simp only[hc,Bool.not_true,Bool.false_or]at h1;exact B3 (λH=>λK=>by kernel_rfl) h1
end
end Go.Abs
end
