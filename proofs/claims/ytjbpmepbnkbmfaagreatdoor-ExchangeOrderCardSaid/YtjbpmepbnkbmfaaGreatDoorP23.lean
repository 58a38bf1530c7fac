import Derived.Test.YtjbpmepbnkbmfaaGreatDoorP09
set_option linter.all false
set_option maxHeartbeats 0
noncomputable section
namespace Go.Abs
open Go.RowKit Go.Proofs
set_option maxRecDepth 100000
section
variable(L n:Nat)
def B7Q(i:Nat)(h:i<49)(hc:(isU (We 3 (i/7) (i%7)))=true):PS (r! L (n+40)) XJ [.agg (uu (i/7)).cs,.agg (uu (i%7)).cs] (Kt (We 3 (i/7) (i%7))):=by
 have h1:=eY (p:=λi=>!(isU (We 3 (i/7) (i%7)))||JY (Bj (Dz (r! L (n+40)) XJ [.agg (uu (i/7)).cs,.agg (uu (i%7)).cs]) (Kt (We 3 (i/7) (i%7))))) (m:=7) (c:=7) (by
  repeat' first|exact fB|apply eZ
  all_goals as_aux_lemma=>kernel_rfl) h
 simp only[hc,Bool.not_true,Bool.false_or]at h1;exact BM (λH=>λK=>by kernel_rfl) h1
end
end Go.Abs
end
