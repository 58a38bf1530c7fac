import Derived.Test.YthffkeagibaidaaGreatDoorP11
set_option linter.all false
set_option maxHeartbeats 0
noncomputable section
namespace Go.Abs
open Go.RowKit Go.Proofs
set_option maxRecDepth 100000
section
variable(L n:Nat)
def B1n(i:Nat)(h:i<35)(hc:(isU (Ui (i/5) (i%5)))=true):PS (r! L (n+40)) PK [.agg (uu (i/5)).cs,.agg [I (ZA (i%5)),I 1]] (HS (Ui (i/5) (i%5))):=by
 have h1:=Wq (p:=λi=>!(isU (Ui (i/5) (i%5)))||HU (AN (C8 (r! L (n+40)) PK [.agg (uu (i/5)).cs,.agg [I (ZA (i%5)),I 1]]) (HS (Ui (i/5) (i%5))))) (m:=7) (c:=5) (by
  repeat' first|exact Ws|apply Wr
  all_goals as_aux_lemma=>kernel_rfl) h
 simp only[hc,Bool.not_true,Bool.false_or]at h1;exact Bp (λH=>λK=>by kernel_rfl) h1
end
end Go.Abs
end
