import Derived.Test.YthffkeagibaidaaGreatDoorP11
set_option linter.all false
set_option maxHeartbeats 0
noncomputable section
namespace Go.Abs
open Go.RowKit Go.Proofs
set_option maxRecDepth 100000
section
variable(L n:Nat)
def B3B(i:Nat)(h:i<35):PS (r! L (n+40)) Jn [.agg (uu (i/5)).cs,.agg [I (ZA (i%5)),I 1]] (HS (Ui (i/5) (i%5))):=by
 have h1:=Wq (p:=λi=>HU (AN (C8 (r! L (n+40)) Jn [.agg (uu (i/5)).cs,.agg [I (ZA (i%5)),I 1]]) (HS (Ui (i/5) (i%5))))) (m:=7) (c:=5) (by
  repeat' first|exact Ws|apply Wr
  all_goals as_aux_lemma=>kernel_rfl) h
 exact Bp (λH=>λK=>by kernel_rfl) h1
end
end Go.Abs
end
