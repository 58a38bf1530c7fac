import Derived.Test.YthffkeagibaidaaGreatDoorP11
set_option linter.all false
set_option maxHeartbeats 0
noncomputable section
namespace Go.Abs
open Go.RowKit Go.Proofs
set_option maxRecDepth 100000
section
variable(L n:Nat)
def B3D(i:Nat)(h:i<49):PS (r! L (n+40)) Qv [.agg (uu (i/7)).cs,.agg (uu (i%7)).cs] (HS (Sf 3 (i/7) (i%7))):=by
 have h1:=Wq (p:=λi=>HU (AN (C8 (r! L (n+40)) Qv [.agg (uu (i/7)).cs,.agg (uu (i%7)).cs]) (HS (Sf 3 (i/7) (i%7))))) (m:=7) (c:=7) (by
  repeat' first|exact Ws|apply Wr
  all_goals as_aux_lemma=>kernel_rfl) h
 exact Bp (λH=>λK=>by kernel_rfl) h1
end
end Go.Abs
end
