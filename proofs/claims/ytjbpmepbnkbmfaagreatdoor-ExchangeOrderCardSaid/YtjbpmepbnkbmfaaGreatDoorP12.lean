import Derived.Test.YtjbpmepbnkbmfaaGreatDoorP09
set_option linter.all false
set_option maxHeartbeats 0
noncomputable section
namespace Go.Abs
open Go.RowKit Go.Proofs
set_option maxRecDepth 100000
section
variable(L n:Nat)
def Yy(i:Nat)(h:i<52):PS (r! L (n+40)) My [.agg (uu i).cs] (Bo true):=by
 have h1:=eY (p:=λi=>JY (Bj (Dz (r! L (n+40)) My [.agg (uu i).cs]) (Bo true))) (m:=4) (c:=13) (by
  repeat' first|exact fB|apply eZ
  all_goals as_aux_lemma=>kernel_rfl) h
 exact BM (λH=>λK=>by kernel_rfl) h1
end
end Go.Abs
end
