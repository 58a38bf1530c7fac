import Derived.Test.YthffkeagibaidaaGreatDoorP11
set_option linter.all false
set_option maxHeartbeats 0
noncomputable section
namespace Go.Abs
open Go.RowKit Go.Proofs
set_option maxRecDepth 100000
section
variable(L n:Nat)
def Pg(i:Nat)(h:i<52):PS (r! L (n+40)) DT [.agg (uu i).cs] (Bo true):=by
 have h1:=Wq (p:=λi=>HU (AN (C8 (r! L (n+40)) DT [.agg (uu i).cs]) (Bo true))) (m:=4) (c:=13) (by
  repeat' first|exact Ws|apply Wr
  all_goals as_aux_lemma=>kernel_rfl) h
 exact Bp (λH=>λK=>by kernel_rfl) h1
def RI(i:Nat)(h:i<52):PS (r! L (n+40)) Hq [.agg (uu i).cs] (.tup [S (Jc i),I 0]):=by
 have h1:=Wq (p:=λi=>HU (AN (C8 (r! L (n+40)) Hq [.agg (uu i).cs]) (.tup [S (Jc i),I 0]))) (m:=4) (c:=13) (by
  repeat' first|exact Ws|apply Wr
  all_goals as_aux_lemma=>kernel_rfl) h
 exact Bp (λH=>λK=>by kernel_rfl) h1
end
end Go.Abs
end
