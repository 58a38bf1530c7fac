import Derived.Test.YthffkeagibaidaaGreatDoorP11
set_option linter.all false
set_option maxHeartbeats 0
noncomputable section
namespace Go.Abs
open Go.RowKit Go.Proofs
set_option maxRecDepth 100000
section
variable(L n:Nat)
def B1o(i:Nat)(h:i<49)(hc:(isU (Sf 2 (i/7) (i%7)))=true):PS (r! L (n+40)) Tj [.agg (uu (i/7)).cs,.agg (uu (i%7)).cs] (HS (Sf 2 (i/7) (i%7))):=by
 have h1:=Wq (p:=λi=>!(isU (Sf 2 (i/7) (i%7)))||HU (AN (C8 (r! L (n+40)) Tj [.agg (uu (i/7)).cs,.agg (uu (i%7)).cs]) (HS (Sf 2 (i/7) (i%7))))) (m:=7) (c:=7) (by
  repeat' first|exact Ws|apply Wr
  all_goals as_aux_lemma=>kernel_rfl) h
 simp only[hc,Bool.not_true,Bool.false_or]at h1;exact Bp (λH=>λK=>by kernel_rfl) h1
end
end Go.Abs
end
