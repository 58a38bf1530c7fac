import Derived.Test.YthffkeagibaidaaGreatDoorP11
set_option linter.all false
set_option maxHeartbeats 0
noncomputable section
namespace Go.Abs
open Go.RowKit Go.Proofs
set_option maxRecDepth 100000
section
variable{L n:Nat}
def iC{z:Int}(h1: -80<=z)(h2:z<81):PS (r! L (n+40)) Df [.agg (qa z)] (Bo true):=by
 have h:=Wq (p:=λi=>HU (AN (C8 (r! L (n+40)) Df [.agg (qa ((i:Int)-80))]) (Bo true))) (m:=7) (c:=23) (by
  repeat' first|exact Ws|apply Wr
  all_goals as_aux_lemma=>kernel_rfl) (i:=(z+80).toNat) (by omega)
 have e:(((z+80).toNat:Nat):Int)-80=z:=by omega
 simp only[e]at h;exact Bp (λH=>λK=>by kernel_rfl) h
end
end Go.Abs
end
