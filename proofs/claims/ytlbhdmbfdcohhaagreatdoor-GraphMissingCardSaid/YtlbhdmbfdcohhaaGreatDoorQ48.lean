import Derived.Test.YtlbhdmbfdcohhaaGreatDoorQ47
set_option linter.all false
set_option maxHeartbeats 100000000
noncomputable section
namespace Go.Abs
open Go.RowKit Go.Proofs
set_option maxRecDepth 100000
section
variable {L n:Nat}
theorem B6f (hL:40000<L):RT (rt (L+20) (n+65)) No [B3D] (.list 1 [S lE,S lB]):=by
 unfold RT
 rw[Zr];unfold Q9 Ar
 rw[of3 hL];kernel_rfl
end
end Go.Abs
end
