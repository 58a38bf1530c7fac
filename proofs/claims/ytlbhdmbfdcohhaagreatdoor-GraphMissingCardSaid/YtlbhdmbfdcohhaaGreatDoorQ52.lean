import Derived.Test.YtlbhdmbfdcohhaaGreatDoorRows
import Derived.ProofKit
import Derived.KernelRfl
set_option linter.all false
set_option maxHeartbeats 100000000
noncomputable section
namespace Go.Proofs.YtlbhdmbfdcohhaaGreatDoor
open Go.RowKit
set_option maxRecDepth 100000
theorem Yd:Tryz.pinned.checked.prog.funcNamed Rows.graphMissingRow.func=some 6:=by kernel_rfl
theorem B7L:joinedFacts Tryz.prog 6 Tryz.f6 Rows.graphMissingSpec Rows.graphMissingRow=true:=by
 unfold joinedFacts
 simp only[Bool.and_eq_true]
 repeat' apply And.intro
 all_goals as_aux_lemma=>kernel_rfl
end Go.Proofs.YtlbhdmbfdcohhaaGreatDoor
end
