import Derived.Test.YtlbhdmbfdcohhaaGreatDoorRows
import Derived.ProofKit
import Derived.KernelRfl
set_option linter.all false
set_option maxHeartbeats 100000000
noncomputable section
namespace Go.Proofs.YtlbhdmbfdcohhaaGreatDoor
open Go.RowKit
set_option maxRecDepth 100000
theorem A0V:Tryz.pinned.checked.prog.funcNamed Rows.graphRealizedRow.func=some 4:=by kernel_rfl
theorem B6X:joinedFacts Tryz.prog 4 Tryz.f4 Rows.graphRealizedSpec Rows.graphRealizedRow=true:=by
 unfold joinedFacts
 simp only[Bool.and_eq_true]
 repeat' apply And.intro
 all_goals as_aux_lemma=>kernel_rfl
end Go.Proofs.YtlbhdmbfdcohhaaGreatDoor
end
