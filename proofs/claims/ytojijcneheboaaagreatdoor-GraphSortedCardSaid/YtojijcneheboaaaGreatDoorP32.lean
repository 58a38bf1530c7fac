import Derived.Test.YtojijcneheboaaaGreatDoorRows
import Derived.ProofKit
import Derived.KernelRfl
set_option linter.all false
set_option maxHeartbeats 0
noncomputable section
namespace Go.Proofs.YtojijcneheboaaaGreatDoor
open Go.RowKit
set_option maxRecDepth 100000
theorem iC:Tryz.pinned.checked.prog.funcNamed Rows.graphSortedRow.func=some 3:=by kernel_rfl
theorem B3q:joinedFacts Tryz.prog 3 Tryz.f3 Rows.graphSortedSpec Rows.graphSortedRow=true:=by
 unfold joinedFacts
 simp only[Bool.and_eq_true]
 repeat' apply And.intro
 all_goals as_aux_lemma=>kernel_rfl
end Go.Proofs.YtojijcneheboaaaGreatDoor
end
