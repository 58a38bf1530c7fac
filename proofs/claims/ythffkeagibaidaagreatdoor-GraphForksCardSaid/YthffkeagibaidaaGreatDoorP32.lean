import Derived.Test.YthffkeagibaidaaGreatDoorRows
import Derived.ProofKit
import Derived.KernelRfl
set_option linter.all false
set_option maxHeartbeats 0
noncomputable section
namespace Go.Proofs.YthffkeagibaidaaGreatDoor
open Go.RowKit
set_option maxRecDepth 100000
theorem Zx:Tryz.pinned.checked.prog.funcNamed Rows.graphForksRow.func=some 3:=by kernel_rfl
theorem B0a:joinedFacts Tryz.prog 3 Tryz.f3 Rows.graphForksSpec Rows.graphForksRow=true:=by
 unfold joinedFacts
 simp only[Bool.and_eq_true]
 repeat' apply And.intro
 all_goals as_aux_lemma=>kernel_rfl
end Go.Proofs.YthffkeagibaidaaGreatDoor
end
