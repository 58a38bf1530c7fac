import Derived.Test.YthfokedilloheaaGreatDoorRows
import Derived.ProofKit
import Derived.KernelRfl
set_option linter.all false
set_option maxHeartbeats 100000000
noncomputable section
namespace Go.Proofs.YthfokedilloheaaGreatDoor
open Go.RowKit
set_option maxRecDepth 100000
theorem mS:Tryz.pinned.checked.prog.funcNamed Rows.exchangeClosedRow.func=some 3:=by kernel_rfl
theorem B5I:joinedFacts Tryz.prog 3 Tryz.f3 Rows.exchangeClosedSpec Rows.exchangeClosedRow=true:=by
 unfold joinedFacts
 simp only[Bool.and_eq_true]
 repeat' apply And.intro
 all_goals as_aux_lemma=>kernel_rfl
end Go.Proofs.YthfokedilloheaaGreatDoor
end
