import Derived.Test.YtdaajghondabnaaGreatDoorRows
import Derived.ProofKit
import Derived.KernelRfl
set_option linter.all false
set_option maxHeartbeats 100000000
noncomputable section
namespace Go.Proofs.YtdaajghondabnaaGreatDoor
open Go.RowKit
set_option maxRecDepth 100000
theorem mR:Tryz.pinned.checked.prog.funcNamed Rows.exchangeRefusesRow.func=some 3:=by kernel_rfl
theorem B5H:joinedFacts Tryz.prog 3 Tryz.f3 Rows.exchangeRefusesSpec Rows.exchangeRefusesRow=true:=by
 unfold joinedFacts
 simp only[Bool.and_eq_true]
 repeat' apply And.intro
 all_goals as_aux_lemma=>kernel_rfl
end Go.Proofs.YtdaajghondabnaaGreatDoor
end
