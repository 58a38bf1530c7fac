import Derived.Test.YtngdjmhcceoafaaGreatDoorP07
set_option linter.all false
set_option maxHeartbeats 100000000
noncomputable section
namespace Go.Proofs
open Go.Abs
set_option maxRecDepth 100000
set_option maxHeartbeats 100000000 in
theorem C2I:ftB.All (FnR Tryz.prog):=by
 unfold ftB
 repeat' first|exact U'|apply T_
 all_goals as_aux_lemma=>unfold FnR;kernel_rfl
set_option maxHeartbeats 100000000 in
theorem C30 (L:Nat):ftB.All (DrR (E L)):=by
 unfold ftB
 repeat' first|exact U'|apply T_
 all_goals as_aux_lemma=>unfold DrR;kernel_rfl
theorem C10:tyB.All (TiR Tryz.prog):=B1Q (λt i h=>B6F t i h) (by kernel_rfl)
theorem C2U:Y?.All (eqR Tryz.prog):=by
 unfold Y?
 repeat' first|exact U'|apply T_
 all_goals as_aux_lemma=>exact⟨by kernel_rfl,by kernel_rfl⟩
theorem C2z:glB.All glR:=⟨by unfold glR;kernel_rfl,⟨by unfold glR;kernel_rfl,trivial,trivial⟩,trivial⟩
theorem B91:∀l∈A3q,C1Y Tryz.prog l:=by
 intro l hl
 simp only[A3q,Uf,List.mem_nil_iff,or_false] at hl
 rcases hl with rfl|rfl
 ·exact⟨by kernel_rfl,by kernel_rfl⟩
 ·exact⟨by kernel_rfl,by kernel_rfl⟩
theorem C1K:∀f,neF f=true->iR Tryz.prog f:=by
 intro f h
 have h:f=273:=YM h
 subst h
 exact L_ (fn:=Tryz.f273) (by kernel_rfl) (by kernel_rfl) (by kernel_rfl) (by kernel_rfl) (by kernel_rfl)
theorem C53 (L:Nat):XE.Ok rO (E L) Tryz.prog:=C0H C10 rfl (by kernel_rfl) C2z C2I (C30 L) C2U B91 (by kernel_rfl) C1K
end Go.Proofs
end
