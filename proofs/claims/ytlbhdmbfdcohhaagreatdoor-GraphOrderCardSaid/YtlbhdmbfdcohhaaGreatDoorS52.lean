import Derived.Test.YtlbhdmbfdcohhaaGreatDoorS11
import Derived.Test.YtlbhdmbfdcohhaaGreatDoorS15
set_option linter.all false
set_option maxHeartbeats 100000000
noncomputable section
namespace Go.Proofs
open Go.Abs
set_option maxRecDepth 100000
set_option maxHeartbeats 100000000 in
theorem C5I:ftB.All (FnR Tryz.prog):=by
 unfold ftB
 repeat' first|exact A5x|apply A5w
 all_goals as_aux_lemma=>unfold FnR;kernel_rfl
set_option maxHeartbeats 100000000 in
theorem C60 (L:Nat):ftB.All (DrR (E L)):=by
 unfold ftB
 repeat' first|exact A5x|apply A5w
 all_goals as_aux_lemma=>unfold DrR;kernel_rfl
theorem C46:tyB.All (TiR Tryz.prog):=B5E (λt i h=>C00 t i h) (by kernel_rfl)
theorem C5U:eqB.All (eqR Tryz.prog):=by
 unfold eqB
 repeat' first|exact A5x|apply A5w
 all_goals as_aux_lemma=>exact⟨by kernel_rfl,by kernel_rfl⟩
theorem C5B:glB.All glR:=⟨by unfold glR;kernel_rfl,⟨by unfold glR;kernel_rfl,trivial,trivial⟩,trivial⟩
theorem C2q:∀l∈A8O,C53 Tryz.prog l:=by
 intro l hl
 simp only[A8O,UJ,List.mem_nil_iff,or_false] at hl
 rcases hl with rfl|rfl
 ·exact⟨by kernel_rfl,by kernel_rfl⟩
 ·exact⟨by kernel_rfl,by kernel_rfl⟩
theorem C4R:∀f,neF f=true→XN Tryz.prog f:=by
 intro f h
 have h:f=276:=VC h
 subst h
 exact A58 (fn:=Tryz.f276) (by kernel_rfl) (by kernel_rfl) (by kernel_rfl) (by kernel_rfl) (by kernel_rfl)
theorem C7S (L:Nat):XE.Ok A1c (E L) Tryz.prog:=C3R C46 rfl (by kernel_rfl) C5B C5I (C60 L) C5U C2q (by kernel_rfl) C4R
end Go.Proofs
end
