import Derived.Test.YtlbhdmbfdcohhaaGreatDoorQ11
import Derived.Test.YtlbhdmbfdcohhaaGreatDoorQ15
set_option linter.all false
set_option maxHeartbeats 100000000
noncomputable section
namespace Go.Proofs
open Go.Abs
set_option maxRecDepth 100000
set_option maxHeartbeats 100000000 in
theorem C4I:ftB.All (FnR Tryz.prog):=by
 unfold ftB
 repeat' first|exact A50|apply A4Z
 all_goals as_aux_lemma=>unfold FnR;kernel_rfl
set_option maxHeartbeats 100000000 in
theorem C4Z (L:Nat):ftB.All (DrR (E L)):=by
 unfold ftB
 repeat' first|exact A50|apply A4Z
 all_goals as_aux_lemma=>unfold DrR;kernel_rfl
theorem C35:tyB.All (TiR Tryz.prog):=B4X (λt i h=>B96 t i h) (by kernel_rfl)
theorem C4T:eqB.All (eqR Tryz.prog):=by
 unfold eqB
 repeat' first|exact A50|apply A4Z
 all_goals as_aux_lemma=>exact⟨by kernel_rfl,by kernel_rfl⟩
theorem C4B:glB.All glR:=⟨by unfold glR;kernel_rfl,⟨by unfold glR;kernel_rfl,trivial,trivial⟩,trivial⟩
theorem C1t:∀l∈A8l,C44 Tryz.prog l:=by
 intro l hl
 simp only[A8l,Xi,List.mem_nil_iff,or_false] at hl
 rcases hl with rfl|rfl
 ·exact⟨by kernel_rfl,by kernel_rfl⟩
 ·exact⟨by kernel_rfl,by kernel_rfl⟩
theorem C3P:∀f,neF f=true→Xh Tryz.prog f:=by
 intro f h
 have h:f=276:=UY h
 subst h
 exact A4D (fn:=Tryz.f276) (by kernel_rfl) (by kernel_rfl) (by kernel_rfl) (by kernel_rfl) (by kernel_rfl)
theorem C6H (L:Nat):XE.Ok A0t (E L) Tryz.prog:=C2T C35 rfl (by kernel_rfl) C4B C4I (C4Z L) C4T C1t (by kernel_rfl) C3P
end Go.Proofs
end
