import Derived.Test.YtobbbklaopaiaaaGreatDoorP06
set_option linter.all false
set_option maxHeartbeats 100000000
noncomputable section
namespace Go.Proofs
open Go.Abs
set_option maxRecDepth 100000
set_option maxHeartbeats 100000000 in
theorem C2V:ftB.All (FnR Tryz.prog):=by
 unfold ftB
 repeat' first|exact W?|apply W!
 all_goals as_aux_lemma=>unfold FnR;kernel_rfl
set_option maxHeartbeats 100000000 in
theorem C3d(L:Nat):ftB.All (DrR (E L)):=by
 unfold ftB
 repeat' first|exact W?|apply W!
 all_goals as_aux_lemma=>unfold DrR;kernel_rfl
theorem C1f:tyB.All (TiR Tryz.prog):=B22 (λt i h=>B6R t i h) (by kernel_rfl)
theorem C37:eqB.All (eqR Tryz.prog):=by
 unfold eqB
 repeat' first|exact W?|apply W!
 all_goals as_aux_lemma=>exact⟨by kernel_rfl,by kernel_rfl⟩
theorem C2M:glB.All glR:=⟨by unfold glR;kernel_rfl,⟨by unfold glR;kernel_rfl,trivial,trivial⟩,trivial⟩
theorem B9d:∀l∈A3E,C2d Tryz.prog l:=by
 intro l hl
 simp only[A3E,Tz,List.mem_nil_iff,or_false]at hl
 rcases hl with rfl|rfl
 ·exact⟨by kernel_rfl,by kernel_rfl⟩
 ·exact⟨by kernel_rfl,by kernel_rfl⟩
theorem C1Z:∀f,neF f=true->jG Tryz.prog f:=by
 intro f h
 have h:f=274:=Yo h
 subst h
 exact O_ (fn:=Tryz.f274) (by kernel_rfl) (by kernel_rfl) (by kernel_rfl) (by kernel_rfl) (by kernel_rfl)
theorem C5g(L:Nat):XE.Ok sA (E L) Tryz.prog:=C0W C1f rfl (by kernel_rfl) C2M C2V (C3d L) C37 B9d (by kernel_rfl) C1Z
end Go.Proofs
end
