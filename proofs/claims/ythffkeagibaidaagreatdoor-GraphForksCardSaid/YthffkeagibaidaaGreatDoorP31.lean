import Derived.Test.YthffkeagibaidaaGreatDoorP06
set_option linter.all false
set_option maxHeartbeats 0
noncomputable section
namespace Go.Proofs
open Go.Abs
set_option maxRecDepth 100000
set_option maxHeartbeats 100000000 in
theorem B7P:ftB.All (FnR Tryz.prog):=by
 unfold ftB
 repeat' first|exact uH|apply uG
 all_goals as_aux_lemma=>unfold FnR;kernel_rfl
set_option maxHeartbeats 100000000 in
theorem B8f(L:Nat):ftB.All (DrR (E L)):=by
 unfold ftB
 repeat' first|exact uH|apply uG
 all_goals as_aux_lemma=>unfold DrR;kernel_rfl
theorem B6a:tyB.All (TiR Tryz.prog):=A71 (λt i h=>B1M t i h) (by kernel_rfl)
theorem B83:yO.All (eqR Tryz.prog):=by
 unfold yO
 repeat' first|exact uH|apply uG
 all_goals as_aux_lemma=>exact⟨by kernel_rfl,by kernel_rfl⟩
theorem B7G:glB.All glR:=⟨by unfold glR;kernel_rfl,⟨by unfold glR;kernel_rfl,trivial,trivial⟩,trivial⟩
theorem B4d:∀l∈V',B77 Tryz.prog l:=by
 intro l hl
 simp only[V',Rx,List.mem_nil_iff,or_false]at hl
 rcases hl with rfl|rfl
 ·exact⟨by kernel_rfl,by kernel_rfl⟩
 ·exact⟨by kernel_rfl,by kernel_rfl⟩
theorem B6V:∀f,neF f=true->YB Tryz.prog f:=by
 intro f h
 have h:f=249:=VQ h
 subst h
 exact tI (fn:=Tryz.f249) (by kernel_rfl) (by kernel_rfl) (by kernel_rfl) (by kernel_rfl) (by kernel_rfl)
theorem C0f(L:Nat):XE.Ok iX (E L) Tryz.prog:=B5R B6a rfl (by kernel_rfl) B7G B7P (B8f L) B83 B4d (by kernel_rfl) B6V
end Go.Proofs
end
