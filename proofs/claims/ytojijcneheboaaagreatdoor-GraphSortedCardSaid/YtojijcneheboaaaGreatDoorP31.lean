import Derived.Test.YtojijcneheboaaaGreatDoorP04
set_option linter.all false
set_option maxHeartbeats 0
noncomputable section
namespace Go.Proofs
open Go.Abs
set_option maxRecDepth 100000
set_option maxHeartbeats 100000000 in
theorem C17:ftB.All (FnR Tryz.prog):=by
 unfold ftB
 repeat' first|exact zZ|apply zY
 all_goals as_aux_lemma=>unfold FnR;kernel_rfl
set_option maxHeartbeats 100000000 in
theorem C1w(L:Nat):ftB.All (DrR (E L)):=by
 unfold ftB
 repeat' first|exact zZ|apply zY
 all_goals as_aux_lemma=>unfold DrR;kernel_rfl
theorem B9s:tyB.All (TiR Tryz.prog):=A9Y (λt i h=>B50 t i h) (by kernel_rfl)
theorem C1o:F'.All (eqR Tryz.prog):=by
 unfold F'
 repeat' first|exact zZ|apply zY
 all_goals as_aux_lemma=>exact⟨by kernel_rfl,by kernel_rfl⟩
theorem C10:glB.All glR:=⟨by unfold glR;kernel_rfl,⟨by unfold glR;kernel_rfl,trivial,trivial⟩,trivial⟩
theorem B7u:∀l∈A23,C0t Tryz.prog l:=by
 intro l hl
 simp only[A23,Qd,List.mem_nil_iff,or_false]at hl
 rcases hl with rfl|rfl
 ·exact⟨by kernel_rfl,by kernel_rfl⟩
 ·exact⟨by kernel_rfl,by kernel_rfl⟩
theorem C0f:∀f,neF f=true->eQ Tryz.prog f:=by
 intro f h
 have h:f=269:=Xz h
 subst h
 exact yP (fn:=Tryz.f269) (by kernel_rfl) (by kernel_rfl) (by kernel_rfl) (by kernel_rfl) (by kernel_rfl)
theorem C3O(L:Nat):XE.Ok oJ (E L) Tryz.prog:=B9d B9s rfl (by kernel_rfl) C10 C17 (C1w L) C1o B7u (by kernel_rfl) C0f
end Go.Proofs
end
