import Derived.Test.YtdaajghondabnaaGreatDoorP05
set_option linter.all false
set_option maxHeartbeats 100000000
noncomputable section
namespace Go.Proofs
open Go.Abs
set_option maxRecDepth 100000
set_option maxHeartbeats 100000000 in
theorem C3M:ftB.All (FnR Tryz.prog):=by
 unfold ftB
 repeat' first|exact A07|apply A06
 all_goals as_aux_lemma=>unfold FnR;kernel_rfl
set_option maxHeartbeats 100000000 in
theorem C49(L:Nat):ftB.All (DrR (E L)):=by
 unfold ftB
 repeat' first|exact A07|apply A06
 all_goals as_aux_lemma=>unfold DrR;kernel_rfl
theorem C21:tyB.All (TiR Tryz.prog):=B2o (λt i h=>B7r t i h) (by kernel_rfl)
theorem C3Y:eqB.All (eqR Tryz.prog):=by
 unfold eqB
 repeat' first|exact A07|apply A06
 all_goals as_aux_lemma=>exact⟨by kernel_rfl,by kernel_rfl⟩
theorem C3D:glB.All glR:=⟨by unfold glR;kernel_rfl,⟨by unfold glR;kernel_rfl,trivial,trivial⟩,trivial⟩
theorem B9P:∀l∈A46,C32 Tryz.prog l:=by
 intro l hl
 simp only[A46,Xh,List.mem_nil_iff,or_false]at hl
 rcases hl with rfl|rfl
 ·exact⟨by kernel_rfl,by kernel_rfl⟩
 ·exact⟨by kernel_rfl,by kernel_rfl⟩
theorem C2N:∀f,neF f=true->jZ Tryz.prog f:=by
 intro f h
 have h:f=280:=Z5 h
 subst h
 exact U? (fn:=Tryz.f280) (by kernel_rfl) (by kernel_rfl) (by kernel_rfl) (by kernel_rfl) (by kernel_rfl)
theorem C6a(L:Nat):XE.Ok tC (E L) Tryz.prog:=C1D C21 rfl (by kernel_rfl) C3D C3M (C49 L) C3Y B9P (by kernel_rfl) C2N
end Go.Proofs
end
