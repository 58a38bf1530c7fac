import Derived.Test.YthfokedilloheaaGreatDoorP05
set_option linter.all false
set_option maxHeartbeats 100000000
noncomputable section
namespace Go.Proofs
open Go.Abs
set_option maxRecDepth 100000
set_option maxHeartbeats 100000000 in
theorem C3G:ftB.All (FnR Tryz.prog):=by
 unfold ftB
 repeat' first|exact Z?|apply Z!
 all_goals as_aux_lemma=>unfold FnR;kernel_rfl
set_option maxHeartbeats 100000000 in
theorem C3Y(L:Nat):ftB.All (DrR (E L)):=by
 unfold ftB
 repeat' first|exact Z?|apply Z!
 all_goals as_aux_lemma=>unfold DrR;kernel_rfl
theorem C1X:tyB.All (TiR Tryz.prog):=B2s (λt i h=>B7r t i h) (by kernel_rfl)
theorem C3S:eqB.All (eqR Tryz.prog):=by
 unfold eqB
 repeat' first|exact Z?|apply Z!
 all_goals as_aux_lemma=>exact⟨by kernel_rfl,by kernel_rfl⟩
theorem C3x:glB.All glR:=⟨by unfold glR;kernel_rfl,⟨by unfold glR;kernel_rfl,trivial,trivial⟩,trivial⟩
theorem B9Q:∀l∈A3Y,C2W Tryz.prog l:=by
 intro l hl
 simp only[A3Y,Xd,List.mem_nil_iff,or_false]at hl
 rcases hl with rfl|rfl
 ·exact⟨by kernel_rfl,by kernel_rfl⟩
 ·exact⟨by kernel_rfl,by kernel_rfl⟩
theorem C2I:∀f,neF f=true->kB Tryz.prog f:=by
 intro f h
 have h:f=254:=Zy h
 subst h
 exact R_ (fn:=Tryz.f254) (by kernel_rfl) (by kernel_rfl) (by kernel_rfl) (by kernel_rfl) (by kernel_rfl)
theorem C60(L:Nat):XE.Ok tB (E L) Tryz.prog:=C1B C1X rfl (by kernel_rfl) C3x C3G (C3Y L) C3S B9Q (by kernel_rfl) C2I
end Go.Proofs
end
