import Derived.Test.YtlbhdmbfdcohhaaGreatDoorP12
import Derived.Test.YtlbhdmbfdcohhaaGreatDoorP16
set_option linter.all false
set_option maxHeartbeats 100000000
noncomputable section
namespace Go.Proofs
open Go.Abs
set_option maxRecDepth 100000
set_option maxHeartbeats 100000000 in
theorem C3T:ftB.All (FnR Tryz.prog):=by
 unfold ftB
 repeat' first|exact A4g|apply A4f
 all_goals as_aux_lemma=>unfold FnR;kernel_rfl
set_option maxHeartbeats 100000000 in
theorem C4a (L:Nat):ftB.All (DrR (E L)):=by
 unfold ftB
 repeat' first|exact A4g|apply A4f
 all_goals as_aux_lemma=>unfold DrR;kernel_rfl
theorem C2k:tyB.All (TiR Tryz.prog):=B4i (λt i h=>B8r t i h) (by kernel_rfl)
theorem C45:eqB.All (eqR Tryz.prog):=by
 unfold eqB
 repeat' first|exact A4g|apply A4f
 all_goals as_aux_lemma=>exact⟨by kernel_rfl,by kernel_rfl⟩
theorem C3M:glB.All glR:=⟨by unfold glR;kernel_rfl,⟨by unfold glR;kernel_rfl,trivial,trivial⟩,trivial⟩
theorem C0Q:∀l∈A7y,C3g Tryz.prog l:=by
 intro l hl
 simp only[A7y,XQ,List.mem_nil_iff,or_false] at hl
 rcases hl with rfl|rfl
 ·exact⟨by kernel_rfl,by kernel_rfl⟩
 ·exact⟨by kernel_rfl,by kernel_rfl⟩
theorem C33:∀f,neF f=true→WA Tryz.prog f:=by
 intro f h
 have h:f=276:=Uq h
 subst h
 exact A3W (fn:=Tryz.f276) (by kernel_rfl) (by kernel_rfl) (by kernel_rfl) (by kernel_rfl) (by kernel_rfl)
theorem C5F (L:Nat):XE.Ok ZQ (E L) Tryz.prog:=C28 C2k rfl (by kernel_rfl) C3M C3T (C4a L) C45 C0Q (by kernel_rfl) C33
end Go.Proofs
end
