import Derived.Test.YtlbhdmbfdcohhaaGreatDoorR11
import Derived.Test.YtlbhdmbfdcohhaaGreatDoorR12
set_option linter.all false
set_option maxHeartbeats 100000000
noncomputable section
namespace Go.Proofs
open Go.Abs
set_option maxRecDepth 100000
set_option maxHeartbeats 100000000 in
theorem C4W:ftB.All (FnR Tryz.prog):=by
 unfold ftB
 repeat' first|exact A5c|apply A5b
 all_goals as_aux_lemma=>unfold FnR;kernel_rfl
set_option maxHeartbeats 100000000 in
theorem C5d (L:Nat):ftB.All (DrR (E L)):=by
 unfold ftB
 repeat' first|exact A5c|apply A5b
 all_goals as_aux_lemma=>unfold DrR;kernel_rfl
theorem C3p:tyB.All (TiR Tryz.prog):=B58 (λt i h=>B9t t i h) (by kernel_rfl)
theorem C58:eqB.All (eqR Tryz.prog):=by
 unfold eqB
 repeat' first|exact A5c|apply A5b
 all_goals as_aux_lemma=>exact⟨by kernel_rfl,by kernel_rfl⟩
theorem C4P:glB.All glR:=⟨by unfold glR;kernel_rfl,⟨by unfold glR;kernel_rfl,trivial,trivial⟩,trivial⟩
theorem C1S:∀l∈A8s,C4j Tryz.prog l:=by
 intro l hl
 simp only[A8s,WG,List.mem_nil_iff,or_false] at hl
 rcases hl with rfl|rfl
 ·exact⟨by kernel_rfl,by kernel_rfl⟩
 ·exact⟨by kernel_rfl,by kernel_rfl⟩
theorem C48:∀f,neF f=true→Xr Tryz.prog f:=by
 intro f h
 have h:f=276:=Vm h
 subst h
 exact A4N (fn:=Tryz.f276) (by kernel_rfl) (by kernel_rfl) (by kernel_rfl) (by kernel_rfl) (by kernel_rfl)
theorem C6W (L:Nat):XE.Ok A0I (E L) Tryz.prog:=C3d C3p rfl (by kernel_rfl) C4P C4W (C5d L) C58 C1S (by kernel_rfl) C48
end Go.Proofs
end
