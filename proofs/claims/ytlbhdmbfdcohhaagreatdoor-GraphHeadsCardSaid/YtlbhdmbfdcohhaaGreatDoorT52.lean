import Derived.Test.YtlbhdmbfdcohhaaGreatDoorT11
import Derived.Test.YtlbhdmbfdcohhaaGreatDoorT15
set_option linter.all false
set_option maxHeartbeats 100000000
noncomputable section
namespace Go.Proofs
open Go.Abs
set_option maxRecDepth 100000
set_option maxHeartbeats 100000000 in
theorem C5L:ftB.All (FnR Tryz.prog):=by
 unfold ftB
 repeat' first|exact A5s|apply A5r
 all_goals as_aux_lemma=>unfold FnR;kernel_rfl
set_option maxHeartbeats 100000000 in
theorem C63 (L:Nat):ftB.All (DrR (E L)):=by
 unfold ftB
 repeat' first|exact A5s|apply A5r
 all_goals as_aux_lemma=>unfold DrR;kernel_rfl
theorem C46:tyB.All (TiR Tryz.prog):=B5G (λt i h=>B9Y t i h) (by kernel_rfl)
theorem C5X:eqB.All (eqR Tryz.prog):=by
 unfold eqB
 repeat' first|exact A5s|apply A5r
 all_goals as_aux_lemma=>exact⟨by kernel_rfl,by kernel_rfl⟩
theorem C5E:glB.All glR:=⟨by unfold glR;kernel_rfl,⟨by unfold glR;kernel_rfl,trivial,trivial⟩,trivial⟩
theorem C2n:∀l∈A8J,C52 Tryz.prog l:=by
 intro l hl
 simp only[A8J,TA,List.mem_nil_iff,or_false] at hl
 rcases hl with rfl|rfl
 ·exact⟨by kernel_rfl,by kernel_rfl⟩
 ·exact⟨by kernel_rfl,by kernel_rfl⟩
theorem C4P:∀f,neF f=true→XS Tryz.prog f:=by
 intro f h
 have h:f=276:=VG h
 subst h
 exact A54 (fn:=Tryz.f276) (by kernel_rfl) (by kernel_rfl) (by kernel_rfl) (by kernel_rfl) (by kernel_rfl)
theorem C7V (L:Nat):XE.Ok A1f (E L) Tryz.prog:=C3R C46 rfl (by kernel_rfl) C5E C5L (C63 L) C5X C2n (by kernel_rfl) C4P
end Go.Proofs
end
