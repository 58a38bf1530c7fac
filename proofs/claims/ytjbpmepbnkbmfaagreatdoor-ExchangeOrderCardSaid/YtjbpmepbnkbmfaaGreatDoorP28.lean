import Derived.Test.YtjbpmepbnkbmfaaGreatDoorP03
set_option linter.all false
set_option maxHeartbeats 0
noncomputable section
namespace Go.Proofs
open Go.Abs
set_option maxRecDepth 100000
set_option maxHeartbeats 100000000 in
def C4i:ftB.All (FnR Tryz.prog):=by
 unfold ftB
 repeat' first|exact A0x|apply A0w
 all_goals as_aux_lemma=>unfold FnR;kernel_rfl
set_option maxHeartbeats 100000000 in
def C4G(L:Nat):ftB.All (DrR (E L)):=by
 unfold ftB
 repeat' first|exact A0x|apply A0w
 all_goals as_aux_lemma=>unfold DrR;kernel_rfl
def C2B:tyB.All (TiR Tryz.prog):=B32 (λt i h=>B8e t i h) (by kernel_rfl)
def C4v:eqB.All (eqR Tryz.prog):=by
 unfold eqB
 repeat' first|exact A0x|apply A0w
 all_goals as_aux_lemma=>exact⟨by kernel_rfl,by kernel_rfl⟩
def C49:glB.All glR:=⟨by unfold glR;kernel_rfl,⟨by unfold glR;kernel_rfl,trivial,trivial⟩,trivial⟩
def C0z:∀l∈A4x,C3B Tryz.prog l:=by
 intro l hl
 simp only[A4x,Vp,List.mem_nil_iff,or_false]at hl
 rcases hl with rfl|rfl
 ·exact⟨by kernel_rfl,by kernel_rfl⟩
 ·exact⟨by kernel_rfl,by kernel_rfl⟩
def C3l:∀f,neF f=true->kW Tryz.prog f:=by
 intro f h
 have h:f=265:=ZR h
 subst h
 exact A04 (fn:=Tryz.f265) (by kernel_rfl) (by kernel_rfl) (by kernel_rfl) (by kernel_rfl) (by kernel_rfl)
def C6O(L:Nat):XE.Ok tT (E L) Tryz.prog:=C2i C2B rfl (by kernel_rfl) C49 C4i (C4G L) C4v C0z (by kernel_rfl) C3l
end Go.Proofs
end
