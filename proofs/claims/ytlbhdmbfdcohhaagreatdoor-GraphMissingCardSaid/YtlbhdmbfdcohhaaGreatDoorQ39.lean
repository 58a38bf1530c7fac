import Derived.Test.YtlbhdmbfdcohhaaGreatDoorQ21
set_option linter.all false
set_option maxHeartbeats 100000000
noncomputable section
namespace Go.Abs
open Go.RowKit Go.Proofs
set_option maxRecDepth 100000
section
variable (L n:Nat)
theorem B8I (i:Nat) (h:i<49) (hc:(isU (RH 2 (i/7) (i%7)))=true):PS (rt (L+20) (n+40)) Ps [.agg (uu (i/7)).cs,.agg (uu (i%7)).cs] (XA3 (RH 2 (i/7) (i%7))):=by
 have h1:=Vp (p:= λi=> !(isU (RH 2 (i/7) (i%7)))||HN (AW (C4 (rt (L+20) (n+40)) Ps [.agg (uu (i/7)).cs,.agg (uu (i%7)).cs]) (XA3 (RH 2 (i/7) (i%7))))) (m:=7) (c:=7) (by
  repeat' first|exact Vr|apply Vq
  all_goals as_aux_lemma=>kernel_rfl) h
 simp only[hc,Bool.not_true,Bool.false_or] at h1
 exact Bu (λH=> λK=>by kernel_rfl) h1
end
end Go.Abs
end
