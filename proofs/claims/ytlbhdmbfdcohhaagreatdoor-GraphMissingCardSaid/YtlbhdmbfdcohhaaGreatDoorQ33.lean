import Derived.Test.YtlbhdmbfdcohhaaGreatDoorQ21
set_option linter.all false
set_option maxHeartbeats 100000000
noncomputable section
namespace Go.Abs
open Go.RowKit Go.Proofs
set_option maxRecDepth 100000
section
variable (L n:Nat)
theorem C0X (i:Nat) (h:i<49):PS (rt (L+20) (n+40)) GB [.agg (uu (i/7)).cs,.agg (uu (i%7)).cs] (XA3 (RH 1 (i/7) (i%7))):=by
 have h1:=Vp (p:= λi=>HN (AW (C4 (rt (L+20) (n+40)) GB [.agg (uu (i/7)).cs,.agg (uu (i%7)).cs]) (XA3 (RH 1 (i/7) (i%7))))) (m:=7) (c:=7) (by
  repeat' first|exact Vr|apply Vq
  all_goals as_aux_lemma=>kernel_rfl) h
 exact Bu (λH=> λK=>by kernel_rfl) h1
end
end Go.Abs
end
