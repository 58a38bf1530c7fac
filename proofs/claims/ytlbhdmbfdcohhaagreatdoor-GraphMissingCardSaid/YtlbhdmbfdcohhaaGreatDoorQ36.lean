import Derived.Test.YtlbhdmbfdcohhaaGreatDoorQ21
set_option linter.all false
set_option maxHeartbeats 100000000
noncomputable section
namespace Go.Abs
open Go.RowKit Go.Proofs
set_option maxRecDepth 100000
section
variable (L n:Nat)
theorem C0U (i:Nat) (h:i<35):PS (rt (L+20) (n+40)) Ho [.agg (uu (i/5)).cs,.agg [I (Yh (i%5)),I 1]] (XA3 (Tr (i/5) (i%5))):=by
 have h1:=Vp (p:= λi=>HN (AW (C4 (rt (L+20) (n+40)) Ho [.agg (uu (i/5)).cs,.agg [I (Yh (i%5)),I 1]]) (XA3 (Tr (i/5) (i%5))))) (m:=7) (c:=5) (by
  repeat' first|exact Vr|apply Vq
  all_goals as_aux_lemma=>kernel_rfl) h
 exact Bu (λH=> λK=>by kernel_rfl) h1
end
end Go.Abs
end
