import Derived.Test.YtlbhdmbfdcohhaaGreatDoorT22
import Derived.Test.YtlbhdmbfdcohhaaGreatDoorT47
set_option linter.all false
set_option maxHeartbeats 100000000
noncomputable section
namespace Go.Abs
open Go.RowKit Go.Proofs
set_option maxRecDepth 100000
section
variable {L n:Nat}
theorem C29 {F:Value×AV→List (Value×AV)→Aj} {a b c d:Value×AV} {v:AV} (hv:XV 6 v v=true) (h1:F a [b,c,d]=some (v,[])) (h2:F b [a,c,d]=some (v,[])) (h3:F c [a,b,d]=some (v,[])) (h4:F d [a,b,c]=some (v,[])):
 OE F [a,b,c,d] []=some (v,[]):=by
 have e:OE F [a,b,c,d] []=Zi (F a [b,c,d]) (Zi (F b [a,c,d]) (Zi (F c [a,b,d]) (F d [a,b,c]))):=rfl
 have s:Zi (some (v,[])) (some (v,[]))=some (v,[]):=by
  show(match XV 6 v v with|true=>some (v,[])|false=>none)=_
  rw[hv]
 rw[e,h1,h2,h3,h4,s,s,s]
abbrev im4:AV:= .imap [(.string ⟨⟨lD⟩⟩,.agg scD.cs),(.string ⟨⟨lC⟩⟩,.agg WS.cs),(.string ⟨⟨lB⟩⟩,.agg Vm.cs),(.string ⟨⟨lA⟩⟩,.agg JQ.cs)]
theorem B72:RT (rt (L+20) (n+64)) E6 [im4] (.fn (.func Cw) [] [.iptr [im4]]):=by unfold RT;kernel_rfl
abbrev oH6:Hp:=[(0,.cells true BD [im4])]
abbrev C4O:Hp:=[(4,.cells true CU [.mp 3]),(3,.map false [] (some ([],0))),(2,.cells true EJ [.mp 1]),(1,.map false [] (some ([],0))),(0,.cells true BD [im4])]
theorem B41 {F:AV→Hp→Aj}:(AJ BD AS [] λv4 H5=>CI AS v4 im4 H5 λH6=>F v4 H6)=F (.ptr 0 0 0) oH6:=by kernel_rfl
theorem B40 {F:AV→AV→Hp→Aj}:(L9 Ab oH6 λv9 H10=>AJ EJ Cr H10 λv11 H12=>CI Cr v11 v9 H12 λH13=>L9 Ac H13 λv15 H16=>AJ CU Bm H16 λv17 H18=>CI Bm v17 v15 H18 λH19=>F v11 v17 H19)=F (.ptr 2 0 0) (.ptr 4 0 0) C4O:=by kernel_rfl
theorem C2d {K:AV→Aj}:Au AS (.ptr 0 0 0) C4O K=K im4:=by kernel_rfl
theorem B7I {H:Hp} {K:AV→Aj}:Au AS (.iptr [im4]) H K=K im4:=by kernel_rfl
theorem B6W (hL:40000<L):RT (rt (L+20) (n+65)) Iu [Na] (.tup [DV [lB,lA,lC,lD],I 0]):=by
 unfold RT
 rw[T7];unfold Oa Av
 have he:∀H K,Ai (rt (L+20) (n+64)) E6 [im4] H K=K (.fn (.func Cw) [] [.iptr [im4]]):= λH K=>Gy (B72 (n:=n)) (Ax A0w Ba)
 rw[of4 hL,CZ,CY,B41,ntT,Bx,B40]
 refine Lw λk21 h21=> ?_
 rw[C2d,he]
 refine Lw λk240 h240=> ?_
 subst h240
 subst h21
 rw[WU,JC]
 unfold F0
 rw[B7I,A0z]
 simp only[BW]
 show DY (L+20) (rt (L+20) (n+63)) _ _ ((L+19)+1) _ _ _ _ _ _ _=_
 rw[Jm]
 unfold Fi Av
 rw[A42 (A1 (by simp))]
 refine C29 (by kernel_rfl) ?_ ?_ ?_ ?_
 ·as_aux_lemma=>kernel_rfl
 ·as_aux_lemma=>kernel_rfl
 ·as_aux_lemma=>kernel_rfl
 ·as_aux_lemma=>kernel_rfl
end
end Go.Abs
end
