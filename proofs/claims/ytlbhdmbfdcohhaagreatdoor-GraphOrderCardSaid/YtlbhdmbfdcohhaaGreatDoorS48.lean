import Derived.Test.YtlbhdmbfdcohhaaGreatDoorS22
import Derived.Test.YtlbhdmbfdcohhaaGreatDoorS47
set_option linter.all false
set_option maxHeartbeats 100000000
noncomputable section
namespace Go.Abs
open Go.RowKit Go.Proofs
set_option maxRecDepth 100000
section
variable {L n:Nat}
theorem C2c {F:Value×AV→List (Value×AV)→Aj} {a b c d:Value×AV} {v:AV} (hv:Zr 6 v v=true) (h1:F a [b,c,d]=some (v,[])) (h2:F b [a,c,d]=some (v,[])) (h3:F c [a,b,d]=some (v,[])) (h4:F d [a,b,c]=some (v,[])):
 OH F [a,b,c,d] []=some (v,[]):=by
 have e:OH F [a,b,c,d] []=Zc (F a [b,c,d]) (Zc (F b [a,c,d]) (Zc (F c [a,b,d]) (F d [a,b,c]))):=rfl
 have s:Zc (some (v,[])) (some (v,[]))=some (v,[]):=by
  show(match Zr 6 v v with|true=>some (v,[])|false=>none)=_
  rw[hv]
 rw[e,h1,h2,h3,h4,s,s,s]
abbrev im4:AV:= .imap [(.string ⟨⟨lD⟩⟩,.agg scD.cs),(.string ⟨⟨lC⟩⟩,.agg WN.cs),(.string ⟨⟨lB⟩⟩,.agg Vl.cs),(.string ⟨⟨lA⟩⟩,.agg JS.cs)]
theorem B6Z:RT (rt (L+20) (n+64)) E1 [im4] (.fn (.func CO) [] [.iptr [im4]]):=by unfold RT;kernel_rfl
abbrev oH6:Hp:=[(0,.cells true BC [im4])]
abbrev C4Q:Hp:=[(4,.cells true CU [.mp 3]),(3,.map false [] (some ([],0))),(2,.cells true EE [.mp 1]),(1,.map false [] (some ([],0))),(0,.cells true BC [im4])]
theorem B43 {F:AV→Hp→Aj}:(AJ BC AT [] λv4 H5=>CG AT v4 im4 H5 λH6=>F v4 H6)=F (.ptr 0 0 0) oH6:=by kernel_rfl
theorem B42 {F:AV→AV→Hp→Aj}:(MQ Ab oH6 λv9 H10=>AJ EE Cq H10 λv11 H12=>CG Cq v11 v9 H12 λH13=>MQ Ac H13 λv15 H16=>AJ CU Bl H16 λv17 H18=>CG Bl v17 v15 H18 λH19=>F v11 v17 H19)=F (.ptr 2 0 0) (.ptr 4 0 0) C4Q:=by kernel_rfl
theorem C2g {K:AV→Aj}:Ar AT (.ptr 0 0 0) C4Q K=K im4:=by kernel_rfl
theorem B7E {H:Hp} {K:AV→Aj}:Ar AT (.iptr [im4]) H K=K im4:=by kernel_rfl
theorem B6T (hL:40000<L):RT (rt (L+20) (n+65)) Iq [Nb] (.tup [Ep [lB,lA,lC,lD],I 0]):=by
 unfold RT
 rw[T3];unfold Oa Av
 have he:∀H K,Ah (rt (L+20) (n+64)) E1 [im4] H K=K (.fn (.func CO) [] [.iptr [im4]]):= λH K=>Gu (B6Z (n:=n)) (Ay A0t Be)
 rw[of4 hL,CZ,CY,B43,ntT,Bz,B42]
 refine Ly λk21 h21=> ?_
 rw[C2g,he]
 refine Ly λk240 h240=> ?_
 subst h240
 subst h21
 rw[A0k,JE]
 unfold Fu
 rw[B7E,A5i]
 simp only[BX]
 show DV (L+20) (rt (L+20) (n+63)) _ _ ((L+19)+1) _ _ _ _ _ _ _=_
 rw[Jo]
 unfold Fc Av
 rw[A40 (A1 (by simp))]
 refine C2c (by kernel_rfl) ?_ ?_ ?_ ?_
 ·as_aux_lemma=>kernel_rfl
 ·as_aux_lemma=>kernel_rfl
 ·as_aux_lemma=>kernel_rfl
 ·as_aux_lemma=>kernel_rfl
end
end Go.Abs
end
