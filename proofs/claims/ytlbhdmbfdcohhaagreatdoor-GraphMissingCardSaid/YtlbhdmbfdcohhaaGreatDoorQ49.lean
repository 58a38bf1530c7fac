import Derived.Test.YtlbhdmbfdcohhaaGreatDoorQ22
import Derived.Test.YtlbhdmbfdcohhaaGreatDoorQ48
set_option linter.all false
set_option maxHeartbeats 100000000
noncomputable section
namespace Go.Abs
open Go.RowKit Go.Proofs
set_option maxRecDepth 100000
section
variable {L n:Nat}
theorem C1i {F:Value×AV→List (Value×AV)→Al} {a b c d:Value×AV} {v:AV} (hv:aeq 6 v v=true) (h1:F a [b,c,d]=some (v,[])) (h2:F b [a,c,d]=some (v,[])) (h3:F c [a,b,d]=some (v,[])) (h4:F d [a,b,c]=some (v,[])):
 NP F [a,b,c,d] []=some (v,[]):=by
 have e:NP F [a,b,c,d] []=Yw (F a [b,c,d]) (Yw (F b [a,c,d]) (Yw (F c [a,b,d]) (F d [a,b,c]))):=rfl
 have s:Yw (some (v,[])) (some (v,[]))=some (v,[]):=by
  show(match aeq 6 v v with|true=>some (v,[])|false=>none)=_
  rw[hv]
 rw[e,h1,h2,h3,h4,s,s,s]
abbrev im4:AV:= .imap [(.string ⟨⟨lD⟩⟩,.agg scD.cs),(.string ⟨⟨lC⟩⟩,.agg We.cs),(.string ⟨⟨lB⟩⟩,.agg Uq.cs),(.string ⟨⟨lA⟩⟩,.agg Jz.cs)]
theorem B6i:RT (rt (L+20) (n+64)) Du [im4] (.fn (.func DR) [] [.iptr [im4]]):=by unfold RT;kernel_rfl
abbrev oH6:Hp:=[(0,.cells true Cj [im4])]
abbrev C3N:Hp:=[(4,.cells true Ik [.mp 3]),(3,.map false [] (some ([],0))),(2,.cells true Mq [.mp 1]),(1,.map false [] (some ([],0))),(0,.cells true Cj [im4])]
theorem B3w {F:AV→Hp→Al}:(AH Cj AX [] λv4 H5=>Ck AX v4 im4 H5 λH6=>F v4 H6)=F (.ptr 0 0 0) oH6:=by kernel_rfl
theorem B3v {F:AV→AV→Hp→Al}:(Mn Ab oH6 λv9 H10=>AH Mq EC H10 λv11 H12=>Ck EC v11 v9 H12 λH13=>Mn Ae H13 λv15 H16=>AH Ik D4 H16 λv17 H18=>Ck D4 v17 v15 H18 λH19=>F v11 v17 H19)=F (.ptr 2 0 0) (.ptr 4 0 0) C3N:=by kernel_rfl
theorem C1m {K:AV→Al}:Aq AX (.ptr 0 0 0) C3N K=K im4:=by kernel_rfl
theorem B6Y {H:Hp} {K:AV→Al}:Aq AX (.iptr [im4]) H K=K im4:=by kernel_rfl
theorem B6c (hL:40000<L):RT (rt (L+20) (n+65)) Nm [Mh] (.tup [Ec [lB,lA,lC,lD],I 0]):=by
 unfold RT
 rw[Zp];unfold Q7 Ar
 have he:∀H K,Ah (rt (L+20) (n+64)) Du [im4] H K=K (.fn (.func DR) [] [.iptr [im4]]):= λH K=>FV (B6i (n:=n)) (A0 A4G Bp)
 rw[of4 hL,CY,CX,B3w,ntT,B9,B3v]
 refine KN λk21 h21=> ?_
 rw[C1m,he]
 refine KN λk240 h240=> ?_
 subst h240
 subst h21
 rw[A49,Jn]
 unfold Fc
 rw[B6Y,A9R]
 simp only[Cl]
 show D9 (L+20) (rt (L+20) (n+63)) _ _ ((L+19)+1) _ _ _ _ _ _ _=_
 rw[IG]
 unfold EK Ar
 rw[A3x (Ay (by simp))]
 refine C1i (by kernel_rfl) ?_ ?_ ?_ ?_
 ·as_aux_lemma=>kernel_rfl
 ·as_aux_lemma=>kernel_rfl
 ·as_aux_lemma=>kernel_rfl
 ·as_aux_lemma=>kernel_rfl
end
end Go.Abs
end
