import Derived.Test.YtlbhdmbfdcohhaaGreatDoorR23
import Derived.Test.YtlbhdmbfdcohhaaGreatDoorR49
set_option linter.all false
set_option maxHeartbeats 100000000
noncomputable section
namespace Go.Abs
open Go.RowKit Go.Proofs
set_option maxRecDepth 100000
section
variable {L n:Nat}
theorem C1G {F:Value×AV→List (Value×AV)→Al} {a b c d:Value×AV} {v:AV} (hv:aeq 6 v v=true) (h1:F a [b,c,d]=some (v,[])) (h2:F b [a,c,d]=some (v,[])) (h3:F c [a,b,d]=some (v,[])) (h4:F d [a,b,c]=some (v,[])):
 NZ F [a,b,c,d] []=some (v,[]):=by
 have e:NZ F [a,b,c,d] []=YD (F a [b,c,d]) (YD (F b [a,c,d]) (YD (F c [a,b,d]) (F d [a,b,c]))):=rfl
 have s:YD (some (v,[])) (some (v,[]))=some (v,[]):=by
  show(match aeq 6 v v with|true=>some (v,[])|false=>none)=_
  rw[hv]
 rw[e,h1,h2,h3,h4,s,s,s]
abbrev im4:AV:= .imap [(.string ⟨⟨lD⟩⟩,.agg scD.cs),(.string ⟨⟨lC⟩⟩,.agg Wn.cs),(.string ⟨⟨lB⟩⟩,.agg UH.cs),(.string ⟨⟨lA⟩⟩,.agg J0.cs)]
theorem B6s:RT (rt (L+20) (n+64)) GJ [im4] (.fn (.func DR) [] [.iptr [im4]]):=by unfold RT;kernel_rfl
abbrev oH6:Hp:=[(0,.cells true DF [im4])]
abbrev C46:Hp:=[(4,.cells true Ir [.mp 3]),(3,.map false [] (some ([],0))),(2,.cells true Mw [.mp 1]),(1,.map false [] (some ([],0))),(0,.cells true DF [im4])]
theorem B3I {F:AV→Hp→Al}:(AK DF BO [] λv4 H5=>Cq BO v4 im4 H5 λH6=>F v4 H6)=F (.ptr 0 0 0) oH6:=by kernel_rfl
theorem B3H {F:AV→AV→Hp→Al}:(NR Ab oH6 λv9 H10=>AK Mw E8 H10 λv11 H12=>Cq E8 v11 v9 H12 λH13=>NR Ad H13 λv15 H16=>AK Ir D4 H16 λv17 H18=>Cq D4 v17 v15 H18 λH19=>F v11 v17 H19)=F (.ptr 2 0 0) (.ptr 4 0 0) C46:=by kernel_rfl
theorem C1L {K:AV→Al}:Aq BO (.ptr 0 0 0) C46 K=K im4:=by kernel_rfl
theorem B7a {H:Hp} {K:AV→Al}:Aq BO (.iptr [im4]) H K=K im4:=by kernel_rfl
theorem B6m (hL:40000<L):RT (rt (L+20) (n+65)) Ns [Mo] (.tup [DO [lB,lA,lC,lD],I 0]):=by
 unfold RT
 rw[ZE];unfold QP Ar
 have he:∀H K,Ah (rt (L+20) (n+64)) GJ [im4] H K=K (.fn (.func DR) [] [.iptr [im4]]):= λH K=>FV (B6s (n:=n)) (A2 B01 Bt)
 rw[of4 hL,CW,CV,B3I,ntT,BD,B3H]
 refine KP λk21 h21=> ?_
 rw[C1L,he]
 refine KP λk240 h240=> ?_
 subst h240
 subst h21
 rw[A9A,O6]
 unfold GQ
 rw[B7a,B7S]
 simp only[Cp]
 show EF (L+20) (rt (L+20) (n+63)) _ _ ((L+19)+1) _ _ _ _ _ _ _=_
 rw[Oh]
 unfold G8 Ar
 rw[A3H (A1 (by simp))]
 refine C1G (by kernel_rfl) ?_ ?_ ?_ ?_
 ·as_aux_lemma=>kernel_rfl
 ·as_aux_lemma=>kernel_rfl
 ·as_aux_lemma=>kernel_rfl
 ·as_aux_lemma=>kernel_rfl
end
end Go.Abs
end
