import Derived.Test.YtlbhdmbfdcohhaaGreatDoorP48
set_option linter.all false
set_option maxHeartbeats 100000000
noncomputable section
namespace Go.Abs
open Go.RowKit Go.Proofs
set_option maxRecDepth 100000
section
variable {L n:Nat}
theorem C0F {F:Value×AV→List (Value×AV)→Am} {a b c d:Value×AV} {v:AV} (hv:aeq 6 v v=true) (h1:F a [b,c,d]=some (v,[])) (h2:F b [a,c,d]=some (v,[])) (h3:F c [a,b,d]=some (v,[])) (h4:F d [a,b,c]=some (v,[])):
 PJ F [a,b,c,d] []=some (v,[]):=by
 have e:PJ F [a,b,c,d] []=XM (F a [b,c,d]) (XM (F b [a,c,d]) (XM (F c [a,b,d]) (F d [a,b,c]))):=rfl
 have s:XM (some (v,[])) (some (v,[]))=some (v,[]):=by
  show(match aeq 6 v v with|true=>some (v,[])|false=>none)=_
  rw[hv]
 rw[e,h1,h2,h3,h4,s,s,s]
theorem B5D {R:Rt} {m g:Nat} {cap:List AV} {t:Tm} {ps:Array Tmp} {sa bd:Code} {H:Hp} {K:Option (Option Code)→Hp→Am}:
 WN R m (.fn (.func g) [] cap) t ps sa bd H K=R.call g (.yl (A7 H)::cap) ((A7 H,.loop m t ps sa bd (some none))::H) λ_ H2=>Lf H2 (A7 H) λx=>Up x λ_ _ _ _ _ pend=>Qf H2 (A7 H) .gone λH3=>K pend H3:=by
 have e:WN R m (.fn (.func g) [] cap) t ps sa bd H K=Ij H λs=>UZ [] (.yl s::cap) λall=>R.call g all ((s,.loop m t ps sa bd (some none))::H) λ_ H2=>Lf H2 s λx=>Up x λ_ _ _ _ _ pend=>Qf H2 s .gone λH3=>K pend H3:=rfl
 rw[e,Cg,Ll];rfl
theorem B6Q {es:List (Value×AV)} {H:Hp} {K:KV}:A7T (.imap es) H K=K (.it (A7 H)) ((A7 H,.iter es none)::H):=by
 have e:A7T (.imap es) H K=Ij H λs=>K (.it s) ((s,.iter es none)::H):=rfl
 rw[e,Cg]
theorem B0L {s:Nat} {H:Hp} {e:Value×AV} {es:List (Value×AV)} {o:Option (Value×AV)} {K:KV} (h:Aw H s=some (.iter (e::es) o)):
 A7W (.it s) H K=PJ (λe rest=>Qf H s (.iter rest (some e)) λH'=>K (.tup [.v (.bool true),ofV e.1,e.2]) H') (e::es) []:=by
 have e1:A7W (.it s) H K=Lf H s λx=>B3f x λl=>@List.rec (Value×AV) (λ_=>Am) (K (.tup [.v (.bool false)]) H)
  (λ_ _ _=>PJ (λe rest=>Qf H s (.iter rest (some e)) λH'=>K (.tup [.v (.bool true),ofV e.1,e.2]) H') l []) l:=rfl
 rw[e1,C6 h];rfl
abbrev im4:AV:= .imap [(.string ⟨⟨lD⟩⟩,.agg scD.cs),(.string ⟨⟨lC⟩⟩,.agg V3.cs),(.string ⟨⟨lB⟩⟩,.agg TL.cs),(.string ⟨⟨lA⟩⟩,.agg IV.cs)]
theorem B5v:RT (rt (L+20) (n+64)) EM [im4] (.fn (.func EI) [] [.iptr [im4]]):=by unfold RT;kernel_rfl
abbrev oH6:Hp:=[(0,.cells true D0 [im4])]
abbrev C31:Hp:=[(4,.cells true HI [.mp 3]),(3,.map false [] (some ([],0))),(2,.cells true LH [.mp 1]),(1,.map false [] (some ([],0))),(0,.cells true D0 [im4])]
theorem B2T {F:AV→Hp→Am}:(AI D0 Bv [] λv4 H5=>Cb Bv v4 im4 H5 λH6=>F v4 H6)=F (.ptr 0 0 0) oH6:=by kernel_rfl
theorem B2S {F:AV→AV→Hp→Am}:(Nf Ab oH6 λv9 H10=>AI LH Er H10 λv11 H12=>Cb Er v11 v9 H12 λH13=>Nf Ae H13 λv15 H16=>AI HI Dp H16 λv17 H18=>Cb Dp v17 v15 H18 λH19=>F v11 v17 H19)=F (.ptr 2 0 0) (.ptr 4 0 0) C31:=by kernel_rfl
theorem C0J {K:AV→Am}:Ap Bv (.ptr 0 0 0) C31 K=K im4:=by kernel_rfl
theorem B6c {H:Hp} {K:AV→Am}:Ap Bv (.iptr [im4]) H K=K im4:=by kernel_rfl
theorem B5p (hL:40000<L):RT (rt (L+20) (n+65)) MI [L7] (.tup [FQ [lB,lA,lC,lD],I 0]):=by
 unfold RT
 rw[YH];unfold PZ Aq
 have he:∀H K,Ah (rt (L+20) (n+64)) EM [im4] H K=K (.fn (.func EI) [] [.iptr [im4]]):= λH K=>F4 (B5v (n:=n)) (Ay B6z Bl)
 rw[of4 hL,CJ,CI,B2T,Xj,BC,B2S]
 refine HW λk21 h21=> ?_
 rw[C0J,he]
 refine HW λk240 h240=> ?_
 subst h240
 subst h21
 rw[B5D,NJ]
 unfold Gs
 rw[B6c,B6Q]
 simp only[Cm]
 show E0 (L+20) (rt (L+20) (n+63)) _ _ ((L+19)+1) _ _ _ _ _ _ _=_
 rw[Nt]
 unfold FZ Aq
 rw[B0L (A0 (by simp))]
 refine C0F (by kernel_rfl) ?_ ?_ ?_ ?_
 ·as_aux_lemma=>kernel_rfl
 ·as_aux_lemma=>kernel_rfl
 ·as_aux_lemma=>kernel_rfl
 ·as_aux_lemma=>kernel_rfl
end
end Go.Abs
end
