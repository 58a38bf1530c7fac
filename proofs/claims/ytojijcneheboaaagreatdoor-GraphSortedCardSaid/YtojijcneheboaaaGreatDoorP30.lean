import Derived.Test.YtojijcneheboaaaGreatDoorP29
set_option linter.all false
set_option maxHeartbeats 0
noncomputable section
namespace Go.Abs
open Go.RowKit Go.Proofs
set_option maxRecDepth 100000
section
variable{K:K2}
variable{L n:Nat}
def B7c{F:Value×AV->IH->Af}{a b c d:Value×AV}{v:AV}(hv:Ze 6 v v=true)(h1:F a [b,c,d]=some (v,[]))(h2:F b [a,c,d]=some (v,[]))(f:F c [a,b,d]=some (v,[]))(g:F d [a,b,c]=some (v,[])):
 PH F [a,b,c,d] []=some (v,[]):=by
 have e:PH F [a,b,c,d] []=jE (F a [b,c,d]) (jE (F b [a,c,d]) (jE (F c [a,b,d]) (F d [a,b,c]))):=rfl;have s:jE (some (v,[])) (some (v,[]))=some (v,[]):=by
  show(match Ze 6 v v with|true=>some (v,[])|false=>none)=_;rw[hv]
 rw[e,h1,h2,f,g,s,s,s]
abbrev im4:AV:=.imap [(.string ⟨⟨lD⟩⟩,.agg B_.cs),(.string ⟨⟨lC⟩⟩,.agg Z8.cs),(.string ⟨⟨lB⟩⟩,.agg Xo.cs),(.string ⟨⟨lA⟩⟩,.agg K4.cs)]
def B1x:RT (r! L (n+64)) Dq [im4] (.fn (.func CX) [] [.iptr [im4]]):=by unfold RT;kernel_rfl
abbrev oH6:Hp:=[(0,c_ Bx [im4])]
abbrev C0e:Hp:=[(4,c_ Db [.mp 3]),(3,.map false [] (some ([],0))),(2,c_ Fp [.mp 1]),(1,.map false [] (some ([],0))),(0,c_ Bx [im4])]
def A87{F:KV}:(Ba Bx AC [] λa c=>Dr AC a im4 c λd=>F a d)=F (.ptr 0 0 0) oH6:=by kernel_rfl
def A86{F:AV->KV}:(JK Ac oH6 λk d=>Ba Fp CK d λa e=>Dr CK a k e λf=>JK Ab f λj g=>Ba Db Bn g λc h=>Dr Bn c j h λi=>F a c i)=F (.ptr 2 0 0) (.ptr 4 0 0) C0e:=by kernel_rfl
def B7j:A7 AC (.ptr 0 0 0) C0e K=K im4:=by kernel_rfl
def B2h{H:Hp}:A7 AC (.iptr [im4]) H K=K im4:=by kernel_rfl
def B1r(e:40000<L):RT (r! L (n+65)) Gy [Oe] (.tup [Dp [lB,lA,lC,lD],I 0]):=by
 unfold RT;rw[V8];unfold OY Az;have he:∀H K,Aj (r! L (n+64)) Dq [im4] H K=K (.fn (.func CX) [] [.iptr [im4]]):=λH K=>HB (B1x (n:=n)) (Aq dG AG);rw[of4 e,CI,CH,A87,xR,Bm,A86];refine Mu λf c=>?_;rw[B7j,he];refine Mu λd a=>?_;subst a;subst c;rw[Xp,HI];unfold EA;rw[B2h,dO];simp only[BJ];show Es (L+20) (r! L (n+63)) _ _ ((L+19)+1) _ _ _ _ _ _ _=_;rw[Ht];unfold Et E0 Az;rw[vQ (Av (by simp))];refine B7c (by kernel_rfl) ?_ ?_ ?_ ?_
 ·as_aux_lemma=>kernel_rfl
 ·as_aux_lemma=>kernel_rfl
 ·as_aux_lemma=>kernel_rfl
 ·as_aux_lemma=>kernel_rfl
end
end Go.Abs
end
