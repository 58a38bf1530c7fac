import Derived.Test.YthffkeagibaidaaGreatDoorP29
set_option linter.all false
set_option maxHeartbeats 0
noncomputable section
namespace Go.Abs
open Go.RowKit Go.Proofs
set_option maxRecDepth 100000
section
variable{K:K2}
variable{L n:Nat}
def B3Z{F:Value×AV->IH->Af}{a b c d:Value×AV}{v:AV}(hv:oN 6 v v=true)(h1:F a [b,c,d]=some (v,[]))(h2:F b [a,c,d]=some (v,[]))(f:F c [a,b,d]=some (v,[]))(g:F d [a,b,c]=some (v,[])):
 NO F [a,b,c,d] []=some (v,[]):=by
 have e:NO F [a,b,c,d] []=ZS (F a [b,c,d]) (ZS (F b [a,c,d]) (ZS (F c [a,b,d]) (F d [a,b,c]))):=rfl;have s:ZS (some (v,[])) (some (v,[]))=some (v,[]):=by
  show(match oN 6 v v with|true=>some (v,[])|false=>none)=_;rw[hv]
 rw[e,h1,h2,f,g,s,s,s]
abbrev im4:AV:=.imap [(.string ⟨⟨lD⟩⟩,.agg uP.cs),(.string ⟨⟨lC⟩⟩,.agg Xr.cs),(.string ⟨⟨lB⟩⟩,.agg Vu.cs),(.string ⟨⟨lA⟩⟩,.agg Jg.cs)]
def A8z:RT (r! L (n+64)) ES [im4] (.fn (.func EN) [] [.iptr [im4]]):=by unfold RT;kernel_rfl
abbrev oH6:Hp:=[(0,c_ Da [im4])]
abbrev B6U:Hp:=[(4,c_ HZ [.mp 3]),(3,.map false [] (some ([],0))),(2,c_ Ml [.mp 1]),(1,.map false [] (some ([],0))),(0,c_ Da [im4])]
def A5l{F:KV}:(Bc Da Bh [] λa c=>DD Bh a im4 c λd=>F a d)=F (.ptr 0 0 0) oH6:=by kernel_rfl
def A5k{F:AV->KV}:(KR Ab oH6 λk d=>Bc Ml E0 d λa e=>DD E0 a k e λf=>KR Ad f λj g=>Bc HZ Dv g λc h=>DD Dv c j h λi=>F a c i)=F (.ptr 2 0 0) (.ptr 4 0 0) B6U:=by kernel_rfl
def B45:A9 Bh (.ptr 0 0 0) B6U K=K im4:=by kernel_rfl
def A9i{H:Hp}:A9 Bh (.iptr [im4]) H K=K im4:=by kernel_rfl
def A8t(e:40000<L):RT (r! L (n+65)) Nb [Mb] (.tup [Gp [lB,lA,lC,lD],I 0]):=by
 unfold RT;rw[eV];unfold QZ Aq;have he:∀H K,Ak (r! L (n+64)) ES [im4] H K=K (.fn (.func EN) [] [.iptr [im4]]):=λH K=>FQ (A8z (n:=n)) (Az A1m Bq);rw[of4 e,CO,CN,A5l,sK,B6,A5k];refine KF λf c=>?_;rw[B45,he];refine KF λd a=>?_;subst a;subst c;rw[sB,On];unfold GC;rw[A9i,A1w];simp only[Ca];show Gt (L+20) (r! L (n+63)) _ _ ((L+19)+1) _ _ _ _ _ _ _=_;rw[NU];unfold Gu DV Aq;rw[qJ (Av (by simp))];refine B3Z (by kernel_rfl) ?_ ?_ ?_ ?_
 ·as_aux_lemma=>kernel_rfl
 ·as_aux_lemma=>kernel_rfl
 ·as_aux_lemma=>kernel_rfl
 ·as_aux_lemma=>kernel_rfl
end
end Go.Abs
end
