import Derived.Test.YthffkeagibaidaaGreatDoorP28
set_option linter.all false
set_option maxHeartbeats 0
noncomputable section
namespace Go.Abs
open Go.RowKit Go.Proofs
set_option maxRecDepth 100000
section
variable{L n:Nat}
section
variable{K:KV}{x:Af}{gs:dn}{a w o sm:AV}{H:Hp}{ws:List Int}
end
end
section
variable{L n:Nat}
section
variable{K:KV}{x:Af}{H:Hp}{l:List Cu}{p:Cu}{a:AV}
def B4Q{b c:Bool}{K:K2}:Al Sn .eql (Bo b) (Bo c) K=K (Bo (b==c)):=by cases b<;>cases c<;>exact r_ rfl
end
section
variable{K:KV}{x:Af}{H:Hp}{il al sl cp:List Cu}{idk:Cu}{k r rc:Nat}{less:dn}{v:AV}{R:Rt}
def qS{s u:Ha}{K:K2}:Al Ag .geq (S s) (S u) K=K (Bo (!decide (s<u))):=by
 have:Al Ag .geq (S s) (S u) K=bB (!ltB s u) K:=rfl;rw[this,kI,bytesLess_eq,JB]
end
end
section
variable{L n:Nat}
section
variable{α:Type}{f:α->Is}{w:Nat}
def A9Q(c:∀x,(f x).length=w):∀l:List α,(l.flatMap f).length=l.length*w:=by
 intro l
 induction l with
 |nil=>simp
 |cons a l ih=>rw[kL,E6,c,ih,Kg,B!];omega
end
section
variable{gs less:dn}{H:Hp}{K:K2}{D:Nat}
def A3b:∀l:dn,(l.flatMap Cd.cs).all AV.one=true:=by
 intro l
 induction l with
 |nil=>rfl
 |cons c l ih=>rw[kL,List.all_append,IM,ih];rfl
def C06{K:KV}:F4 Ae 68 Ac 0 [] H K=K (.sl 68 (Ay H) 0 0) ((Ay H,.cells false Ae [])::H):=by
 have e:F4 Ae 68 Ac 0 [] H K=GP H (λs=>K (.sl 68 s 0 0) ((s,.cells false Ae [])::H)):=r_ rfl;rw[e,BQ]
end
section
variable{gs:dn}{k:Nat}
end
end
section
variable{L n:Nat}
section
variable{c m:Int}
def wW(hc:J8 c)(hm:0<m)(d:m<9223372036854775808):PS (r! L (n+1)) Ov [I c,I m] (I (pk c m)):=by
 refine CS.ps (λK e=>?_) (λH=>λK=>by kernel_rfl);rw[kD];unfold XA7 Aq;simp only[Ca];exact(jI (K:=λv=>K v []) hc hm d rfl).trans (e _ _ (λb=>⟨false,λK=>by kernel_rfl⟩))
end
section
variable{K:KV}{x:Af}{H:Hp}{l:List Cu}{p:Cu}{a:AV}
def B94(f:SA l a)(hb:l.length<1000)(g:2000<L):CS (r! L (n+2)) To [a,S p] (Bo (decide (p∈l))):=by
 intro K d;rw[sP];unfold Wx;rw[AX (B0v (n:=n) f hb g) (Az (f.fx _) (Az (q:=false) Er Bq))];by_cases h:p∈l
 ·obtain⟨k,hk, -, -,e⟩:=kQ _ 0 h;rw[e,CO,CN];rw[Iz h]at d⊢;exact d _ _ λb=>⟨false,Er⟩
 ·rw[fZ _ 0 h,CO,CN];rw[Iy h]at d⊢;exact d _ _ λb=>⟨false,Er⟩
end
end
section
variable{L n:Nat}
section
variable{H:Hp}{ms gs:dn}{vm:AV}{x0:Af}
end
end
end Go.Abs
end
noncomputable section
namespace Go.Proofs
open Go.Abs
set_option maxRecDepth 100000

end Go.Proofs
end
noncomputable section
namespace Go.Abs
open Go.RowKit Go.Proofs
set_option maxRecDepth 100000
def wZ(gs:dn)(s:Cu):List Cu:=match Qh (gE gs) s with
 |some c=>c.ps
 |none=>[]
inductive Anc(gs:dn)(s:Cu):Cu->Prop
 |one {x:Cu}:x∈gs.map Cd.id->x∈wZ gs s->Anc gs s x
 |more {x y:Cu}:Anc gs s y->x∈gs.map Cd.id->x∈wZ gs y->Anc gs s x
section
variable{gs:dn}{s x y p:Cu}
def Anc.ids(h:Anc gs s x):x∈gs.map Cd.id:=by
 cases h with
 |one h _=>exact h
 |more _ h _=>exact h
end
open Classical in
def B0j(gs:dn)(s:Cu):List Cu:=G9 ((gs.map Cd.id).filter λx=>decide (Anc gs s x))
section
variable{gs:dn}{s x p:Cu}
def zX:x∈B0j gs s↔Anc gs s x:=by
 rw[B0j,(D0 _).mem_iff,l2u,@decide_eq_true_iff _ (_)];exact⟨λh=>h.2,λh=>⟨h.ids,h⟩⟩
def B0i(h:(gs.map Cd.id).Nodup):(B0j gs s).Nodup:=(D0 _).symm.nodup (h.sublist List.filter_sublist)
structure An(gs:dn)(s:Cu)(b ns:List Cu):Prop where
 nd:b.Nodup
 an:∀q∈b,Anc gs s q
 nx:∀q∈ns,q∈wZ gs s\/∃y∈b,q∈wZ gs y
 cl:∀q∈gs.map Cd.id,(q∈wZ gs s\/∃y∈b,q∈wZ gs y)->q∈b\/q∈ns
def An.start:An gs s [] (wZ gs s):=⟨List.nodup_nil,by simp,λq h=>.inl h,λq _ h=>h.elim .inr λ⟨_,h,_⟩=>absurd h (by simp)⟩
def An.fin{b:List Cu}(hn:(gs.map Cd.id).Nodup)(h:An gs s b []):b.Perm (B0j gs s):=by
 refine(List.perm_ext_iff_of_nodup h.nd (B0i hn)).2 λq=>⟨λhq=>zX.2 (h.an q hq),λhq=>?_⟩
 rw[zX]at hq
 induction hq with
 |one h1 h2=>exact(h.cl _ h1 (.inl h2)).elim id λh=>absurd h (by simp)
 |more _ h1 h2 ih=>exact(h.cl _ h1 (.inr ⟨_,ih,h2⟩)).elim id λh=>absurd h (by simp)
end
def A3s(H:Hp)(v:AV)(l:List Cu):Prop:=(v=A7/\l=[])\/∃r o q cs,v=.sl 1 r o l.length/\Ao H r=some (.cells q A0 cs)/\cs.drop o=Bj l/\o+l.length=cs.length
section
variable{H:Hp}{v:AV}{l ps:List Cu}{K:K2}{p:Cu}
def A3s.len(h:A3s H v l):Bi Ad v K=K (I l.length):=by
 rcases h with⟨rfl,rfl⟩|⟨r,o,q,cs,rfl,_⟩<;>exact r_ rfl
theorem A3s.lt(h:A3s H v l)(w:Wf H){u:Nat}(d:AD v u):u<Ay H:=by
 obtain⟨a,b,c,rfl⟩:=d;rcases h with⟨h,_⟩|⟨r,o,q,cs,h1,h2,e⟩
 ·cases h
 ·injection h1 with _ h1;subst h1;exact w.lt h2
end
section
variable{L n:Nat}
section
variable{gs:dn}{s p:Cu}{H:Hp}{K:KV}{x:Af}{ps:List Cu}
end
end
section
variable{L n:Nat}
section
variable{gs:dn}{s:Ha}
end
end
section
variable{L n:Nat}
section
variable{gs:dn}{f:Cu->Bool}{s x y:Cu}
end
section
variable{K:KV}{x:Af}{H:Hp}{gs:dn}{a w:AV}{i:Nat}{R:Rt}
end
section
variable{K:KV}{l:List Cu}
end
end
section
variable{gs:dn}{out l:List Cu}{x y p m:Cu}
structure OrdK(gs:dn)(out:List Cu):Prop where
 nd:out.Nodup
 ids:∀x∈out,x∈gs.map Cd.id
 pr:∀a x b,out=a++x::b->∀p∈wZ gs x,p∈gs.map Cd.id->p∈a
def OrdK.nil:OrdK gs []:=⟨List.nodup_nil,by simp,λa x b h=>by cases a<;>cases h⟩
def jO{α:Type}:∀{l1 l2:List α},l1.Nodup->(∀x∈l1,x∈l2)->l1.length<=l2.length:=by
 intro l1
 induction l1 with
 |nil=>intro _ _ _;exact xQ _
 |cons a l ih=>
  intro l2 hn c;rw[List.nodup_cons]at hn;have e:a∈l2:=c a (by simp);obtain⟨u,v,rfl⟩:=List.append_of_mem e;have:=ih (l2:=u++v) hn.2 λx d=>by
   have h1:=c x (by simp[d]);rw[VP,Rx]at h1;rw[VP];rcases h1 with h1|h1|h1
   ·exact .inl h1
   ·subst h1;exact absurd d hn.1
   ·exact .inr h1
  simp at this⊢;omega
def OrdK.len(h:OrdK gs out):out.length<=gs.length:=by
 have:=jO h.nd h.ids;rw[WV]at this;exact this
def OrdK.all(h:OrdK gs out)(d:gs.length<=out.length)(c:x∈gs.map Cd.id):x∈out:=by
 apply l2x;intro hn;have:=jO (l1:=x::out) (l2:=gs.map Cd.id) (List.nodup_cons.2 ⟨hn,h.nd⟩) λy a=>by
  rcases Rx.1 a with rfl|a
  ·exact c
  ·exact h.ids y a
 rw[WV,Kg]at this;omega
def OrdK.before(h:OrdK gs out){a b:List Cu}(e:out=a++x::b)(c:Anc gs x y):y∈a:=by
 induction c with
 |one h1 h2=>exact h.pr a x b e _ h2 h1
 |more _ h1 h2 ih=>
  obtain⟨u,v,rfl⟩:=List.append_of_mem ih;have:=h.pr u _ (v++x::b) (by rw[e];simp) _ h2 h1;exact List.mem_append_left _ this
end
section
variable{v:AV}
variable{L n:Nat}
section
variable{l:List Cu}{m a b:Cu}{x:Af}{K:KV}{H:Hp}
end
section
variable{l:List Cu}{x:Af}{K:KV}{H:Hp}{fn:AV}{P:Cu->Bool}{R:Rt}
def A76(H:Hp)(v:AV)(l:List Cu):Prop:=(v=A7/\l=[])\/∃r q c,v=.sl 1 r 0 l.length/\Ao H r=some (.cells q A0 (Bj l++c))
def A76.len(h:A76 H v l){K:K2}:Bi Ad v K=K (I l.length):=by
 rcases h with⟨rfl,rfl⟩|⟨r,q,c,rfl,_⟩<;>exact r_ rfl
theorem A76.lt(h:A76 H v l)(w:Wf H){u:Nat}(d:AD v u):u<Ay H:=by
 obtain⟨a,b,c,rfl⟩:=d;rcases h with⟨h,_⟩|⟨r,q,e,h1,h2⟩
 ·cases h
 ·injection h1 with _ h1;subst h1;exact w.lt h2
end
end
section
variable{w:AV}{H0:Hp}
variable{L n:Nat}
abbrev Edg:=Cu×Cu
section
variable{gs:dn}{K:KV}{x:Af}{s0 it:Nat}{Q:List Edg->Hp->Prop}
abbrev XW(gs:dn):AV:=.fn (.func Di) [] [.iptr [gV gs]]
def A5I{r0 s e0 it:Nat}{q0:Bool}{c6 w:AV}{r:Ru}{ks:List Cu}(F:oN 6 w w=true)(q:ks.length<1000000)(i:∀l v H,l.Perm ks->(l=[]->v=A7)->Coll H0 r0 s q0 e0 c6 l v H->r H=some (w,[]))(c:it≠r0/\it≠s/\Ay H0<=it):
 ∀(f:Nat)(es:List (Cu×Cd))(l:List Cu)(v:AV)(H:Hp)(o:Option (Value×AV)),es.length<f->(l++es.map Prod.fst).Perm ks->(l=[]->v=A7)->Coll H0 r0 s q0 e0 c6 l v H->¬AD v it->Ao H it=some (.iter (Rb V4 es) o)->
 B8 (L+20) (r! L (n+1)) K r f (.yl s) (.it it) H=some (w,[]):=by
 intro f
 induction f with
 |zero=>intro es l v H o h;omega
 |succ f ih=>
  intro es l v H o C m B hc hv p;rw[F1];unfold Ci;refine B46 (f:=V4) F p (λe=>?_) (λa e b he=>?_)
  ·subst e;rw[A0c,B6];exact i l v H (by simpa using m) B hc
  ·subst he;have g:=hc.it (.iter (Rb V4 (a++b)) (some (.string ⟨⟨e.1⟩⟩,V4 e.2))) c hv;have d:=U_ (es:=Rb V4 (a++b)) (o:=some (.string ⟨⟨e.1⟩⟩,V4 e.2)) p;have k:(l++(a++e::b).map Prod.fst).length=ks.length:=m.length_eq;simp at k;have u:pN (.string ⟨⟨e.1⟩⟩)=S e.1:=rfl;rw[A0c,Dg,A33 d,A0c,u];refine A8G g (by omega) λJ t j hk hr=>?_;rw[MQ];show A1 (.v (.bool false)) _ _=_;rw[B6];refine ih (a++b) (l++[e.1]) J t _ (by simp at C⊢;omega) ?_ (by simp) j (λD=>?_) (hk it _ c.1 c.2.1 hv d)
   ·refine List.Perm.trans ?_ m;simp only[UT,Zm,fW];refine List.Perm.append_left l ?_;show(e.1::(a.map Prod.fst++b.map Prod.fst)).Perm _;exact List.perm_middle.symm
   ·have y:=hr it D;have A:=g.wf.lt d;rw[CU]at y A;omega
def J'(C:oN 6 w w=true)(M:gs.length<=9)(J:100<L)(wf:Wf H0)(D:∀l v H,l.Perm (gs.map Cd.id)->(l=[]->v=A7)->NewSl H0 l v H->K v H=some (w,[])):
 (r! L (n+4)).call FH [XW gs] H0 K=some (w,[]):=by
 rw[J9];unfold FD;rw[FE];unfold CI;simp only[Ca];rw[tW (by rfl),sB,F8];unfold Cj;simp only[Ca];have w1:=Bw (x:=.cells true BP [A7]) wf;have d:=Av (H:=H0) (x:=.cells true BP [A7]) (by simp);have A:Ay ((Ay H0,c_ BP [A7])::H0)=Ay H0+1:=rfl;have j:Wf ((Ay H0+1,TO (.ptr (Ay H0) 0 0) (XW gs) (some none))::(Ay H0,c_ BP [A7])::H0):=Bw (x:=TO (.ptr (Ay H0) 0 0) (XW gs) (some none)) w1;have f:Ao ((Ay H0+1,TO (.ptr (Ay H0) 0 0) (XW gs) (some none))::(Ay H0,c_ BP [A7])::H0) (Ay H0+1)=some (TO (.ptr (Ay H0) 0 0) (XW gs) (some none)):=Av (H:=((Ay H0,c_ BP [A7])::H0)) (x:=TO (.ptr (Ay H0) 0 0) (XW gs) (some none)) (by simp[TO]);have ol:∀u y,Ao H0 u=some y->Ao ((Ay H0+1,TO (.ptr (Ay H0) 0 0) (XW gs) (some none))::(Ay H0,c_ BP [A7])::H0) u=some y:=λu y a=>by
  have a1:=AQ (x:=.cells true BP [A7]) (wf.lt a) a;exact AQ (w1.lt a1) a1
 have m:∀{H:Hp}{K:K2},A9 Bh (.iptr [gV gs]) H K=K (gV gs):=λ{H K}=>Rm rfl;rw[m,A1w];have e:Ao ((Ay H0+1,TO (.ptr (Ay H0) 0 0) (XW gs) (some none))::(Ay H0,c_ BP [A7])::H0) (Ay H0)=some (c_ BP [A7]):=AQ (w1.lt d) d;show B8 (L+20) (r! L (n+1)) _ _ (L+20) (.yl (Ay H0+1)) (.it (Ay ((Ay H0+1,TO (.ptr (Ay H0) 0 0) (XW gs) (some none))::(Ay H0,c_ BP [A7])::H0))) ((Ay ((Ay H0+1,TO (.ptr (Ay H0) 0 0) (XW gs) (some none))::(Ay H0,c_ BP [A7])::H0),.iter (Rb V4 (gE gs)) none)::((Ay H0+1,TO (.ptr (Ay H0) 0 0) (XW gs) (some none))::(Ay H0,c_ BP [A7])::H0))=_;generalize g:((Ay H0+1,TO (.ptr (Ay H0) 0 0) (XW gs) (some none))::(Ay H0,c_ BP [A7])::H0:Hp)=c at j f ol e;have t:Ay c=Ay H0+2:=by rw[<-g];rfl
 have F:=Bw (x:=.iter (Rb V4 (gE gs)) none) j;have up:∀u y,Ao c u=some y->Ao ((Ay c,Row.iter (Rb V4 (gE gs)) none)::c) u=some y:=λu y k=>AQ (j.lt k) k;have i:Ao ((Ay c,Row.iter (Rb V4 (gE gs)) none)::c) (Ay c)=some (.iter (Rb V4 (gE gs)) none):=Av (by simp);have r:(gE gs).length=gs.length:=by simp[gE]
 refine A5I (n:=n) (H0:=H0) (r0:=Ay H0) (s:=Ay H0+1) (it:=Ay c) (q0:=true) (e0:=BP) (c6:=XW gs) (ks:=gs.map Cd.id) C (by rw[WV];omega) ?_ (by omega) (L+20) (gE gs) [] A7 _ none (by omega) (by rw[l30,A5S]) (λ_=>rfl)
  ⟨up _ _ e,.inl ⟨rfl,rfl,rfl⟩,up _ _ f,λu ⟨_,_,_,h⟩=>(by cases h),F,λu y a=>up u y (ol u y a),by omega,by omega,by omega,wf⟩ (λ⟨_,_,_,h⟩=>(by cases h)) i
 intro l v H B q hc;show IZ H (Ay H0+1) _=_;rw[BO hc.lp];show XA5 H (Ay H0+1) .gone _=_;rw[CX];have hr:Ao (upd H (Ay H0+1) .gone) (Ay H0)=some (c_ BP [v]):=by rw[Aj (by omega)];exact hc.at_
 show A9 Ad (.ptr (Ay H0) 0 0) (upd H (Ay H0+1) .gone) _=_;rw[AH (p:=0) rfl hr (by simp)];refine D _ _ _ B q ⟨?_,λu a=>(hc.new u a).2.2,BF hc.wf,λu y a=>?_,?_⟩
 ·exact hc.sl.lat hc.wf (Lat.upd H _ _ (P:=λu=>u=Ay H0+1) rfl) (λu a=>(hc.new u a).2.1)
 ·have:=wf.lt a;rw[Aj (by omega)];exact hc.keep u y a
 ·rw[CU];have:=hc.wf.lt hc.at_;omega
def A43(m:oN 6 w w=true)(k:gs.length<=9)(j:100<L)(wf:Wf H0)(p:∀v H,NewSl H0 (G9 (gs.map Cd.id)) v H->(gs=[]->v=A7)->K v H=some (w,[])):(r! L (n+6)).call HE [gV gs] H0 K=some (w,[]):=by
 rw[TM];unfold JH;have ky:∀{K:K2},Ak (r! L (n+5)) Cw [gV gs] H0 K=K (XW gs):=λ{K}=>by
  refine HF (λK i=>?_) (Az (q:=false) A1m Bq);rw[show n+5=(n+4)+1 from rfl,Gs];unfold Cv GO;have g:∀{H:Hp}{K:KV},HT Da (gV gs) H K=K (.ptr (Ay H) 0 0) ((Ay H,c_ Da [gV gs])::H):=λ{H K}=>B50;rw[g];exact i _ _ ⟨true,λK=>by kernel_rfl⟩
 rw[ky,Ka];unfold FW;refine J' (n:=n) m k j wf λl v H c d hc=>?_;refine B1t (n:=n) wf (by rw[c.length_eq,WV];omega) d hc λf a=>?_;have e:G9 l=G9 (gs.map Cd.id):=VY ((D0 l).trans (c.trans (D0 _).symm)) (L8 l) (L8 _);rw[e]at a;refine p v f a λh=>d ?_;subst h;exact tC (by rw[c.length_eq];rfl)
end
end
section
variable{L n:Nat}
section
variable{α:Type}{f:α->AV}{b:List (Cu×α)}{x:Cu}{H:Hp}
end
def lpH(gs:dn)(p:Option (Option Code)):Row:=.loop 32 [(2,A7),(3,gV gs),(5,.ptr 1 0 0),(8,.dk),(16,.it 2),(25,B9J gs),(27,.dk),(28,.dk),(29,.dk)] (Gj).2.1 (Gj).2.2.1 (Gj).2.2.2 p
structure Hs(gs:dn)(es:List Edg)(b:List (Cu×Unit))(H:Hp):Prop where
 mm:Ao H 0=some (.map false (Rb uS b) none)
 st:Ao H 1=some (c_ Um [.mp 0])
 lp:Ao H 3=some (lpH gs (some none))
 wf:Wf H
 nd:(b.map Prod.fst).Nodup
 ky:∀x,x∈b.map Prod.fst↔x∈gs.map Cd.id/\∀e∈es,e.2≠x
section
variable{gs:dn}{K:KV}{x:Af}
end
end
section
variable{L n:Nat}
section
variable{H H':Hp}{K:KV}{x:Af}{v:AV}{l:List Cu}
def WC{r:Nat}{x:Row}{es:IH}{a:Option (Hb×Nat)}(h:Ao H r=some x):Ao (upd H r (.map false es a)) r=some (.map false es a):=(Et h).trans rfl
end
section
variable{H:Hp}{K:KV}{D:Nat}{b:Bool}
end
section
variable{gs:dn}{ws:List (Cu×Nat)}{ch:List (Cu×AV)}{b1 b3:Option (Hb×Nat)}{wt:Cu->Nat}{ct:Cu->List Cu}{H H':Hp}{s p:Cu}
end
def chE(gs:dn)(es:List Edg)(p:Cu):List Cu:=(es.filter λe=>decide (e.2=p)&&decide (p∈gs.map Cd.id)).map Prod.fst
section
variable{gs:dn}
end
end
section
variable{L n:Nat}
def wtF(gs:dn)(es:List Edg)(out rem:List Cu)(x:Cu):Nat:=(es.filter λe=>decide (e.1=x)&&(decide (e.2∈gs.map Cd.id)&&decide (e.2∉out))).length+rem.count x
section
variable{gs:dn}{es:List Edg}{out rem l:List Cu}{x c m:Cu}
def A7B(h1:m∈gs.map Cd.id)(h2:m∉out):wtF gs es (out++[m]) (chE gs es m)=wtF gs es out []:=by
 funext x
 unfold wtF chE;rw[List.count_nil,Nat.add_zero]
 induction es with
 |nil=>rfl
 |cons e es ih=>
  rw[l2h,l2h,l2h];by_cases hm:e.2=m
  ·have a:(decide (e.1=x)&&(decide (e.2∈gs.map Cd.id)&&decide (e.2∉out++[m])))=false:=by simp[hm]
   have d:(decide (e.2=m)&&decide (m∈gs.map Cd.id))=true:=by rw[Iz hm,Iz h1];rfl
   by_cases f:e.1=x
   ·have g:(decide (e.1=x)&&(decide (e.2∈gs.map Cd.id)&&decide (e.2∉out)))=true:=by rw[Iz f,hm,Iz h1,Iz h2];rfl
    have h:(e.1==x)=true:=by simp[f]
    simp only[a,d,g,h,mL,if_false,if_true,Zm,Kg,List.count_cons];omega
   ·have g:(decide (e.1=x)&&(decide (e.2∈gs.map Cd.id)&&decide (e.2∉out)))=false:=by rw[Iy f];rfl
    have h:(e.1==x)=false:=by simp[f]
    simp only[a,d,g,h,mL,if_false,if_true,Zm,List.count_cons];omega
  ·have d:(decide (e.2=m)&&decide (m∈gs.map Cd.id))=false:=by rw[Iy hm];rfl
   have a:decide (e.2∉out++[m])=decide (e.2∉out):=by simp[hm]
   cases hb:(decide (e.1=x)&&(decide (e.2∈gs.map Cd.id)&&decide (e.2∉out))) with
   |true=>
    simp only[a,d,hb,mL,if_false,if_true,Kg];omega
   |false=>
    simp only[a,d,hb,mL,if_false];exact ih
structure Ri(gs:dn)(es:List Edg)(out rem l:List Cu):Prop where
 nd:l.Nodup
 mem:∀x,x∈l↔x∈gs.map Cd.id/\x∉out/\wtF gs es out rem x=0
 jz:∀x∈out,wtF gs es out rem x=0
 rid:∀x∈rem,x∈gs.map Cd.id
def Ri.len(h:Ri gs es out rem l):l.length<=gs.length:=by
 have:=jO h.nd λx a=>((h.mem x).1 a).1;rw[WV]at this;exact this
def Ri.take(h:Ri gs es out [] l)(i:∀e∈es,e.1∈gs.map Cd.id)(hm:m∈l):Ri gs es (out++[m]) (chE gs es m) (l.filter λs=>!decide (s=m)):=by
 obtain⟨h1,h2,p⟩:=(h.mem m).1 hm;have j:wtF gs es (out++[m]) (chE gs es m)=wtF gs es out []:=A7B h1 h2;refine⟨h.nd.sublist List.filter_sublist,λx=>?_,λx a=>?_,λx a=>?_⟩
 ·rw[j,l2u,h.mem,VP,eX];constructor
  ·rintro⟨⟨a1,a2,f⟩,k⟩;have g:x≠m:=by simpa using k
   exact⟨a1,λd=>d.elim a2 g,f⟩
  ·rintro⟨a1,a2,f⟩;refine⟨⟨a1,λd=>a2 (.inl d),f⟩,?_⟩;have:x≠m:=λd=>a2 (.inr d);simp[this]
 ·rw[j];rcases VP.1 a with a|a
  ·exact h.jz x a
  ·rw[eX]at a;subst a;exact p
 ·obtain⟨e,he,rfl⟩:=US.1 a;exact i e (l2u.1 he).1
end
section
variable{H:Hp}{v:AV}{l:List Cu}
def AT.ia(h:AT H A0 1 v l.length (Bj l)){i:Nat}(d:i<l.length):∃a,(∀K:K2,Cy Ad v (I (i:Int)) K=K a)/\∀K:K2,A9 Ag a H K=K (S l[i]):=by
 rcases h with⟨_,h2,_⟩|⟨r,q,rfl,h2,_⟩
 ·omega
 ·exact⟨.ptr r i 0,λK=>gH d,λK=>tU h2 d⟩
end
section
variable{gs:dn}{es:List Edg}{out l:List Cu}{ws:List (Cu×Nat)}{ch:List (Cu×AV)}{b1 b3:Option (Hb×Nat)}{rv ov:AV}{K:KV}{x:Af}{ct:Cu->List Cu}
end
end
section
variable{L n:Nat}
section
variable{gs:dn}{x:Af}
end
end
section
variable{gs ls S T:dn}{x y p:Cu}{c:Cd}
def Th(hn:(gs.map Cd.id).Nodup)(hc:c∈gs):Qh (gE gs) c.id=some c:=by
 induction gs with
 |nil=>cases hc
 |cons d gs ih=>
  rw[Zm,List.nodup_cons]at hn;show Qh ((d.id,d)::gE gs) c.id=some c;unfold Qh;rcases Rx.1 hc with rfl|hc
  ·rw[CJ rfl]
  ·have:d.id≠c.id:=λe=>hn.1 (e▸US.2 ⟨c,hc,rfl⟩);rw[Co this];exact ih hn.2 hc
inductive Cmp(S:dn):Cu->Prop
 |mk {c:Cd}:c∈S->(∀p∈c.ps,Cmp S p)->Cmp S c.id
def Cmp.mono(a:∀c∈S,c∈T)(h:Cmp S x):Cmp T x:=by
 induction h with
 |mk h1 _ ih=>exact .mk (a _ h1) ih
end

section
variable{S T:dn}{x:Cu}
end
end Go.Abs
end
noncomputable section
end
noncomputable section
end
noncomputable section
namespace Go.Abs
open Go.RowKit Go.Proofs
set_option maxRecDepth 100000
section
variable{L n:Nat}
section
variable{e sz m:Nat}{ie i2:TI}{cs:Is}
def Pln(sz:Nat)(a:AV):Prop:=a=A7\/∃m cs,a=.list (m+1) cs/\cs.length=(m+1)*sz/\cs.all AV.one=true/\cs.all isV=true/\m<999
end
def Cd.fT(c:Cd):AV:=(c.csP A7).getD 28 .dk
def Cd.fI(c:Cd):AV:=(c.csP A7).getD 33 .dk
def Cd.fN(c:Cd):AV:=(c.csP A7).getD 34 .dk
def Pln.cell{sz:Nat}{a:AV}(h:Pln sz a):Br a=[a]/\AV.one a=true:=by
 rcases h with rfl|⟨m,cs,rfl,_⟩<;>exact⟨rfl,rfl⟩
def A3s.cell{H:Hp}{v:AV}{l:List Cu}(h:A3s H v l):Br v=[v]/\AV.one v=true:=by
 rcases h with⟨rfl,_⟩|⟨_,_,_,_,rfl,_⟩<;>exact⟨rfl,rfl⟩
end
section
variable{L n:Nat}
section
variable{l:List Cu}{H:Hp}{K:KV}{x:Af}{R:Rt}
end
end
section
variable{L n:Nat}
section
variable{l:List Cu}{P:Cu->Bool}
end
section
variable{S out:dn}{x:Cu}
structure Ps(S out:dn):Prop where
 nd:(out.map Cd.id).Nodup
 sub:∀c∈out,c∈S
 cmp:∀c∈out,Cmp S c.id
def Ps.nil:Ps S []:=⟨List.nodup_nil,by simp,by simp⟩
def Ps.add(h:Ps S out){c:Cd}(hc:c∈S)(m:∀p∈c.ps,p∈out.map Cd.id)(hn:c.id∉out.map Cd.id):Ps S (out++[c]):=by
 have g:Cmp S c.id:=.mk hc λp j=>by
  obtain⟨d,f,i⟩:=US.1 (m p j);rw[<-i];exact h.cmp d f
 refine⟨?_,λd f=>?_,λd f=>?_⟩
 ·rw[UT];refine l2w.2 ⟨h.nd,by simp,λa k b hb=>?_⟩;simp at hb;subst hb;exact λe=>hn (e▸k)
 ·rcases VP.1 f with f|f
  ·exact h.sub d f
  ·rw[eX]at f;subst f;exact hc
 ·rcases VP.1 f with f|f
  ·exact h.cmp d f
  ·rw[eX]at f;subst f;exact g
def Ps.len(h:Ps S out):out.length<=S.length:=by
 have:=jO h.nd (l2:=S.map Cd.id) λx a=>by
  obtain⟨c,hc,rfl⟩:=US.1 a;exact US.2 ⟨c,h.sub c hc,rfl⟩
 rw[WV,WV]at this;exact this
end
end
inductive PC where
 |c (d:Cd)
 |z
def PC.cells:PC->Is
 |.c d=>d.cs
 |.z=>BG
structure Pk where
 kd:Int
 ds:List Cu
 cs:List PC
structure StIn(l S:dn):Prop where
 sub:∀c∈S,c∈l
 nd:(S.map Cd.id).Nodup
section
variable{l S T:dn}{c d:Cd}{p:Pk}{x:Cu}
def StIn.len(h:StIn l S):S.length<=l.length:=by
 have:=jO h.nd (l2:=l.map Cd.id) λx a=>by
  obtain⟨c,hc,rfl⟩:=US.1 a;exact US.2 ⟨c,h.sub c hc,rfl⟩
 rw[WV,WV]at this;exact this
def StIn.nil:StIn l []:=⟨by simp,List.nodup_nil⟩
def StIn.own(h:StIn l S)(f:GOk l)(hc:c∈l)(g:c.id∈S.map Cd.id):c∈S:=by
 obtain⟨d,a,e⟩:=US.1 g;have a1:=Th f.ids hc;have a2:=Th f.ids (h.sub d a);rw[e,a1]at a2;rw[l26 a2];exact a
end
section
variable{L n:Nat}
section
variable{A out:dn}{s:Cu}{H:Hp}{K:KV}{x:Af}
structure Cp(H0:Hp)(m rb:Nat)(out:dn)(H:Hp):Prop where
 mm:Ao H m=some (.map false (Rb V4 (gE out)) none)
 bb:Ao H rb=some (c_ NG [.mp m])
 wf:Wf H
 keep:∀u y,Ao H0 u=some y->Ao H u=some y
 m0:Ay H0<=m
 b0:Ay H0<=rb
 w0:Wf H0
theorem Cp.it{H0:Hp}{m rb it:Nat}(h:Cp H0 m rb out H)(y:Row)(h1:it≠m/\it≠rb/\Ay H0<=it):Cp H0 m rb out (upd H it y):=
 ⟨by rw[Aj h1.1.symm];exact h.mm,by rw[Aj h1.2.1.symm];exact h.bb,BF h.wf,λu z a=>by rw[Aj (by have:=h.w0.lt a;omega)];exact h.keep u z a,h.m0,h.b0,h.w0⟩
end
end
section
variable{L n:Nat}
section
variable{A out:dn}{s:Cu}{H:Hp}{K:KV}{x:Af}
end
end
section
variable{L n:Nat}
end
section
variable{F:K2}
variable{L n:Nat}
def SAt(H:Hp)(v:AV)(l:List Cu):Prop:=SA l v\/A76 H v l
section
variable{H H' H0:Hp}{v x iv:AV}{l ids:List Cu}{A:dn}{K:KV}{w:AV}
theorem SAt.len(h:SAt H v l):Bi Ad v F=F (I l.length):=by
 rcases h with h|h
 ·exact h.len
 ·exact h.len
def SAt.get(h:SAt H v l){i:Nat}(a:i<l.length):(Cy Ad v (I i) λp=>A9 Ag p H F)=F (S l[i]):=by
 rcases h with h|h
 ·rw[h.ia a,IK]
 ·rcases h with⟨rfl,rfl⟩|⟨r,q,c,rfl,h2⟩
  ·simp at a
  ·rw[gH a,AH (p:=i) rfl h2 (by rw[E6,Ef];omega),Tc,l0l (by rw[Ef];exact a)];unfold Bj;rw[pS,II a];rfl
end
end
section
variable{p q:AV->Bool}
variable{L n:Nat}
def B57(c:Cd)(g:∀z,p (I z)=true)(h:∀s,p (S s)=true)(hn:p A7=true)(a:p c.fT=true)(d:p c.fI=true)(e:p c.fN=true)(f:p (Gp c.ps)=true):c.cs.all p=true:=by
 match c,a,d,e,f with
 |.re b u,a,_,_,_=>
  have a:p (Ek b.ts)=true:=a;show(Dj 1 b.m (uu u) (qn b.c) (qd b.c) (Ek b.ts) (qn b.r) (qd b.r) A7 0 A7 A7 u0 r0 0).all p=true;simp only[W?,l2z,g,h,hn,a,uT]
 |.co b q ps none,a,d,e,f=>
  have a:p (Ek b.ts)=true:=a;have d:p (Bz q.ks)=true:=d;have e:p (BL q.xs)=true:=e;have f:p (Gp ps)=true:=f;show(Dj 2 b.m (uu q.out) (qn b.c) (qd b.c) (Ek b.ts) (qn b.r) (qd b.r) (Gp ps) q.id (Bz q.ks) (BL q.xs) (uu q.out) r0 0).all p=true;simp only[W?,l2z,g,h,hn,a,d,e,f,uT]
 |.co b q ps (some (k,vd)),a,d,e,f=>
  have a:p (Ek b.ts)=true:=a;have d:p (Bz q.ks)=true:=d;have e:p (BL q.xs)=true:=e;have f:p (Gp ps)=true:=f;show(Dj 3 b.m (uu q.out) (qn b.c) (qd b.c) (Ek b.ts) (qn b.r) (qd b.r) (Gp ps) q.id (Bz q.ks) (BL q.xs) (uu q.out) (rr k) vd).all p=true;simp only[W?,l2z,g,h,hn,a,d,e,f,uT]
def A4d(h:∀t:Int×Int,(Mh t).all q=true)(ts:ZM):(ts.flatMap Mh).all q=true:=by
 rw[Gb];intro x d;obtain⟨a,_,c⟩:=l2y.1 d;exact Gb.1 (h a) x c
def A5M(h:∀k:Nat,(FN k).all q=true)(ks:Hb):(ks.flatMap FN).all q=true:=by
 rw[Gb];intro x d;obtain⟨a,_,c⟩:=l2y.1 d;exact Gb.1 (h a) x c
def A5r(h:∀y:Nd,(xB y).all q=true)(xs:List Nd):(xs.flatMap xB).all q=true:=by
 rw[Gb];intro x d;obtain⟨a,_,c⟩:=l2y.1 d;exact Gb.1 (h a) x c
def A4g(h:∀s,q (S s)=true)(l:List Cu):(Bj l).all q=true:=by
 rw[Gb];intro x c;obtain⟨a,_,rfl⟩:=US.1 c;exact h a
def A4c(hn:p A7=true)(a:∀n l,l.all Wc=true->l.all (pl 4)=true->p (.list n l)=true)(ts:ZM):p (Ek ts)=true:=by
 cases ts with
 |nil=>exact hn
 |cons t ts=>exact a _ _ (A4d (λ_=>rfl) _) (A4d (λ_=>rfl) _)
def B0R(hn:p A7=true)(a:∀n l,l.all Wc=true->l.all (pl 4)=true->p (.list n l)=true)(ks:Hb):p (Bz ks)=true:=by
 cases ks with
 |nil=>exact a _ _ rfl rfl
 |cons t ts=>exact a _ _ (A5M (λ_=>rfl) _) (A5M (λ_=>rfl) _)
def B0E(hn:p A7=true)(a:∀n l,l.all Wc=true->l.all (pl 4)=true->p (.list n l)=true)(xs:List Nd):p (BL xs)=true:=by
 cases xs with
 |nil=>exact a _ _ rfl rfl
 |cons t ts=>exact a _ _ (A5r (λ_=>rfl) _) (A5r (λ_=>rfl) _)
def B6L(hn:p A7=true)(a:∀n l,l.all Wc=true->l.all (pl 4)=true->p (.list n l)=true)(ps:List Cu):p (Gp ps)=true:=by
 cases ps with
 |nil=>exact hn
 |cons t ts=>exact a _ _ (A4g (λ_=>rfl) _) (A4g (λ_=>rfl) _)
def B56(c:Cd)(d:∀z,p (I z)=true)(e:∀s,p (S s)=true)(hn:p A7=true)(a:∀n l,l.all Wc=true->l.all (pl 4)=true->p (.list n l)=true):c.cs.all p=true:=by
 refine B57 c d e hn ?_ ?_ ?_ (B6L hn a _)
 ·match c with
  |.re b u=>exact A4c hn a b.ts
  |.co b q ps none=>exact A4c hn a b.ts
  |.co b q ps (some (k,vd))=>exact A4c hn a b.ts
 ·match c with
  |.re b u=>exact hn
  |.co b q ps none=>exact B0R hn a q.ks
  |.co b q ps (some (k,vd))=>exact B0R hn a q.ks
 ·match c with
  |.re b u=>exact hn
  |.co b q ps none=>exact B0E hn a q.xs
  |.co b q ps (some (k,vd))=>exact B0E hn a q.xs
def B5b(c:Cd):c.cs.all (pl 5)=true:=B56 c (λ_=>rfl) (λ_=>rfl) rfl λ_ _ _ h=>h
section
variable{H:Hp}{D:Nat}
end
def A5U{D:Nat}{H:Hp}{l:dn}{v:AV}(h:AT H Ae 68 v l.length (l.flatMap Cd.cs))(d:l=[]->v=A7):∃q,Fx true (D+1) v (sV l) H q:=by
 cases l with
 |nil=>exact⟨false,by rw[d rfl];exact Er⟩
 |cons c l=>
  rcases h with⟨_,h1,_⟩|⟨r,q,rfl,h2,e⟩
  ·simp at h1
  ·exact⟨true,UW (q':=false) h2 e (tJ _ (by
    rw[Gb];intro x g;obtain⟨a,_,f⟩:=l2y.1 g;exact Gb.1 (B56 (p:=tL) a (λ_=>rfl) (λ_=>rfl) rfl λ_ _ _ _=>rfl) x f))⟩
section
variable{A:dn}{H:Hp}{x:AV}{w:AV}{K:KV}
end
end
section
variable{L n:Nat}
section
variable{H:Hp}{K:K2}{a b:Ha}{x0:Af}
def B86{z:Int}{F:K2}{ty:TI}:Al ty .eql (I z) (I z) F=F (Bo true):=by rw[CP,Iz rfl]
end
section
variable{H:Hp}{K:KV}{x0:Af}{a b:Nat}
def A9a{l:List Cu}:Fx true depth (Gp l) (Gp l) H false:=by cases l<;>exact λK=>by kernel_rfl
variable{kd:Int}{m:ND}{u:UD}{ca cb:Ha}{T:AV}{ra rb:Ha}{P:AV}{id:Int}{ins nds:AV}{o:UD}{r:RD}{vd:Int}
end
end
def Cd.b:Cd->CB
 |.re b _=>b
 |.co b _ _ _=>b
def Pm(c:Cd):Int×Int:=(c.b.m.lab,c.b.m.num)
def nmX(gs:dn)(x:Oe):Int×Int:=match Qh (gE gs) x with
 |some c=>Pm c
 |none=>(0,0)
def yH(nm:Oe->Int×Int)(pre:List Oe):List Oe->List Ld
 |[]=>[]
 |x::l=>((pre.filter λy=>nm y=nm x).map λy=>(y,x))++yH nm (pre++[x]) l
def Ee(gs:dn):List Ld:=Hj (yH (nmX gs) [] (G9 (gs.map Cd.id)))
section
variable{gs ls:dn}{nm:Oe->Int×Int}{x y:Oe}{p:Ld}{c:Cd}
def A1p:∀{l pre:List Oe},(pre++l).Pairwise (· < ·)->(p∈yH nm pre l↔p.2∈l/\p.1∈pre++l/\p.1<p.2/\nm p.1=nm p.2):=by
 intro l
 induction l with
 |nil=>intro pre _;simp[yH]
 |cons x l ih=>
  intro pre k;have h:(pre++[x]++l).Pairwise (· < ·):=by simpa using k
  obtain⟨s,j,g⟩:=List.pairwise_append.1 k;obtain⟨q,j⟩:=l2k.1 j;rw[yH,VP,ih h,US];obtain⟨a,b⟩:=p;constructor
  ·rintro(⟨y,r,he⟩|⟨h1,h2,d⟩)
   ·obtain⟨e,i⟩:=l2u.1 r;injection he with m n
    subst m n;exact⟨List.mem_cons_self,VP.2 (.inl e),g _ e _ List.mem_cons_self,by simpa using i⟩
   ·exact⟨List.mem_cons_of_mem _ h1,by simpa using h2,d⟩
  ·rintro⟨h1,h2,d,f⟩;simp only at h1 h2 d f⊢;rcases Rx.1 h1 with rfl|h1
   ·left;refine⟨a,l2u.2 ⟨?_,by simpa using f⟩,rfl⟩;rcases VP.1 h2 with h2|h2
    ·exact h2
    ·rcases Rx.1 h2 with rfl|h2
     ·exact absurd d (De _)
     ·exact absurd (Lg d (q _ h2)) (De _)
   ·right;exact⟨h1,by simpa using h2,d,f⟩
def B4J:∀{l pre:List Oe},(pre++l).Pairwise (· < ·)->(yH nm pre l).Nodup:=by
 intro l
 induction l with
 |nil=>intro pre _;simp[yH]
 |cons x l ih=>
  intro pre j;have d:(pre++[x]++l).Pairwise (· < ·):=by simpa using j
  obtain⟨m,i,n⟩:=List.pairwise_append.1 j;obtain⟨r,i⟩:=l2k.1 i;have f:pre.Nodup:=m.imp λh e=>by subst e;exact De _ h
  rw[yH,l2w];refine⟨?_,ih d,?_⟩
  ·refine List.Pairwise.map _ (λa b h e=>h (by injection e)) (f.sublist List.filter_sublist)
  ·rintro⟨a,b⟩ h1 q h2 rfl;obtain⟨y,_,he⟩:=US.1 h1;injection he with s k
   have:=(A1p d).1 h2;have g:=r _ this.1;rw[<-k]at g;exact De _ g
def xV{l:List Oe}(hn:l.Nodup):(G9 l).Pairwise (· < ·):=by
 have h1:=L8 l;have h2:(G9 l).Nodup:=(D0 l).symm.nodup hn;exact(h1.and h2).imp λh=>Mn h.1 h.2
def XC(hn:(gs.map Cd.id).Nodup)(hc:c∈gs):nmX gs c.id=Pm c:=by
 unfold nmX;rw[Th hn hc]
def ML(hn:(gs.map Cd.id).Nodup):p∈Ee gs↔p.1<p.2/\∃c∈gs,∃d∈gs,c.id=p.1/\d.id=p.2/\Pm c=Pm d:=by
 unfold Ee;rw[(HV _).mem_iff,A1p (by simpa using xV hn)];simp only[l30,(D0 _).mem_iff,US];constructor
 ·rintro⟨⟨d,f,e⟩,⟨c,hc,a⟩,h,g⟩;refine⟨h,c,hc,d,f,a,e,?_⟩;rw[<-a,<-e,XC hn hc,XC hn f]at g;exact g
 ·rintro⟨h,c,hc,d,f,a,e,g⟩;exact⟨⟨d,f,e⟩,⟨c,hc,a⟩,h,by rw[<-a,<-e,XC hn hc,XC hn f];exact g⟩
def Zw(hn:(gs.map Cd.id).Nodup):(Ee gs).Nodup:=(HV _).symm.nodup (B4J (by simpa using xV hn))
def A5V:(Ee gs).Pairwise Mu:=Re _
def mkP(x y:Oe):Ld:=if x<y then(x,y) else(y,x)
def Va(hn:((gs++[c]).map Cd.id).Nodup):(Ee (gs++[c])).Perm (Ee gs++((gs.filter λd=>Pm d=Pm c).map λd=>mkP d.id c.id)):=by
 have m:(gs.map Cd.id).Nodup:=by rw[UT]at hn;exact(l2w.1 hn).1
 have hc:c.id∉gs.map Cd.id:=λh=>by
  rw[UT]at hn;exact(l2w.1 hn).2.2 _ h c.id (by simp) rfl
 have j:∀d∈gs,d.id≠c.id:=λd j e=>hc (US.2 ⟨d,j,e⟩);have new:∀q,q∈((gs.filter λd=>Pm d=Pm c).map λd=>mkP d.id c.id)↔∃d∈gs,Pm d=Pm c/\(q=(d.id,c.id)/\d.id<c.id\/q=(c.id,d.id)/\c.id<d.id):=by
  intro q;rw[US];constructor
  ·rintro⟨d,h1,rfl⟩;obtain⟨h1,h2⟩:=l2u.1 h1;refine⟨d,h1,by simpa using h2,?_⟩;unfold mkP;by_cases h:d.id<c.id
   ·rw[CJ h];exact .inl ⟨rfl,h⟩
   ·rw[Co h];exact .inr ⟨rfl,Mn (MU.1 h) (j d h1).symm⟩
  ·rintro⟨d,h1,h2,r⟩;refine⟨d,l2u.2 ⟨h1,by simpa using h2⟩,?_⟩;unfold mkP;rcases r with⟨rfl,h⟩|⟨rfl,h⟩
   ·rw[CJ h]
   ·rw[Co (λk=>De _ (Lg h k))]
 refine(List.perm_ext_iff_of_nodup (Zw hn) ?_).2 λq=>?_
 ·refine l2w.2 ⟨Zw m,?_,?_⟩
  ·have u:(gs.filter λd=>Pm d=Pm c).Pairwise λa b=>a.id≠b.id:=
    ((List.pairwise_map.1 m).sublist List.filter_sublist)
   refine List.pairwise_map.2 (List.Pairwise.imp_of_mem (λ{a b}g hb h e=>?_) u);have h1:=j a (l2u.1 g).1;have h2:=j b (l2u.1 hb).1;unfold mkP at e;split at e<;>split at e<;>injection e with f i
   ·exact h f
   ·exact h1 f
   ·exact h2 f.symm
   ·exact h i
  ·rintro q h1 A h2 rfl;obtain⟨d,r,w,v⟩:=(new q).1 h2;obtain⟨_,a,g,b,hb,f,i,_⟩:=(ML m).1 h1;rcases v with⟨rfl,_⟩|⟨rfl,_⟩
   ·exact j b hb i
   ·exact j a g f
 ·rw[VP,ML hn,ML m,new];constructor
  ·rintro⟨h1,a,g,b,hb,f,i,n⟩;rcases VP.1 g with g|g<;>rcases VP.1 hb with hb|hb
   ·exact .inl ⟨h1,a,g,b,hb,f,i,n⟩
   ·have t:b=c:=by simpa using hb
    rw[t]at i n;right;refine⟨a,g,n,.inl ⟨by rw[f,i],by rw[f,i];exact h1⟩⟩
   ·have s:a=c:=by simpa using g
    rw[s]at f n;right;refine⟨b,hb,n.symm,.inr ⟨by rw[f,i],by rw[f,i];exact h1⟩⟩
   ·have s:a=c:=by simpa using g
    have t:b=c:=by simpa using hb
    rw[<-f,<-i,s,t]at h1;exact absurd h1 (De _)
  ·rintro(⟨h1,a,g,b,hb,e⟩|⟨d,j,h2,r⟩)
   ·exact⟨h1,a,by simp[g],b,by simp[hb],e⟩
   ·rcases r with⟨rfl,h⟩|⟨rfl,h⟩
    ·exact⟨h,d,by simp[j],c,by simp,rfl,rfl,h2⟩
    ·exact⟨h,c,by simp,d,by simp[j],rfl,rfl,h2.symm⟩
end
section
variable{c:Cd}{j:Nat}
variable{L n:Nat}
abbrev NK:=Int×Int
abbrev kN(k:NK):Value:=.agg #[.int .i64 k.1,.int .i64 k.2]
def sR(m:List (NK×AV)):IH:=m.map λe=>(kN e.1,e.2)
def fxN(x:NK):List (NK×AV)->Nat->Option (Nat×AV)
 |[],_=>none
 |e::b,i=>if e.1=x then some (i,e.2) else fxN x b (i+1)
def B7m{x y:NK}:keq (kN x) (kN y)=some (decide (y=x)):=by
 have e:keq (kN x) (kN y)=some (tH x.1 y.1&&(tH x.2 y.2&&true)):=rfl;rw[e,JN,JN,uT];obtain⟨a,b⟩:=x;obtain⟨c,d⟩:=y;simp only[Prod.mk.injEq,l0y];rw[eZ];simp only[I0,decide_eq_true_eq];constructor<;>rintro⟨rfl,rfl⟩<;>exact⟨rfl,rfl⟩
def fY(x:NK):∀(b:List (NK×AV))(i:Nat),UU (kN x) (sR b) i=some (fxN x b i):=by
 intro b
 induction b with
 |nil=>intro i;rfl
 |cons e b ih=>
  intro i;show UU (kN x) ((kN e.1,e.2)::sR b) i=_;rw[Td,B7m];unfold fxN;by_cases h:e.1=x
  ·rw[CJ h,Iz h]
  ·rw[Co h,Iy h];exact ih (i+1)
def yC{x:NK}:∀{b:List (NK×AV)}{i:Nat},x∉b.map (·.1)->fxN x b i=none:=by
 intro b
 induction b with
 |nil=>intro i _;rfl
 |cons e b ih=>
  intro i h;simp only[Zm,Rx,not_or]at h;unfold fxN;rw[Co (Ne.symm h.1)];exact ih h.2
def yB{x:NK}:∀{b:List (NK×AV)}{i:Nat},x∈b.map (·.1)->∃(j:Nat)(h:j<b.length),b[j].1=x/\fxN x b i=some (i+j,b[j].2):=by
 intro b
 induction b with
 |nil=>intro i h;simp at h
 |cons e b ih=>
  intro i h;unfold fxN;by_cases he:e.1=x
  ·exact⟨0,by simp,he,by rw[CJ he];rfl⟩
  ·rw[Co he];have d:x∈b.map (·.1):=by
    simp only[Zm,Rx]at h;exact h.resolve_left (λa=>he a.symm)
   obtain⟨j,f,h1,h2⟩:=ih (i:=i+1) d;exact⟨j+1,by simp;omega,h1,by rw[h2];simp;omega⟩
def B0O{a b:Int}{F:Value->Af}:X! Nf (.agg [I a,I b]) F=F (kN (a,b)):=id rfl
section
variable{gs:dn}{H H':Hp}{K:KV}{x:Af}{r:Nat}{m:List (NK×AV)}{k:NK}
abbrev HI(m:List (NK×AV)):Row:=.map false (sR m) (some (List.range m.length,m.length))
def B4V{K:K2}(h:Ao H r=some (HI m))(hk:k∉m.map (·.1)):VU Ad false (.mp r) (kN k) H K=K A7:=by
 unfold VU;show IZ H r (λx=>XQ x λa _=>_)=_;rw[BO h];show HN (kN k) (sR m) _=_;unfold HN;rw[fY,yC hk]<;>rfl
def B4U{K:K2}(h:Ao H r=some (HI m))(d:j<m.length)(he:fxN k m 0=some (j,m[j].2)):VU Ad false (.mp r) (kN k) H K=K m[j].2:=by
 unfold VU;show IZ H r (λx=>XQ x λa _=>_)=_;rw[BO h];show HN (kN k) (sR m) _=_;unfold HN;rw[fY,he]
def A6m(h:Ao H r=some (HI m))(hk:k∉m.map (·.1)):Ym Ad (.mp r) (kN k) H K=K (.tup [A7,I (m.length:Int)]) (upd H r (HI (m++[(k,A7)]))):=by
 have e:Ym Ad (.mp r) (kN k) H K=IZ H r λx=>XQ x λd g=>match g with
  |some (a,c)=>HN (kN k) d λf=>match f with
   |none=>XA5 H r (.map false (d++[(kN k,Ad.zero)]) (some (a++[c],c+1))) λH'=>K (.tup [Ad.zero,.v (.int .i64 (.ofNat c))]) H'
   |some (i,v)=>(match a[i]? with|some b=>K (.tup [v,.v (.int .i64 (.ofNat b))]) H|none=>none)
  |none=>none:=rfl
 rw[e,BO h];show HN (kN k) (sR m) _=_;unfold HN;rw[fY,yC hk];show XA5 H r (.map false (sR m++[(kN k,A7)]) (some (List.range m.length++[m.length],m.length+1))) _=_;rw[CX,<-List.range_succ];have:HI (m++[(k,A7)])=.map false (sR m++[(kN k,A7)]) (some (List.range (m.length+1),m.length+1)):=by
  unfold HI sR;rw[UT,E6];rfl
 rw[this];rfl
def A6l(h:Ao H r=some (HI m))(p:j<m.length)(he:fxN k m 0=some (j,m[j].2)):Ym Ad (.mp r) (kN k) H K=K (.tup [m[j].2,I (j:Int)]) H:=by
 have e:Ym Ad (.mp r) (kN k) H K=IZ H r λx=>XQ x λd g=>match g with
  |some (a,c)=>HN (kN k) d λf=>match f with
   |none=>XA5 H r (.map false (d++[(kN k,Ad.zero)]) (some (a++[c],c+1))) λH'=>K (.tup [Ad.zero,.v (.int .i64 (.ofNat c))]) H'
   |some (i,v)=>(match a[i]? with|some b=>K (.tup [v,.v (.int .i64 (.ofNat b))]) H|none=>none)
  |none=>none:=rfl
 rw[e,BO h];show HN (kN k) (sR m) _=_;unfold HN;rw[fY,he];show(match(List.range m.length)[j]? with|some b=>K (.tup [m[j].2,.v (.int .i64 (.ofNat b))]) H|none=>none)=_;rw[List.getElem?_range p];rfl
def A1x{K:Ru}{v:AV}(h:Ao H r=some (HI m))(f:j<m.length):lQ (.mp r) (I (j:Int)) v H K=K (upd H r (HI (m.set j (m[j].1,v)))):=by
 have e:lQ (.mp r) (I (j:Int)) v H K=IZ H r λx=>XQ x λd g=>match g with
  |some (a,c)=>(match a.findIdx? (λb=>tH (.ofNat b) (j:Int)) with
   |some i=>(match d[i]? with|some p=>XA5 H r (.map false (d.set i (p.1,v)) (some (a,c))) K|none=>none)
   |none=>none)
  |none=>none:=rfl
 rw[e,BO h];have q:(List.range m.length).findIdx? (λb=>tH (.ofNat b) (j:Int))=some j:=by
  rw[List.findIdx?_eq_some_iff_getElem];refine⟨by simpa using f,by simp[JN],λi s=>?_⟩;simp only[List.getElem_range,JN,decide_eq_true_eq];intro h1;have:(i:Int)=(j:Int):=h1;omega
 show(match(List.range m.length).findIdx? (λb=>tH (.ofNat b) (j:Int)) with
  |some i=>(match(sR m)[i]? with|some p=>XA5 H r (.map false ((sR m).set i (p.1,v)) (some (List.range m.length,m.length))) K|none=>none)
  |none=>none)=_
 rw[q];have hm:(sR m)[j]?=some (kN m[j].1,m[j].2):=by unfold sR;rw[pS,II f];rfl
 show(match(sR m)[j]? with|some p=>XA5 H r (.map false ((sR m).set j (p.1,v)) (some (List.range m.length,m.length))) K|none=>none)=_;rw[hm];show XA5 H r (.map false ((sR m).set j (kN m[j].1,v)) (some (List.range m.length,m.length))) K=_;rw[CX];have:HI (m.set j (m[j].1,v))=.map false ((sR m).set j (kN m[j].1,v)) (some (List.range m.length,m.length)):=by
  unfold HI sR;rw[List.map_set,List.length_set]
 rw[this]
def C04{x y:Oe}:F4 Ct 2 AS 1 [(0,2,.agg [S x,S y])] H K=K (.sl 2 (Ay H) 0 1) ((Ay H,.cells false Ct [S x,S y])::H):=by
 have e:F4 Ct 2 AS 1 [(0,2,.agg [S x,S y])] H K=GP H (λs=>K (.sl 2 s 0 1) ((s,.cells false Ct [S x,S y])::H)):=r_ rfl;rw[e,BQ]
def A9O{K:K2}:lT 1 Ab (.agg c.cs) K=K (I (Pm c).1):=by
 match c with
 |.re b u=>exact id rfl
 |.co b p ps none=>exact id rfl
 |.co b p ps (some (k,vd))=>exact id rfl
def A9N{K:K2}:lT 2 Ab (.agg c.cs) K=K (I (Pm c).2):=by
 match c with
 |.re b u=>exact id rfl
 |.co b p ps none=>exact id rfl
 |.co b p ps (some (k,vd))=>exact id rfl
end
end
section
variable{L n:Nat}
section
variable{gs:dn}{H H' H0:Hp}{K:KV}{x0:Af}{r:Nat}{m:List (NK×AV)}{k:NK}{x y:Oe}{out:List Ld}{vo vo0 v:AV}{ys:List Oe}
def AT.df{e f sz d m j s:Nat}{v w:AV}{cs cs':Is}(h:AT H e sz v m cs)(k:AT H f d w j cs')(hn:e≠f)(g:AD v s):¬AD w s:=by
 intro i;obtain⟨_,_,_,rfl⟩:=g;obtain⟨_,_,_,rfl⟩:=i;rcases h with⟨h,_⟩|⟨r1,q1,h,c,_⟩
 ·cases h
 ·injection h with _ h;subst h
  rcases k with⟨k,_⟩|⟨r2,q2,k,a,_⟩
  ·cases k
  ·injection k with _ k;subst k
   rw[c]at a;injection a with a;injection a with _ a
   exact hn a
def AT.dc{e c sz m s:Nat}{cs cs':Is}{b:Bool}(h:AT H e sz v m cs)(d:Ao H s=some (.cells b c cs'))(hn:e≠c):¬AD v s:=by
 rintro⟨_,_,_,rfl⟩;rcases h with⟨h,_⟩|⟨r1,q1,h,a,_⟩
 ·cases h
 ·injection h with _ h;subst h
  rw[d]at a;injection a with a;injection a with _ a
  exact hn a.symm
def AT.dm{e sz m s:Nat}{cs:Is}{b:Bool}{es:IH}{o:Option (Hb×Nat)}(h:AT H e sz v m cs)(c:Ao H s=some (.map b es o)):¬AD v s:=by
 rintro⟨_,_,_,rfl⟩;rcases h with⟨h,_⟩|⟨r1,q1,h,a,_⟩
 ·cases h
 ·injection h with _ h;subst h
  rw[c]at a;cases a
structure FkI(H0:Hp)(vo0:AV)(out:List Ld)(vo:AV)(H:Hp):Prop where
 sl:AT H Ct 2 vo out.length (out.flatMap Sg)
 wf:Wf H
 keep:∀u y,Ao H0 u=some y->¬AD vo0 u->Ao H u=some y
 new:∀u,AD vo u->AD vo0 u\/Ay H0<=u
 nx:Ay H0<=Ay H
 nil:out=[]->vo=A7
def FkI.add(h:FkI H0 vo0 out vo H)(w0:Wf H0)(hb:out.length<1000000):∃a H',(∀K:KV,(F4 Ct 2 AS 1 [(0,2,.agg [S x,S y])] H λv1 f=>DJ Ct 2 AS B5 vo v1 f K)=K a H')/\FkI H0 vo0 (out++[(x,y)]) a H':=by
 obtain⟨a,H',h1,h2,g,i,j,p⟩:=uF (ie:=AS) (i2:=B5) h.sl h.wf (ys:=[S x,S y]) rfl rfl (by decide) rfl (λ_=>rfl) (by show(out.length+1)*32<=_;omega) (by omega);refine⟨a,H',λK=>?_,?_,g,λu z c hn=>?_,λu c=>.inr (WW h.nx (p u c)),WW h.nx i,λe=>absurd e (by simp)⟩
 ·rw[C04];exact h1 K
 ·rw[E6,l2g];exact h2
 ·refine j u z (h.keep u z c hn) λhv=>?_;rcases h.new u hv with d|d
  ·exact hn d
  ·have:=w0.lt c;omega
def B7Y{t:AV->AV->AV->AV->AV->AV->AV->AV->AV->AV->KV}{a b c d e f g:AV}(w0:Wf H0)(hv:AT H0 A0 1 v ys.length (Bj ys))(J:∀u,AD v u->¬AD vo0 u)(hb:out.length+ys.length<1000000)(N:∀j H' i,FkI H0 vo0 (out++ys.map λy=>(y,x)) j H'->t a b j (S x) c d e f v g i H'=x0):
 ∀(F i:Nat)(vo:AV)(H:Hp),i<=ys.length->ys.length-i<F->g=I (ys.length:Int)->FkI H0 vo0 (out++(ys.take i).map λy=>(y,x)) vo H->
  PF (L+20) (r! L n) K t F a b vo (S x) c d e f v g (I (i:Int)) H=x0:=by
 intro F
 induction F with
 |zero=>intro i vo H _ h;omega
 |succ F ih=>
  intro i vo H Q P w h;rw[Zr];unfold PH GI Aq;rw[w];by_cases q:i<ys.length
  ·rw[FZ (by omega),Dg];have A:AT H A0 1 v ys.length (Bj ys):=hv.kp λs z M hz=>h.keep s z hz (J s M);obtain⟨O,h1,h2⟩:=A.ia q;rw[h1,h2];have C:∀{F:K2},Ch AS [(0,1,S ys[i]),(1,1,S x)] F=F (.agg [S ys[i],S x]):=λ{F}=>id rfl;rw[C];have p:(out++(ys.take i).map λy=>(y,x)).length<1000000:=by rw[E6,WV,xS];omega
   obtain⟨j,H',D,B⟩:=h.add (x:=ys[i]) (y:=x) w0 p;rw[D,Dc (by omega),<-w];have e:(out++(ys.take i).map λy=>(y,x))++[(ys[i],x)]=out++(ys.take (i+1)).map λy=>(y,x):=by
    rw[tE q,UT,fW];rfl
   rw[e]at B;exact ih (i+1) j H' (by omega) (by omega) w B
  ·rw[Ga (by omega),B6,<-w];have e:ys.take i=ys:=l1z (by omega);rw[e]at h;exact N vo H _ h
end
end
section
variable{v':AV}{i j:Nat}
variable{L n:Nat}
section
variable{gs:dn}{H H' H0:Hp}{K:KV}{x0:Af}{r:Nat}{m:List (NK×AV)}{k:NK}{x y:Oe}{out:List Ld}{vi vo v:AV}{A pre:List Oe}{nm:Oe->NK}
def pP(nm:Oe->NK)(pre:List Oe)(k:NK):List Oe:=pre.filter λy=>nm y=k
def RL:pP nm (pre++[x]) k=if nm x=k then pP nm pre k++[x] else pP nm pre k:=by
 unfold pP;rw[List.filter_append];by_cases h:nm x=k
 ·rw[CJ h];simp[h]
 ·rw[Co h];simp[h]
structure FkS(r:Nat)(vi:AV)(A:List Oe)(nm:Oe->NK)(pre:List Oe)(m:List (NK×AV))(out:List Ld)(vo:AV)(H:Hp):Prop where
 nmd:Ao H r=some (HI m)
 kd:(m.map (·.1)).Nodup
 val:∀e∈m,AT H A0 1 e.2 (pP nm pre e.1).length (Bj (pP nm pre e.1))
 miss:∀k,k∉m.map (·.1)->pP nm pre k=[]
 ids:AT H A0 1 vi A.length (Bj A)
 o:AT H Ct 2 vo out.length (out.flatMap Sg)
 d1:∀e∈m,∀u,AD e.2 u->¬AD vi u
 d3:m.Pairwise λe e'=>∀u,AD e.2 u->¬AD e'.2 u
 wf:Wf H
theorem FkS.kp{c:AV}{a:List Ld}(h:FkS r vi A nm pre m out vo H)(w:Wf H')(k:∀u y,Ao H u=some y->¬AD vo u->Ao H' u=some y)(g:AT H' Ct 2 c a.length (a.flatMap Sg)):
 FkS r vi A nm pre m a c H':=
 ⟨k _ _ h.nmd (h.o.dm h.nmd),h.kd,λe he=>(h.val e he).kp λs y d f=>k s y f (λhv=>(h.val e he).df h.o (by decide) d hv),h.miss,
  h.ids.kp λs y d f=>k s y f (λhv=>h.ids.df h.o (by decide) d hv),g,h.d1,h.d3,w⟩
def A9S(h:FkS r vi A nm pre m out vo H){K:K2}(k:NK):∃v,VU Ad false (.mp r) (kN k) H K=K v/\AT H A0 1 v (pP nm pre k).length (Bj (pP nm pre k))/\(∀u,AD v u->¬AD vi u):=by
 by_cases hk:k∈m.map (·.1)
 ·obtain⟨j,a,he,c⟩:=yB (i:=0) hk;rw[Le]at c;refine⟨m[j].2,B4U h.nmd a c,?_,h.d1 _ (Na a)⟩;have:=h.val _ (Na a);rw[he]at this;exact this
 ·exact⟨A7,B4V h.nmd hk,.inl ⟨rfl,by rw[h.miss k hk];rfl,by rw[h.miss k hk];rfl⟩,λu d=>absurd d Vv⟩
def FkS.dj(h:FkS r vi A nm pre m out vo H)(a:i<m.length)(c:j<m.length)(hn:i≠j):∀u,AD m[i].2 u->¬AD m[j].2 u:=by
 rcases Nat.lt_or_ge i j with d|d
 ·exact l20.1 h.d3 i j a c d
 ·intro u h1 h2;exact l20.1 h.d3 j i c a (by omega) u h2 h1
def FkS.kn(h:FkS r vi A nm pre m out vo H)(a:i<m.length)(c:j<m.length)(hn:i≠j):m[i].1≠m[j].1:=by
 intro e;have:=List.getElem_inj (i:=i) (j:=j) (h₀:=by simpa using a) (h₁:=by simpa using c) h.kd;simp only[l2i]at this;exact hn (this.1 e)
theorem FkS.set(h:FkS r vi A nm pre m out vo H)(q:j<m.length)(hk:m[j].1=nm x)(w':Wf H')(hr:Ao H' r=some (HI (m.set j (m[j].1,v'))))(hv:AT H' A0 1 v' (pP nm pre (nm x)++[x]).length (Bj (pP nm pre (nm x)++[x])))(D:∀u,AD v' u->Ay H<=u)(kp:∀u y,Ao H u=some y->u≠r->¬AD m[j].2 u->Ao H' u=some y):FkS r vi A nm (pre++[x]) (m.set j (m[j].1,v')) out vo H':=by
 have f:(m.set j (m[j].1,v')).map (·.1)=m.map (·.1):=by
  rw[List.map_set];have:(m.map (·.1)).set j ((m.map (·.1))[j]'(by simpa using q))=m.map (·.1):=List.set_getElem_self (by simpa using q);simpa using this
 refine⟨hr,by rw[f];exact h.kd,λe he=>?_,λk t=>?_,?_,?_,λe he u B=>?_,?_,w'⟩
 ·obtain⟨i,p,rfl⟩:=List.getElem_of_mem he;rw[List.length_set]at p;rw[List.getElem_set];by_cases a:j=i
  ·subst a;rw[CJ rfl];show AT H' A0 1 v' (pP nm (pre++[x]) m[j].1).length _;rw[hk,RL,CJ rfl];exact hv
  ·rw[Co a,RL,Co (λe=>h.kn q p a (hk.trans e))];have g:=h.val _ (Na p);exact g.kp λs y w C=>kp s y C (λe=>g.dm h.nmd (e▸w)) (h.dj p q (Ne.symm a) s w)
 ·rw[f]at t;rw[RL,Co (λe=>t (by rw[<-e,<-hk];exact US.2 ⟨_,Na q,rfl⟩))];exact h.miss k t
 ·exact h.ids.kp λs y g C=>kp s y C (λe=>h.ids.dm h.nmd (e▸g)) (λhv=>h.d1 _ (Na q) s hv g)
 ·exact h.o.kp λs y g C=>kp s y C (λe=>h.o.dm h.nmd (e▸g)) (λhv=>(h.val _ (Na q)).df h.o (by decide) hv g)
 ·obtain⟨i,p,rfl⟩:=List.getElem_of_mem he;rw[List.length_set]at p;rw[List.getElem_set]at B;by_cases a:j=i
  ·rw[CJ a]at B;intro hv;have:=h.ids.lt h.wf hv;have:=D u B;omega
  ·rw[Co a]at B;exact h.d1 _ (Na p) u B
 ·rw[l20];intro i1 i2 h1 h2 M u d c;rw[List.length_set]at h1 h2;rw[List.getElem_set]at d c;by_cases F:j=i1
  ·rw[CJ F]at d;rw[Co (by omega)]at c;have:=(h.val _ (Na h2)).lt h.wf c;have:=D u d;omega
  ·rw[Co F]at d;by_cases J:j=i2
   ·rw[CJ J]at c;have:=(h.val _ (Na h1)).lt h.wf d;have:=D u c;omega
   ·rw[Co J]at c;exact h.dj h1 h2 (by omega) u d c
def FkS.new(h:FkS r vi A nm pre m out vo H)(hk:nm x∉m.map (·.1))(w':Wf H')(hr:Ao H' r=some (HI (m++[(nm x,v')])))(hv:AT H' A0 1 v' 1 [S x])(C:∀u,AD v' u->Ay H<=u)(kp:∀u y,Ao H u=some y->u≠r->Ao H' u=some y):FkS r vi A nm (pre++[x]) (m++[(nm x,v')]) out vo H':=by
 refine⟨hr,?_,λe he=>?_,λk c=>?_,?_,?_,λe he u D=>?_,?_,w'⟩
 ·rw[UT,l2w];refine⟨h.kd,by simp,λa F b hb=>?_⟩;simp only[Zm,List.map_nil,Rx,List.mem_nil_iff,or_false]at hb;subst hb;exact λe=>hk (e▸F)
 ·rcases VP.1 he with he|he
  ·have d:=h.val e he;rw[RL,Co (λq=>hk (by rw[q];exact US.2 ⟨e,he,rfl⟩))];exact d.kp λs y p g=>kp s y g (λq=>d.dm h.nmd (q▸p))
  ·simp only[Rx,List.mem_nil_iff,or_false]at he;subst he;rw[RL,CJ rfl,h.miss _ hk];exact hv
 ·rw[UT,VP,not_or]at c;rw[RL,Co (λq=>c.2 (by simp[q]))];exact h.miss k c.1
 ·exact h.ids.kp λs y d g=>kp s y g (λq=>h.ids.dm h.nmd (q▸d))
 ·exact h.o.kp λs y d g=>kp s y g (λq=>h.o.dm h.nmd (q▸d))
 ·rcases VP.1 he with he|he
  ·exact h.d1 e he u D
  ·simp only[Rx,List.mem_nil_iff,or_false]at he;subst he;intro B;have:=h.ids.lt h.wf B;have:=C u D;omega
 ·rw[List.pairwise_append];refine⟨h.d3,by simp,λe he J f u t w=>?_⟩;simp only[Rx,List.mem_nil_iff,or_false]at f;subst f;have:=(h.val e he).lt h.wf t;have:=C u w;omega
def FkS.put(h:FkS r vi A nm pre m out vo H)(hb:pre.length<1000):∃m' H',(∀K:Ru,(F4 A0 1 Ag 1 [(0,1,S x)] H λaa O=>Ym Ad (.mp r) (kN (nm x)) O λN P=>Cg N 0 λab=>DJ A0 1 Ag Ad ab aa P λac Q=>Cg N 1 λad=>lQ (.mp r) ad ac Q K)=K H')/\FkS r vi A nm (pre++[x]) m' out vo H':=by
 have C:∀k,(pP nm pre k).length<1000:=λk=>Nat.lt_of_le_of_lt (l2v _ _) hb;have w1:=Bw (x:=.cells false A0 [S x]) h.wf;have g:AT ((Ay H,.cells false A0 [S x])::H) A0 1 (.sl 1 (Ay H) 0 1) 1 [S x]:=Nn (H:=H) (e:=A0) (n:=1) (cs:=[S x]) rfl;have X:r<Ay H:=h.wf.lt h.nmd;have d:Ao ((Ay H,.cells false A0 [S x])::H) r=some (HI m):=AQ X h.nmd;have ae:Ay H<Ay ((Ay H,Row.cells false A0 [S x])::H):=w1.lt (Av (by simp));by_cases hk:nm x∈m.map (·.1)
 ·obtain⟨j,w,he,hf⟩:=yB (i:=0) hk;rw[Le]at hf;have J:=h.val _ (Na w);rw[he]at J;have M:AT ((Ay H,.cells false A0 [S x])::H) A0 1 m[j].2 (pP nm pre (nm x)).length (Bj (pP nm pre (nm x))):=J.kp λs y _ c=>AQ (h.wf.lt c) c;obtain⟨v',B,k1,k2,k3,t⟩:=apt (ie:=Ag) (i2:=Ad) M (λK=>Oz (K:=K) g) rfl rfl (by decide) rfl rfl (by show(_+1)*16<=_;have:=C (nm x);omega) (by have:=C (nm x);omega);have f:Ao B r=some (HI m):=t.keep w1 r _ d (M.dm d);have a:∀u,AD v' u->Ay H<=u:=λu Y=>by rw[k3 u Y];omega
  refine⟨m.set j (m[j].1,v'),upd B r (HI (m.set j (m[j].1,v'))),λK=>?_,h.set w he (BF (t.wf w1)) (WC f) ?_ a λu y c hn V=>?_⟩
  ·rw[ZI (z:=S []) (λ_=>rfl) (λ_=>rfl) rfl,A6l d w hf,CO,k1,CN,A1x f w]
  ·rw[E6,<-pE];refine AT.kp k2 λs y D c=>?_;rw[Aj (λq=>by have:=a s D;omega)];exact c
  ·rw[Aj hn];exact t.keep w1 u y (AQ (h.wf.lt c) c) V
 ·have Z:Ao (upd ((Ay H,.cells false A0 [S x])::H) r (HI (m++[(nm x,A7)]))) r=some (HI (m++[(nm x,A7)])):=WC d;have w2:=BF (r:=r) (y:=HI (m++[(nm x,A7)])) w1;have p:AT (upd ((Ay H,.cells false A0 [S x])::H) r (HI (m++[(nm x,A7)]))) A0 1 (.sl 1 (Ay H) 0 1) 1 [S x]:=g.kp λs y D c=>by
   rw[Aj (λq=>by subst q;exact g.dm d D)];exact c
  have R:AT (upd ((Ay H,.cells false A0 [S x])::H) r (HI (m++[(nm x,A7)]))) A0 1 A7 0 []:=.inl ⟨rfl,rfl,rfl⟩;obtain⟨v',B,k1,k2,k3,t⟩:=apt (ie:=Ag) (i2:=Ad) R (λK=>Oz (K:=K) p) rfl rfl (by decide) rfl rfl (by decide) (by decide);have f:Ao B r=some (HI (m++[(nm x,A7)])):=t.keep w2 r _ Z Vv;have a:∀u,AD v' u->Ay H<=u:=λu Y=>by rw[k3 u Y,CU];omega
  have w:m.length<(m++[(nm x,A7)]).length:=by simp
  have F:(m++[(nm x,A7)]).set m.length ((m++[(nm x,A7)])[m.length].1,v')=m++[(nm x,v')]:=by
   rw[List.set_append_right _ _ (MZ _)];simp
  refine⟨m++[(nm x,v')],upd B r (HI (m++[(nm x,v')])),λK=>?_,h.new hk (BF (t.wf w2)) (WC f) ?_ a λu y c hn=>?_⟩
  ·rw[ZI (z:=S []) (λ_=>rfl) (λ_=>rfl) rfl,A6m d hk,CO,k1,CN,A1x f w,F]
  ·refine AT.kp k2 λs y D c=>?_;rw[Aj (λq=>by have:=a s D;omega)];exact c
  ·rw[Aj hn];refine t.keep w2 u y ?_ Vv;rw[Aj hn];exact AQ (h.wf.lt c) c
end
end
section
variable{D:Nat}
variable{L n:Nat}
section
variable{gs:dn}{H H' H0:Hp}{K:KV}{x0:Af}{r:Nat}{m:List (NK×AV)}{k:NK}{x y:Oe}{out:List Ld}{vi vo v:AV}{A pre:List Oe}{nm:Oe->NK}
def A6n{c:Cd}(a:Qh (gE gs) x=some c){K:K2}:VU Ac false (gV gs) (SV x) H K=K (.agg c.cs):=by
 rw[B03 (f:=V4) (b:=gE gs) (λK=>id rfl),a]
def yG{l:List Oe}:yH nm pre (x::l)=((pP nm pre (nm x)).map λy=>(y,x))++yH nm (pre++[x]) l:=rfl
def B7Z{t:KV}(hA:∀y∈A,∃c,Qh (gE gs) y=some c/\Pm c=nm y)(hl:A.length<=9)(hL:100<L)(hx:∀vo H m,FkS r vi A nm A m (yH nm [] A) vo H->(yH nm [] A=[]->vo=A7)->(yH nm [] A).length<=90->t vo H=x0):
 ∀(F i:Nat)(m:List (NK×AV))(out:List Ld)(vo:AV)(H:Hp)(d1 d2 d3 C J:AV),i<=A.length->A.length-i<F->FkS r vi A nm (A.take i) m out vo H->out++yH nm (A.take i) (A.drop i)=yH nm [] A->out.length<=10*i->(out=[]->vo=A7)->
  PG (L+20) (r! L n) K t F (gV gs) (.mp r) vo d1 d2 vi (I (A.length:Int)) (I (i:Int)) d3 C J H=x0:=by
 intro F
 induction F with
 |zero=>intro i m out vo H d1 d2 d3 C J _ h;omega
 |succ F ih=>
  intro i m out vo H d1 d2 d3 C J hi hf h B ab hz;rw[Zs];unfold PI GI Aq;by_cases a:i<A.length
  ·rw[FZ (by omega),Dg];obtain⟨ad,h1,h2⟩:=h.ids.ia a;rw[h1,h2];obtain⟨c,hc,hn⟩:=hA _ (Na a);have ks:∀{F:Value->Af},Nt (S A[i]) F=F (SV A[i]):=λ{F}=>id rfl;rw[ks,A6n hc,A9O,ks,A6n hc,A9N];have eb:∀{F:K2},Ch DM [(0,1,I (Pm c).1),(1,1,I (Pm c).2)] F=F (.agg [I (Pm c).1,I (Pm c).2]):=λ{F}=>id rfl;rw[eb,AW (cs:=[zI,zI]) rfl,Bx (q:=true) (e:=GN) (cs:=[zI,zI]) (vs:=[I (Pm c).1,I (Pm c).2]) (Av (by simp)) rfl rfl rfl];have O:upd ((Ay H,c_ GN [zI,zI])::H) (Ay H) (c_ GN [I (Pm c).1,I (Pm c).2])=(Ay H,c_ GN [I (Pm c).1,I (Pm c).2])::H:=by unfold upd;rw[CJ rfl]
   rw[O,hn];simp only[Ca];have w1:=Bw (x:=.cells true GN [I (nm A[i]).1,I (nm A[i]).2]) h.wf;have j:FkS r vi A nm (A.take i) m out vo ((Ay H,c_ GN [I (nm A[i]).1,I (nm A[i]).2])::H):=h.kp w1 (λu y g _=>AQ (h.wf.lt g) g) (h.o.kp λs y _ g=>AQ (h.wf.lt g) g);have d:=Av (H:=H) (x:=.cells true GN [I (nm A[i]).1,I (nm A[i]).2]) (by simp);rw[AR (cs:=[I (nm A[i]).1,I (nm A[i]).2]) rfl rfl d,B0O];obtain⟨v,P,f,ac⟩:=A9S j (K:=_) (nm A[i]);rw[show((nm A[i]).1,(nm A[i]).2)=nm A[i] from rfl,P];have el:∀{F:K2},Bi Ad v F=F (I ((pP nm (A.take i) (nm A[i])).length:Int)):=λ{F}=>by
    rcases f with⟨rfl,h4,_⟩|⟨_,_,rfl,_⟩
    ·rw[h4];exact id rfl
    ·exact id rfl
   rw[el];have aa:(pP nm (A.take i) (nm A[i])).length<=9:=WW (l2v _ _) (by rw[xS];omega);refine B7Y (n:=n) (out:=out) w1 f (λu N Q=>f.df j.o (by decide) N Q) (by omega) (λw H' i' p=>?_) (L+20) 0 vo _ (by omega) (by omega) rfl ?_
   ·have h5:FkS r vi A nm (A.take i) m (out++(pP nm (A.take i) (nm A[i])).map λy=>(y,A[i])) w H':=j.kp p.wf p.keep p.sl;have M:=p.keep _ _ d (j.o.dc d (by decide));rw[AR (cs:=[I (nm A[i]).1,I (nm A[i]).2]) rfl rfl M];simp only[B0O];obtain⟨m',Y,h6,X⟩:=h5.put (x:=A[i]) (by rw[xS];omega);rw[show((nm A[i]).1,(nm A[i]).2)=nm A[i] from rfl,h6,Dc (by omega)];have V:A.take i++[A[i]]=A.take (i+1):=(tE a).symm;rw[V]at X;refine ih (i+1) m' _ w Y _ _ _ _ _ (by omega) (by omega) X ?_ ?_ p.nil
    ·rw[<-B,l11 a,yG,<-V,fW]
    ·rw[E6,WV];omega
   ·simp only[List.take_zero,List.map_nil,fV];exact⟨j.o,w1,λu y g _=>g,λu N=>.inl N,MZ _,hz⟩
  ·rw[Ga (by omega),B6];have R:A.take i=A:=l1z (by omega);have Z:A.drop i=[]:=List.drop_eq_nil_of_le (by omega);rw[R,Z]at B;rw[R]at h;simp only[yH,fV]at B;subst B;exact hx vo H m h hz (by omega)
def jM(l:List Ld):AV:=if l=[] then A7 else .list l.length (l.flatMap Sg)
def B43(l:List Ld):pl 6 (jM l)=true:=by
 unfold jM;split
 ·rfl
 ·show(l.flatMap Sg).all (pl 5)=true;rw[Gb];intro y c;obtain⟨p,_,a⟩:=l2y.1 c;simp only[Sg,Rx,List.mem_nil_iff,or_false]at a;rcases a with rfl|rfl<;>rfl
def B4u{b:Bool}:∀(l:List Ld),Qi b (D+1) (l.flatMap Sg) (l.flatMap Sg) H false:=by
 intro l
 induction l with
 |nil=>exact Bq
 |cons p l ih=>exact Az (q:=false) Er (Az (q:=false) Er ih)
def B7N{b:Bool}{l:List Ld}(h:AT H Ct 2 v l.length (l.flatMap Sg))(c:l=[]->v=A7):∃q,Fx b (D+2) v (jM l) H q:=by
 unfold jM;by_cases a:l=[]
 ·rw[CJ a,c a];exact⟨false,Er⟩
 ·rw[Co a];rcases h with⟨_,h,_⟩|⟨r,q,rfl,h2,d⟩
  ·exact absurd (tC h) a
  ·exact⟨true,UW h2 d (B4u l)⟩
def A7L(j:AT H Ct 2 v out.length (out.flatMap Sg))(u:out=[]->v=A7)(hb:out.length<1000000)(p:∀H',AT H' Ct 2 v (Hj out).length ((Hj out).flatMap Sg)->K (.tup []) H'=x0):
 (r! L (n+1)).call Cl [v,.fn (.func C7) [] []] H K=x0:=by
 have s:(r! L (n+1)).call Cl [v,.fn (.func C7) [] []] H K=YK C7 [v,.fn (.func C7) [] []] H K (dI (E (L+20)) (nT (L+20)) (r! L n) Cl [v,.fn (.func C7) [] []] H K):=rfl;rw[s];by_cases a:out=[]
 ·subst a;obtain rfl:=u rfl;exact p H j
 have e:=(HV out).length_eq;rcases j with⟨_,h,_⟩|⟨r,q,rfl,f,hc⟩
 ·exact absurd (tC h) a
 ·have i:0<out.length:=List.length_pos_iff.2 a;have c:((Hj out).flatMap Sg).length=(out.flatMap Sg).length:=by rw[sJ Sg (λ_=>rfl),sJ Sg (λ_=>rfl),e]
  have t:∀alt K,YK C7 [.sl 2 r 0 out.length,.fn (.func C7) [] []] H K alt=D8 0 ((Hj out).flatMap Sg) (out.flatMap Sg) λd=>XA5 H r (.cells q Ct d) λH'=>K (.tup []) H':=λalt K=>by
   unfold YK;simp only[f,l1n];rw[l1z (by omega),B44];have g:(Nat.beq C7 C7&&(Nat.beq out.length out.length&&(Nat.blt out.length 4611686018427387904&&Nat.blt 0 out.length)))=true:=by
    rw[tB,tB];simp;omega
   simp only[g]
  rw[t,Ii _ _ _ _ (by omega),Mp _ _ c,CX];exact p _ (.inr ⟨r,q,by rw[e],A4 f,by rw[c,e];exact hc⟩)
def A0K{a:AV}(f:GO9 gs)(O:40000<L)(p:LA gs a):CS (r! L (n+80)) Ew [a] (jM (Ee gs)):=by
 intro K g;rw[T6];unfold MY Aq;have i:Qi true depth [a] [a] [] false:=by rcases p with rfl|⟨_,rfl⟩<;>exact λK=>by kernel_rfl
 have of:∀{K:K2},Ak (r! L (n+79)) Fc [a] [] K=K (.tup [gV gs,Bo true]):=λ{K}=>HF (λK g=>A7Q (n:=n+15) f (by omega) p K g) i;have B:oN 6 (jM (Ee gs)) (jM (Ee gs))=true:=zZ 6 _ (B43 _);have N:=f.len;rw[of,CO,CN];have q:∀{F:KV},KR Ad [] F=F (.mp 0) [(0,HI [])]:=λ{F}=>by kernel_rfl
 rw[q];simp only[Ca];have w0:Wf [(0,HI [])]:=Bw (x:=HI []) EH;rw[show n+79=n+73+6 from rfl];refine A43 (n:=n+73) B (by omega) (by omega) w0 λvi H hv M=>?_;have d:(G9 (gs.map Cd.id)).length<=9:=by rw[(D0 _).length_eq,WV];omega
 have s:∀{F:K2},Bi Ad vi F=F (I ((G9 (gs.map Cd.id)).length:Int)):=λ{F}=>by
  rcases hv.sl with⟨rfl,t,_⟩|⟨_,_,rfl,_⟩
  ·rw[t];exact id rfl
  ·exact id rfl
 rw[s];have u:FkS 0 vi (G9 (gs.map Cd.id)) (nmX gs) ((G9 (gs.map Cd.id)).take 0) [] [] A7 H:=
  ⟨hv.keep 0 _ rfl,List.nodup_nil,λe he=>absurd he (by simp),λk _=>rfl,hv.sl,.inl ⟨rfl,rfl,rfl⟩,λe he=>absurd he (by simp),List.Pairwise.nil,hv.wf⟩
 refine B7Z (n:=n+79) (A:=G9 (gs.map Cd.id)) (nm:=nmX gs) (λy C=>?_) d (by omega) (λvo H' m h hz w=>?_) (L+20) 0 [] [] A7 H _ _ _ _ _ (by omega) (by omega) u rfl (by simp) (λ_=>rfl)
 ·obtain⟨c,hc,rfl⟩:=US.1 ((D0 _).mem_iff.1 C);exact⟨c,Th f.ids hc,(XC f.ids hc).symm⟩
 ·rw[show n+79=n+78+1 from rfl];refine A7L (n:=n+78) h.o hz (by omega) λJ h2=>?_;refine g _ _ λb=>?_;have j:Ee gs=[]->vo=A7:=λe=>hz (tC (by rw[<-(HV _).length_eq];exact congrArg List.length e));exact B7N (D:=depth-2) h2 j
end
end
section
variable{L n:Nat}
section
variable{H H0 H':Hp}{v a:AV}{gs A:dn}{K:KV}
end
end
section
variable{s:Ha}{N:Nat}
variable{L n:Nat}
abbrev clR(x y z:Nat):AV:=.fn (.func Cc) [] [.ptr x 0 0,.ptr y 0 0,.ptr z 0 0]
abbrev bA(v:Bool):AV:=Bo v
structure Rl(gs:dn)(y m x z:Nat)(b:List (Ha×Bool))(H:Hp):Prop where
 g:Ao H y=some (c_ Da [gV gs])
 mm:Ao H m=some (.map false (Rb bA b) none)
 c:Ao H x=some (c_ IR [.mp m])
 f:Ao H z=some (c_ Ia [clR x y z])
 wf:Wf H
 ne:m≠y/\m≠x/\m≠z
section
variable{gs:dn}{y m x z:Nat}{b:List (Ha×Bool)}{H H':Hp}{K:KV}
def Rl.up(h:Rl gs y m x z b H)(a:List (Ha×Bool)):Rl gs y m x z a (upd H m (.map false (Rb bA a) none)):=
 ⟨by rw[Aj h.ne.1.symm];exact h.g,(Et h.mm).trans rfl,by rw[Aj h.ne.2.1.symm];exact h.c,by rw[Aj h.ne.2.2.symm];exact h.f,BF h.wf,h.ne⟩
def Rl.kp(h:Rl gs y m x z b H)(w:Wf H')(k:∀s r,Ao H s=some r->Ao H' s=some r/\s≠Ay H):Rl gs y m x z b H':=
 ⟨(k _ _ h.g).1,(k _ _ h.mm).1,(k _ _ h.c).1,(k _ _ h.f).1,w,h.ne⟩
def B0p:Dk (E (L+20)) (rt (L+20) N) (clR x y z) [S s] H K=(rt (L+20) N).call Cc [S s,.ptr x 0 0,.ptr y 0 0,.ptr z 0 0] H K:=by
 show Vb [S s] [.ptr x 0 0,.ptr y 0 0,.ptr z 0 0] (λa=>Vb [] a λall=>A2Q ((E (L+20)).ne Cc) all H K (@Bool.rec (λ_=>Af) (zpm (E (L+20)) Cc (rt (L+20) N) all H λv=>K v H) ((rt (L+20) N).call Cc all H K) ((E (L+20)).imp Cc)))=_;rw[Ki,Ki,show(E (L+20)).ne Cc=false from rfl,show(E (L+20)).imp Cc=true from rfl];rfl
def RlC(L N n:Nat)(gs:dn)(y m x z:Nat):Prop:=∀(s:Ha)(b a:List (Ha×Bool))(v:Bool)(H:Hp),Rl gs y m x z b H->dfs (gr gs) N s b=some (v,a)->
 ∃H',Rl gs y m x z a H'/\∀K:KV,(r! L (n+N)).call Cc [S s,.ptr x 0 0,.ptr y 0 0,.ptr z 0 0] H K=K (Bo v) H'
def B6C{a0 a1:AV}{ps:List Ha}{v:Bool}{r:List (Ha×Bool)}(hb:ps.length<100)(hc:RlC L N n gs y m x z):
 ∀(f i:Nat)(a:Bool)(b:List (Ha×Bool))(H:Hp),i<=ps.length->ps.length-i<f->Rl gs y m x z b H->zM (dfs (gr gs) N) (ps.drop i) a b=some (v,r)->
 ∃H',Rl gs y m x z r H'/\∀(K:KV)(c:AV->AV->KV),DL (L+20) (r! L (n+N)) K c f a0 a1 (.ptr z 0 0) (Bo a) (Gp ps) (I ps.length) (I i) H=c a0 a1 (Bo v) H':=by
 intro f
 induction f with
 |zero=>intro i a b H _ h;omega
 |succ f ih=>
  intro i a b H B A hr d;by_cases h:i<ps.length
  ·have e:Gp ps=Ls ps:=Uw (by omega);rw[l11 h]at d;unfold zM at d;cases a with
   |false=>
    obtain⟨j,g,h2⟩:=ih (i+1) false b H (by omega) (by omega) hr d;refine⟨j,g,λK c=>?_⟩;rw[FF];unfold Dp GI B3 Aq EV;rw[FZ (by omega),Dg,e,PR h,IK,<-e];simp only[uU,BJ,T2];rw[Dc (by omega)];exact h2 K c
   |true=>
    simp only[if_true]at d;cases hq:dfs (gr gs) N ps[i] b with
    |none=>rw[hq]at d;cases d
    |some p=>
     obtain⟨w,b2⟩:=p;rw[hq]at d;obtain⟨j,g,k⟩:=hc ps[i] b b2 w H hr hq;have lf:∀{K},A9 Aa (.ptr z 0 0) H K=K (clR x y z):=λ{K}=>AH (p:=0) rfl hr.f (show 0<1 by decide);obtain⟨t,q,u⟩:=ih (i+1) w b2 j (by omega) (by omega) g d;refine⟨t,q,λK c=>?_⟩;rw[FF];unfold Dp GI B3 Aq EV;rw[FZ (by omega),Dg,e,PR h,IK,<-e];simp only[gT,BJ,lf,B0p,k,WT];rw[Dc (by omega)];exact u K c
  ·have:i=ps.length:=by omega
   subst this;rw[List.drop_length]at d;cases d
   refine⟨H,hr,λK c=>?_⟩;rw[FF];unfold Dp GI B3 Aq EV;rw[Ga (by omega),B6]
def A8J(hL:100<L)(O:∀c∈gs,c.ps.length<100):∀N,RlC L N n gs y m x z:=by
 intro N
 induction N with
 |zero=>intro s b b' v H _ h;cases h
 |succ N Z=>
  intro s b b' v H hr a;have lc:∀{K},A9 Cq (.ptr x 0 0) H K=K (.mp m):=λ{K}=>AH (p:=0) rfl hr.c (show 0<1 by decide);have r:∀(F:Value->Af),Nt (S s) F=F (SV s):=λF=>id rfl;unfold dfs at a;cases J:Qh b s with
  |some w=>
   rw[J]at a;cases a
   refine⟨H,hr,λK=>?_⟩;rw[<-WE,Ih];unfold F0 DV Qg Tg B3 EU Aq JR EV;rw[lc,r,Ve (f:=bA) (b:=b) (λK=>V2 hr.mm),J];simp only[];rw[CO,CN,Dg]
  |none=>
   rw[J]at a;simp only[]at a;have d:=hr.up (KZ b s false);have B:∀{F:Ru},VT (.mp m) (SV s) (.v (.bool false)) H F=F (upd H m (.map false (Rb bA (KZ b s false)) none)):=λ{F}=>Yl (f:=bA) (v:=false) hr.mm;generalize upd H m (.map false (Rb bA (KZ b s false)) none)=Q at d B;have lg:∀{K},A9 Bh (.ptr y 0 0) Q K=K (gV gs):=λ{K}=>AH (p:=0) rfl d.g (show 0<1 by decide);have R:∀{s j:Nat}{K:K2},CC j (.ptr s 0 0) K=K (.ptr s j 0):=λ{s j K}=>by rw[fA,Le]
   rw[B4A]at a;cases M:Qh (gE gs) s with
   |none=>
    rw[M]at a;cases a
    obtain⟨u,X,t,w2,k2⟩:=DN (e:=Ae) (zs:=BG) (vs:=BG) d.wf rfl;have q:=d.kp w2 k2;refine⟨_,q.up _,λK=>?_⟩;rw[<-WE,Ih];unfold F0 DV Qg Tg B3 EU Aq JR EV;rw[lc,r,Ve (f:=bA) (b:=b) (λK=>V2 hr.mm),J];simp only[];rw[CO,CN,B6,lc,r,B,lg,r,Ve (f:=V4) (b:=gE gs) (λK=>id rfl),M];simp only[];rw[CO,CN,AW (cs:=BG) rfl]
    try rw[show(Ac.zero:AV)=.agg BG from rfl]
    erw[Bx (cs:=BG) (vs:=BG) (Av (by simp)) rfl rfl rfl]
    rw[<-X];have lp:∀{K},A9 Ad (.ptr (Ay Q) 31 0) u K=K A7:=λ{K}=>AH (p:=31) rfl t (show 31<68 by decide);have ln:∀{K:K2},Bi Ad A7 K=K (I 0):=id rfl;simp only[uU,gU,BJ,T2,Ca,R,lp,ln];have e5:∀(k:AV->AV->KV),DL (L+20) (r! L (n+N)) K k (L+20)=Dp (L+20) (r! L (n+N)) K k (DL (L+20) (r! L (n+N)) K k (L+19)):=λk=>FF _ _ _ _ _;rw[e5];unfold Dp GI B3 Aq EV;have aa:∀{K},A9 Cq (.ptr x 0 0) u K=K (.mp m):=λ{K}=>AH (p:=0) rfl q.c (show 0<1 by decide);rw[Ga (by omega),B6];show A9 Cq (.ptr x 0 0) u _=_;rw[aa,r,Yl (f:=bA) (v:=false) q.mm]
   |some c=>
    rw[M]at a;obtain⟨D,ag⟩:=B4B M;simp only[oH]at a;obtain⟨u,X,t,w2,k2⟩:=DN (e:=Ae) (zs:=BG) (vs:=c.cs) d.wf BI;have q:=d.kp w2 k2;cases hq:zM (dfs (gr gs) N) (cE c).ps ((cE c).real|| !(cE c).ps.isEmpty) (KZ b s false) with
    |none=>rw[hq]at a;cases a
    |some p=>
     obtain⟨w,b2⟩:=p;rw[hq]at a;cases a
     obtain⟨H3,A,h3⟩:=B6C (L:=L) (n:=n) (N:=N) (a0:=S s) (a1:=.ptr x 0 0) (ps:=c.ps) (O c D) Z (L+20) 0 _ _ u (by omega) (by have:=O c D;omega) q (by rw[l1n];exact hq);refine⟨_,A.up _,λK=>?_⟩;rw[<-WE,Ih];unfold F0 DV Qg Tg B3 EU Aq JR EV;rw[lc,r,Ve (f:=bA) (b:=b) (λK=>V2 hr.mm),J];simp only[];rw[CO,CN,B6,lc,r,B,lg,r,Ve (f:=V4) (b:=gE gs) (λK=>id rfl),M];simp only[];rw[CO,CN,AW (cs:=BG) rfl,Bx (cs:=BG) (vs:=c.cs) (Av (by simp)) BI rfl IM,<-X];have lp:∀{K},A9 Ad (.ptr (Ay Q) 31 0) u K=K (Gp c.ps):=λ{K}=>B8k t;have lk:∀{K},A9 Ab (.ptr (Ay Q) 0 0) u K=K (I c.kd):=λ{K}=>B8l t;have e1:∀{K},Al Ab .eql (I c.kd) (.v (.int .i64 1)) K=K (Bo (decide (c.kd=1))):=λ{K}=>by rw[CP]
     have g0:∀{K},Al Ab .gtr (I (c.ps.length:Int)) (.v (.int .i64 0)) K=K (Bo (!c.ps.isEmpty)):=λ{K}=>by
      rw[DE];cases hp:c.ps<;>simp
     have ab:∀{K},A9 Cq (.ptr x 0 0) H3 K=K (.mp m):=λ{K}=>AH (p:=0) rfl A.c (show 0<1 by decide);simp only[gT,BJ,R,lk,e1];have fin:∀i:Bool,((cE c).real|| !(cE c).ps.isEmpty)=i->(DL (L+20) (r! L (n+N)) K (λae af P C=>A9 Cq af C λad=>Nt ae λac=>VT ad ac P C λV=>K P V) (L+20) (S s) (.ptr x 0 0) (.ptr z 0 0) (Bo i) (Gp c.ps) (I c.ps.length) (I ((0:Nat):Int)) u)=K (Bo v) (upd H3 m (.map false (Rb bA (KZ b2 s v)) none)):=λi Y=>by
      rw[<-Y,h3];rw[ab,r,Yl (f:=bA) (v:=v) A.mm]
     by_cases hk:c.kd=1
     ·simp only[hk,decide_true,gFT,BJ,WT,Ca,R,lp,Yn];exact fin true (by simp[cE,hk])
     ·simp only[hk,decide_false,gT,BJ,T2,WT,Ca,R,lp,Yn,g0];exact fin _ (by simp[cE,hk])
def I!{a:AV}(q:GOk gs)(t:40000<L)(u:∀c∈gs,c.ps.length<100)(j:LA gs a):CS (r! L (n+80)) XA1 [a,S s] (Bo (rz (gr gs) gs.length s)):=by
 intro K f;rw[Wz];unfold MA;have i:Qi true depth [a] [a] [] false:=by rcases j with rfl|⟨_,rfl⟩<;>exact λK=>by kernel_rfl
 have of:∀{K:K2},Ak (r! L (n+79)) Fc [a] [] K=K (.tup [gV gs,Bo true]):=λ{K}=>HF (λK f=>A7Q (n:=n+15) q.o9 t j K f) i;rw[of,CO,CN];have hr:Rl gs 0 1 2 3 [] [(3,c_ Ia [clR 2 0 3]),(2,c_ IR [.mp 1]),(1,.map false [] none),(0,c_ Da [gV gs])]:=
  ⟨rfl,rfl,rfl,rfl,λk hk=>by simp at hk;show k<4;omega,by decide⟩
 have go:Dk (E (L+20)) (r! L (n+79)) (clR 2 0 3) [S s] [(3,c_ Ia [clR 2 0 3]),(2,c_ IR [.mp 1]),(1,.map false [] none),(0,c_ Da [gV gs])] K=some (Bo (rz (gr gs) gs.length s),[]):=by
  rw[B0p];have d:(gr gs).length=gs.length:=by simp[gr]
  obtain⟨r,p⟩:=B06 (g:=gr gs) s;rw[d]at p;obtain⟨H',_,h⟩:=A8J (L:=L) (n:=n+77-gs.length) (by omega) u (gs.length+2) s [] r _ _ hr p;have e:n+79=n+77-gs.length+(gs.length+2):=by have:=q.len;omega
  rw[e,h];exact f _ _ (λb=>⟨false,λK=>by kernel_rfl⟩)
 exact go
end
end
section
variable{L n:Nat}
def lA:Ha:=[190,37,193,108,62,69,192,54,146,30,179,35,185,160,42,118,74,72,34,96,70,26,154,115,110,60,175,172,120,42,152,121]
def lB:Ha:=[63,129,197,209,192,171,238,78,64,123,139,56,179,57,155,251,126,184,172,103,57,87,222,153,225,163,5,204,149,119,153,179]
def lC:Ha:=[71,37,141,151,10,1,163,27,132,95,7,9,41,219,210,4,28,226,237,216,22,83,151,14,245,69,75,76,21,75,82,216]
def lM:Ha:=[138,237,11,190,196,80,244,57,90,159,226,217,140,117,21,86,222,147,187,253,67,69,36,87,52,61,73,4,157,145,48,204]
def lD:Ha:=[43,112,24,193,160,158,31,110,143,43,225,193,162,105,217,23,179,133,159,236,252,133,93,18,158,85,197,253,46,253,8,36]
def lE:Ha:=[11,203,203,231,166,154,207,130,208,249,166,236,80,133,250,187,224,115,94,57,103,34,211,136,99,121,167,117,21,244,36,120]
def Jg:Cd:=.re ⟨⟨1,1,1,0,0⟩, -80,0,[(1, -8),(2, -8),(3, -8),(4, -8),(5, -8)]⟩ 0
def Vu:Cd:=.re ⟨⟨1,2,1,0,0⟩, -80,0,[(1, -8),(2, -8),(3, -8),(4, -8),(5, -8)]⟩ 0
def wA:Cd:=.re ⟨⟨1,2,1,0,9⟩, -80,0,[(1, -8),(2, -8),(3, -8),(4, -8),(5, -8)]⟩ 0
def Xr:Cd:=.co ⟨⟨1,3,1,0,0⟩, -80,0,[(1, -5),(2, -5),(3, -5),(4, -8),(5, -8)]⟩ ⟨2,[3,3],.no⟩ [lA,lB] none
def uP:Cd:=.co ⟨⟨1,4,1,0,0⟩, -80,0,[(1, -5),(2, -5),(3, -5),(4, -8),(5, -8)]⟩ ⟨2,[3,3],.no⟩ [lC,lM] none
def A4s:C_ 0 0 0 0 0 0 0 0 0 0 0 0 none []=Jg:=by kernel_rfl
def A4r:C_ 0 0 1 0 0 0 0 0 0 0 0 0 none []=Vu:=by kernel_rfl
def A4q:C_ 1 0 11 0 0 0 3 3 3 0 0 0 none [lA,lB]=Xr:=by kernel_rfl
def A4p:C_ 1 0 12 0 0 0 3 3 3 0 0 0 none [lC,lM]=uP:=by kernel_rfl
def Wp:Jg.id=lA:=by kernel_rfl
def Wo:Vu.id=lB:=by kernel_rfl
def iT:Xr.id=lC:=by kernel_rfl
def sA:uP.id=lD:=by kernel_rfl
def A4o:wA.id=lE:=by kernel_rfl
def B7b:nM 77=lM:=by kernel_rfl
end
section
variable{L n:Nat}
def RT(R:Rt)(f:Nat)(args:Is)(v:AV):Prop:=(R.call f args [] λv a=>IG true a depth v λ_ c=>some (c,[]))=some (v,[])
def FQ{R:Rt}{f:Nat}{args args':Is}{v:AV}{H:Hp}{K:K2}(hc:RT R f args' v)(a:Qi true depth args args' H false):Ak R f args H K=K v:=by
 unfold Ak;rw[a];show Ai (R.call f args' [] _) K=K v;rw[show((!false)=true) from rfl,hc];rfl
def Y?:dn:=[uP,Xr,Vu,Jg]
def rZ:Jg.Ok:=A4s▸mC (by simp)
def rY:Vu.Ok:=A4r▸mC (by simp)
def A4n:Xr.Ok:=A4q▸mC (by simp[lA,lB])
def B3o:uP.Ok:=A4p▸mC (by simp[lC,lM])
def B3n:wA.Ok:=by
 obtain⟨h,a⟩:=rY;exact⟨⟨⟨by decide,by decide,by decide,by decide,by decide,by decide,by decide,by decide,by decide,by decide⟩,h.c1,h.c2,h.r1,h.r2,h.ts⟩,a⟩
def kS:GOk Y?:=by
 refine⟨?_,?_,?_,by decide⟩
 ·intro c hc;simp only[Y?,Rx,List.not_mem_nil,or_false]at hc;rcases hc with rfl|rfl|rfl|rfl
  ·exact B3o
  ·exact A4n
  ·exact rY
  ·exact rZ
 ·intro c hc;simp only[Y?,Rx,List.not_mem_nil,or_false]at hc;rcases hc with rfl|rfl|rfl|rfl
  ·show[lC,lM].Nodup;decide
  ·show[lA,lB].Nodup;decide
  ·show([]:List Ha).Nodup;decide
  ·show([]:List Ha).Nodup;decide
 ·show[uP.id,Xr.id,Vu.id,Jg.id].Nodup;rw[Wp,Wo,iT,sA];decide
def Mb:AV:=.list 4 (uP.cs++(Xr.cs++(Vu.cs++Jg.cs)))
def Ta:LA Y? Mb:=.inl (by
 show AV.list 4 _=AV.list 4 (Y?.flatMap Cd.cs);simp[Y?])
def of4(a:40000<L):∀H K,Ak (r! L (n+64)) Fc [Mb] H K=K (.tup [.imap [(.string ⟨⟨lD⟩⟩,.agg uP.cs),(.string ⟨⟨lC⟩⟩,.agg Xr.cs),(.string ⟨⟨lB⟩⟩,.agg Vu.cs),(.string ⟨⟨lA⟩⟩,.agg Jg.cs)],Bo true]):=by
 intro H K;rw[HF (A7Q (n:=n) kS.o9 a Ta) (Az (Ta.fx H) Bq)];have e:gV Y?= .imap [(.string ⟨⟨lD⟩⟩,.agg uP.cs),(.string ⟨⟨lC⟩⟩,.agg Xr.cs),(.string ⟨⟨lB⟩⟩,.agg Vu.cs),(.string ⟨⟨lA⟩⟩,.agg Jg.cs)]:=by
  have:gE Y?=[(lD,uP),(lC,Xr),(lB,Vu),(lA,Jg)]:=by simp[gE,Y?,Wp,Wo,iT,sA]
  rw[gV,this];rfl
 rw[e]
def A2g(a:40000<L):RT (r! L (n+65)) Kt [Mb] (Gp [lM]):=by
 unfold RT;rw[XN];unfold NS;rw[of4 a];kernel_rfl
def A8r(a:40000<L):RT (r! L (n+65)) Hr [Mb] (Bo true):=by
 unfold RT;rw[T4];unfold MX GO;rw[of4 a];kernel_rfl
def A8v(a:40000<L):RT (r! L (n+65)) Nc [Mb] (Gp [lD]):=by
 unfold RT;rw[eW];unfold Ra;rw[of4 a];kernel_rfl
def B6x(a:40000<L):RT (r! L (n+65)) ED [Mb,S lC] (Gp [lB,lA]):=by
 unfold RT;rw[Ob];unfold IU;rw[of4 a];kernel_rfl
def B6w(a:40000<L):RT (r! L (n+65)) ED [Mb,S lD] (Gp [lB,lC,lA]):=by
 unfold RT;rw[Ob];unfold IU;rw[of4 a];kernel_rfl
def A8y(a:40000<L):RT (r! L (n+65)) Il [Mb,S lC] (.tup [.agg Xr.cs,Bo true]):=by
 unfold RT;rw[UO];unfold Oo Mt;simp only[of4 a];kernel_rfl
def A8x(a:40000<L):RT (r! L (n+65)) Il [Mb,S lM] (.tup [.agg BG,Bo false]):=by
 unfold RT;rw[UO];unfold Oo Mt;simp only[of4 a];kernel_rfl
end
section
variable{c:Cd}{k:Int}
variable{L n:Nat}
section
variable{K:KV}{x:Af}{H:Hp}{z:Nat}
def zP{cs:Is}(w:Wf H)(hz:Ao H z=some (c_ Ae BG))(h1:cs.length=68)(h2:cs.all AV.one=true)(t:∀h,(∀s q,s≠z->Ao H s=some q->Ao h s=some q)->K (.agg cs) h=x):
 (Bc Ae Ac H λj p=>DD Ac j (.agg cs) p λi=>A9 Ac j i λf=>DD Ac (.ptr z 0 0) f i λa=>A9 Ac (.ptr z 0 0) a λg=>K g a)=x:=by
 obtain⟨A,r,y,w1,d⟩:=DN (e:=Ae) (zs:=BG) (vs:=cs) w h1;rw[AW (cs:=BG) rfl,Bx (cs:=BG) (vs:=cs) (Av (by simp)) h1 rfl h2,<-r];obtain⟨m, -⟩:=d _ _ hz;rw[AR (cs:=cs) rfl (by exact h1.symm) y,Bx m h1 rfl h2,AR (cs:=cs) rfl (by exact h1.symm) (A4 m)];exact t _ λs q v u=>by rw[Aj v];exact(d _ _ u).1
def oS{a:Int}(h1: -100<=a)(h2:a<=100):J8 a:=by unfold J8;omega
def A0R(i:40000<L)(h1:1<=k)(h2:k<=2)(hc:C_ 0 0 (k-1) 0 0 0 0 0 0 0 0 0 none []=c):CT (r! L (n+45)) DI [I k] (.agg c.cs):=by
 intro K h;rw[TG];unfold JF Aq;obtain⟨t,z,g,p,e,w1,k1⟩:=push EH (c_ Ae BG) (by simp);have b0:∀{K:K2},Ch Be [] K=K (.agg [I 0,I 0,I 0,I 0,I 0,I 0]):=λ{K}=>id rfl;have b2:∀{K:K2},Ch Be [(0,1,(AV.v (.int .i64 0))),(1,1,(AV.v (.int .i64 0))),(2,1,I (k-1)),(3,1,(AV.v (.int .i64 0))),(4,1,(AV.v (.int .i64 0))),(5,1,(AV.v (.int .i64 0)))] K=K (.agg [I 0,I 0,I (k-1),I 0,I 0,I 0]):=λ{K}=>id rfl;rw[AW (cs:=BG) rfl,<-p,<-g,Gx,BX (by omega) (by omega),b2,b0];have a:J8 0:=oS (by decide) (by decide);refine jF (n:=n) (y:=none) (l:=[]) i w1 a a (oS (by omega) (by omega)) a a a a a a a a a (λf _=>⟨false,Er⟩) trivial (.inl (.inr ⟨rfl,rfl⟩)) (by decide) (by simp) ?_;rw[hc];intro v f sv nv r kp fr;refine zP r (kp _ _ e) (Tt c) (Yv c (AT.one sv)) λu m=>?_;have hz:∀s,AD v s->s≠z:=λs d=>by have:=fr s d;have:=w1.lt e;omega
 obtain⟨q,hq⟩:=tY (D:=depth-2) (sv.kp λs q d j=>m s q (hz s d) j) nv;exact h _ _ ⟨q,PJ (D:=depth-1) hq⟩
def A0S(p:40000<L)(h1:1<=k)(h2:k<=9){l:List Ha}(e:l.length=2)(d:∀s∈l,s.length=32)(hc:C_ 1 0 (9+k-1) 0 0 0 3 3 3 0 0 0 none l=c):CT (r! L (n+45)) EG [I k,Gp l] (.agg c.cs):=by
 intro K m;rw[TH];unfold JG Aq;obtain⟨A,z,j,u,h,w1,k1⟩:=push EH (c_ Ae BG) (by simp);have b0:∀{K:K2},Ch Be [(0,1,(AV.v (.int .i64 3))),(1,1,(AV.v (.int .i64 3))),(2,1,(AV.v (.int .i64 3))),(3,1,(AV.v (.int .i64 0))),(4,1,(AV.v (.int .i64 0))),(5,1,(AV.v (.int .i64 0)))] K=K (.agg [I 3,I 3,I 3,I 0,I 0,I 0]):=λ{K}=>id rfl;have b2:∀{K:K2},Ch Be [(0,1,(AV.v (.int .i64 1))),(1,1,(AV.v (.int .i64 0))),(2,1,I (9+k-1)),(3,1,(AV.v (.int .i64 0))),(4,1,(AV.v (.int .i64 0))),(5,1,(AV.v (.int .i64 0)))] K=K (.agg [I 1,I 0,I (9+k-1),I 0,I 0,I 0]):=λ{K}=>id rfl;have sub:∀{K:K2},Al Ab .sub (I ((2:Nat):Int)) (.v (.int .i64 1)) K=K (I 1):=λ{K}=>by kernel_rfl
 have mul:∀{K:K2},Al Ab .mul (.v (.int .i64 9)) (I 1) K=K (I 9):=λ{K}=>by kernel_rfl
 rw[AW (cs:=BG) rfl,<-u,<-j,(QO l).len,e,sub,mul,Ck,BX (by omega) (by omega),Gx,BX (by omega) (by omega),b2,b0];have a:J8 0:=oS (by decide) (by decide);have g:J8 3:=oS (by decide) (by decide);refine jF (n:=n) (y:=none) (l:=l) p w1 (oS (by decide) (by decide)) a (oS (by omega) (by omega)) a a a g g g a a a (λi _=>⟨false,Er⟩) trivial (.inl (QO l)) (by omega) d ?_;rw[hc];intro v i sv nv w kp fr;refine zP w (kp _ _ h) (Tt c) (Yv c (AT.one sv)) λB t=>?_;have hz:∀s,AD v s->s≠z:=λs f=>by have:=fr s f;have:=w1.lt h;omega
 obtain⟨q,hq⟩:=tY (D:=depth-2) (sv.kp λs q f r=>t s q (hz s f) r) nv;exact m _ _ ⟨q,PJ (D:=depth-1) hq⟩
end
def gs3:dn:=[Jg,Vu,wA]
def A5u:AV:=.list 3 (Jg.cs++(Vu.cs++wA.cs))
def B4s:GOk gs3:=by
 refine⟨?_,?_,?_,by decide⟩
 ·intro c hc;simp only[gs3,Rx,List.not_mem_nil,or_false]at hc;rcases hc with rfl|rfl|rfl
  ·exact rZ
  ·exact rY
  ·exact B3n
 ·intro c hc;simp only[gs3,Rx,List.not_mem_nil,or_false]at hc;rcases hc with rfl|rfl|rfl<;>(show([]:List Ha).Nodup;decide)
 ·show[Jg.id,Vu.id,wA.id].Nodup;rw[Wp,Wo,A4o];decide
def sW:LA gs3 A5u:=.inl (by
 show AV.list 3 _=AV.list 3 (gs3.flatMap Cd.cs);simp[gs3])
def of3(a:40000<L):∀H K,Ak (r! L (n+64)) Fc [A5u] H K=K (.tup [.imap [(.string ⟨⟨lA⟩⟩,.agg Jg.cs),(.string ⟨⟨lB⟩⟩,.agg Vu.cs),(.string ⟨⟨lE⟩⟩,.agg wA.cs)],Bo true]):=by
 intro H K;rw[HF (A7Q (n:=n) B4s.o9 a sW) (Az (sW.fx H) Bq)];have e:gV gs3=.imap [(.string ⟨⟨lA⟩⟩,.agg Jg.cs),(.string ⟨⟨lB⟩⟩,.agg Vu.cs),(.string ⟨⟨lE⟩⟩,.agg wA.cs)]:=by
  have:gE gs3=[(lA,Jg),(lB,Vu),(lE,wA)]:=by simp[gE,gs3,Wp,Wo,A4o]
  rw[gV,this];rfl
 rw[e]
def A5v:AV:=.list 2 (Jg.cs++Jg.cs)
def sX:LA [Jg,Jg] A5v:=.inl (by
 show AV.list 2 _=AV.list 2 ([Jg,Jg].flatMap Cd.cs);simp)
def of2(hL:40000<L):CT (r! L (n+64)) Fc [A5v] (.tup [.imap [],Bo false]):=by
 intro K hK;have w:=sX;rw[XK];unfold XA8 Aq JR EV;have em:∀(H:Hp)(K:KV),KR Ac H K=K (.mp (Ay H)) ((Ay H,.map false [] none)::H):=λH K=>by
  show GP H (λs=>K (.mp s) ((s,.map false [] (sQ Ac.d))::H))=_;rw[BQ];rfl
 have h:=A0o (L:=L) (n:=n) hL rZ (show([]:List Ha).Nodup by decide);have t:∀(F:Value->Af),Nt (S Jg.id) F=F (SV Jg.id):=λF=>id rfl;have q1:∀{K},Al Ag .eql (S Jg.id) (S []) K=K (Bo false):=λ{K}=>by rw[GK,Iy (mB _)]
 rw[em];simp only[Ca];have C:=Av (H:=[]) (x:=.map false [] none) (by simp);have wf:=Bw (x:=.map false [] none) EH;generalize ((Ay [],Row.map false [] none)::([]:Hp))=Q at C wf;generalize Ay []=r at C;have X:(AV.v (.int .i64 0))=I ((0:Nat):Int):=rfl;rw[w.len,X];show Qq (L+20) (r! L (n+63)) K _ ((L+18)+1+1) _ _ _ _ _ Q=_;rw[Rg];unfold Nv GI EU Aq JR EV;have i0:([Jg,Jg]:dn)[0]=Jg:=rfl;have i1:([Jg,Jg]:dn)[1]=Jg:=rfl;have N:=λK=>w.ia (K:=K) (i:=0) (by decide);have a1:=λK=>w.ia (K:=K) (i:=1) (by decide);rw[i0]at N;rw[i1]at a1;obtain⟨R,Y,g,w1,k1⟩:=DN (e:=Ae) (zs:=BG) (vs:=Jg.cs) wf BI;rw[FZ (by decide),Dg,N,lR,AW (cs:=BG) rfl,Bx (cs:=BG) (vs:=Jg.cs) (Av (by simp)) BI rfl IM,<-Y,AR rfl BI.symm g,AX h (Yw R)];have j:=(k1 _ _ C).1;rw[t,Ve (f:=V4) (b:=([]:List (Ha×Cd))) (λK=>V2 j)];have fn:Qh ([]:List (Ha×Cd)) Jg.id=none:=rfl;rw[fn];simp only[];obtain⟨p,Z,aa,w2,O⟩:=DN (e:=Ae) (zs:=BG) (vs:=BG) w1 rfl;rw[CO,CN,AW (cs:=BG) rfl]
 erw[Bx (cs:=BG) (vs:=BG) (Av (by simp)) rfl rfl rfl]
 rw[<-Z];have J:=(O _ _ j).1;have A:=(O _ _ g).1;simp only[gT,BJ,q1,T2];have a:Ao p r=some (.map false (Rb V4 ([]:List (Ha×Cd))) none):=J;rw[B6,AR rfl BI.symm A,t,Yl (f:=V4) (v:=Jg) a,Dc (by decide)];have m:Ao (upd p r (.map false (Rb V4 (KZ ([]:List (Ha×Cd)) Jg.id Jg)) none)) r=some (.map false (Rb V4 (KZ ([]:List (Ha×Cd)) Jg.id Jg)) none):=(Et a).trans rfl;have P:=BF (r:=r) (y:=.map false (Rb V4 (KZ ([]:List (Ha×Cd)) Jg.id Jg)) none) w2;generalize upd p r (.map false (Rb V4 (KZ ([]:List (Ha×Cd)) Jg.id Jg)) none)=H3 at m P;rw[Rg];unfold Nv GI EU Aq JR EV;obtain⟨V,e4,B,w4,k4⟩:=DN (e:=Ae) (zs:=BG) (vs:=Jg.cs) P BI;rw[FZ (by decide),Dg,a1,lR,AW (cs:=BG) rfl,Bx (cs:=BG) (vs:=Jg.cs) (Av (by simp)) BI rfl IM,<-e4,AR rfl BI.symm B,AX h (Yw V)];have M:=(k4 _ _ m).1;have u:Qh (KZ ([]:List (Ha×Cd)) Jg.id Jg) Jg.id=some Jg:=by rw[HO,CJ rfl]
 rw[t,Ve (f:=V4) (b:=KZ ([]:List (Ha×Cd)) Jg.id Jg) (λK=>V2 M),u];simp only[];obtain⟨H5,e5,ab,w5,k5⟩:=DN (e:=Ae) (zs:=BG) (vs:=Jg.cs) w4 BI;rw[CO,CN,AW (cs:=BG) rfl,Bx (cs:=BG) (vs:=Jg.cs) (Av (by simp)) BI rfl IM,<-e5];simp only[gFT,BJ,WT];rw[Dg,em];refine hK _ _ ⟨true,Zu (D:=depth-1) (q:=true) (Az (B0W (D:=depth-5) (es:=[]) (Av (by simp))) (Az (q:=false) Er Bq))⟩
def A4t(a:40000<L):RT (r! L (n+65)) Hr [A5v] (Bo false):=by
 unfold RT;rw[T4];unfold MX GO;rw[HF (of2 (n:=n) a) (Az (sX.fx []) Bq)];kernel_rfl
def B3q:RT (r! L (n+65)) KH [.agg Xr.cs,.agg Xr.cs] (Bo true):=by unfold RT;kernel_rfl
def B6v:RT (r! L (n+2)) BV [Gp [lM],Gp [lM]] (Bo true):=by unfold RT;kernel_rfl
def B6u:RT (r! L (n+2)) BV [Gp [lD],Gp [lD]] (Bo true):=by unfold RT;kernel_rfl
def B6t:RT (r! L (n+2)) BV [Gp [lB,lA],Gp [lB,lA]] (Bo true):=by unfold RT;kernel_rfl
def B6s:RT (r! L (n+2)) BV [Gp [lB,lA,lC,lD],Gp [lB,lA,lC,lD]] (Bo true):=by unfold RT;kernel_rfl
end
section
variable{L n:Nat}
def A8w(a:40000<L):RT (r! L (n+65)) Ew [A5u] (.list 1 [S lE,S lB]):=by
 unfold RT;rw[T6];unfold MY Aq;rw[of3 a];kernel_rfl
end
end Go.Abs
end
