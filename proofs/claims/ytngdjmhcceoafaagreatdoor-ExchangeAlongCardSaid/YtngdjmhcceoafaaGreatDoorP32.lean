import Derived.Test.YtngdjmhcceoafaaGreatDoorP31
set_option linter.all false
set_option maxHeartbeats 100000000
noncomputable section
namespace Go.Abs
open Go.RowKit Go.Proofs
set_option maxRecDepth 100000
section
variable {F:AV->AV->Hp->Af} {H0:Hp} {b:List (AM×Cd)} {m rb:Nat}
variable {L n:Nat}
section
variable {A out:List Cd} {s:AM} {H:Hp} {K:KV} {x:Af}
def B4C (h:s∉out.map Cd.id):Mn (gE out) s=none:=Yj (by rw[Wp];exact h)
def M_ (h:s∈out.map Cd.id):∃c,Mn (gE out) s=some c:=by
 rcases A5j (gs:=out) (s:=s) with⟨_,k,a,h1,_⟩|⟨h1,_⟩
 ·exact⟨_,h1⟩
 ·exact absurd h h1
def L! {F:Value->Af}:LQ (S s) F=F (SV s):=id rfl
def B9J {es:List (Value×AV)} {F:AV->Af}:AF Ah (.iptr [.imap es]) H F=F (.imap es):=by kernel_rfl
def A56 {P:Af->Prop} {m:AV} (hm:∀K,wW m H K=K (Dc DF b)) (d:∀a,(∃c:List AV,a=upd ((Ao H,c_ Ad CH)::H) (Ao H) (c_ Ad c))->P (F (Bo (Mn b s).isSome) (.ptr (Ao H) 0 0) a)):
 P (LQ (S s) λq=>YV Ae true m q H λv=>Cx v 0 λi=>Cx v 1 λj=>Bx Ad Ae H λe g=>E0 Ae e i g λh=>F j e h):=by
 rw[L!,A3R (f:=DF) (b:=b) hm];cases hc:Mn b s with
 |some c=>
  simp only[];rw[F3,F2,B1 (cs:=CH) rfl,Cc (cs:=CH) (vs:=c.cs) (Aw (by simp)) EA rfl Mk];have:=d _ ⟨c.cs,rfl⟩;rw[hc] at this;exact this
 |none=>
  simp only[];rw[F3,F2,B1 (cs:=CH) rfl]
  erw [Cc (cs:=CH) (vs:=CH) (Aw (by simp)) rfl rfl rfl]
  have:=d _ ⟨CH,rfl⟩;rw[hc] at this;exact this
def A3p {m:AV} (hm:∀K,wW m H K=K (Dc DF b)) (h:∀d,(∃c:List AV,d=upd ((Ao H,c_ Ad CH)::H) (Ao H) (c_ Ad c))->F (Bo (Mn b s).isSome) (.ptr (Ao H) 0 0) d=x):
 (LQ (S s) λq=>YV Ae true m q H λv=>Cx v 0 λi=>Cx v 1 λj=>Bx Ad Ae H λe f=>E0 Ae e i f λg=>F j e g)=x:=
 A56 (P:= λa=>a=x) hm h
def gM:(Mn (gE out) s).isSome=decide (s∈out.map Cd.id):=by
 by_cases h:s∈out.map Cd.id
 ·obtain⟨c,hc⟩:=M_ h;rw[hc,Iu h];rfl
 ·rw[B4C h,IG h];rfl
def C0S:CS (r! L (n+1)) Db [S s,.iptr [.imap (Dc DF (gE out))]] (Bo (decide (s∉out.map Cd.id))):=by
 intro K d;rw[Nw];unfold G9 Lo;rw[B9J];refine A3p (b:=gE out) (F:= λe _ c=>Mg .not e λa=>K a c) (λK=>id rfl) λf _=> ?_;rw[gM,En];have:(!decide (s∈out.map Cd.id))=decide (s∉out.map Cd.id):=by by_cases h:s∈out.map Cd.id<;>simp[h]
 rw[this];exact d _ _ λb=>⟨false,C7⟩
structure Cp (H0:Hp) (m rb:Nat) (out:List Cd) (H:Hp):Prop where
 mm:Aj H m=some (.map false (Dc DF (gE out)) none)
 bb:Aj H rb=some (c_ Au [.mp m])
 wf:Wf H
 keep:∀u y,Aj H0 u=some y->Aj H u=some y
 m0:Ao H0<=m
 b0:Ao H0<=rb
 w0:Wf H0
def Cp.ne (h:Cp H0 m rb out H):m≠rb:= λe=>by
 have:=h.mm;rw[e,h.bb] at this;cases this
def Cp.lat {H0 H':Hp} (h:Cp H0 m rb out H) (w:Wf H') (k:∀u y,Aj H u=some y->Aj H' u=some y):Cp H0 m rb out H':=
 ⟨k _ _ h.mm,k _ _ h.bb,w,λu y a=>k u y (h.keep u y a),h.m0,h.b0,h.w0⟩
theorem Cp.it {H0:Hp} {m rb it:Nat} (h:Cp H0 m rb out H) (y:Row) (h1:it≠m/\it≠rb/\Ao H0<=it):Cp H0 m rb out (upd H it y):=
 ⟨by rw[Ag h1.1.symm];exact h.mm,by rw[Ag h1.2.1.symm];exact h.bb,Bn h.wf,λu z a=>by rw[Ag (by have:=h.w0.lt a;omega)];exact h.keep u z a,h.m0,h.b0,h.w0⟩
def Cp.put (h:Cp H0 m rb out H) (a:List Cd):Cp H0 m rb a (upd H m (.map false (Dc DF (gE a)) none)):=
 ⟨(BB h.mm).trans rfl,by rw[Ag h.ne.symm];exact h.bb,Bn h.wf,λu z c=>by rw[Ag (by have:=h.w0.lt c;have:=h.m0;omega)];exact h.keep u z c,h.m0,h.b0,h.w0⟩
def B0v (out:List Cd) (c:Cd):gE out++[(c.id,c)]=gE (out++[c]):=by simp[gE]
def B9X {m rb it:Nat} {a0 v8 w:AV} {out0:List Cd} {ad:AV->AV->AV->AV->Hp->Af} (hw:Vn 6 w w=true) (hg:GOk A) (hL:40000<L)
 (ac:∀out H,Cp H0 m rb out H->Ps A out->(∀c∈out0,c∈out)->(∀c∈A,(∀p∈c.ps,p∈out0.map Cd.id)->c.id∈out.map Cd.id)->ad a0 (.ptr rb 0 0) v8 (.it it) H=some (w,[]))
 (O:it≠m/\it≠rb/\Ao H0<=it):
 ∀(f:Nat) (es:List (AM×Cd)) (out:List Cd) (H:Hp) (o:Option (Value×AV)),es.length<f->(∀e∈es,e∈gE A)->Cp H0 m rb out H->Ps A out->(∀c∈out0,c∈out)->
 (∀c∈A,(c.id,c)∈es\/((∀p∈c.ps,p∈out0.map Cd.id)->c.id∈out.map Cd.id))->Aj H it=some (.iter (Dc DF es) o)->
 Ic (L+20) (r! L (n+3)) K ad f a0 (.ptr rb 0 0) v8 (.it it) H=some (w,[]):=by
 intro f
 induction f with
 |zero=>intro es out H o h;omega
 |succ f ih=>
  intro es out H o hf he hc V Z B hl;rw[Pf];unfold XA3 Eh;refine XM (f:=DF) hw hl (λe=> ?_) (λa e b ae=> ?_)
  ·subst e;rw[EX,Bj];exact ac out H hc V Z λc i=>(B c i).elim (λh=>by cases h) id
  ·subst ae;obtain⟨cd,N,ag⟩:=Ma.1 (he e (by simp));subst ag;have P:=Lv (es:=Dc DF (a++b)) (o:=some (.string ⟨⟨cd.id⟩⟩,DF cd)) hl;have M:=hc.it (.iter (Dc DF (a++b)) (some (.string ⟨⟨cd.id⟩⟩,DF cd))) O;have am:=WJ (hg.ok cd N);rw[EX,Cy];simp only[BK];rw[No P,EX,Na];generalize upd H it (.iter (Dc DF (a++b)) (some (.string ⟨⟨cd.id⟩⟩,DF cd)))=H1 at P M;obtain⟨Y,e2,aa,w2,k2⟩:=Ih (e:=Ad) (zs:=CH) (vs:=cd.cs) M.wf EA;rw[B1 (cs:=CH) rfl,Cc (cs:=CH) (vs:=cd.cs) (Aw (by simp)) EA rfl Mk,<-e2,fA,JQ,B1A aa];have j:=M.lat w2 λu y hu=>(k2 u y hu).1;have Q:=(k2 _ _ P).1;have ah:Rr true depth [DJ cd.ps,.fn (.func Db) [] [.ptr rb 0 0]] [DJ cd.ps,.fn (.func Db) [] [.iptr [.imap (Dc DF (gE out))]]] Y true:=
    Am (q:=false) ((MK cd.ps).fx Y) (Am (q:=true) (q':=false) (yG (D:=11) (Am (q:=true) (q':=false) (Wr (D:=10) j.bb (Am (q:=true) (q':=false) (A3B (D:=6) j.mm) AJ)) AJ)) AJ)
   have ab:∀{F:AV->Af},An (r! L (n+3)) B0 [DJ cd.ps,.fn (.func Db) [] [.ptr rb 0 0]] Y F=F (Bo (cd.ps.any λs=>decide (s∉out.map Cd.id))):= λ{F}=>
    AQ (qU (n:=n+1) (MK cd.ps) (λs K=>by
     rw[zP rfl rfl];exact AQ C0S (Am (q:=false) C7 (Am (q:=false) QV AJ))) (B9t (D:=10)) (by omega) (by omega)) ah
   rw[ab,En];have k:∀e∈a++b,e∈gE A:= λe X=>he e (by simp at X⊢;rcases X with X|X;exact .inl X;exact .inr (.inr X));have t:(a++b).length<f:=by simp at hf⊢;omega
   by_cases g:∀p∈cd.ps,p∈out.map Cd.id
   ·have e1:(cd.ps.any λs=>decide (s∉out.map Cd.id))=false:=by
     rw[List.any_eq_false];intro p J;simp[g p J]
    rw[e1];show Az (.v (.bool true)) _ _=_;rw[Cy];have lm:∀{F:AV->Af},AF Ah (.ptr rb 0 0) Y F=F (.mp m):= λ{F}=>AP (p:=0) rfl j.bb (by simp);rw[lm,Bu rfl EA.symm aa];show LQ (S cd.id) _=_;rw[L!];show Mh (.mp m) (SV cd.id) (DF cd) Y _=_;rw[gZ (f:=DF) (b:=gE out) (v:=cd) j.mm];by_cases r:cd.id∈out.map Cd.id
    ·obtain⟨c',ak⟩:=M_ r;obtain⟨d,hd,C⟩:=Ma.1 r;have e3:Mn (gE out) cd.id=some cd:=by
      have a1:=FC V.nd hd;rw[C] at a1;have a2:=FC hg.ids (V.sub d hd);have a3:=FC hg.ids N;rw[C,a3] at a2;rw[a1,l2c a2]
     rw[A6t e3];refine ih (a++b) out _ _ t k (j.put out) V Z (λc i=> ?_) (by rw[Ag O.1];exact Q);rcases B c i with h|h
     ·simp at h;rcases h with h|h|h
      ·exact .inl (by simp[h])
      ·exact .inr λ_=>by rw[h.1];exact r
      ·exact .inl (by simp[h])
     ·exact .inr h
    ·rw[YG (by rw[Wp];exact r),B0v];refine ih (a++b) (out++[cd]) _ _ t k (j.put (out++[cd])) (V.add N g r) (λc af=>by simp[Z c af]) (λc i=> ?_) (by rw[Ag O.1];exact Q);rcases B c i with h|h
     ·simp at h;rcases h with h|h|h
      ·exact .inl (by simp[h])
      ·exact .inr λ_=>by rw[h.1];simp
      ·exact .inl (by simp[h])
     ·exact .inr λR=>by
       have:=h R;rw[YN];exact Zs.2 (.inl this)
   ·have e1:(cd.ps.any λs=>decide (s∉out.map Cd.id))=true:=by
     rw[List.any_eq_true];simp only[Classical.not_forall] at g;obtain⟨p,ai,aj⟩:=g;exact⟨p,ai,by simp only[decide_eq_true_eq];exact aj⟩
    rw[e1];show Az (.v (.bool false)) _ _=_;rw[Bj];refine ih (a++b) out _ _ t k j V Z (λc i=> ?_) Q;rcases B c i with h|h
    ·simp at h;rcases h with h|h|h
     ·exact .inl (by simp[h])
     ·refine .inr λR=>absurd (λp J=> ?_) g;rw[<-h.2] at J;obtain⟨d,hd,C⟩:=Ma.1 (R p J);exact Ma.2 ⟨d,Z d hd,C⟩
     ·exact .inl (by simp[h])
    ·exact .inr h
end
end
section
variable {w:AV} {F:AV->Af} {es:List (Value×AV)} {m:Nat}
variable {L n:Nat}
section
variable {A out:List Cd} {s:AM} {H:Hp} {K:KV} {x:Af}
def tY {a:Option (List Nat×Nat)} (h:Aj H m=some (.map false es a)):Yq (.mp m) H F=F (I es.length):=by
 unfold Yq;rw[YR h,Co,JQ];rfl
def A1M {ty:Nat} {i:TI} {v:Value} (hz:i.zero= .v v):Bx ty i H K=K (.ptr (Ao H) 0 0) ((Ao H,c_ ty [.v v])::H):=by
 unfold Bx;rw[hz,CI,BV];rfl
def A06:(Lg (.iptr [.imap es]) λv=>CV 0 v λv=>AF Ah v H F)=F (.imap es):=by kernel_rfl
def A8T {l m:List Cd} (b:(l.map Cd.id).Nodup) (hm:(m.map Cd.id).Nodup) (e:∀c∈l,c∈m) (he:m.length=l.length):∀c∈m,c∈l:=by
 intro c hc;apply l39;intro hn;have h1:(c::l).Nodup:=List.nodup_cons.2 ⟨hn,YJ b⟩;have h2:=VG h1 (l2:=m) λd a=>by
  rcases Uf.1 a with rfl|a
  ·exact hc
  ·exact e d a
 simp at h2;omega
def B9Y {H0:Hp} {m rb:Nat} (R:Vn 6 w w=true) (t:GOk A) (O:40000<L) (V:∀out H,Cp H0 m rb out H->out.Perm (Eo A)->K (.mp m) H=some (w,[])):
 ∀(f:Nat) (out:List Cd) (H:Hp) (d1 d2:AV),A.length-out.length<f->Cp H0 m rb out H->Ps A out->
 F6 (L+20) (r! L (n+3)) K f (.iptr [.imap (Dc DF (gE A))]) (.ptr rb 0 0) d1 d2 H=some (w,[]):=by
 intro f
 induction f with
 |zero=>intro out H d1 d2 h;omega
 |succ f ih=>
  intro out H d1 d2 X hc B;rw[Pg];unfold Ie Eh;have lm:∀{out H} {F:AV->Af},Cp H0 m rb out H->AF Ah (.ptr rb 0 0) H F=F (.mp m):= λ{out H F} hc=>AP (p:=0) rfl hc.bb (by simp);have N:∀{out:List Cd},(Dc DF (gE out)).length=out.length:= λ{out}=>by simp[gE]
  simp only[BK];rw[lm hc,tY hc.mm,N,A06,Wy];have v:Aj ((Ao H,Row.iter (Dc DF (gE A)) none)::H) (Ao H)=some (.iter (Dc DF (gE A)) none):=Aw (by simp);have k:Cp H0 m rb out ((Ao H,Row.iter (Dc DF (gE A)) none)::H):=hc.lat (AI hc.wf) λu y M=>A4 (hc.wf.lt M) M;have m1:=hc.wf.lt hc.mm;have Y:=hc.wf.lt hc.bb;have m3:=hc.m0;refine B9X (n:=n) (out0:=out) R t O (λa D b g J q=> ?_) ⟨by omega,by omega,by omega⟩ (L+20) (gE A) out _ none (by have:=t.len;simp[gE];omega) (λe he=>he) k B (λc h=>h) (λc i=> .inl (Ma.2 ⟨c,i,rfl⟩)) v;rw[lm b,tY b.mm,N,CP];have Q:out.length<=a.length:=by
   have:=VG (YJ B.nd) (l2:=a) J;exact this
  by_cases he:a.length=out.length
  ·rw[Iu (by omega),Cy,lm b];refine V a D b (g.done t.ids λc i j=>q c i λp C=> ?_);obtain⟨d,P,r⟩:=Ma.1 (j p C);exact Ma.2 ⟨d,A8T B.nd g.nd J he d P,r⟩
  ·rw[IG (by omega),Bj];have:=g.len;exact ih a D _ _ (by omega) b g
def qW (i:Vn 6 w w=true) (e:GOk A) (g:40000<L) (wf:Wf H) (j:∀out m a,out.Perm (Eo A)->Aj a m=some (.map false (Dc DF (gE out)) none)->Ao H<=m->Wf a->(∀u y,Aj H u=some y->Aj a u=some y)->Ao H<=Ao a->K (.mp m) a=some (w,[])):
 (r! L (n+4)).call FK [.iptr [.imap (Dc DF (gE A))]] H K=some (w,[]):=by
 rw[Qc];unfold I2;have em:∀(H:Hp) (K:KV),L4 Ae H K=K (.mp (Ao H)) ((Ao H,.map false [] none)::H):= λH K=>by
  show Ig H (λs=>K (.mp s) ((s,.map false [] (kS Ae.d))::H))=_;rw[BV];rfl
 rw[em,A1M (v:= .map none) rfl];have w1:=AI (x:= .map false [] none) wf;have h1:Aj ((Ao H,Row.map false [] none)::H) (Ao H)=some (.map false [] none):=Aw (by simp);have c:Ao ((Ao H,Row.map false [] none)::H)=Ao H+1:=rfl;rw[c];have h2:Aj ((Ao H+1,c_ Au [.v (.map none)])::(Ao H,Row.map false [] none)::H) (Ao H+1)=some (c_ Au [.v (.map none)]):=Aw (H:=(Ao H,Row.map false [] none)::H) (by simp);rw[Ed (cs:=[.v (.map none)]) h2 (by simp) rfl rfl rfl];have p:Wf ((Ao H+1,c_ Au [.v (.map none)])::(Ao H,Row.map false [] none)::H):=AI (x:= .cells true Au [.v (.map none)]) w1;have k:∀u y,Aj H u=some y->Aj ((Ao H+1,c_ Au [.v (.map none)])::(Ao H,Row.map false [] none)::H) u=some y:= λu y b=>by
  have a1:=A4 (x:= .map false [] none) (wf.lt b) b;exact A4 (w1.lt a1) a1
 have f:Aj ((Ao H+1,c_ Au [.v (.map none)])::(Ao H,Row.map false [] none)::H) (Ao H)=some (.map false [] none):=A4 (H:=(Ao H,Row.map false [] none)::H) (by rw[c];omega) h1;refine B9Y (n:=n) (H0:=H) (m:=Ao H) (rb:=Ao H+1) i e g (λout a hc h=> ?_) (L+20) [] _ _ _ (by have:=e.len;simp;omega) ⟨by rw[Ag (by omega)];exact f,AC h2,Bn p,λu y b=>by rw[Ag (by have:=wf.lt b;omega)];exact k u y b,by omega,by omega,wf⟩ .nil;have:=hc.wf.lt hc.mm;exact j out (Ao H) a h hc.mm (Mb _) hc.wf hc.keep (by omega)
end
end
section
variable {v w:AV} {H H0:Hp} {A:List Cd} {m:Nat}
variable {L n:Nat}
def tD (c2 c6:AV) (p:Option (Option Code)):Row:= .loop 13 [(2,c2),(4,As),(5,AV.dk),(6,c6),(7,AV.dk),(8,AV.dk),(9,AV.dk),(10,AV.dk),(11,AV.dk)] (AE).2.1 (AE).2.2.1 (AE).2.2.2 p
structure CollC (H0:Hp) (r0 s:Nat) (q0:Bool) (e0:Nat) (c6:AV) (l:List Cd) (v:AV) (H:Hp):Prop where
 at_:Aj H r0=some (.cells q0 e0 [v])
 sl:B2 H Ad 68 v l.length (l.flatMap Cd.cs)
 lp:Aj H s=some (tD (.ptr r0 0 0) c6 (some none))
 new:∀u,A8 v u->u≠r0/\u≠s/\Ao H0<=u
 wf:Wf H
 keep:∀u y,Aj H0 u=some y->Aj H u=some y
 ne:r0≠s
 r0n:Ao H0<=r0
 sn:Ao H0<=s
 w0:Wf H0
def B2.co {e sz m:Nat} {cs:List AV} (h:B2 H e sz v m cs):Bv v=[v]/\AV.one v=true:=by
 rcases h with⟨rfl,_⟩|⟨_,_,rfl,_⟩<;>exact⟨rfl,rfl⟩
variable {K:KV} {x:Af}
def A4P {r0 s e0:Nat} {q0:Bool} {c6 v:AV} {l:List Cd} {b:Cd} (h:CollC H0 r0 s q0 e0 c6 l v H) (hn:l.length<1000)
 (hx:∀f g,CollC H0 r0 s q0 e0 c6 (l++[b]) f g->(∀u y,u≠r0->u≠s->¬A8 v u->Aj H u=some y->Aj g u=some y)->(∀u,A8 f u->Ao H<=u)->K (Bo true) g=x):Cr (E (L+20)) (r! L (n+1)) (.yl s) [.agg b.cs] H K=x:=by
 show Nz (r! L (n+1)) s [.agg b.cs] H K=x;rw[OT h.lp (by kernel_rfl)];have J:(r! L (n+1)).run= λcf=>OG (E (L+20)) (r! L n) cf:=rfl;rw[J,Hv,B1 (cs:=CH) rfl,Cc (cs:=CH) (vs:=b.cs) (Aw (by simp)) EA rfl Mk];obtain⟨d,e1,V,w1,k1⟩:=Ih (e:=Ad) (zs:=CH) (vs:=b.cs) h.wf EA;rw[<-e1];have n1:Ao d=Ao H+1:=by rw[e1,BC];rfl
 have ae:=h.wf.lt h.at_;have slt:=h.wf.lt h.lp;have j:Aj d s=some (tD (.ptr r0 0 0) c6 (some none)):=(k1 _ _ h.lp).1;have C:Aj d r0=some (.cells q0 e0 [v]):=(k1 _ _ h.at_).1;have ad:∀u,A8 v u->u<Ao H:= λu c=>by
  rcases h.sl with⟨rfl,_⟩|⟨r,q,rfl,h2,_⟩
  ·exact absurd c IF
  ·obtain⟨_,_,_,X⟩:=c;injection X with _ X
   subst X;exact h.wf.lt h2
 have N:B2 d Ad 68 v l.length (l.flatMap Cd.cs):=by
  rcases h.sl with h1|⟨r,q,rfl,h2,t⟩
  ·exact .inl h1
  ·exact .inr ⟨r,q,rfl,(k1 _ _ h2).1,t⟩
 rw[Pb j];have ab:=Bn (r:=s) (y:=tD (.ptr r0 0 0) c6 none) w1;have D:Aj (upd d s (tD (.ptr r0 0 0) c6 none)) r0=some (.cells q0 e0 [v]):=by rw[Ag h.ne];exact C
 have Y:Aj (upd d s (tD (.ptr r0 0 0) c6 none)) s=some (tD (.ptr r0 0 0) c6 none):=XA1 j;have aa:B2 (upd d s (tD (.ptr r0 0 0) c6 none)) Ad 68 v l.length (l.flatMap Cd.cs):=N.lat w1 (Lat.upd d s _ (P:= λu=>u=s) rfl) (λu c=>(h.new u c).2.1);have R:Aj (upd d s (tD (.ptr r0 0 0) c6 none)) (Ao H)=some (c_ Ad b.cs):=by rw[Ag (by omega)];exact V
 show AF Av (.ptr r0 0 0) (upd d s (tD (.ptr r0 0 0) c6 none)) _=_;rw[AP (p:=0) rfl D (by simp)];show AF Ae (.ptr (Ao H) 0 0) (upd d s (tD (.ptr r0 0 0) c6 none)) _=_;rw[Bu rfl EA.symm R];show Hf Ad 68 Ae 1 [(0,68,.agg b.cs)] (upd d s (tD (.ptr r0 0 0) c6 none)) (λac O=>E9 Ad 68 Ae Av v ac O _)=_;obtain⟨f,g,h1,h2,t,h4,Q,h6⟩:=T? (ie:=Ae) (i2:=Av) (ys:=b.cs) aa ab EA Mk (by decide) rfl (λ_=>rfl) (by show(_+1)*800<=_;omega) (by omega);rw[C3i EA Mk,h1];have n0:¬A8 v r0:= λc=>(h.new r0 c).1 rfl;have ns:¬A8 v s:= λc=>(h.new s c).2.1 rfl;have F:=Q r0 _ D n0;have Z:=Q s _ Y ns;rw[Ed (q:=q0) (e:=e0) (cs:=[v]) F (by simp) rfl h2.co.1 h2.co.2];have ah:Ao H0<=Ao H:=by have:=h.r0n;omega
 have ag:Ao (upd d s (tD (.ptr r0 0 0) c6 none))=Ao H+1:=by rw[BC,n1]
 have i:∀u,A8 f u->Ao H<=u:= λu c=>by have:=h6 u c;omega
 have B:∀u,A8 f u->u≠r0/\u≠s/\Ao H0<=u:= λu c=>by
  have a1:=i u c;exact⟨by omega,by omega,by omega⟩
 have M:Aj (upd g r0 (.cells q0 e0 [f])) s=some (tD (.ptr r0 0 0) c6 none):=by rw[Ag h.ne.symm];exact Z
 show E2 (upd g r0 (.cells q0 e0 [f])) s false (some none) _=_;have k:=M;unfold tD at k;rw[OZ k];have kp:∀u y,u≠r0->u≠s->¬A8 v u->Aj H u=some y->Aj (upd (upd g r0 (.cells q0 e0 [f])) s (tD (.ptr r0 0 0) c6 (some none))) u=some y:= λu y h1 h2 t c=>by
  rw[Ag h2,Ag h1];exact Q u y (by rw[Ag h2];exact(k1 _ _ c).1) t
 have e2:(l++[b]).flatMap Cd.cs=l.flatMap Cd.cs++b.cs:=by simp
 refine hx f _ ⟨?_,?_,?_,B,Bn (Bn t),λu y c=> ?_,h.ne,h.r0n,h.sn,h.w0⟩ kp i
 ·rw[Ag h.ne];exact AC F
 ·rw[EY,e2];have a:=h2.lat t (Lat.upd g r0 (.cells q0 e0 [f]) (P:= λu=>u=r0) rfl) (λu c=>(B u c).1);exact a.lat (Bn t) (Lat.upd _ s _ (P:= λu=>u=s) rfl) (λu c=>(B u c).2.1)
 ·exact XA1 M
 ·have af:=h.w0.lt c;have b1:=h.r0n;have b2:=h.sn;exact kp u y (by omega) (by omega) (λhv=>by have:=(h.new u hv).2.2;omega) (h.keep u y c)
theorem CollC.it {H0 H:Hp} {r0 s e0 it:Nat} {q0:Bool} {c6 v:AV} {l:List Cd} (h:CollC H0 r0 s q0 e0 c6 l v H) (y:Row) (h1:it≠r0/\it≠s/\Ao H0<=it) (h2:¬A8 v it):CollC H0 r0 s q0 e0 c6 l v (upd H it y):=
 ⟨by rw[Ag h1.1.symm];exact h.at_,h.sl.lat h.wf (Lat.upd H it y (P:= λu=>u=it) rfl) (λu a e=>h2 (e▸a)),by rw[Ag h1.2.1.symm];exact h.lp,h.new,Bn h.wf,λu z a=>by rw[Ag (by have:=h.w0.lt a;omega)];exact h.keep u z a,h.ne,h.r0n,h.sn,h.w0⟩
def CollC.more {H0 H H':Hp} {r0 s e0:Nat} {q0:Bool} {c6 v:AV} {l:List Cd} (h:CollC H0 r0 s q0 e0 c6 l v H) (w:Wf H') (k:∀u y,Aj H u=some y->Aj H' u=some y):CollC H0 r0 s q0 e0 c6 l v H':=
 ⟨k _ _ h.at_,by
  rcases h.sl with h1|⟨r,q,rfl,h2,a⟩
  ·exact .inl h1
  ·exact .inr ⟨r,q,rfl,k _ _ h2,a⟩,k _ _ h.lp,h.new,w,λu y b=>k u y (h.keep u y b),h.ne,h.r0n,h.sn,h.w0⟩
structure NewC (H0:Hp) (l:List Cd) (v:AV) (H:Hp):Prop where
 sl:B2 H Ad 68 v l.length (l.flatMap Cd.cs)
 nil:l=[]->v=As
 new:∀u,A8 v u->Ao H0<=u
 wf:Wf H
 keep:∀u y,Aj H0 u=some y->Aj H u=some y
 nx:Ao H0<=Ao H
def ZH {Q:List Cd->AV->Prop} {Hs H0:Hp} {g:Nat} {cap:List AV} (ws:Wf Hs) (w0:Wf H0) (hn:Ao H0=Ao Hs) (i:∀u y,Aj H0 u=some y->Aj Hs u=some y)
 (h:∀(H:Hp) (F:KV),CollC H0 (Ao Hs) (Ao Hs+1) true Br (.fn (.func g) [] cap) [] As H->Ao H=Ao Hs+2->(∀u y,Aj Hs u=some y->Aj H u=some y)->
  (∀l v b,Q l v->(l=[]->v=As)->CollC H0 (Ao Hs) (Ao Hs+1) true Br (.fn (.func g) [] cap) l v b->F (.tup []) b=x)->(r! L (n+1)).call g (.yl (Ao Hs+1)::cap) H F=x)
 (k:∀l v b,Q l v->NewC H0 l v b->K v b=x):
 (r! L (n+3)).call BA [.fn (.func g) [] cap] Hs K=x:=by
 rw[MT];unfold Gb;rw[HN];unfold CY;simp only[BK];rw[lQ (by rfl),Vw];have w1:=AI (x:= .cells true Br [As]) ws;have c:=Aw (H:=Hs) (x:= .cells true Br [As]) (by simp);have j:Ao ((Ao Hs,c_ Br [As])::Hs)=Ao Hs+1:=rfl;have q:Wf ((Ao Hs+1,tD (.ptr (Ao Hs) 0 0) (.fn (.func g) [] cap) (some none))::(Ao Hs,c_ Br [As])::Hs):=AI (x:=tD (.ptr (Ao Hs) 0 0) (.fn (.func g) [] cap) (some none)) w1;have e:Aj ((Ao Hs+1,tD (.ptr (Ao Hs) 0 0) (.fn (.func g) [] cap) (some none))::(Ao Hs,c_ Br [As])::Hs) (Ao Hs+1)=some (tD (.ptr (Ao Hs) 0 0) (.fn (.func g) [] cap) (some none)):=Aw (H:=((Ao Hs,c_ Br [As])::Hs)) (x:=tD (.ptr (Ao Hs) 0 0) (.fn (.func g) [] cap) (some none)) (by simp[tD]);have ol:∀u y,Aj Hs u=some y->Aj ((Ao Hs+1,tD (.ptr (Ao Hs) 0 0) (.fn (.func g) [] cap) (some none))::(Ao Hs,c_ Br [As])::Hs) u=some y:= λu y a=>by
  have a1:=A4 (x:= .cells true Br [As]) (ws.lt a) a;exact A4 (w1.lt a1) a1
 have d:Aj ((Ao Hs+1,tD (.ptr (Ao Hs) 0 0) (.fn (.func g) [] cap) (some none))::(Ao Hs,c_ Br [As])::Hs) (Ao Hs)=some (c_ Br [As]):=A4 (w1.lt c) c;refine h _ _ ⟨d,.inl ⟨rfl,rfl,rfl⟩,e,λu a=>absurd a IF,q,λu y a=>ol u y (i u y a),by omega,by omega,by omega,w0⟩ rfl ol ?_;intro l v b hq f hc;show IJ b (Ao Hs+1) _=_;rw[Bf hc.lp];show LC b (Ao Hs+1) .gone _=_;rw[Dh];have hr:Aj (upd b (Ao Hs+1) .gone) (Ao Hs)=some (c_ Br [v]):=by rw[Ag (by omega)];exact hc.at_
 show AF Av (.ptr (Ao Hs) 0 0) (upd b (Ao Hs+1) .gone) _=_;rw[AP (p:=0) rfl hr (by simp)];refine k l _ _ hq ⟨?_,f,λu a=>(hc.new u a).2.2,Bn hc.wf,λu y a=> ?_,?_⟩
 ·exact hc.sl.lat hc.wf (Lat.upd b _ _ (P:= λu=>u=Ao Hs+1) rfl) (λu a=>(hc.new u a).2.1)
 ·have:=w0.lt a;rw[Ag (by omega)];exact hc.keep u y a
 ·rw[BC];have:=hc.wf.lt hc.at_;omega
def xH {r0 s it:Nat} {c6 w:AV} {J:Hp->Af} (V:Vn 6 w w=true) (D:A.length<1000)
 (i:∀l v H,l.Perm A->(l=[]->v=As)->CollC H0 r0 s true Br c6 l v H->J H=some (w,[])) (d:it≠r0/\it≠s/\Ao H0<=it):
 ∀(f:Nat) (es:List (AM×Cd)) (l:List Cd) (v:AV) (H:Hp) (o:Option (Value×AV)),es.length<f->(l++es.map Prod.snd).Perm A->(l=[]->v=As)->CollC H0 r0 s true Br c6 l v H->¬A8 v it->Aj H it=some (.iter (Dc DF es) o)->
 BW (L+20) (r! L (n+1)) K J f (.yl s) (.it it) H=some (w,[]):=by
 intro f
 induction f with
 |zero=>intro es l v H o h;omega
 |succ f ih=>
  intro es l v H o Q t P hc hv C;rw[EZ];unfold BX;refine XM (f:=DF) V C (λe=> ?_) (λa e b he=> ?_)
  ·subst e;rw[EX,Bj];exact i l v H (by simpa using t) P hc
  ·subst he;have c:=hc.it (.iter (Dc DF (a++b)) (some (.string ⟨⟨e.1⟩⟩,DF e.2))) d hv;have g:=Lv (es:=Dc DF (a++b)) (o:=some (.string ⟨⟨e.1⟩⟩,DF e.2)) C;have r:(l++(a++e::b).map Prod.snd).length=A.length:=t.length_eq;simp at r;rw[EX,Cy,No g,Na];generalize upd H it (.iter (Dc DF (a++b)) (some (.string ⟨⟨e.1⟩⟩,DF e.2)))=Y at g c;obtain⟨Z,O,p,M,F⟩:=Ih (e:=Ad) (zs:=CH) (vs:=e.2.cs) c.wf EA;rw[B1 (cs:=CH) rfl,Cc (cs:=CH) (vs:=e.2.cs) (Aw (by simp)) EA rfl Mk,<-O,Bu rfl EA.symm p];have q:=c.more M λu y B=>(F u y B).1;have j:=(F _ _ g).1;refine A4P q (by omega) λX N k R hr=> ?_;rw[En];show Az (.v (.bool false)) _ _=_;rw[Bj];refine ih (a++b) (l++[e.2]) X N _ (by simp at Q⊢;omega) ?_ (by simp) k (λB=> ?_) (R it _ d.1 d.2.1 hv j)
   ·refine List.Perm.trans ?_ t;simp only[YN,WR,dW];refine List.Perm.append_left l ?_;show(e.2::(a.map Prod.snd++b.map Prod.snd)).Perm _;exact List.perm_middle.symm
   ·have g1:=hr it B;have g2:=M.lt j;omega
def B0u (A:List Cd):(gE A).map Prod.snd=A:=by
 unfold gE;rw[List.map_map];exact List.map_id A
def B1B (es:List (AM×Cd)):(Dc DF es).all (λp=>iF 3 p.2)=true:=by
 rw[GH];intro p g;obtain⟨e,_,rfl⟩:=Ma.1 g;show e.2.cs.all (iF 2)=true;have d:∀l:List AV,l.all fixB=true->l.all (iF 2)=true:= λl h=>by
  rw[GH] at h⊢;intro a f;have:=h a f;cases a<;>first|rfl|(simp[fixB] at this)
 have h1:∀c:Cd,c.cs.all (iF 2)=true:= λc=>by
  obtain⟨a,b,e,h1,h2⟩:=lT c;rw[<-A43 c,e,List.all_append,d a h1,pK,d b h2];cases c.ps<;>rfl
 exact h1 _
def A85 {Hs:Hp} (V:Vn 6 w w=true) (j:A.length<1000) (hL:40000<L) (ws:Wf Hs) (hm:Aj Hs m=some (.map false (Dc DF (gE A)) none))
 (X:∀l v g,l.Perm A->NewC (upd Hs m .gone) l v g->K v g=some (w,[])):
 (r! L (n+4)).call Bk [.mp m] Hs (λv H=>(r! L (n+4)).call BA [v] H K)=some (w,[]):=by
 rw[Dn];unfold B8 Ip;rw[B1i];have w1:=AI (x:= .cells true Au [.mp m]) ws;have mlt:=ws.lt hm;have hb:Aj ((Ao Hs,c_ Au [.mp m])::Hs) (Ao Hs)=some (c_ Au [.mp m]):=Aw (by simp);have t:∀u y,Aj Hs u=some y->Aj ((Ao Hs,c_ Au [.mp m])::Hs) u=some y:= λu y c=>A4 (ws.lt c) c;have f:=t _ _ hm;have M:Ao ((Ao Hs,c_ Au [.mp m])::Hs)=Ao Hs+1:=rfl;generalize ((Ao Hs,c_ Au [.mp m])::Hs:Hp)=B at w1 hb t f M;refine ZH (n:=n+1) (Q:= λl _=>l.Perm A) (H0:=upd B m .gone) w1 (Bn w1) (BC _ _ _) (λu y c=> ?_) (λH F hc P i O=> ?_) (λl v g hq h=> ?_)
 ·have d:u≠m:= λe=>by subst e;rw[BB f] at c;cases c
  rwa[Ag d] at c
 ·rw[CZ];unfold Bw;simp only[BK];rw[AP (p:=0) rfl (i _ _ hb) (by simp)];show Wz (.mp m) H _=_;have q:=i _ _ f;rw[A5t q (B1B _)];have Z:=hc.wf;have J:Wf (upd H m .gone):=Bn Z;have s:Ao (upd H m .gone)=Ao H:=BC _ _ _;have r:Aj ((Ao H,Row.iter (Dc DF (gE A)) none)::upd H m .gone) (Ao H)=some (.iter (Dc DF (gE A)) none):=by
   have:=Aw (H:=upd H m .gone) (x:= .iter (Dc DF (gE A)) none) (by simp)
   rwa[s] at this
  have up:∀u y,u≠m->Aj H u=some y->Aj ((Ao H,Row.iter (Dc DF (gE A)) none)::upd H m .gone) u=some y:= λu y c Y=>by
   have a:Aj (upd H m .gone) u=some y:=by rw[Ag c];exact Y
   have b:=A4 (x:= .iter (Dc DF (gE A)) none) (J.lt a) a
   rwa[s] at b
  have D:=AI (x:= .iter (Dc DF (gE A)) none) J;rw[s] at D;have C:=w1.lt f;refine xH (n:=n) (A:=A) (H0:=upd B m .gone) V j (λl v g R N k=>O l v g R N k) ⟨by omega,by omega,by rw[BC];omega⟩ (L+20) (gE A) [] As _ none (by simp[gE];omega) (by rw[B0u];simp) (λ_=>rfl)
   ⟨up _ _ (by omega) hc.at_,.inl ⟨rfl,rfl,rfl⟩,up _ _ (by omega) hc.lp,λu c=>absurd c IF,D,λu y c=> ?_,hc.ne,hc.r0n,hc.sn,hc.w0⟩ IF r
  have d:u≠m:= λe=>by subst e;rw[BB f] at c;cases c
  exact up u y d (hc.keep u y c)
 ·refine X l v g hq ⟨h.sl,h.nil,λu c=> ?_,h.wf,λu y c=> ?_,?_⟩
  ·have:=h.new u c;rw[BC] at this⊢;omega
  ·have d:u≠m:= λe=>by subst e;rw[BB hm] at c;cases c
   rw[Ag d] at c;exact h.keep u y (by rw[Ag d];exact t u y c)
  ·have:=h.nx;rw[BC] at this⊢;omega
end
section
variable {F:AV->Af} {x0:Af}
variable {L n:Nat}
def A40 {ty:Nat} {v:AV} {H:Hp} {K:KV} (h:Bv v=[v]/\AV.one v=true):Ho ty v H K=K (.ptr (Ao H) 0 0) ((Ao H,c_ ty [v])::H):=by
 unfold Ho;rw[CI,h.1,FI,BV];have:[v].all AV.one=true:=by simp[h.2]
 rw[this];rfl
def mB (H:Hp) (x:AV) (A:List Cd):Prop:=x= .iptr [.imap (Dc DF (gE A))]\/∃r m,x= .ptr r 0 0/\Aj H r=some (c_ Du [.mp m])/\Aj H m=some (.map false (Dc DF (gE A)) none)
theorem mB.one {H:Hp} {x:AV} {A:List Cd} (h:mB H x A):Bv x=[x]/\AV.one x=true:=by
 rcases h with rfl|⟨_,_,rfl,_⟩<;>exact⟨rfl,rfl⟩
def mB.keep {H H':Hp} {x:AV} {A:List Cd} (h:mB H x A) (k:∀u y,Aj H u=some y->Aj H' u=some y):mB H' x A:=by
 rcases h with rfl|⟨r,m,rfl,h1,h2⟩
 ·exact .inl rfl
 ·exact .inr ⟨r,m,rfl,k _ _ h1,k _ _ h2⟩
def A2t {H:Hp} {r m:Nat} (h:Aj H r=some (c_ Du [.mp m])):(Lg (.ptr r 0 0) λv=>CV 0 v λv=>AF Ah v H F)=F (.mp m):=by
 rw[It,fA,JQ,AP (p:=0) rfl h (by simp)];rfl
def mB.fld {H:Hp} {x:AV} {A:List Cd} (h:mB H x A):∃mm,(∀F:AV->Af,(Lg x λv=>CV 0 v λv=>AF Ah v H F)=F mm)/\∀K,wW mm H K=K (Dc DF (gE A)):=by
 rcases h with rfl|⟨r,m,rfl,h1,h2⟩
 ·exact⟨_,λF=>A06,λK=>id rfl⟩
 ·exact⟨.mp m,λF=>A2t h1,λK=>YR h2⟩
def mB.nn {H:Hp} {x:AV} {A:List Cd} (h:mB H x A):Rj BF CO .eql x (.v (.pointer none)) F=F (Bo false):=by
 rcases h with rfl|⟨r,m,rfl,_⟩<;>kernel_rfl
def mB.fx {H:Hp} {x:AV} {A:List Cd} (h:mB H x A) {D:Nat}:∃q,Fx true (D+5) x (.iptr [.imap (Dc DF (gE A))]) H q:=by
 rcases h with rfl|⟨r,m,rfl,h1,h2⟩
 ·exact⟨false,QV⟩
 ·exact⟨true,Wr (D:=D+4) h1 (Am (q:=true) (q':=false) (A3B (D:=D) h2) AJ)⟩
def iW (H:Hp) (v:AV) (l:List AM):Prop:=SA l v\/Nh H v l
section
variable {H H' H0:Hp} {v x iv:AV} {l ids:List AM} {A:List Cd} {K:KV} {w:AV}
theorem iW.one (h:iW H v l):Bv v=[v]/\AV.one v=true:=by
 rcases h with h|h
 ·rcases h with rfl|⟨_,rfl⟩<;>exact⟨rfl,rfl⟩
 ·rcases h with⟨rfl,_⟩|⟨_,_,_,rfl,_⟩<;>exact⟨rfl,rfl⟩
def iW.keep (h:iW H v l) (k:∀u y,Aj H u=some y->Aj H' u=some y):iW H' v l:=h.imp id λh=>h.kp λu y _ a=>k u y a
theorem iW.len (h:iW H v l):Bq Ac v F=F (I l.length):=by
 rcases h with h|h
 ·exact h.len
 ·exact h.len
def iW.get (h:iW H v l) {i:Nat} (a:i<l.length):(Dw Ac v (I i) λp=>AF Ai p H F)=F (S l[i]):=by
 rcases h with h|h
 ·rw[h.ia a,L5]
 ·rcases h with⟨rfl,rfl⟩|⟨r,q,b,rfl,h2⟩
  ·simp at a
  ·rw[Rh a,AP (p:=i) rfl h2 (by rw[EY,AX];omega),Vl,l0m (by rw[AX];exact a)];unfold AG;rw[wR,K9 a];rfl
def UI (A:List Cd) (ids:List AM):List Cd:=ids.filterMap λy=>Mn (gE A) y
def A6z:(UI A ids).length<=ids.length:=List.length_filterMap_le _ _
def B4R {r0 s m:Nat} {c6:AV} {k3:Hp->Af} (t:GOk A) (g:∀y∈ids,y∈A.map Cd.id) (u:ids.length<900)
 (k:Aj H0 m=some (c_ AS [x])) (C:mB H0 x A) (hv:iW H0 iv ids)
 (e:∀v H,CollC H0 r0 s true Br c6 (UI A ids) v H->(UI A ids=[]->v=As)->k3 H=x0):
 ∀(f i:Nat) (v:AV) (H:Hp),i<=ids.length->ids.length-i<f->CollC H0 r0 s true Br c6 (UI A (ids.take i)) v H->(UI A (ids.take i)=[]->v=As)->
 Ia (L+20) (r! L (n+2)) K k3 f (.yl s) (.ptr m 0 0) iv (I ids.length) (I i) H=x0:=by
 intro f
 induction f with
 |zero=>intro i v H _ h;omega
 |succ f ih=>
  intro i v H N M hc r;rw[Pe];unfold Ib Eh Iv A0;by_cases h:i<ids.length
  ·obtain⟨c,a⟩:∃c,Mn (gE A) ids[i]=some c:=M_ (g _ (Qe h));obtain⟨d,_⟩:=Yk a;have B:=WJ (t.ok c d);have D:∀{F:AV->Af},AF BF (.ptr m 0 0) H F=F x:= λ{F}=>AP (p:=0) rfl (hc.keep _ _ k) (by simp);obtain⟨mm,f1,f2⟩:=(C.keep hc.keep).fld;rw[FR (by omega),Cy,(hv.keep hc.keep).get h,D,f1,L!,pU (f:=DF) (b:=gE A) f2,a];simp only[];rw[CT.z (A0l (n:=n) (t.ok c d) (by omega)) (uK H)];have q:UI A (ids.take (i+1))=UI A (ids.take i)++[c]:=by
    unfold UI;rw[kY h,List.filterMap_append,List.filterMap_cons,a];rfl
   have P:(UI A (ids.take i)).length<=i:=by
    have:=A6z (A:=A) (ids:=ids.take i);rw[l0h] at this;omega
   refine A4P hc (by omega) λJ H' j O hr=> ?_;rw[En];show Az (.v (.bool false)) _ _=_;rw[Bj,Dg (by omega)];exact ih (i+1) J H' (by omega) (by omega) (by rw[q];exact j) (by rw[q];simp)
  ·have:i=ids.length:=by omega
   subst this;rw[vB] at hc r;rw[FP (by omega),Bj];exact e v H hc r
def A8t (D:GOk A) (c:∀y∈ids,y∈A.map Cd.id) (e:ids.length<900) (M:40000<L) (wf:Wf H) (q:mB H x A) (hv:iW H iv ids) (C:∀v H',NewC H (UI A ids) v H'->K v H'=x0):
 (r! L (n+6)).call HX [x,iv] H (λv H=>(r! L (n+6)).call BA [v] H K)=x0:=by
 rw[SX];unfold JP Lo;rw[A40 q.one,A40 hv.one];have w1:=AI (x:= .cells true AS [x]) wf;have m:Ao ((Ao H,c_ AS [x])::H)=Ao H+1:=rfl;rw[m];have j:Wf ((Ao H+1,c_ A2 [iv])::(Ao H,c_ AS [x])::H):=AI (x:= .cells true A2 [iv]) w1;have f:∀u y,Aj H u=some y->Aj ((Ao H+1,c_ A2 [iv])::(Ao H,c_ AS [x])::H) u=some y:= λu y a=>by
  have a1:=A4 (x:= .cells true AS [x]) (wf.lt a) a;exact A4 (w1.lt a1) a1
 have b1:Aj ((Ao H+1,c_ A2 [iv])::(Ao H,c_ AS [x])::H) (Ao H)=some (c_ AS [x]):=A4 (H:=(Ao H,c_ AS [x])::H) (by rw[m];omega) (Aw (by simp));have b2:Aj ((Ao H+1,c_ A2 [iv])::(Ao H,c_ AS [x])::H) (Ao H+1)=some (c_ A2 [iv]):=Aw (H:=(Ao H,c_ AS [x])::H) (by simp);have t:Ao ((Ao H+1,c_ A2 [iv])::(Ao H,c_ AS [x])::H)=Ao H+2:=rfl;generalize ((Ao H+1,c_ A2 [iv])::(Ao H,c_ AS [x])::H:Hp)=g at j f b1 b2 t;refine ZH (n:=n+3) (Q:= λl _=>l=UI A ids) (H0:=g) j j rfl (λu y a=>a) (λk F hc J d B=> ?_) (λl v H' hq b=> ?_)
 ·rw[Qb];unfold I0 A0;simp only[BK];have li:∀{F:AV->Af},AF Ac (.ptr (Ao H+1) 0 0) k F=F iv:= λ{F}=>AP (p:=0) rfl (d _ _ b2) (by simp);have r:(AV.v (.int .i64 0))=I ((0:Nat):Int):=rfl;rw[li,(hv.keep f).keep d|>.len,r];exact B4R (n:=n+1) (r0:=Ao g) (s:=Ao g+1) (H0:=g) D c e b1 (q.keep f) (hv.keep f) (λv H' i h=>B _ v H' rfl h i) (L+20) 0 As k (by omega) (by omega) (by simpa [UI] using hc) (λ_=>rfl)
 ·subst hq;refine C v H' ⟨b.sl,b.nil,λu a=> ?_,b.wf,λu y a=>b.keep u y (f u y a),?_⟩
  ·have:=b.new u a;omega
  ·have:=b.nx;omega
end
end
section
variable {v:AV} {F:AV->Af} {p q:AV->Bool}
variable {L n:Nat}
def B9U (c:Cd) (g:∀z,p (I z)=true) (h:∀s,p (S s)=true) (hn:p As=true) (a:p c.fT=true) (d:p c.fI=true) (e:p c.fN=true) (f:p (DJ c.ps)=true):c.cs.all p=true:=by
 match c,a,d,e,f with
 | .re b u,a,_,_,_=>
  have a:p (FD b.ts)=true:=a;show(Et 1 b.m (uu u) (qn b.c) (qd b.c) (FD b.ts) (qn b.r) (qd b.r) As 0 As As u0 r0 0).all p=true;simp only[pK,l3c,g,h,hn,a,l1g]
 | .co b q ps none,a,d,e,f=>
  have a:p (FD b.ts)=true:=a;have d:p (BO q.ks)=true:=d;have e:p (Cs q.xs)=true:=e;have f:p (DJ ps)=true:=f;show(Et 2 b.m (uu q.out) (qn b.c) (qd b.c) (FD b.ts) (qn b.r) (qd b.r) (DJ ps) q.id (BO q.ks) (Cs q.xs) (uu q.out) r0 0).all p=true;simp only[pK,l3c,g,h,hn,a,d,e,f,l1g]
 | .co b q ps (some (k,vd)),a,d,e,f=>
  have a:p (FD b.ts)=true:=a;have d:p (BO q.ks)=true:=d;have e:p (Cs q.xs)=true:=e;have f:p (DJ ps)=true:=f;show(Et 3 b.m (uu q.out) (qn b.c) (qd b.c) (FD b.ts) (qn b.r) (qd b.r) (DJ ps) q.id (BO q.ks) (Cs q.xs) (uu q.out) (rr k) vd).all p=true;simp only[pK,l3c,g,h,hn,a,d,e,f,l1g]
def A8J (h:∀t:Int×Int,(OD t).all q=true) (ts:iU):(ts.flatMap OD).all q=true:=by
 rw[GH];intro x c;obtain⟨a,_,b⟩:=l3b.1 c;exact GH.1 (h a) x b
def B0n (h:∀k:Nat,(HH k).all q=true) (ks:List Nat):(ks.flatMap HH).all q=true:=by
 rw[GH];intro x c;obtain⟨a,_,b⟩:=l3b.1 c;exact GH.1 (h a) x b
def A9Z (h:∀y:Nd,(H! y).all q=true) (xs:List Nd):(xs.flatMap H!).all q=true:=by
 rw[GH];intro x c;obtain⟨a,_,b⟩:=l3b.1 c;exact GH.1 (h a) x b
def jK (h:∀s,q (S s)=true) (l:List AM):(AG l).all q=true:=by
 rw[GH];intro x b;obtain⟨a,_,rfl⟩:=Ma.1 b;exact h a
def fl1 (a:AV):Bool:=match a with
 | .v _=>true
 | .list _ cs=>cs.all SC
 |_=>false
def A8I (hn:p As=true) (a:∀n l,l.all SC=true->l.all (pl 4)=true->p (.list n l)=true) (ts:iU):p (FD ts)=true:=by
 cases ts with
 |nil=>exact hn
 |cons t ts=>exact a _ _ (A8J (λ_=>rfl) _) (A8J (λ_=>rfl) _)
def B5M (hn:p As=true) (a:∀n l,l.all SC=true->l.all (pl 4)=true->p (.list n l)=true) (ks:List Nat):p (BO ks)=true:=by
 cases ks with
 |nil=>exact a _ _ rfl rfl
 |cons t ts=>exact a _ _ (B0n (λ_=>rfl) _) (B0n (λ_=>rfl) _)
def B5z (hn:p As=true) (a:∀n l,l.all SC=true->l.all (pl 4)=true->p (.list n l)=true) (xs:List Nd):p (Cs xs)=true:=by
 cases xs with
 |nil=>exact a _ _ rfl rfl
 |cons t ts=>exact a _ _ (A9Z (λ_=>rfl) _) (A9Z (λ_=>rfl) _)
def B5t (hn:p As=true) (a:∀n l,l.all SC=true->l.all (pl 4)=true->p (.list n l)=true) (ps:List AM):p (DJ ps)=true:=by
 cases ps with
 |nil=>exact hn
 |cons t ts=>exact a _ _ (jK (λ_=>rfl) _) (jK (λ_=>rfl) _)
def B4U (c:Cd) (d:∀z,p (I z)=true) (e:∀s,p (S s)=true) (hn:p As=true) (a:∀n l,l.all SC=true->l.all (pl 4)=true->p (.list n l)=true):c.cs.all p=true:=by
 refine B9U c d e hn ?_ ?_ ?_ (B5t hn a _)
 ·match c with
  | .re b u=>exact A8I hn a b.ts
  | .co b q ps none=>exact A8I hn a b.ts
  | .co b q ps (some (k,vd))=>exact A8I hn a b.ts
 ·match c with
  | .re b u=>exact hn
  | .co b q ps none=>exact B5M hn a q.ks
  | .co b q ps (some (k,vd))=>exact B5M hn a q.ks
 ·match c with
  | .re b u=>exact hn
  | .co b q ps none=>exact B5z hn a q.xs
  | .co b q ps (some (k,vd))=>exact B5z hn a q.xs
def C05 (c:Cd):c.cs.all fl1=true:=B4U c (λ_=>rfl) (λ_=>rfl) rfl λ_ _ h _=>h
def C04 (c:Cd):c.cs.all (pl 5)=true:=B4U c (λ_=>rfl) (λ_=>rfl) rfl λ_ _ _ h=>h
def B48 (l:List Cd):pl 6 (oN l)=true:=by
 cases l with
 |nil=>rfl
 |cons c l=>
  show((c::l).flatMap Cd.cs).all (pl 5)=true;rw[GH];intro x d;obtain⟨a,_,b⟩:=l3b.1 d;exact GH.1 (C04 a) x b
section
variable {H:Hp} {D:Nat}
def C1Z {a:AV} (h:fl1 a=true):Nl H D a F=F a:=by
 cases a with
 |v x=>cases D<;>rfl
 |list n cs=>
  have h:cs.all SC=true:=h;have e:Nl H D (.list n cs) F=ck (cs.all SC) (F (.list n cs)):=by cases D<;>rfl
  rw[e,h];rfl
 |_=>simp[fl1] at h
def B07:∀(l:List AV),l.all fl1=true->∀F:List AV->Af,Sv (Nl H D) l F=F l:=by
 intro l
 induction l with
 |nil=>intro _ F;rfl
 |cons a l ih=>
  intro h F;simp only[pK,Kw] at h;show Nl H D a (λb=>Sv (Nl H D) l λc=>F (b::c))=_;rw[C1Z h.1,ih h.2]
def B08 {l:List Cd} (h:B2 H Ad 68 v l.length (l.flatMap Cd.cs)) (f:l=[]->v=As):Nl H (D+1) v F=F (oN l):=by
 cases l with
 |nil=>rw[f rfl];rfl
 |cons c l=>
  rcases h with⟨_,h1,_⟩|⟨r,q,rfl,h2,j⟩
  ·simp at h1
  ·have e:Nl H (D+1) (.sl 68 r 0 (c::l).length) F=IJ H r λx=>JV x λ_ cs=>E8 (Nat.mul (c::l).length 68) (Di 0 cs) λd=>Sv (Nl H D) d λb=>F (.list (c::l).length b):=rfl;rw[e,Bf h2];show E8 ((c::l).length*68) (Di 0 ((c::l).flatMap Cd.cs)) (λd=>Sv (Nl H D) d λb=>F (.list (c::l).length b))=_;rw[C6,pM,KA _ _ _ (by omega),W! (by omega),B07 _ (by
    rw[GH];intro x i;obtain⟨a,_,g⟩:=l3b.1 i;exact GH.1 (C05 a) x g)]
   rfl
end
def tN {D:Nat} {H:Hp} {l:List Cd} (h:B2 H Ad 68 v l.length (l.flatMap Cd.cs)) (b:l=[]->v=As):∃q,Fx true (D+1) v (oN l) H q:=by
 cases l with
 |nil=>exact⟨false,by rw[b rfl];exact C7⟩
 |cons c l=>
  rcases h with⟨_,h1,_⟩|⟨r,q,rfl,h2,d⟩
  ·simp at h1
  ·exact⟨true,WU (q':=false) h2 d (YO _ (by
    rw[GH];intro x f;obtain⟨a,_,e⟩:=l3b.1 f;exact GH.1 (B4U (p:=fixB) a (λ_=>rfl) (λ_=>rfl) rfl λ_ _ _ _=>rfl) x e))⟩
section
variable {A:List Cd} {H:Hp} {x:AV} {w:AV} {K:KV}
def A9R (a:GOk A) {out:List Cd} (b:out.Perm (Eo A)):fC out= .tup [DJ (UL (Eo A)),I 0]:=by
 rw[A6E (Rk a.ids) b];unfold fC;rw[Dj (uG a.ids)]
def R' (a:GOk A) {out:List Cd} (b:out.Perm (Eo A)):GOk out:=by
 have d:∀c∈out,c∈A:= λc hc=>(OA.1 (b.mem_iff.1 hc)).1;refine⟨λc hc=>a.ok c (d c hc),λc hc=>a.nd c (d c hc),(b.map _).symm.nodup (Rk a.ids),?_⟩;have h1:(Eo A).length<=A.length:=l32 _ _;have h2:=a.len;rw[b.length_eq];omega
def A8B (k:Vn 6 w w=true) (b:GOk A) (t:200000<L) (s:∀v H,NewC [] (Nx A) v H->K v H=some (w,[])):
 (r! L (n+82)).call CF [.iptr [.imap (Dc DF (gE A))]] [] K=some (w,[]):=by
 rw[TW];unfold Kk;have C:mB [] (.iptr [.imap (Dc DF (gE A))]) A:= .inl rfl;rw[C.nn,Bj];refine qW (n:=n+77) k b (by omega) Fk λout m N h hm _ w1 _ n1=> ?_;have B:=R' b h;refine A85 (n:=n+77) k (by have:=B.len;omega) (by omega) w1 hm λl v i f g=> ?_;have d:=R' b (f.trans h);obtain⟨q,hq⟩:=tN (D:=11) g.sl g.nil;have e:∀{F:AV->Af},An (r! L (n+81)) PQ [v] i F=F (.tup [DJ (UL (Eo A)),I 0]):= λ{F}=>by
  have:=AQ (H:=i) (K:=F) (B2y (L:=L) (n:=n+1) d t (λc hc=>by have:=WJ (d.ok c hc);omega) (YK l)) (Am hq AJ);rw[this,A9R b (f.trans h)]
 rw[e,EX,Na];refine A8t (n:=n+75) (A:=A) b (λy J=> ?_) ?_ (by omega) g.wf (.inl rfl) (.inl (MK _)) λM r a=>s M r ⟨a.sl,a.nil,λu j=>W? _,a.wf,λu y j=>by simp[Aj] at j,W? _⟩
 ·exact(L8.1 ((NN (gs:=Eo A)).1.ids y J)).ids
 ·have h1:=(NN (gs:=Eo A)).1.len;have h2:(Eo A).length<=A.length:=l32 _ _;have O:=b.len;omega
def A8C (g:GOk A) (f:200000<L) (j:mB H x A):KC (r! L (n+82)) CF [x] H F=F (oN (Nx A)):=by
 have h:Vn 6 (oN (Nx A)) (oN (Nx A))=true:=SP 6 _ (B48 _);rcases j with rfl|⟨r,m,rfl,h1,h2⟩
 ·show An (r! L (n+82)) CF [.iptr [.imap (Dc DF (gE A))]] H F=_;exact CT.z (λK i=>A8B h g f λv H b=>i v H (tN (D:=11) b.sl b.nil)) (Am (q:=false) QV AJ)
 ·have e:KC (r! L (n+82)) CF [.ptr r 0 0] H F=IJ H r λx=>eS x λq _ cs=>match q,cs with
   |true,[.mp m]=>IJ H m λy=>oM y λa=>ck (a.all λp=>iF 3 p.2) (Aq ((r! L (n+82)).call CF [.iptr [.imap a]] [] λv c=>Nl c depth v λd=>some (d,[])) F)
   |_,_=>none:=rfl
  rw[e,Bf h1];show(IJ H m λy=>oM y λa=>ck (a.all λp=>iF 3 p.2) (Aq ((r! L (n+82)).call CF [.iptr [.imap a]] [] λv c=>Nl c depth v λd=>some (d,[])) F))=_;rw[Bf h2];show ck ((Dc DF (gE A)).all λp=>iF 3 p.2) _=_;rw[B1B,A8B (w:=oN (Nx A)) h g f λv H b=>by rw[show depth=11+1 from rfl,B08 b.sl b.nil]];rfl
end
end
section
variable {L n:Nat}
def lA:List UInt8:=[190,37,193,108,62,69,192,54,146,30,179,35,185,160,42,118,74,72,34,96,70,26,154,115,110,60,175,172,120,42,152,121]
def eQ:Cd:= .re ⟨⟨1,1,1,0,0⟩, -80,0,[(1, -8),(2, -8),(3, -8),(4, -8),(5, -8)]⟩ 0
def A8S:cdM 0 0 0 0 0 0 0 0 0 0 0 0 none []=eQ:=by kernel_rfl
def ZK:eQ.id=lA:=by kernel_rfl
end
section
variable {L n:Nat}
def RT (R:Rt) (f:Nat) (args:List AV) (v:AV):Prop:=(R.call f args [] λv a=>HP true a depth v λ_ b=>some (b,[]))=some (v,[])
def Z? {R:Rt} {f:Nat} {args args':List AV} {v:AV} {H:Hp} {K:AV->Af} (hc:RT R f args' v) (a:Rr true depth args args' H false):An R f args H K=K v:=by
 unfold An;rw[a];show Aq (R.call f args' [] _) K=K v;rw[show((!false)=true) from rfl,hc];rfl
end
section
variable {F:AV->Af} {PP:Af->Prop} {H0:Hp} {ss:List AM} {D:Nat}
variable {L n:Nat}
def PC.Ok:PC->Prop
 | .c d=>d.Ok/\d.ps.Nodup
 | .z=>True
def PC.id:PC->AM
 | .c d=>d.id
 | .z=>[]
def PC.len (p:PC):p.cells.length=68:=by
 cases p with
 |c d=>exact EA
 |z=>rfl
theorem PC.one (p:PC):p.cells.all AV.one=true:=by
 cases p with
 |c d=>exact Mk
 |z=>rfl
def PC.fxD {H:Hp} (p:PC):Fx true (D+3) (.agg p.cells) (.agg p.cells) H false:=by
 cases p with
 |c d=>exact A48
 |z=>exact λK=>by kernel_rfl
def PC.fx {H:Hp} (p:PC):Fx true depth (.agg p.cells) (.agg p.cells) H false:=p.fxD (D:=9)
theorem PC.fixB (p:PC):p.cells.all Go.Abs.fixB=true:=by
 cases p with
 |c d=>exact B4U d (λ_=>rfl) (λ_=>rfl) rfl λ_ _ _ _=>rfl
 |z=>rfl
def eY (l:List PC):(l.flatMap PC.cells).length=l.length*68:=A5l PC.len l
def A4W (l:List Cd):(l.map PC.c).flatMap PC.cells=l.flatMap Cd.cs:=by
 induction l with
 |nil=>rfl
 |cons a l ih=>rw[WR,pP,pP,ih];rfl
def B3Z (l:List PC):(l.flatMap PC.cells).all Go.Abs.fixB=true:=by
 rw[GH];intro x c;obtain⟨a,_,b⟩:=l3b.1 c;exact GH.1 a.fixB x b
def ZC (H:Hp) (v:AV) (l:List PC):Prop:=(v=As/\l=[])\/v= .list l.length (l.flatMap PC.cells)\/∃r q b,v= .sl 68 r 0 l.length/\Aj H r=some (.cells q Ad (l.flatMap PC.cells++b))
section
variable {H H':Hp} {v a:AV} {l:List PC} {gs A:List Cd} {K:KV} {x0:Af} {x:AV}
def ZC.of_LA (h:LA gs a):ZC H a (gs.map .c):=by
 rcases h with rfl|⟨rfl,rfl⟩
 ·exact .inr (.inl (by rw[QI,A4W]))
 ·exact .inl ⟨rfl,rfl⟩
def ZC.keep (h:ZC H v l) (k:∀u y,A8 v u->Aj H u=some y->Aj H' u=some y):ZC H' v l:=by
 rcases h with h|h|⟨r,q,b,rfl,h⟩
 ·exact .inl h
 ·exact .inr (.inl h)
 ·exact .inr (.inr ⟨r,q,b,rfl,k r _ ⟨_,_,_,rfl⟩ h⟩)
theorem ZC.one (h:ZC H v l):Bv v=[v]/\AV.one v=true:=by
 rcases h with⟨rfl,_⟩|rfl|⟨_,_,_,rfl,_⟩<;>exact⟨rfl,rfl⟩
def ZC.len (h:ZC H v l):Bq Av v F=F (I l.length):=by
 rcases h with⟨rfl,rfl⟩|rfl|⟨_,_,_,rfl,_⟩<;>exact r_ rfl
def ZC.get (h:ZC H v l) {i:Nat} (b:i<l.length):(Dw Av v (I i) λp=>AF Ae p H F)=F (.agg l[i].cells):=by
 rcases h with⟨rfl,rfl⟩|rfl|⟨r,q,s,rfl,h⟩
 ·simp at b
 ·rw[WH (f:=PC.cells) rfl PC.len b];cases l[i] with
  |c d=>exact A3S
  |z=>exact r_ rfl
 ·rw[B9M b];have e:AF Ae (.ptr r (i*68) 0) H F=IJ H r λx=>JV x λ_ cs=>E8 68 (Di (Nat.add (i*68) 0) cs) λc=>F (.agg c):=r_ rfl;rw[e,Bf h];show E8 68 (Di (i*68+0) (l.flatMap PC.cells++s)) (λc=>F (.agg c))=_;rw[Nat.add_zero];have j:=eY l;have hm:(i+1)*68<=l.length*68:=l28 _ b;rw[C6,KA _ _ _ (by rw[l0u,EY];omega),l35 (by omega),l34 (by rw[l0u];omega)];have g:l=l.take i++l[i]::l.drop (i+1):=by rw[<-vA b,l3a]
  have k:(l.flatMap PC.cells).drop (i*68)=l[i].cells++(l.drop (i+1)).flatMap PC.cells:=by
   conv=>lhs;rw[g]
   have m:((l.take i).flatMap PC.cells).length=i*68:=by rw[eY,l0h];congr 1;omega
   rw[l2m,<-m,List.drop_left,pP]
  rw[k,List.take_left' (PC.len _)]
def ZC.fx (h:ZC H v l):∃a q,ZC [] a l/\Fx true (D+1) v a H q:=by
 rcases h with⟨rfl,rfl⟩|rfl|⟨r,q,b,rfl,h⟩
 ·exact⟨As,false,.inl ⟨rfl,rfl⟩,C7⟩
 ·exact⟨_,false,.inr (.inl rfl),Of⟩
 ·refine⟨.list l.length (l.flatMap PC.cells),true,.inr (.inl rfl),Wq (q':=false) h (by rw[EY,eY];omega) ?_⟩;rw[pM,l34 (by rw[eY];omega),W! (by rw[eY];omega)];exact YO _ (B3Z l)
def C1p:RT (r! L (n+64)) GU [.agg CH] (S []):=by unfold RT;kernel_rfl
def C0N:RT (r! L (n+64)) FG [.agg CH] (S []):=by unfold RT;kernel_rfl
def C1y (e:40000<L) {p:PC} (b:p.Ok):An (r! L (n+64)) GU [.agg p.cells] H F=F (S p.id):=by
 cases p with
 |c d=>exact AQ (A47 (n:=n) e b.1 b.2) (Am (PC.fx (.c d)) AJ)
 |z=>exact Z? (C1p (L:=L) (n:=n)) (Am (PC.fx .z) AJ)
def B5h (e:40000<L) {p:PC} (b:p.Ok):An (r! L (n+64)) FG [.agg p.cells] H F=F (S p.id):=by
 cases p with
 |c d=>exact AQ (B1v (n:=n+1) e b.1 b.2) (Am (PC.fx (.c d)) AJ)
 |z=>exact Z? (C0N (L:=L) (n:=n)) (Am (PC.fx .z) AJ)
def B9g {m:AV->Hp->Af} (J:∀p∈l,p.Ok) (hb:l.length<1000) (B:40000<L) (C:ZC H0 a l) (w0:Wf H0)
 (M:∀v H,NewSl H0 (l.map PC.id) v H->(l=[]->v=As)->PP (m v H)):∀(f i:Nat) (v:AV) (H:Hp),i<=l.length->l.length-i<f->NewSl H0 ((l.take i).map PC.id) v H->(l.take i=[]->v=As)->
 PP (Vx (L+20) (r! L (n+64)) K m f a v (I i) H):=by
 intro f
 induction f with
 |zero=>intro i v H _ h;omega
 |succ f ih=>
  intro i v H Q P b j;rw[rP];unfold Vy Iv A0;have d:ZC H a l:=C.keep λu y _ c=>b.keep u y c;rw[d.len];by_cases h:i<l.length
  ·have g:=b.sl;obtain⟨N,H',r,k,s,O,t,w⟩:=A5H l[i].id g b.wf (by simp;omega);rw[FR (by omega),Cy,d.get h,C1y (n:=n) B (J _ (Qe h)),r,Dg (by omega)];have q:(l.take i).map PC.id++[l[i].id]=(l.take (i+1)).map PC.id:=by rw[kY h,YN];rfl
   rw[q] at k;have nx:=b.nx;refine ih (i+1) N H' (by omega) (by omega) ⟨k,λu c=>Z7 nx (w u c),s,λu y c=>t u y (b.keep u y c) λhv=> ?_,by omega⟩ (λe=>by have:=congrArg List.length e;rw[l0h,QJ] at this;omega);have a1:=w0.lt c;have a2:=b.new u hv;omega
  ·rw[FP (by omega),Bj];have:i=l.length:=by omega
   subst this;rw[vB] at b j;exact M v H b j
def A8E (f:∀p∈l,p.Ok) (hb:l.length<1000) (d:40000<L) (e:ZC H a l) (wf:Wf H) (g:∀v H',NewSl H (l.map PC.id) v H'->(l=[]->v=As)->PP (K v H')):PP ((r! L (n+65)).call Qg [a] H K):=by
 rw[vZ];unfold XN A0;simp only[BK];have c:(AV.v (.int .i64 0))=I ((0:Nat):Int):=rfl;rw[c];exact B9g f hb d e wf g (L+20) 0 As H (by omega) (by omega) ⟨.inl ⟨rfl,rfl,rfl⟩,λu b=>absurd b IF,wf,λu y b=>b,Mb _⟩ (λ_=>rfl)
def C0V (d:∀p∈l,p.Ok) (hb:l.length<1000) (b:40000<L) (c:ZC H a l) (wf:Wf H) (e:∀v H',NewSl H (l.map PC.id) v H'->(l=[]->v=As)->K v H'=x0):(r! L (n+65)).call Qg [a] H K=x0:=
 A8E (PP:= λa=>a=x0) d hb b c wf e
def NewSl.sat (h:NewSl H0 ss v H) (c:ss=[]->v=As):Nh H v ss:=by
 rcases h.sl with⟨rfl,_,h1⟩|⟨r,q,rfl,h2,_⟩
 ·refine .inl ⟨rfl,?_⟩;cases ss with
  |nil=>rfl
  |cons a b=>cases h1
 ·exact .inr ⟨r,q,[],rfl,by rw[Wi];exact h2⟩
def A1W (b:GOk A):GOk (Nx A):=by
 have d:=B1P (l:=A) ⟨λc h=>h,b.ids⟩;exact d.ok b
def B8P (b:GOk gs):∀p∈gs.map PC.c,p.Ok:= λp d=>by
 obtain⟨c,hc,rfl⟩:=Ma.1 d;exact⟨b.ok c hc,b.nd c hc⟩
def B3Y (gs:List Cd):(gs.map PC.c).map PC.id=gs.map Cd.id:=by rw[List.map_map];rfl
def A8n (d:GOk A) (i:200000<L) (j:mB H x A) (wf:Wf H) (h:∀v H',NewSl H ((Nx A).map Cd.id) v H'->((Nx A)=[]->v=As)->PP (K v H')):PP ((r! L (n+83)).call JY [x] H K):=by
 rw[wK];unfold XU;have f:=A1W d;rw[A8C (n:=n) d i j];refine A8E (n:=n+17) (l:=(Nx A).map .c) (B8P f) (by rw[QI];have:=f.len;omega) (by omega) (ZC.of_LA (YK _)) wf λv H' b g=> ?_;rw[B3Y] at b;exact h v H' b λe=>g (by rw[e];rfl)
def A2z (d:GOk A) (c:200000<L) (e:mB H x A) (wf:Wf H) (b:∀v H',NewSl H ((Nx A).map Cd.id) v H'->((Nx A)=[]->v=As)->K v H'=x0):(r! L (n+83)).call JY [x] H K=x0:=
 A8n (PP:= λa=>a=x0) d c e wf b
def B5l {b:AV} {s:AM} (hb:iW H b ss) (j:ss.length<900) (g:40000<L):An (r! L (n+2)) Ts [b,S s] H F=F (Bo (decide (s∈ss))):=by
 obtain⟨f,q,c,hq⟩:∃f q,SA ss f/\Fx true depth b f H q:=by
  rcases hb with h|h
  ·exact⟨b,false,h,h.fx H⟩
  ·exact h.fx (D:=11)
 refine AQ (λK d=> ?_) (Am hq (Am (q:=false) C7 AJ));rw[wL];unfold XV Lo;rw[AQ (B5s (n:=n) c (by omega) (by omega)) (Am (c.fx []) (Am (q:=false) C7 AJ))];by_cases h:s∈ss
 ·obtain⟨k,i,_,_,e⟩:=gH ss 0 h;rw[e,EX,Na];rw[Iu h] at d⊢;exact d _ _ λb=>⟨false,C7⟩
 ·rw[gI ss 0 h,EX,Na];rw[IG h] at d⊢;exact d _ _ λb=>⟨false,C7⟩
end
end
section
variable {i r:Nat}
variable {L n:Nat}
section
variable {H H0 H':Hp} {v a1 a2:AV} {l l1 l2 ps:List AM} {A:List Cd} {K:KV} {x0:Af} {x:AV}
def A4D (h:Nh H v l) (hn:l.length<1000000000) (m:∀H',Nh H' v (DQ l)->Lat H H' (A8 v)->K (.tup []) H'=x0):
 (r! L (n+4)).call AH [v] H K=x0:=by
 rcases h with⟨rfl,rfl⟩|⟨r,q,b,rfl,c⟩
 ·have e:(r! L (n+4)).call AH [As] H K=K (.tup []) H:=by kernel_rfl
  rw[e];exact m H (.inl ⟨rfl,rfl⟩) (Lat.refl _ _)
 ·by_cases p:l=[]
  ·subst p;have e:(r! L (n+4)).call AH [.sl 1 r 0 0] H K=K (.tup []) H:=by
    have f:(r! L (n+4)).call AH [.sl 1 r 0 0] H K=Tg [.sl 1 r 0 0] H K (Yv (E (L+20)) (nT (L+20)) (r! L (n+3)) AH [.sl 1 r 0 0] H K):=rfl;have j:Yv (E (L+20)) (nT (L+20)) (r! L (n+3)) AH [.sl 1 r 0 0] H K=K (.tup []) H:=by kernel_rfl
    rw[f,j];unfold Tg;simp only[c];split
    ·rename_i xs _;cases xs<;>rfl
    ·rfl
   show(r! L (n+4)).call AH [.sl 1 r 0 0] H K=x0;rw[e];exact m H (.inr ⟨r,q,b,rfl,c⟩) (Lat.refl _ _)
  ·have f:∀K,(r! L (n+4)).call AH [.sl 1 r 0 l.length] H K=Tg [.sl 1 r 0 l.length] H K (Yv (E (L+20)) (nT (L+20)) (r! L (n+3)) AH [.sl 1 r 0 l.length] H K):= λK=>rfl;rw[f];have k:∀(l:List (List UInt8)),UB (AG l)=some l:= λl=>by
    induction l with
    |nil=>rfl
    |cons a l ih=>show(UB (AG l)).map _=_;rw[ih];rfl
   have t:0<l.length:=List.length_pos_iff.2 p;have s:=(Be l).length_eq;have j:∀alt K,Tg [.sl 1 r 0 l.length] H K alt=El 0 (AG (DQ l)) (AG l++b) λd=>LC H r (.cells q Ar d) λH'=>K (.tup []) H':= λalt K=>by
    unfold Tg;simp only[c,pM];rw[l34 (by rw[AX];omega),W! (by rw[AX];omega),k];have g:(Nat.beq l.length l.length&&(Nat.blt l.length 4611686018427387904&&Nat.blt 0 l.length))=true:=by simp;omega
    simp only[g];rfl
   rw[j,Il _ _ _ _ (by rw[AX,EY,AX];omega),Dh];have u:splice (AG l++b) 0 (AG (DQ l))=AG (DQ l)++b:=by
    unfold splice;rw[List.take_zero,l3d,JQ,AX,s]
    congr 1
    have:l.length=(AG l).length:=(AX l).symm;rw[this,List.drop_left]
   rw[u];refine m _ (.inr ⟨r,q,b,by rw[s],AC c⟩) (Lat.upd H r _ ⟨1,0,l.length,rfl⟩)
def SA.src (h:SA l v) {F:Nat->List AV->Af}:Ta H v F=F l.length (AG l):=by
 rcases h with rfl|⟨rfl,rfl⟩
 ·rfl
 ·rfl
def SA.ok (h:SA l v):(Zz Ac.d&&Tf 1 v)=true:=by
 rcases h with rfl|⟨rfl,rfl⟩<;>rfl
def A8z {ss:List AM} (e:B2 H Ar 1 v ss.length (AG ss)) (b:SA l a1) (hn:ss.length+l.length<1000000):
 ∃a H',(∀K:KV,E9 Ar 1 Ai Ac v a1 H K=K a H')/\B2 H' Ar 1 a (ss++l).length (AG (ss++l))/\(∀u,A8 a u->u=Ao H)/\Lat H H' (A8 v):=by
 obtain⟨a,H',h1,h2,c,d⟩:=apt (ie:=Ai) (i2:=Ac) e (λK=>b.src (F:=K)) (by rw[AX,pL]) (jK (λ_=>rfl) l) (by decide) rfl b.ok (by show(ss.length+l.length)*16<=_;omega) (by omega);refine⟨a,H',h1,?_,c,d⟩;rw[EY];have:AG (ss++l)=AG ss++AG l:=by simp[AG]
 rw[this];exact h2
def SA.cell (h:SA l v):Bv v=[v]/\AV.one v=true:=by rcases h with rfl|⟨_,rfl⟩<;>exact⟨rfl,rfl⟩
def A5v {q:Bool} {e:Nat} {cs:List AV} {F:AV->Af} (h:Aj H r=some (.cells q e cs)) (a:i<cs.length):AF Ac (.ptr r i 0) H F=F (cs.getD i .dk):=AP (p:=i) rfl h a
def B16 {r i m:Nat} {F:AV->Af} (h:i<m):Dw EK (.sl 1 r 0 m) (I (i:Int)) F=F (.ptr r i 0):=by
 have a:Dw EK (.sl 1 r 0 m) (I (i:Int)) F=iN (i:Int) λn=>ck (Nat.blt n m) (fN (Nat.add 0 (Nat.mul n 1)) λp=>F (.ptr r p 0)):=rfl;rw[a,JW,DT];have h1:Nat.blt i m=true:=by rw[Wj];exact h
 rw[h1];show F (.ptr r (0+i*1) 0)=_;rw[JQ,pL]
def B6o {k:Nat} (e:k<1000000) (a:k=0->K As H=x0) (b:0<k->K (.sl 1 (Ao H) 0 0) ((Ao H,.cells false Ar [])::H)=x0):(r! L (n+1)).call EU [As,I (k:Int)] H K=x0:=by
 have c:(r! L (n+1)).call EU [As,I (k:Int)] H K=A1d Ar [As,I (k:Int)] H K (Yv (E (L+20)) (nT (L+20)) (r! L n) EU [As,I (k:Int)] H K):=rfl;rw[c];have d:∀alt,A1d Ar [As,I (k:Int)] H K alt=@Bool.rec (λ_=>Af) (@Bool.rec (λ_=>Af) alt (K As H) (Nat.beq k 0)) (Ig H λr=>K (.sl 1 r 0 0) ((r,.cells false Ar [])::H)) (Nat.blt 0 k&&Nat.ble k 1000000):= λalt=>rfl;rw[d];by_cases h:k=0
 ·subst h;exact a rfl
 ·have g:(Nat.blt 0 k&&Nat.ble k 1000000)=true:=by simp;omega
  rw[g,<-b (by omega)];exact BV _ _
def A8x (wf:Wf H) (hr:Aj H r=some (.cells false A2 [a1,a2])) (h1:SA l1 a1) (h2:SA l2 a2) (X:l1.length<100000) (Y:l2.length<100000) (hL:40000<L) (V:∀v H',NewSl H (l1++l2) v H'->K v H'=x0):
 (r! L (n+2)).call Gp [.sl 1 r 0 2] H K=x0:=by
 rw[MS];unfold Ga A0;simp only[BK];have g:∀{F:AV->Af},Bq EK (.sl 1 r 0 2) F=F (I ((2:Nat):Int)):= λ{F}=>r_ rfl;have R:(AV.v (.int .i64 0))=I ((0:Nat):Int):=rfl;have D:∀{c} {F:AV->Af},Aj c r=some (.cells false A2 [a1,a2])->(Dw EK (.sl 1 r 0 2) (I ((0:Nat):Int)) λp=>AF Ac p c F)=F a1:= λ{c F} h=>by
  rw[B16 (by decide),A5v h (by simp)];rfl
 have J:∀{c} {F:AV->Af},Aj c r=some (.cells false A2 [a1,a2])->(Dw EK (.sl 1 r 0 2) (I ((1:Nat):Int)) λp=>AF Ac p c F)=F a2:= λ{c F} h=>by
  rw[B16 (by decide),A5v h (by simp)];rfl
 rw[g,R];have t:∀{a b:Nat} {F:AV->Af},a+b<1000000->Go.Abs.Ap Ab .add (I (a:Int)) (I (b:Int)) F=F (I ((a+b:Nat):Int)):= λ{a b F} h=>by
  rw[Dm,CW (by omega) (by omega)];simp
 have N:∀{a:Nat} {F:AV->Af},Go.Abs.Ap Ab .lss (I (a:Int)) (AV.v (.int .i64 0)) F=F (Bo false):= λ{a F}=>by rw[Ej,IG (by omega)]
 have tail:∀(v:AV) (c:Hp),B2 c Ar 1 v 0 (AG [])->(∀u,A8 v u->Ao H<=u)->Wf c->(∀u y,Aj H u=some y->Aj c u=some y)->Ao H<=Ao c->
  ∀d1 d2 w B C:AV,FL (L+20) (r! L (n+1)) K (λs f=>K s f) (L+20) d1 d2 v w B C (.sl 1 r 0 2) (I ((2:Nat):Int)) (I ((0:Nat):Int)) c=x0:= λv c Z hv w1 k1 n1 d1 d2 w B C=>by
  have lat:∀{v:AV} {c e:Hp},(∀u,A8 v u->Ao H<=u)->Lat c e (A8 v)->Wf c->(∀u y,Aj H u=some y->Aj c u=some y)->∀u y,Aj H u=some y->Aj e u=some y:= λ{v c e} hv k w1 k1 u y d=>
   k.keep w1 u y (k1 u y d) λhr=>by have:=hv u hr;have:=wf.lt d;omega
  obtain⟨v2,e,s1,s2,s3,m⟩:=A8z (ss:=[]) Z h1 (by simp;omega);have P:=m.wf w1;have M:=lat hv m w1 k1;have n2:=m.nx;obtain⟨v3,Q,t1,O,t3,q⟩:=A8z (ss:=[]++l1) s2 h2 (by simp;omega);have j:∀u,A8 v2 u->Ao H<=u:= λu d=>by have:=s3 u d;omega
  have k3:=lat j q P M;rw[Fm];unfold Dp Iv A0;rw[FR (by omega),Cy,D (k1 _ _ hr),s1,Dg (by omega),Fm];unfold Dp Iv A0;rw[FR (by omega),Cy,J (M _ _ hr),t1,Dg (by omega),Fm];unfold Dp Iv A0;rw[FP (by omega),Bj];have n3:=q.nx;exact V v3 Q ⟨by rw[l3d] at O;exact O,λu d=>by have:=t3 u d;omega,q.wf P,k3,by omega⟩
 rw[Fl];unfold Do Iv A0;simp only[BK];rw[FR (by omega),Cy,D hr,h1.len,t (by omega),N,Bj,Dg (by omega),Fl];unfold Do Iv A0;simp only[BK];rw[FR (by omega),Cy,J hr,h2.len,t (by omega),N,Bj,Dg (by omega),Fl];unfold Do Iv A0;rw[FP (by omega),Bj];refine B6o (n:=n) (by omega) (λhz=> ?_) (λhp=> ?_)
 ·rw[g];exact tail As H (.inl ⟨rfl,rfl,rfl⟩) (λu d=>absurd d IF) wf (λu y d=>d) (Mb _) _ _ _ _ _
 ·rw[g];exact tail _ _ (.inr ⟨Ao H,false,rfl,Aw (by simp),rfl⟩) (λu ⟨_,_,_,d⟩=>by injection d with _ d;omega) (AI wf) (λu y d=>A4 (wf.lt d) d) (l1u _) _ _ _ _ _
end
end
section
variable {L n:Nat}
section
variable {H H0 H':Hp} {v a1 a2 lv:AV} {l ex:List AM} {A:List Cd} {K:KV} {x0:Af} {x w:AV}
def A5Z {Hs:Hp} (s:Vn 6 w w=true) (c:A.length<1000) (B:40000<L) (ws:Wf Hs) (t:∀l v H',l.Perm A->NewC Hs l v H'->K v H'=some (w,[])):
 (r! L (n+4)).call Bk [.imap (Dc DF (gE A))] Hs (λv H=>(r! L (n+4)).call BA [v] H K)=some (w,[]):=by
 rw[Dn];unfold B8 Ip;rw[uB];have w1:=AI (x:= .cells true Au [.imap (Dc DF (gE A))]) ws;have hb:Aj ((Ao Hs,c_ Au [.imap (Dc DF (gE A))])::Hs) (Ao Hs)=some (c_ Au [.imap (Dc DF (gE A))]):=Aw (by simp);have h:∀u y,Aj Hs u=some y->Aj ((Ao Hs,c_ Au [.imap (Dc DF (gE A))])::Hs) u=some y:= λu y a=>A4 (ws.lt a) a;have j:Ao ((Ao Hs,c_ Au [.imap (Dc DF (gE A))])::Hs)=Ao Hs+1:=rfl;generalize ((Ao Hs,c_ Au [.imap (Dc DF (gE A))])::Hs:Hp)=g at w1 hb h j;refine ZH (n:=n+1) (Q:= λl _=>l.Perm A) (H0:=g) w1 w1 rfl (λu y a=>a) (λH F hc q e m=> ?_) (λl v H' hq b=> ?_)
 ·rw[CZ];unfold Bw;simp only[BK];rw[AP (p:=0) rfl (e _ _ hb) (by simp)];show Wz (.imap (Dc DF (gE A))) H _=_;rw[Wy];have i:=hc.wf;have f:Aj ((Ao H,Row.iter (Dc DF (gE A)) none)::H) (Ao H)=some (.iter (Dc DF (gE A)) none):=Aw (by simp);refine xH (n:=n) (A:=A) (H0:=g) s c (λl v H' r k d=>m l v H' r k d) ⟨by omega,by omega,by omega⟩ (L+20) (gE A) [] As _ none (by simp[gE];omega) (by rw[B0u];simp) (λ_=>rfl)
   (hc.more (AI i) λu y a=>A4 (i.lt a) a) IF f
 ·refine t l v H' hq ⟨b.sl,b.nil,λu a=> ?_,b.wf,λu y a=>b.keep u y (h u y a),?_⟩
  ·have:=b.new u a;omega
  ·have:=b.nx;omega
def pkA (p:Pk):List AV:=[I p.kd,DJ p.ds,match p.cs with|[]=>As|c::cs=> .list (c::cs).length ((c::cs).flatMap PC.cells)]
def vU (l:List Pk):AV:=match l with
 |[]=>As
 |p::l=> .list (p::l).length ((p::l).flatMap pkA)
def B8O {ws:List AM}:pl 6 (vU (wP ws))=true:=by
 unfold wP;split
 ·rfl
 ·show([I 2,DJ ws,As]++[]).all (pl 5)=true;have:pl 5 (DJ ws)=true:=B5t (p:=pl 5) rfl (λ_ _ _ h=>h) ws;simp only[Wi,pK,this];rfl
def B9q {D:Nat} {b:Bool} (h:Nh H v l) (c:l≠[]):Fx b (D+1) v (DJ l) H true:=by
 rcases h with⟨_,h⟩|⟨r,q,d,rfl,h2⟩
 ·exact absurd h c
 ·have e:DJ l= .list l.length (AG l):=by
   cases l with
   |nil=>exact absurd rfl c
   |cons a b=>rfl
  rw[e];refine Wq (q':=false) h2 (by rw[EY,AX];omega) ?_;rw[pM,l34 (by rw[AX];omega),W! (by rw[AX];omega)];exact KO (λs=>Value.string ⟨⟨s⟩⟩) l
def ckT {X:Af}:ck true X=X:=rfl
def B4S (h1:Bv a1=[a1]/\AV.one a1=true) (h2:Bv a2=[a2]/\AV.one a2=true):Hf A2 1 Ac 2 [(0,1,a1),(1,1,a2)] H K=K (.sl 1 (Ao H) 0 2) ((Ao H,.cells false A2 [a1,a2])::H):=by
 have c:Hf A2 1 Ac 2 [(0,1,a1),(1,1,a2)] H K=GW a1 λvs=>HI vs 0 λn=>ck (Nat.beq n 1) (ck (Nu vs) (El 0 vs [As,As] λb=>GW a2 λvs=>HI vs 0 λn=>ck (Nat.beq n 1) (ck (Nu vs) (El 1 vs b λa=>Ig H λs=>K (.sl 1 s 0 2) ((s,.cells false A2 a)::H))))):=r_ rfl;have e:Nu [a1]=true:=by rw[FI];simp[h1.2]
 have f:Nu [a2]=true:=by rw[FI];simp[h2.2]
 have k1:Nat.beq (0+[a1].length) 1=true:=rfl;have d:Nat.beq (0+[a2].length) 1=true:=rfl;rw[c,CI,h1.1,Co,e,k1,ckT,ckT,Il _ _ _ _ (by simp)];show(GW a2 λvs=>HI vs 0 λn=>ck (Nat.beq n 1) (ck (Nu vs) (El 1 vs [a1,As] λa=>Ig H λs=>K (.sl 1 s 0 2) ((s,.cells false A2 a)::H))))=_;rw[CI,h2.1,Co,f,d,ckT,ckT,Il _ _ _ _ (by simp),BV];rfl
def B1h {c:Int} (h1:Bv a1=[a1]/\AV.one a1=true) (h2:Bv a2=[a2]/\AV.one a2=true):Hf A7 3 A9 1 [(0,3,.agg [I c,a1,a2])] H K=K (.sl 3 (Ao H) 0 1) ((Ao H,.cells false A7 [I c,a1,a2])::H):=by
 have b:Hf A7 3 A9 1 [(0,3,.agg [I c,a1,a2])] H K=GW (.agg [I c,a1,a2]) λvs=>HI vs 0 λn=>ck (Nat.beq n 3) (ck (Nu vs) (El 0 vs [I 0,As,As] λa=>Ig H λs=>K (.sl 3 s 0 1) ((s,.cells false A7 a)::H))):=r_ rfl;have d:Nu [I c,a1,a2]=true:=by rw[FI];simp[h1.2,h2.2];rfl
 have hc:Bv (.agg [I c,a1,a2])=[I c,a1,a2]:=rfl;have k1:Nat.beq (0+[I c,a1,a2].length) 3=true:=rfl;rw[b,CI,hc,Co,d,k1,ckT,ckT,Il _ _ _ _ (by simp),BV];rfl
def A84 (d:GOk A) (hL:200000<L) (hx:mB H x A) (hv:iW H lv ex) (he:ex.length<=40) {F:AV->Af}:An (r! L (n+82)) HW [x,lv] H F=F (vU (Tw A ex)):=by
 obtain⟨q1,u⟩:=hx.fx (D:=7);obtain⟨N,q2,Z,y⟩:∃Q q,SA ex Q/\Fx true depth lv Q H q:=by
  rcases hv with h|h
  ·exact⟨lv,false,h,h.fx H⟩
  ·exact h.fx (D:=11)
 refine AQ (λK f=> ?_) (Am u (Am y AJ));have hw:Vn 6 (vU (Tw A ex)) (vU (Tw A ex))=true:=SP 6 _ B8O;rw[SW];unfold JO Eh A0;have xf:∀{F:AV->Af},(Lg (.iptr [.imap (Dc DF (gE A))]) λv1=>CV 0 v1 λO=>AF Ah O [] F)=F (.imap (Dc DF (gE A))):= λ{F}=>A06;rw[xf];refine A5Z (n:=n+77) hw (by have:=d.len;omega) (by omega) Fk λl v P k t=> ?_;have i:GOk l:=⟨λc hc=>d.ok c (k.mem_iff.1 hc),λc hc=>d.nd c (k.mem_iff.1 hc),(k.map _).symm.nodup d.ids,by rw[k.length_eq];exact d.len⟩
 obtain⟨q3,C⟩:=tN (D:=11) t.sl t.nil;have e:∀{F:AV->Af},An (r! L (n+81)) ME [v] P F=F (DJ (IA A)):= λ{F}=>by
  have:=AQ (H:=P) (K:=F) (A65 (L:=L) (n:=n+1) i (by omega) (λc hc=>by have:=WJ (i.ok c hc);omega) (YK l)) (Am C AJ);rw[this,A3n k]
 rw[e,B4S Z.cell (MK _).cell];have w1:=t.wf;have w2:=AI (x:= .cells false A2 [N,DJ (IA A)]) w1;have R:=B01 d;refine A8x (n:=n+79) w2 (Aw (by simp)) Z (MK _) (by omega) (by omega) (by omega) λO H2 g=> ?_;have J:Nh H2 O (ex++IA A):=by
  rcases g.sl with⟨rfl,h1,h2⟩|⟨r,q,rfl,h2,_⟩
  ·refine .inl ⟨rfl,?_⟩;exact mL h1
  ·exact .inr ⟨r,q,[],rfl,by rw[Wi];exact h2⟩
 refine A4D (n:=n+77) J (by rw[EY];omega) λH3 M k3=> ?_;have w3:=k3.wf g.wf;refine B5m (n:=n+80) w3 M (by rw[(Be _).length_eq,EY];omega) (by omega) λv4 H4 a Y V k4=> ?_;have e4:PT (DQ (ex++IA A))=ZE A ex:=rfl;rw[e4] at a;rw[a.len,CP];have aa:=oY d (ex:=ex) he;unfold Tw at f⊢;by_cases hz:ZE A ex=[]
 ·rw[Dj hz] at f⊢;rw[Iu (by rw[hz];rfl),Cy];exact f _ _ λb=>⟨false,C7⟩
 ·rw[C4 hz] at f⊢;have X:0<(ZE A ex).length:=List.length_pos_iff.2 hz;rw[IG (by omega),Bj,a.len];have p:∀{F:AV->Af},eMM true (I ((ZE A ex).length:Int)) (AV.v (.int .i64 64)) F=F (I ((ZE A ex).length:Int)):= λ{F}=>B0Z (by omega);rw[p];rcases a with⟨_,h⟩|⟨r,q,tl,rfl,j⟩
  ·exact absurd h hz
  have s:∀{F:AV->Af},Ee Ac (.sl 1 r 0 (ZE A ex).length) none (some (I ((ZE A ex).length:Int))) none F=F (.sl 1 r 0 (ZE A ex).length):= λ{F}=>YU (Mb _);have m:∀{F:AV->Af},BZ A9 [(0,1,(AV.v (.int .i64 2))),(1,1,.sl 1 r 0 (ZE A ex).length)] F=F (.agg [I 2,.sl 1 r 0 (ZE A ex).length,As]):= λ{F}=>by kernel_rfl
  rw[s,m,B1h ⟨rfl,rfl⟩ ⟨rfl,rfl⟩];have w4:=k4.wf w3;have B:=A4 (x:= .cells false A7 [I 2,.sl 1 r 0 (ZE A ex).length,As]) (w4.lt j) j;refine f _ _ λb=>⟨true,?_⟩
  show Fx b depth _ (.list 1 ([I 2,DJ (ZE A ex),As]++[])) _ true;exact WU (D:=11) (q':=true) (Aw (by simp)) rfl (Am (q:=false) C7 (Am (q:=true) (q':=false) (B9q (D:=10) (.inr ⟨r,q,tl,rfl,B⟩) hz) (Am (q:=false) C7 AJ)))
end
end
section
variable {P:Af->Prop}
variable {L n:Nat}
section
variable {H H0 H':Hp} {v dv cv:AV} {A:List Cd} {K:KV} {x0:Af} {x:AV} {r m:Nat} {p:PC} {q:Pk}
structure StAt (H:Hp) (r m:Nat) (A:List Cd):Prop where
 st:Aj H r=some (c_ Du [.mp m])
 mm:Aj H m=some (.map false (Dc DF (gE A)) none)
def StAt.sv (h:StAt H r m A):mB H (.ptr r 0 0) A:= .inr ⟨r,m,rfl,h.st,h.mm⟩
def StAt.ne (h:StAt H r m A):r≠m:= λe=>by
 have:=h.mm;rw[<-e,h.st] at this;cases this
def StAt.keep (h:StAt H r m A) (k:∀u y,Aj H u=some y->Aj H' u=some y):StAt H' r m A:=⟨k _ _ h.st,k _ _ h.mm⟩
def B5j:(r! L (n+1)).call Ov [] H K=K (.ptr (Ao H+1) 0 0) ((Ao H+1,c_ Du [.mp (Ao H)])::(Ao H,.map false [] none)::H):=by
 rw[kP];unfold Sm q0N;have em:∀(H:Hp) (K:KV),L4 Ae H K=K (.mp (Ao H)) ((Ao H,.map false [] none)::H):= λH K=>by
  show Ig H (λs=>K (.mp s) ((s,.map false [] (kS Ae.d))::H))=_;rw[BV];rfl
 have a:∀{m:Nat} {F:AV->Af},BZ CO [(0,1,.mp m)] F=F (.agg [.mp m]):= λ{m F}=>by kernel_rfl
 rw[em,a,Ei (by rfl)];rfl
def A9X (wf:Wf H):StAt ((Ao H+1,c_ Du [.mp (Ao H)])::(Ao H,.map false [] none)::H) (Ao H+1) (Ao H) []/\Wf ((Ao H+1,c_ Du [.mp (Ao H)])::(Ao H,.map false [] none)::H)/\
 ∀u y,Aj H u=some y->Aj ((Ao H+1,c_ Du [.mp (Ao H)])::(Ao H,.map false [] none)::H) u=some y:=by
 have w1:=AI (x:= .map false [] none) wf;have b:Ao ((Ao H,Row.map false [] none)::H)=Ao H+1:=rfl;refine⟨⟨Aw (H:=(Ao H,Row.map false [] none)::H) (by simp),A4 (H:=(Ao H,Row.map false [] none)::H) (by rw[b];omega) (Aw (by simp))⟩,AI (x:= .cells true Du [.mp (Ao H)]) w1,λu y a=> ?_⟩;have a1:=A4 (x:= .map false [] none) (wf.lt a) a;exact A4 (w1.lt a1) a1
def add1 (A:List Cd):PC->List Cd×Bool×Int
 | .z=>(A,false,280)
 | .c d=>if d.id∈A.map Cd.id then(A,false,0) else(A++[d],true,0)
def C48:(Dc DF (gE A)).length=A.length:=by simp[gE]
def A8D (hL:40000<L) (B:p.Ok) (wf:Wf H) (Q:StAt H r m A) (O:A.length<60)
 (j:∀H',StAt H' r m (add1 A p).1->Lat H H' (λu=>u=m)->P (K (.tup [Bo (add1 A p).2.1,I (add1 A p).2.2]) H')):P ((r! L (n+65)).call Gu [.ptr r 0 0,.agg p.cells] H K):=by
 rw[TU];unfold Ki Lo;rw[Ei p.one];have w1:=AI (x:= .cells true Ad p.cells) wf;have D:∀u y,Aj H u=some y->Aj ((Ao H,c_ Ad p.cells)::H) u=some y:= λu y e=>A4 (wf.lt e) e;have b1:Aj ((Ao H,c_ Ad p.cells)::H) (Ao H)=some (c_ Ad p.cells):=Aw (by simp);have n1:Ao ((Ao H,c_ Ad p.cells)::H)=Ao H+1:=rfl;generalize ((Ao H,c_ Ad p.cells)::H:Hp)=N at w1 D b1 n1;rw[Bu rfl p.len.symm b1,B5h (n:=n) hL B];have V:=Q.keep D;rw[A2t V.st];refine A56 (b:=gE A) (F:= λab ac X=>Go.Abs.Ap Ai .eql (S p.id) (AV.v (.string ⟨⟨[]⟩⟩)) λad=>_) (λF=>YR V.mm) λa h2=> ?_;obtain⟨cc,s⟩:=h2;have R:∀u y,Aj N u=some y->Aj a u=some y:= λu y e=>by
  have:=w1.lt e;rw[s,Ag (by omega)];exact A4 this e
 have w2:Wf a:=by rw[s];exact Bn (AI w1)
 have n2:Ao H<=Ao a:=by rw[s,BC];show Ao H<=Ao N+1;omega
 have k:∀u y,Aj H u=some y->Aj a u=some y:= λu y e=>R u y (D u y e);have g:=Q.keep k;have C:Lat H a (λu=>u=m):=⟨λ_=>w2,n2,λ_ u y e _=>k u y e⟩
 have w:∀{F:AV->Af},Go.Abs.Ap Ai .eql (S p.id) (AV.v (.string ⟨⟨[]⟩⟩)) F=F (Bo (decide (p.id=[]))):= λ{F}=>LV;simp only[w];cases p with
 |z=>
  rw[show decide (PC.z.id=[])=true from rfl,Cy];exact j a g C
 |c d=>
  rw[show decide ((PC.c d).id=[])=false from IG (uJ d),Bj];have ef:Mn (gE A) (PC.c d).id=Mn (gE A) d.id:=rfl;rw[ef,gM];by_cases i:d.id∈A.map Cd.id
  ·rw[Iu i,Cy];have t:add1 A (.c d)=(A,false,0):=Dj i;rw[t] at j;exact j a g C
  ·rw[IG i,Bj];have t:add1 A (.c d)=(A++[d],true,0):=C4 i;rw[t] at j;rw[A2t g.st,tY g.mm,C48];have Y:∀{F:AV->Af},Go.Abs.Ap Ab .geq (I (A.length:Int)) (AV.v (.int .i64 64)) F=F (Bo false):= λ{F}=>by rw[L7,IG (by omega)]
   rw[Y,Bj];have b2:=R _ _ b1;have Z:∀{F:AV->Af},(Aq (Lg (.ptr r 0 0) λv=>some (v,[])) λJ=>Aq (CV 0 J λv=>some (v,[])) λM=>Aq (AF Ah M a λv=>some (v,[])) F)=F (.mp m):= λ{F}=>by
    rw[It,B7,fA,B7,JQ,AP (p:=0) rfl g.st (by simp),B7];rfl
   rw[Z,Bu rfl (PC.len (.c d)).symm b2,B7];have aa:=WJ B.1;show P (Aq (An (r! L (n+64)) La [.agg d.cs] a λv=>some (v,[])) _);rw[CT.z (A0l (n:=n+62) B.1 (by omega)) (uK a),B7,L!];show P (Ef (Mh (.mp m) (SV d.id) (DF d) a λH=>some (AV.v undef,H)) _);rw[gZ (f:=DF) (b:=gE A) (v:=d) g.mm,Cn,YG (by rw[Wp];exact i),B0v];refine j _ ⟨by rw[Ag g.ne];exact g.st,(BB g.mm).trans rfl⟩ (C.trans (Lat.upd a m _ (P:= λu=>u=m) rfl) (λ_ _ h=>h) (λ_ _ h=>h))
def B6A (c:40000<L) (d:p.Ok) (wf:Wf H) (e:StAt H r m A) (b:A.length<60)
 (f:∀H',StAt H' r m (add1 A p).1->Lat H H' (λu=>u=m)->K (.tup [Bo (add1 A p).2.1,I (add1 A p).2.2]) H'=x0):(r! L (n+65)).call Gu [.ptr r 0 0,.agg p.cells] H K=x0:=
 A8D (P:= λa=>a=x0) c d wf e b f
def A8i (d:40000<L) (e:p.Ok) (wf:Wf H) (f:StAt H r m A) (a:A.length<60)
 (g:∀H',StAt H' r m (add1 A p).1->Lat H H' (λu=>u=m)->P (K (I (add1 A p).2.2) H')):P ((r! L (n+66)).call EW [.ptr r 0 0,.agg p.cells] H K):=by
 rw[TV];unfold Kj A0;rw[Ei p.one];have w1:=AI (x:= .cells true Ad p.cells) wf;have k:∀u y,Aj H u=some y->Aj ((Ao H,c_ Ad p.cells)::H) u=some y:= λu y b=>A4 (wf.lt b) b;have b1:Aj ((Ao H,c_ Ad p.cells)::H) (Ao H)=some (c_ Ad p.cells):=Aw (by simp);have c:=f.keep k;have j:Lat H ((Ao H,c_ Ad p.cells)::H) (λu=>u=m):=Lat.cons _ _ _;rw[c.sv.nn,Bj,Bu rfl p.len.symm b1];refine A8D (n:=n) d e w1 c a λH' s i=> ?_;rw[EX,Na];exact g H' s (j.trans i (λ_ _ h=>h) (λ_ _ h=>h))
def C3q (H:Hp) (v:AV) (q:Pk):Prop:=∃dv cv,v= .agg [I q.kd,dv,cv]/\iW H dv q.ds/\ZC H cv q.cs
def C3P {s:AM}:CS (r! L (n+1)) Jz [S s] (Bo (decide (s.length≠32))):=by
 intro K d;rw[VZ];unfold Lt Ip;have a:∀{F:AV->Af},Bq Ai (S s) F=F (I (s.length:Int)):= λ{F}=>by
  have:Bq Ai (S s) F=HI s 0 λn=>F (.v (.int .i64 (.ofNat n))):=r_ rfl;rw[this,Co,JQ];rfl
 have c:(!decide ((s.length:Int)=32))=decide (s.length≠32):=by
  by_cases h:s.length=32
  ·simp[h]
  ·simp[h];omega
 rw[a,IS,c];exact d _ _ λb=>⟨false,C7⟩
abbrev r1F:AV:= .fn (.func Jz) [] []
def A8f (hL:40000<L) (y:SA q.ds dv) (hc:ZC [] cv q.cs) (Z:q.ds.length<1000) (Y:q.cs.length<1000):CS (r! L (n+4)) LU [.agg [I q.kd,dv,cv]] (Bo (@decide q.Right (Classical.propDecidable _))):=by
 intro K k;rw[ZV];unfold Po Ip;have D:AV.one cv=true:=hc.one.2;have J:AV.one dv=true:=y.cell.2;rw[Ei (by simp[D,J];rfl)];have M:Ao ([]:Hp)=0:=rfl;simp only[M];have a:Aj [(0,c_ A7 [I q.kd,dv,cv])] 0=some (c_ A7 [I q.kd,dv,cv]):=rfl;have c:∀{j:Nat} {F:AV->Af},CV j (.ptr 0 0 0) F=F (.ptr 0 j 0):= λ{j F}=>by rw[fA,JQ]
 generalize [(0,c_ A7 [I q.kd,dv,cv])]=H at a;have i:∀{F:AV->Af},AF Ab (.ptr 0 0 0) H F=F (I q.kd):= λ{F}=>AP (p:=0) rfl a (by simp);have B:∀{F:AV->Af},AF Ac (.ptr 0 1 0) H F=F dv:= λ{F}=>AP (p:=1) rfl a (by simp);have Q:∀{F:AV->Af},AF Av (.ptr 0 2 0) H F=F cv:= λ{F}=>AP (p:=2) rfl a (by simp);have d1:∀{F:AV->Af},Bq Ac dv F=F (I q.ds.length):= λ{F}=>y.len;have d2:∀{F:AV->Af},Bq Av cv F=F (I q.cs.length):= λ{F}=>by
  rcases hc with⟨rfl,h⟩|rfl|⟨_,_,_,_,h⟩
  ·rw[h];rfl
  ·exact r_ rfl
  ·simp[Aj] at h
 have V:∀{F:AV->Af},Go.Abs.Ap Ab .gtr (I (q.ds.length:Int)) (AV.v (.int .i64 64)) F=F (Bo (decide (64<q.ds.length))):= λ{F}=>by rw[E5];congr 3;simp;omega
 have X:∀{F:AV->Af},Go.Abs.Ap Ab .gtr (I (q.cs.length:Int)) (AV.v (.int .i64 64)) F=F (Bo (decide (64<q.cs.length))):= λ{F}=>by rw[E5];congr 3;simp;omega
 have R:∀{F:AV->Af},Go.Abs.Ap Ab .eql (I (q.ds.length:Int)) (AV.v (.int .i64 0)) F=F (Bo (decide (q.ds=[]))):= λ{F}=>by rw[CP];congr 3;simp
 have z2:∀{F:AV->Af},Go.Abs.Ap Ab .eql (I (q.cs.length:Int)) (AV.v (.int .i64 0)) F=F (Bo (decide (q.cs=[]))):= λ{F}=>by rw[CP];congr 3;simp
 have k1:∀{z:Int} {F:AV->Af},Go.Abs.Ap Ab .eql (I q.kd) (AV.v (.int .i64 z)) F=F (Bo (decide (q.kd=z))):= λ{z F}=>CP;have u:∀{F:AV->Af},An (r! L (n+3)) B0 [dv,r1F] H F=F (Bo (q.ds.any λs=>decide (s.length≠32))):= λ{F}=>
  AQ (qU (n:=n+1) y (λs K=>by
   have e:Cr (E (L+20)) (r! L (n+1)) r1F [S s] [] K=An (r! L (n+1)) Jz [S s] [] λv=>K v []:=by kernel_rfl
   rw[e];exact AQ C3P (Am (q:=false) C7 AJ)) (λK=>rfl) (by omega) (by omega)) (Am (y.fx H) (Am (q:=false) (λK=>rfl) AJ))
 simp only[c,B,d1,V];by_cases h1:64<q.ds.length
 ·have hn:¬q.Right:= λ⟨h,_⟩=>by omega
  simp only[Iu h1,wT,Cn,UH];rw[Cy];rw[@decide_eq_false _ (_) hn] at k⊢;exact k _ _ λb=>⟨false,C7⟩
 simp only[IG h1,gT,gU,Cn,c,Q,d2,X,SS];by_cases h2:64<q.cs.length
 ·have hn:¬q.Right:= λ⟨_,h,_⟩=>by omega
  simp only[Iu h2,wT,Cn,UH];rw[Cy];rw[@decide_eq_false _ (_) hn] at k⊢;exact k _ _ λb=>⟨false,C7⟩
 simp only[IG h2,gT,gU,Cn,c,B,u,SS];by_cases t:∀s∈q.ds,s.length=32
 rotate_left
 ·have hn:¬q.Right:= λ⟨_,_,h,_⟩=>t h;have C:(q.ds.any λs=>decide (s.length≠32))=true:=by
   simp only[Classical.not_forall] at t;obtain⟨s,N,O⟩:=t;exact List.any_eq_true.2 ⟨s,N,by simpa using O⟩
  rw[C,Cy];rw[@decide_eq_false _ (_) hn] at k⊢;exact k _ _ λb=>⟨false,C7⟩
 have C:(q.ds.any λs=>decide (s.length≠32))=false:=by
  rw[List.any_eq_false];intro s N;simp[t s N]
 rw[C,Bj];simp only[c,Q,d2,z2];have fin:∀(b:Bool) (H:Hp),(b=true↔q.Right)->K (Bo b) H=some (Bo (@decide q.Right (Classical.propDecidable _)),[]):= λb H hb=>by
  have e:b=@decide q.Right (Classical.propDecidable _):=by
   cases b
   ·exact(@decide_eq_false _ (_) λh=>by have:=hb.2 h;cases this).symm
   ·exact(@decide_eq_true _ (_) (hb.1 rfl)).symm
  rw[e];exact k _ _ λb=>⟨false,C7⟩
 have g:q.Right↔(q.cs=[]/\(q.kd=1\/q.kd=2))\/(q.ds=[]/\q.kd=3):=⟨λ⟨_,_,_,h⟩=>h,λh=>⟨by omega,by omega,t,h⟩⟩
 by_cases f:q.cs=[]
 ·by_cases kk:q.kd=1
  ·simp only[Iu f,gT,dF,wT,gU,Cn,c,i,k1,Iu kk,UH,SS];exact fin true H ⟨λ_=>g.2 (.inl ⟨f,.inl kk⟩),λ_=>rfl⟩
  ·by_cases w:q.kd=2
   ·simp only[Iu f,gT,dF,wT,gU,Cn,c,i,k1,IG kk,Iu w,UH,SS];exact fin true H ⟨λ_=>g.2 (.inl ⟨f,.inr w⟩),λ_=>rfl⟩
   ·simp only[Iu f,gT,dF,wT,gU,Cn,c,i,k1,IG kk,IG w,UH,SS,B,d1,R];by_cases d:q.ds=[]
    ·simp only[Iu d,gT,dF,wT,gU,Cn,c,i,k1,UH,SS];refine fin _ H ⟨λh=>g.2 (.inr ⟨d,by simpa using h⟩),λh=> ?_⟩;rcases g.1 h with⟨_,h|h⟩|⟨_,h⟩
     ·exact absurd h kk
     ·exact absurd h w
     ·exact Iu h
    ·simp only[IG d,gT,dF,wT,gU,Cn,c,i,k1,UH,SS];refine fin false H ⟨λh=>(by cases h),λh=> ?_⟩;rcases g.1 h with⟨_,h|h⟩|⟨h,_⟩
     ·exact absurd h kk
     ·exact absurd h w
     ·exact absurd h d
 ·simp only[IG f,gT,dF,wT,gU,Cn,c,i,k1,UH,SS,B,d1,R];by_cases d:q.ds=[]
  ·simp only[Iu d,gT,dF,wT,gU,Cn,c,i,k1,UH,SS];refine fin _ H ⟨λh=>g.2 (.inr ⟨d,by simpa using h⟩),λh=> ?_⟩;rcases g.1 h with⟨h,_⟩|⟨_,h⟩
   ·exact absurd h f
   ·exact Iu h
  ·simp only[IG d,gT,dF,wT,gU,Cn,c,i,k1,UH,SS];refine fin false H ⟨λh=>(by cases h),λh=> ?_⟩;rcases g.1 h with⟨h,_⟩|⟨h,_⟩
   ·exact absurd h f
   ·exact absurd h d
def A4E {pv:AV} (f:40000<L) (i:C3q H pv q) (d:q.ds.length<1000) (b:q.cs.length<1000) {F:AV->Af}:An (r! L (n+4)) LU [pv] H F=F (Bo (@decide q.Right (Classical.propDecidable _))):=by
 obtain⟨dv,cv,rfl,g,hc⟩:=i;obtain⟨s,q1,c,f1⟩:∃e j,SA q.ds e/\Fx true 11 dv e H j:=by
  rcases g with h|h
  ·refine⟨dv,false,h,?_⟩;rcases h with rfl|⟨_,rfl⟩<;>exact λK=>rfl
  ·exact h.fx (D:=10)
 obtain⟨k,q2,a,f2⟩:=hc.fx (D:=10);exact AQ (A8f (n:=n) f c a d b) (Am (Lx (D:=11) (Am (q:=false) C7 (Am f1 (Am f2 AJ)))) AJ)
end
end
section
variable {s:AM} {F:AV->Af} {PP:Af->Prop}
variable {L n:Nat}
section
variable {H H0 H':Hp} {v dv cv pv:AV} {A:List Cd} {K:KV} {x0:Af} {x:AV} {r m:Nat} {q:Pk} {l:List AM}
def iW.nn (h:iW H v l) (b:l≠[]):Go.Abs.Ap Ac .eql v (AV.v (.slice none 0 0)) F=F (Bo false):=by
 cases l with
 |nil=>exact absurd rfl b
 |cons a l=>
  rcases h with h|h
  ·rcases h with rfl|⟨h,_⟩
   ·exact r_ rfl
   ·cases h
  ·rcases h with⟨_,h⟩|⟨r,q,c,rfl,_⟩
   ·cases h
   ·exact r_ rfl
theorem iW.src (h:iW H v l) {F:Nat->List AV->Af}:Ta H v F=F l.length (AG l):=by
 rcases h with h|h
 ·exact h.src
 ·rcases h with⟨rfl,rfl⟩|⟨r,q,a,rfl,h2⟩
  ·rfl
  ·have:Ta H (.sl 1 r 0 l.length) F=IJ H r λx=>JV x λ_ cs=>E8 (Nat.mul l.length 1) (Di 0 cs) λc=>F l.length c:=rfl;rw[this,Bf h2];show E8 (l.length*1) (Di 0 (AG l++a)) (λc=>F l.length c)=_;rw[C6,pM,KA _ _ _ (by rw[EY,AX];omega),pL,l34 (by rw[AX];omega),W! (by rw[AX];omega)]
theorem iW.ok (h:iW H v l):(Zz Ac.d&&Tf 1 v)=true:=by
 rcases h with h|h
 ·exact h.ok
 ·rcases h with⟨rfl,rfl⟩|⟨r,q,a,rfl,h2⟩<;>rfl
def A0m (wf:Wf H) (h:iW H v l) (w:l=[]->v=As) (hn:l.length<100000) (i:∀b H',Nh H' b l->(∀u,A8 b u->Ao H<=u)->Wf H'->(∀u y,Aj H u=some y->Aj H' u=some y)->Ao H<=Ao H'->PP (K b H')):
 PP ((r! L (n+1)).call Bg [v] H K):=by
 rw[FO];unfold D9 Ip;by_cases d:l=[]
 ·subst d;obtain rfl:=w rfl;have e:∀{K:AV->Af},Go.Abs.Ap Ac .eql As (AV.v (.slice none 0 0)) K=K (Bo true):= λ{K}=>r_ rfl;rw[e,Cy];exact i As H (.inl ⟨rfl,rfl⟩) (λu a=>absurd a IF) wf (λu y a=>a) (Mb _)
 ·rw[h.nn d,Bj,B61];have w1:=AI (x:= .cells false Ar []) wf;have j:∀u y,Aj H u=some y->Aj ((Ao H,Row.cells false Ar [])::H) u=some y:= λu y a=>A4 (wf.lt a) a;have B:B2 ((Ao H,.cells false Ar [])::H) Ar 1 (.sl 1 (Ao H) 0 0) 0 []:= .inr ⟨Ao H,false,rfl,Aw (by simp),rfl⟩;have f:=h.keep j;obtain⟨b,H',k,p,t,c⟩:=apt (ie:=Ai) (i2:=Ac) B (λK=>f.src (F:=K)) (by rw[AX,pL]) (jK (λ_=>rfl) l) (by decide) rfl f.ok (by show(0+l.length)*16<=_;omega) (by omega);rw[k];have n1:Ao ((Ao H,Row.cells false Ar [])::H)=Ao H+1:=rfl;refine i b H' ?_ (λu a=> ?_) (c.wf w1) (λu y a=> ?_) ?_
  ·rcases p with⟨_,h,_⟩|⟨r,q,rfl,h2,_⟩
   ·exact absurd (mL (by omega)) d
   ·exact .inr ⟨r,q,[],by rw[JQ],by rw[Wi];exact h2⟩
  ·have:=t u a;omega
  ·have:=wf.lt a;exact c.keep w1 u y (j u y a) λ⟨_,_,_,g⟩=>by injection g with _ g;omega
  ·have:=c.nx;omega
def A8y (wf:Wf H) (h:iW H v l) (c:l=[]->v=As) (hn:l.length<100000) (d:∀b H',Nh H' b l->(∀u,A8 b u->Ao H<=u)->Wf H'->(∀u y,Aj H u=some y->Aj H' u=some y)->Ao H<=Ao H'->K b H'=x0):
 (r! L (n+1)).call Bg [v] H K=x0:=
 A0m (PP:= λa=>a=x0) wf h c hn d
structure PkS (H:Hp) (v:AV) (q:Pk):Prop where
 at_:∃dv cv,v= .agg [I q.kd,dv,cv]/\iW H dv q.ds/\ZC H cv q.cs/\(q.ds=[]->dv=As)
def PkS.pk (h:PkS H v q):C3q H v q:=by
 obtain⟨dv,cv,h1,h2,a,_⟩:=h.at_;exact⟨dv,cv,h1,h2,a⟩
theorem PkS.keep (h:PkS H v q) (k:∀u y,Aj H u=some y->Aj H' u=some y):PkS H' v q:=by
 obtain⟨dv,cv,h1,h2,a,b⟩:=h.at_;exact⟨dv,cv,h1,h2.keep k,a.keep λu y _ c=>k u y c,b⟩
def A2A (e:mB H x A):An (r! L (n+1)) BM [x,S s] H F=F (Bo (decide (s∈A.map Cd.id))):=by
 obtain⟨q1,c⟩:=e.fx (D:=7);refine AQ (λK d=> ?_) (Am c (Am (q:=false) C7 AJ));rw[TT];unfold Kh Lo;rw[A06];refine A3p (b:=gE A) (F:= λf _ a=>K f a) (λK=>r_ rfl) λH' _=> ?_;rw[gM];exact d _ _ λb=>⟨false,C7⟩
abbrev B9k (x:AV):AV:= .fn (.func BM) [x] []
def A7X {N:Nat}:Cr (E (L+20)) (rt (L+20) N) (B9k x) [S s] H K=An (rt (L+20) N) BM [x,S s] H λv=>K v H:=by
 show SD [S s] [] (λa=>SD [x] a λall=>A1r ((E (L+20)).ne BM) all H K (@Bool.rec (λ_=>Af) (zpm (E (L+20)) BM (rt (L+20) N) all H λv=>K v H) ((rt (L+20) N).call BM all H K) ((E (L+20)).imp BM)))=_;rw[Jt,Jt,show(E (L+20)).ne BM=false from rfl,show(E (L+20)).imp BM=false from rfl];show zpm (E (L+20)) BM (rt (L+20) N) [x,S s] H (λv=>K v H)=_;rw[A2f (by simp)]
def B4s {D:Nat} (c:mB H x A):∃q,Fx true (D+6) (B9k x) (B9k (.iptr [.imap (Dc DF (gE A))])) H q:=by
 obtain⟨q1,h1⟩:=c.fx (D:=D);refine⟨q1,λK=> ?_⟩;show IB (HP true H (D+5)) [x] (λq b=>IB (HP true H (D+5)) [] λd a=>K (@Bool.rec (λ_=>Bool) d true q) (.fn (.func BM) b a))=_;have h2:Rr true (D+5) [x] [.iptr [.imap (Dc DF (gE A))]] H (q1||false):=Am h1 AJ;rw[h2];show K (@Bool.rec (λ_=>Bool) false true (q1||false)) _=_;cases q1<;>rfl
def A0e (O:GOk A) (M:200000<L) (wf:Wf H) (g:StAt H r m A) (R:PkS H pv q) (N:q.ds.length<=40)
 (X:∀H',Lat H H' (λ_=>False)->PP (K (vU (Tw A (q.ds.filter λs=>decide (s∉A.map Cd.id)))) H')):PP ((r! L (n+83)).call CD [.ptr r 0 0,pv] H K):=by
 obtain⟨dv,cv,rfl,h1,h2,J⟩:=R.at_;rw[Se];unfold J3 Eh;have Y:([I q.kd,dv,cv]:List AV).all AV.one=true:=by
  have a1:=h1.one.2;have a2:=h2.one.2;simp only[pK,l3c,a1,a2];rfl
 rw[Ei Y];have w1:=AI (x:= .cells true A7 [I q.kd,dv,cv]) wf;have i:∀u y,Aj H u=some y->Aj ((Ao H,c_ A7 [I q.kd,dv,cv])::H) u=some y:= λu y a=>A4 (wf.lt a) a;have b1:Aj ((Ao H,c_ A7 [I q.kd,dv,cv])::H) (Ao H)=some (c_ A7 [I q.kd,dv,cv]):=Aw (by simp);rw[fA,JQ,AP (p:=1) rfl b1 (by simp)];refine A0m (n:=n+81) w1 (h1.keep i) J (by omega) λC t r2 f j w n2=> ?_;have s2:=g.keep λu y a=>w u y (i u y a);obtain⟨Z,e⟩:=B4s (D:=6) s2.sv;have n2:Ao H+1<=Ao t:=n2;have d:∀u,A8 C u->Ao H+1<=u:= λu a=>f u a;have b:∀{c},Lat t c (A8 C)->∀u y,Aj H u=some y->Aj c u=some y:= λ{c} k u y a=>k.keep j u y (w u y (i u y a)) λQ=>by have:=d u Q;have:=wf.lt a;omega
 refine A8u (n:=n+80) (P:= λs=>decide (s∈A.map Cd.id)) j r2 (by omega) (by omega) ⟨_,Z,e,λs K=> ?_⟩ (λc k3 s K=> ?_) λv3 c B V k3=> ?_
 ·rw[A7X];exact A2A (n:=n+79) (.inl rfl)
 ·rw[A7X];exact A2A (n:=n+80) (g.keep (b k3)).sv
 ·have w3:=k3.wf j;have ef:(q.ds.filter λs=> !decide (s∈A.map Cd.id))=q.ds.filter λs=>decide (s∉A.map Cd.id):=by
   congr 1
   funext s
   by_cases h:s∈A.map Cd.id<;>simp[h]
  rw[ef] at B;rw[A84 (n:=n) O M (g.keep (b k3)).sv (.inr B) (Z7 (l32 _ _) N)];exact X c ⟨λ_=>w3,by have:=k3.nx;omega,λ_ u y a _=>b k3 u y a⟩
def A8o (d:GOk A) (b:200000<L) (wf:Wf H) (f:StAt H r m A) (e:PkS H pv q) (c:q.ds.length<=40)
 (g:∀H',Lat H H' (λ_=>False)->K (vU (Tw A (q.ds.filter λs=>decide (s∉A.map Cd.id)))) H'=x0):(r! L (n+83)).call CD [.ptr r 0 0,pv] H K=x0:=
 A0e (PP:= λa=>a=x0) d b wf f e c g
end
end
section
variable {L n:Nat}
abbrev PV:=List (Pk×AV×AV)
def pvC (p:Pk×AV×AV):List AV:=[I p.1.kd,p.2.1,p.2.2]
structure PvOk (H:Hp) (p:Pk×AV×AV):Prop where
 ds:iW H p.2.1 p.1.ds
 cs:ZC H p.2.2 p.1.cs
 nl:p.1.ds=[]->p.2.1=As
def wZ (H:Hp) (v:AV) (ps:PV):Prop:=(v=As/\ps=[])\/v= .list ps.length (ps.flatMap pvC)\/∃r q a,v= .sl 3 r 0 ps.length/\Aj H r=some (.cells q A7 (ps.flatMap pvC++a))
structure PksAt (H:Hp) (v:AV) (l:List Pk):Prop where
 at_:∃ps:PV,ps.map Prod.fst=l/\(∀p∈ps,PvOk H p)/\wZ H v ps
section
variable {H H0 H':Hp} {v dv cv pv:AV} {A:List Cd} {K:KV} {x0:Af} {x:AV} {r m:Nat} {q:Pk} {l:List AM} {ps:PV}
theorem PvOk.keep {p:Pk×AV×AV} (h:PvOk H p) (k:∀u y,Aj H u=some y->Aj H' u=some y):PvOk H' p:=⟨h.ds.keep k,h.cs.keep λu y _ a=>k u y a,h.nl⟩
def B8H (ps:PV):(ps.flatMap pvC).length=ps.length*3:=A5l (f:=pvC) (w:=3) (λ_=>rfl) ps
def PksAt.pks {ls:List Pk}:PksAt H (vU ls) ls:=by
 refine⟨ls.map λp=>(p,DJ p.ds,match p.cs with|[]=>As|c::cs=> .list (c::cs).length ((c::cs).flatMap PC.cells)),by rw[List.map_map];exact List.map_id _,λp b=> ?_,?_⟩
 ·obtain⟨a,_,rfl⟩:=Ma.1 b;refine⟨.inl (MK _),?_,λh=> ?_⟩
  ·show ZC H (match a.cs with|[]=>As|c::cs=> .list (c::cs).length ((c::cs).flatMap PC.cells)) a.cs;cases a.cs with
   |nil=>exact .inl ⟨rfl,rfl⟩
   |cons c cs=>exact .inr (.inl rfl)
  ·have h:a.ds=[]:=h;show DJ a.ds=As;rw[h];rfl
 ·cases ls with
  |nil=>exact .inl ⟨rfl,rfl⟩
  |cons p ls=>
   refine .inr (.inl ?_);show AV.list _ _=AV.list _ _;rw[QI,List.flatMap_map];rfl
def B5g {s:AM}:CS (r! L (n+2)) Fg [S s,.iptr [.iptr [.imap (Dc DF (gE A))]]] (Bo (decide (s∉A.map Cd.id))):=by
 intro K c;rw[ON];unfold HE Lo;have a:∀{F:AV->Af},AF BF (.iptr [.iptr [.imap (Dc DF (gE A))]]) [] F=F (.iptr [.imap (Dc DF (gE A))]):= λ{F}=>by kernel_rfl
 rw[a,A2A (n:=n) (.inl rfl),En];have:(!decide (s∈A.map Cd.id))=decide (s∉A.map Cd.id):=by by_cases h:s∈A.map Cd.id<;>simp[h]
 rw[this];exact c _ _ λb=>⟨false,C7⟩
def A5e {ws:List AM}:WS A ws=[]↔PT (DQ (ws.filter λx=>decide (x∈A.map Cd.id)))=[]:=by
 constructor
 ·intro h;cases hc:PT (DQ (ws.filter λx=>decide (x∈A.map Cd.id))) with
  |nil=>rfl
  |cons a t=>
   have d:a∈PT (DQ (ws.filter λx=>decide (x∈A.map Cd.id))):=by rw[hc];simp
   rw[Tu,(Be _).mem_iff,K_,decide_eq_true_eq] at d;obtain⟨c,b⟩:=M_ d.2;unfold WS at h;rw[hc,List.filterMap_cons,b] at h;cases h
 ·intro h;unfold WS;rw[h];rfl
def A5Y (hg:GOk A) (hL:200000<L) (wf:Wf H) (hs:StAt H r m A) (N:PkS H pv q) (hd:q.ds.length<=64)
 (O:∀J H',PksAt H' J (dC A q.ds)->Lat H H' (λ_=>False)->K J H'=x0):(r! L (n+83)).call Ds [.ptr r 0 0,pv] H K=x0:=by
 obtain⟨dv,cv,rfl,h1,h2,h3⟩:=N.at_;rw[QU];unfold Jh Eh A0;rw[A40 ⟨rfl,rfl⟩];have o3:([I q.kd,dv,cv]:List AV).all AV.one=true:=by
  have a1:=h1.one.2;have a2:=h2.one.2;simp only[pK,l3c,a1,a2];rfl
 rw[Ei o3];have w0:=AI (x:= .cells true AS [.ptr r 0 0]) wf;have e0:Ao ((Ao H,c_ AS [.ptr r 0 0])::H)=Ao H+1:=rfl;rw[e0];have w1:Wf ((Ao H+1,c_ A7 [I q.kd,dv,cv])::(Ao H,c_ AS [.ptr r 0 0])::H):=AI (x:= .cells true A7 [I q.kd,dv,cv]) w0;have Q:∀u y,Aj H u=some y->Aj ((Ao H+1,c_ A7 [I q.kd,dv,cv])::(Ao H,c_ AS [.ptr r 0 0])::H) u=some y:= λu y a=>by
  have a1:=A4 (x:= .cells true AS [.ptr r 0 0]) (wf.lt a) a;exact A4 (w0.lt a1) a1
 have V:Aj ((Ao H+1,c_ A7 [I q.kd,dv,cv])::(Ao H,c_ AS [.ptr r 0 0])::H) (Ao H)=some (c_ AS [.ptr r 0 0]):=A4 (H:=(Ao H,c_ AS [.ptr r 0 0])::H) (by rw[e0];omega) (Aw (by simp));have b1:Aj ((Ao H+1,c_ A7 [I q.kd,dv,cv])::(Ao H,c_ AS [.ptr r 0 0])::H) (Ao H+1)=some (c_ A7 [I q.kd,dv,cv]):=Aw (H:=(Ao H,c_ AS [.ptr r 0 0])::H) (by simp);have n1:Ao ((Ao H+1,c_ A7 [I q.kd,dv,cv])::(Ao H,c_ AS [.ptr r 0 0])::H)=Ao H+2:=rfl;generalize ((Ao H+1,c_ A7 [I q.kd,dv,cv])::(Ao H,c_ AS [.ptr r 0 0])::H:Hp)=M at w1 Q V b1 n1;rw[fA,Nat.add_comm 0 1,AP (p:=1) rfl b1 (by simp)];refine A8y (n:=n+81) w1 (h1.keep Q) h3 (by omega) λJ H2 r2 aa w2 k2 n2=> ?_;have g:∀u,A8 J u->Ao H+2<=u:= λu a=>by have:=aa u a;omega
 have B:∀{d},Lat H2 d (A8 J)->∀u y,Aj M u=some y->Aj d u=some y:= λ{d} k u y a=>k.keep w2 u y (k2 u y a) λw=>by have:=g u w;have:=w1.lt a;omega
 have fxc:∀(D:Nat) {d},(∀u y,Aj M u=some y->Aj d u=some y)->Fx true (D+6) (.ptr (Ao H) 0 0) (.iptr [.iptr [.imap (Dc DF (gE A))]]) d true:= λD {d} k=>by
  obtain⟨qx,O⟩:=(hs.keep λu y a=>k u y (Q u y a)).sv.fx (D:=D);exact Wr (D:=D+5) (k _ _ V) (Am O AJ)
 refine A8w (n:=n+80) (P:= λs=>decide (s∉A.map Cd.id)) w2 r2 (by omega) (by omega) ⟨.fn (.func Fg) [] [.iptr [.iptr [.imap (Dc DF (gE A))]]],_,yG (D:=11) (Am (fxc 5 k2) AJ),λs K=> ?_⟩ (λd k3 s K=> ?_) λv3 d r3 ab k3=> ?_
 ·rw[zP rfl rfl];exact AQ (B5g (n:=n+78)) (Am (q:=false) C7 (Am (q:=false) QV AJ))
 ·rw[zP rfl rfl];exact AQ (B5g (n:=n+79)) (Am (q:=false) C7 (Am (fxc 6 (B k3)) AJ))
 ·have w3:=k3.wf w2;have ef:(q.ds.filter λs=> !decide (s∉A.map Cd.id))=q.ds.filter λs=>decide (s∈A.map Cd.id):=by
   congr 1
   funext s
   by_cases h:s∈A.map Cd.id<;>simp[h]
  rw[ef] at r3;have Z:(q.ds.filter λs=>decide (s∈A.map Cd.id)).length<=64:=Z7 (l32 _ _) hd;have ae:=B k3;refine A4D (n:=n+78) r3 (by omega) λH4 r4 k4=> ?_;have w4:=k4.wf w3;have b:∀u,A8 v3 u->Ao H+2<=u:= λu a=>g u (ab u a);have af:∀u y,Aj M u=some y->Aj H4 u=some y:= λu y a=>k4.keep w3 u y (ae u y a) λw=>by have:=b u w;have:=w1.lt a;omega
  refine B5m (n:=n+81) w4 r4 (by rw[(Be _).length_eq];omega) (by omega) λv5 j r5 ah _ k5=> ?_;have w5:=k5.wf w4;have C:∀u y,Aj M u=some y->Aj j u=some y:= λu y a=>k5.keep w4 u y (af u y a) λw=>by have:=b u w;have:=w1.lt a;omega
  have i:∀u y,Aj H u=some y->Aj j u=some y:= λu y a=>C u y (Q u y a);have ad:Ao H<=Ao j:=by have:=k3.nx;have:=k4.nx;have:=k5.nx;omega
  rw[r5.len,CP];by_cases hz:WS A q.ds=[]
  ·have f:=A5e.1 hz;rw[Iu (by rw[f];rfl),Cy];refine O As j ?_ ⟨λ_=>w5,ad,λ_ u y a _=>i u y a⟩;unfold dC;rw[Dj hz];exact PksAt.pks (ls:=[])
  ·have f:PT (DQ (q.ds.filter λx=>decide (x∈A.map Cd.id)))≠[]:= λh=>hz (A5e.2 h);have ag:=List.length_pos_iff.2 f;rw[IG (λh=>f (mL (by simpa using h))),Bj];have lx:∀{F:AV->Af},AF BF (.ptr (Ao H) 0 0) j F=F (.ptr r 0 0):= λ{F}=>AP (p:=0) rfl (C _ _ V) (by simp);rw[lx];have t:=A5y (DQ (q.ds.filter λx=>decide (x∈A.map Cd.id)));rw[(Be _).length_eq] at t;refine A8t (n:=n+76) (A:=A) hg (λy hy=> ?_) (Nat.lt_of_le_of_lt (Z7 t Z) (by decide)) (by omega) w5 (hs.keep i).sv (.inr r5) λR H6 e=> ?_
   ·rw[Tu,(Be _).mem_iff,K_,decide_eq_true_eq] at hy;exact hy.2
   ·have eg:UI A (PT (DQ (q.ds.filter λx=>decide (x∈A.map Cd.id))))=WS A q.ds:=rfl;rw[eg] at e;have Y:=e.sl.co;have X:∀{F:AV->Af},BZ A9 [(0,1,(AV.v (.int .i64 3))),(2,1,R)] F=F (.agg [I 3,As,R]):= λ{F}=>by
     rcases e.sl with⟨h,_⟩|⟨rr,qq,h,_⟩<;>(rw[h];kernel_rfl)
    rw[X,B1h ⟨rfl,rfl⟩ Y];refine O _ _ ?_ ⟨λ_=>AI e.wf,by show Ao H<=Ao H6+1;have:=e.nx;omega,λ_ u y a _=> ?_⟩
    ·unfold dC;rw[C4 hz];have ac:=e.wf;refine⟨[(⟨3,[],(WS A q.ds).map .c⟩,As,R)],rfl,λp N=> ?_,.inr (.inr ⟨Ao H6,false,[],rfl,Aw (by simp)⟩)⟩;rw[Ur] at N;subst N;refine⟨.inl (.inr ⟨rfl,rfl⟩),?_,λ_=>rfl⟩;show ZC _ R ((WS A q.ds).map .c);rcases e.sl with⟨rfl,h1,h2⟩|⟨rr,qq,rfl,h2,_⟩
     ·exact absurd (mL h1) hz
     ·refine .inr (.inr ⟨rr,qq,[],by rw[QI],?_⟩);rw[Wi,A4W];exact A4 (ac.lt h2) h2
    ·have:=e.keep u y (i u y a);exact A4 (e.wf.lt this) this
end
end
end Go.Abs
end
