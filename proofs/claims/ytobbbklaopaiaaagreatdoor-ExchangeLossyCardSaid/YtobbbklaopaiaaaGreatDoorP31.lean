import Derived.Test.YtobbbklaopaiaaaGreatDoorP30
set_option linter.all false
set_option maxHeartbeats 100000000
noncomputable section
namespace Go.Abs
open Go.RowKit Go.Proofs
set_option maxRecDepth 100000
section
variable{F:AV->KV}{H0:Hp}{b:List (AN×Cd)}{m rb:Nat}
variable{L n:Nat}
section
variable{A out:ed}{s:AN}{H:Hp}{K:KV}{x:Af}
def B4L(h:s∉out.map Cd.id):Mu (gE out) s=none:=Yv (by rw[Ww];exact h)
def P_(h:s∈out.map Cd.id):∃c,Mu (gE out) s=some c:=by
 rcases A5B (gs:=out) (s:=s) with⟨_,k,a,h1,_⟩|⟨h1,_⟩
 ·exact⟨_,h1⟩
 ·exact absurd h h1
def O!{F:Value->Af}:LW (S s) F=F (SV s):=id rfl
def B9X{es:IH}{F:K2}:AD Ai (.iptr [.imap es]) H F=F (.imap es):=by kernel_rfl
def A5o{P:Af->Prop}{m:AV}(hm:∀K,xJ m H K=K (Df DK b))(d:∀a,(∃c:Is,a=upd ((As H,c_ Ad CJ)::H) (As H) (c_ Ad c))->P (F (Bo (Mu b s).isSome) (.ptr (As H) 0 0) a)):
 P (LW (S s) λq=>Zi Ae true m q H λv=>C9 v 0 λi=>C9 v 1 λj=>Bz Ad Ae H λe g=>E4 Ae e i g λh=>F j e h):=by
 rw[O!,A46 (f:=DK) (b:=b) hm];cases hc:Mu b s with
 |some c=>
  simp only[];rw[F5,F4,B3 (cs:=CJ) rfl,Ch (cs:=CJ) (vs:=c.cs) (Az (by simp)) ED rfl Mq];have:=d _ ⟨c.cs,rfl⟩;rw[hc]at this;exact this
 |none=>
  simp only[];rw[F5,F4,B3 (cs:=CJ) rfl]
  erw[Ch (cs:=CJ) (vs:=CJ) (Az (by simp)) rfl rfl rfl]
  have:=d _ ⟨CJ,rfl⟩;rw[hc]at this;exact this
def A3D{m:AV}(hm:∀K,xJ m H K=K (Df DK b))(h:∀d,(∃c:Is,d=upd ((As H,c_ Ad CJ)::H) (As H) (c_ Ad c))->F (Bo (Mu b s).isSome) (.ptr (As H) 0 0) d=x):
 (LW (S s) λq=>Zi Ae true m q H λv=>C9 v 0 λi=>C9 v 1 λj=>Bz Ad Ae H λe f=>E4 Ae e i f λg=>F j e g)=x:=
 A5o (P:=λa=>a=x) hm h
def iC:(Mu (gE out) s).isSome=decide (s∈out.map Cd.id):=by
 by_cases h:s∈out.map Cd.id
 ·obtain⟨c,hc⟩:=P_ h;rw[hc,Hj h];rfl
 ·rw[B4L h,HX h];rfl
def C17:CS (r! L (n+1)) De [S s,.iptr [.imap (Df DK (gE out))]] (Bo (decide (s∉out.map Cd.id))):=by
 intro K d;rw[N9];unfold GA Lr;rw[B9X];refine A3D (b:=gE out) (F:=λe _ c=>Mv .not e λa=>K a c) (λK=>id rfl) λf _=>?_;rw[iC,Et];have:(!decide (s∈out.map Cd.id))=decide (s∉out.map Cd.id):=by by_cases h:s∈out.map Cd.id<;>simp[h]
 rw[this];exact d _ _ λb=>⟨false,C7⟩
structure Cp(H0:Hp)(m rb:Nat)(out:ed)(H:Hp):Prop where
 mm:Aj H m=some (.map false (Df DK (gE out)) none)
 bb:Aj H rb=some (c_ Ax [.mp m])
 wf:Wf H
 keep:∀u y,Aj H0 u=some y->Aj H u=some y
 m0:As H0<=m
 b0:As H0<=rb
 w0:Wf H0
def Cp.ne(h:Cp H0 m rb out H):m≠rb:=λe=>by
 have:=h.mm;rw[e,h.bb]at this;cases this
def Cp.lat{H0 H':Hp}(h:Cp H0 m rb out H)(w:Wf H')(k:∀u y,Aj H u=some y->Aj H' u=some y):Cp H0 m rb out H':=
 ⟨k _ _ h.mm,k _ _ h.bb,w,λu y a=>k u y (h.keep u y a),h.m0,h.b0,h.w0⟩
theorem Cp.it{H0:Hp}{m rb it:Nat}(h:Cp H0 m rb out H)(y:Row)(h1:it≠m/\it≠rb/\As H0<=it):Cp H0 m rb out (upd H it y):=
 ⟨by rw[Ag h1.1.symm];exact h.mm,by rw[Ag h1.2.1.symm];exact h.bb,Bq h.wf,λu z a=>by rw[Ag (by have:=h.w0.lt a;omega)];exact h.keep u z a,h.m0,h.b0,h.w0⟩
def Cp.put(h:Cp H0 m rb out H)(a:ed):Cp H0 m rb a (upd H m (.map false (Df DK (gE a)) none)):=
 ⟨(B8 h.mm).trans rfl,by rw[Ag h.ne.symm];exact h.bb,Bq h.wf,λu z c=>by rw[Ag (by have:=h.w0.lt c;have:=h.m0;omega)];exact h.keep u z c,h.m0,h.b0,h.w0⟩
def B0K(out:ed)(c:Cd):gE out++[(c.id,c)]=gE (out++[c]):=by simp[gE]
def C0b{m rb it:Nat}{a0 v8 w:AV}{out0:ed}{ad:AV->AV->AV->KV}(hw:Vw 6 w w=true)(hg:GOk A)(hL:40000<L)(ac:∀out H,Cp H0 m rb out H->Ps A out->(∀c∈out0,c∈out)->(∀c∈A,(∀p∈c.ps,p∈out0.map Cd.id)->c.id∈out.map Cd.id)->ad a0 (.ptr rb 0 0) v8 (.it it) H=some (w,[]))(O:it≠m/\it≠rb/\As H0<=it):
 ∀(f:Nat)(es:List (AN×Cd))(out:ed)(H:Hp)(o:Option (Value×AV)),es.length<f->(∀e∈es,e∈gE A)->Cp H0 m rb out H->Ps A out->(∀c∈out0,c∈out)->
 (∀c∈A,(c.id,c)∈es\/((∀p∈c.ps,p∈out0.map Cd.id)->c.id∈out.map Cd.id))->Aj H it=some (.iter (Df DK es) o)->
 Ih (L+20) (r! L (n+3)) K ad f a0 (.ptr rb 0 0) v8 (.it it) H=some (w,[]):=by
 intro f
 induction f with
 |zero=>intro es out H o h;omega
 |succ f ih=>
  intro es out H o hf he hc V Z B hl;rw[Pn];unfold Ii Em;refine XW (f:=DK) hw hl (λe=>?_) (λa e b ae=>?_)
  ·subst e;rw[F3,Bh];exact ac out H hc V Z λc i=>(B c i).elim (λh=>by cases h) id
  ·subst ae;obtain⟨cd,N,ag⟩:=Mj.1 (he e (by simp));subst ag;have P:=L0 (es:=Df DK (a++b)) (o:=some (.string ⟨⟨cd.id⟩⟩,DK cd)) hl;have M:=hc.it (.iter (Df DK (a++b)) (some (.string ⟨⟨cd.id⟩⟩,DK cd))) O;have am:=WR (hg.ok cd N);rw[F3,Cr];simp only[BJ];rw[Nu P,F3,PT];generalize upd H it (.iter (Df DK (a++b)) (some (.string ⟨⟨cd.id⟩⟩,DK cd)))=H1 at P M;obtain⟨Y,e2,aa,w2,k2⟩:=Il (e:=Ad) (zs:=CJ) (vs:=cd.cs) M.wf ED;rw[B3 (cs:=CJ) rfl,Ch (cs:=CJ) (vs:=cd.cs) (Az (by simp)) ED rfl Mq,<-e2,fA,Jt,B1M aa];have j:=M.lat w2 λu y hu=>(k2 u y hu).1;have Q:=(k2 _ _ P).1;have ah:R5 true depth [DJ cd.ps,.fn (.func De) [] [.ptr rb 0 0]] [DJ cd.ps,.fn (.func De) [] [.iptr [.imap (Df DK (gE out))]]] Y true:=
    An (q:=false) ((Lt cd.ps).fx Y) (An (q:=true) (q':=false) (yT (D:=11) (An (q:=true) (q':=false) (Wy (D:=10) j.bb (An (q:=true) (q':=false) (A3Q (D:=6) j.mm) AK)) AK)) AK)
   have ab:∀{F:K2},Ao (r! L (n+3)) B2 [DJ cd.ps,.fn (.func De) [] [.ptr rb 0 0]] Y F=F (Bo (cd.ps.any λs=>decide (s∉out.map Cd.id))):=λ{F}=>
    AR (rH (n:=n+1) (Lt cd.ps) (λs K=>by
     rw[A_ rfl rfl];exact AR C17 (An (q:=false) C7 (An (q:=false) Rg AK))) (B9F (D:=10)) (by omega) (by omega)) ah
   rw[ab,Et];have k:∀e∈a++b,e∈gE A:=λe X=>he e (by simp at X⊢;rcases X with X|X;exact .inl X;exact .inr (.inr X));have t:(a++b).length<f:=by simp at hf⊢;omega
   by_cases g:∀p∈cd.ps,p∈out.map Cd.id
   ·have e1:(cd.ps.any λs=>decide (s∉out.map Cd.id))=false:=by
     rw[List.any_eq_false];intro p J;simp[g p J]
    rw[e1];show A2 (.v (.bool true)) _ _=_;rw[Cr];have lm:∀{F:K2},AD Ai (.ptr rb 0 0) Y F=F (.mp m):=λ{F}=>AQ (p:=0) rfl j.bb (by simp);rw[lm,Bv rfl ED.symm aa];show LW (S cd.id) _=_;rw[O!];show Mm (.mp m) (SV cd.id) (DK cd) Y _=_;rw[iJ (f:=DK) (b:=gE out) (v:=cd) j.mm];by_cases r:cd.id∈out.map Cd.id
    ·obtain⟨c',ak⟩:=P_ r;obtain⟨d,hd,C⟩:=Mj.1 r;have e3:Mu (gE out) cd.id=some cd:=by
      have a1:=FE V.nd hd;rw[C]at a1;have a2:=FE hg.ids (V.sub d hd);have a3:=FE hg.ids N;rw[C,a3]at a2;rw[a1,l2c a2]
     rw[A6K e3];refine ih (a++b) out _ _ t k (j.put out) V Z (λc i=>?_) (by rw[Ag O.1];exact Q);rcases B c i with h|h
     ·simp at h;rcases h with h|h|h
      ·exact .inl (by simp[h])
      ·exact .inr λ_=>by rw[h.1];exact r
      ·exact .inl (by simp[h])
     ·exact .inr h
    ·rw[YU (by rw[Ww];exact r),B0K];refine ih (a++b) (out++[cd]) _ _ t k (j.put (out++[cd])) (V.add N g r) (λc af=>by simp[Z c af]) (λc i=>?_) (by rw[Ag O.1];exact Q);rcases B c i with h|h
     ·simp at h;rcases h with h|h|h
      ·exact .inl (by simp[h])
      ·exact .inr λ_=>by rw[h.1];simp
      ·exact .inl (by simp[h])
     ·exact .inr λR=>by
       have:=h R;rw[Za];exact Yn.2 (.inl this)
   ·have e1:(cd.ps.any λs=>decide (s∉out.map Cd.id))=true:=by
     rw[List.any_eq_true];simp only[Classical.not_forall]at g;obtain⟨p,ai,aj⟩:=g;exact⟨p,ai,by simp only[decide_eq_true_eq];exact aj⟩
    rw[e1];show A2 (.v (.bool false)) _ _=_;rw[Bh];refine ih (a++b) out _ _ t k j V Z (λc i=>?_) Q;rcases B c i with h|h
    ·simp at h;rcases h with h|h|h
     ·exact .inl (by simp[h])
     ·refine .inr λR=>absurd (λp J=>?_) g;rw[<-h.2]at J;obtain⟨d,hd,C⟩:=Mj.1 (R p J);exact Mj.2 ⟨d,Z d hd,C⟩
     ·exact .inl (by simp[h])
    ·exact .inr h
end
end
section
variable{w:AV}{F:K2}{es:IH}{m:Nat}
variable{L n:Nat}
section
variable{A out:ed}{s:AN}{H:Hp}{K:KV}{x:Af}
def uL{a:Option (Hb×Nat)}(h:Aj H m=some (.map false es a)):YC (.mp m) H F=F (I es.length):=by
 unfold YC;rw[Ze h,Cl,Jt];rfl
def A1X{ty:Nat}{i:TI}{v:Value}(hz:i.zero=.v v):Bz ty i H K=K (.ptr (As H) 0 0) ((As H,c_ ty [.v v])::H):=by
 unfold Bz;rw[hz,CK,BW];rfl
def A0h:(Lh (.iptr [.imap es]) λv=>CY 0 v λv=>AD Ai v H F)=F (.imap es):=by kernel_rfl
def A99{l m:ed}(b:(l.map Cd.id).Nodup)(hm:(m.map Cd.id).Nodup)(e:∀c∈l,c∈m)(he:m.length=l.length):∀c∈m,c∈l:=by
 intro c hc;apply l39;intro hn;have h1:(c::l).Nodup:=List.nodup_cons.2 ⟨hn,YX b⟩;have h2:=VP h1 (l2:=m) λd a=>by
  rcases Tz.1 a with rfl|a
  ·exact hc
  ·exact e d a
 simp at h2;omega
def C0c{H0:Hp}{m rb:Nat}(R:Vw 6 w w=true)(t:GOk A)(O:40000<L)(V:∀out H,Cp H0 m rb out H->out.Perm (DU A)->K (.mp m) H=some (w,[])):
 ∀(f:Nat)(out:ed)(H:Hp)(d1 d2:AV),A.length-out.length<f->Cp H0 m rb out H->Ps A out->
 F8 (L+20) (r! L (n+3)) K f (.iptr [.imap (Df DK (gE A))]) (.ptr rb 0 0) d1 d2 H=some (w,[]):=by
 intro f
 induction f with
 |zero=>intro out H d1 d2 h;omega
 |succ f ih=>
  intro out H d1 d2 X hc B;rw[Po];unfold Ij Em;have lm:∀{out H}{F:K2},Cp H0 m rb out H->AD Ai (.ptr rb 0 0) H F=F (.mp m):=λ{out H F}hc=>AQ (p:=0) rfl hc.bb (by simp);have N:∀{out:ed},(Df DK (gE out)).length=out.length:=λ{out}=>by simp[gE]
  simp only[BJ];rw[lm hc,uL hc.mm,N,A0h,WM];have v:Aj ((As H,Row.iter (Df DK (gE A)) none)::H) (As H)=some (.iter (Df DK (gE A)) none):=Az (by simp);have k:Cp H0 m rb out ((As H,Row.iter (Df DK (gE A)) none)::H):=hc.lat (AJ hc.wf) λu y M=>A7 (hc.wf.lt M) M;have m1:=hc.wf.lt hc.mm;have Y:=hc.wf.lt hc.bb;have m3:=hc.m0;refine C0b (n:=n) (out0:=out) R t O (λa D b g J q=>?_) ⟨by omega,by omega,by omega⟩ (L+20) (gE A) out _ none (by have:=t.len;simp[gE];omega) (λe he=>he) k B (λc h=>h) (λc i=>.inl (Mj.2 ⟨c,i,rfl⟩)) v;rw[lm b,uL b.mm,N,CQ];have Q:out.length<=a.length:=by
   have:=VP (YX B.nd) (l2:=a) J;exact this
  by_cases he:a.length=out.length
  ·rw[Hj (by omega),Cr,lm b];refine V a D b (g.done t.ids λc i j=>q c i λp C=>?_);obtain⟨d,P,r⟩:=Mj.1 (j p C);exact Mj.2 ⟨d,A99 B.nd g.nd J he d P,r⟩
  ·rw[HX (by omega),Bh];have:=g.len;exact ih a D _ _ (by omega) b g
def rJ(i:Vw 6 w w=true)(e:GOk A)(g:40000<L)(wf:Wf H)(j:∀out m a,out.Perm (DU A)->Aj a m=some (.map false (Df DK (gE out)) none)->As H<=m->Wf a->(∀u y,Aj H u=some y->Aj a u=some y)->As H<=As a->K (.mp m) a=some (w,[])):
 (r! L (n+4)).call FM [.iptr [.imap (Df DK (gE A))]] H K=some (w,[]):=by
 rw[Ql];unfold I4;have em:∀(H:Hp)(K:KV),LC Ae H K=K (.mp (As H)) ((As H,.map false [] none)::H):=λH K=>by
  show Ik H (λs=>K (.mp s) ((s,.map false [] (lJ Ae.d))::H))=_;rw[BW];rfl
 rw[em,A1X (v:=.map none) rfl];have w1:=AJ (x:=.map false [] none) wf;have h1:Aj ((As H,Row.map false [] none)::H) (As H)=some (.map false [] none):=Az (by simp);have c:As ((As H,Row.map false [] none)::H)=As H+1:=rfl;rw[c];have h2:Aj ((As H+1,c_ Ax [.v (.map none)])::(As H,Row.map false [] none)::H) (As H+1)=some (c_ Ax [.v (.map none)]):=Az (H:=(As H,Row.map false [] none)::H) (by simp);rw[Ei (cs:=[.v (.map none)]) h2 (by simp) rfl rfl rfl];have p:Wf ((As H+1,c_ Ax [.v (.map none)])::(As H,Row.map false [] none)::H):=AJ (x:=.cells true Ax [.v (.map none)]) w1;have k:∀u y,Aj H u=some y->Aj ((As H+1,c_ Ax [.v (.map none)])::(As H,Row.map false [] none)::H) u=some y:=λu y b=>by
  have a1:=A7 (x:=.map false [] none) (wf.lt b) b;exact A7 (w1.lt a1) a1
 have f:Aj ((As H+1,c_ Ax [.v (.map none)])::(As H,Row.map false [] none)::H) (As H)=some (.map false [] none):=A7 (H:=(As H,Row.map false [] none)::H) (by rw[c];omega) h1;refine C0c (n:=n) (H0:=H) (m:=As H) (rb:=As H+1) i e g (λout a hc h=>?_) (L+20) [] _ _ _ (by have:=e.len;simp;omega) ⟨by rw[Ag (by omega)];exact f,AC h2,Bq p,λu y b=>by rw[Ag (by have:=wf.lt b;omega)];exact k u y b,by omega,by omega,wf⟩ .nil;have:=hc.wf.lt hc.mm;exact j out (As H) a h hc.mm (Me _) hc.wf hc.keep (by omega)
end
end
section
variable{v w:AV}{H H0:Hp}{A:ed}{m:Nat}
variable{L n:Nat}
def tO(c2 c6:AV)(p:Option (Option Code)):Row:=.loop 13 [(2,c2),(4,Aw),(5,AV.dk),(6,c6),(7,AV.dk),(8,AV.dk),(9,AV.dk),(10,AV.dk),(11,AV.dk)] (AF).2.1 (AF).2.2.1 (AF).2.2.2 p
structure CollC(H0:Hp)(r0 s:Nat)(q0:Bool)(e0:Nat)(c6:AV)(l:ed)(v:AV)(H:Hp):Prop where
 at_:Aj H r0=some (.cells q0 e0 [v])
 sl:B0 H Ad 68 v l.length (l.flatMap Cd.cs)
 lp:Aj H s=some (tO (.ptr r0 0 0) c6 (some none))
 new:∀u,A8 v u->u≠r0/\u≠s/\As H0<=u
 wf:Wf H
 keep:∀u y,Aj H0 u=some y->Aj H u=some y
 ne:r0≠s
 r0n:As H0<=r0
 sn:As H0<=s
 w0:Wf H0
def B0.co{e sz m:Nat}{cs:Is}(h:B0 H e sz v m cs):Bw v=[v]/\AV.one v=true:=by
 rcases h with⟨rfl,_⟩|⟨_,_,rfl,_⟩<;>exact⟨rfl,rfl⟩
variable{K:KV}{x:Af}
def A56{r0 s e0:Nat}{q0:Bool}{c6 v:AV}{l:ed}{b:Cd}(h:CollC H0 r0 s q0 e0 c6 l v H)(hn:l.length<1000)(hx:∀f g,CollC H0 r0 s q0 e0 c6 (l++[b]) f g->(∀u y,u≠r0->u≠s->¬A8 v u->Aj H u=some y->Aj g u=some y)->(∀u,A8 f u->As H<=u)->K (Bo true) g=x):Ct (E (L+20)) (r! L (n+1)) (.yl s) [.agg b.cs] H K=x:=by
 show XA6 (r! L (n+1)) s [.agg b.cs] H K=x;rw[OY h.lp (by kernel_rfl)];have J:(r! L (n+1)).run= λcf=>OK (E (L+20)) (r! L n) cf:=rfl;rw[J,Hy,B3 (cs:=CJ) rfl,Ch (cs:=CJ) (vs:=b.cs) (Az (by simp)) ED rfl Mq];obtain⟨d,e1,V,w1,k1⟩:=Il (e:=Ad) (zs:=CJ) (vs:=b.cs) h.wf ED;rw[<-e1];have n1:As d=As H+1:=by rw[e1,BB];rfl
 have ae:=h.wf.lt h.at_;have slt:=h.wf.lt h.lp;have j:Aj d s=some (tO (.ptr r0 0 0) c6 (some none)):=(k1 _ _ h.lp).1;have C:Aj d r0=some (.cells q0 e0 [v]):=(k1 _ _ h.at_).1;have ad:∀u,A8 v u->u<As H:=λu c=>by
  rcases h.sl with⟨rfl,_⟩|⟨r,q,rfl,h2,_⟩
  ·exact absurd c HV
  ·obtain⟨_,_,_,X⟩:=c;injection X with _ X
   subst X;exact h.wf.lt h2
 have N:B0 d Ad 68 v l.length (l.flatMap Cd.cs):=by
  rcases h.sl with h1|⟨r,q,rfl,h2,t⟩
  ·exact .inl h1
  ·exact .inr ⟨r,q,rfl,(k1 _ _ h2).1,t⟩
 rw[Ph j];have ab:=Bq (r:=s) (y:=tO (.ptr r0 0 0) c6 none) w1;have D:Aj (upd d s (tO (.ptr r0 0 0) c6 none)) r0=some (.cells q0 e0 [v]):=by rw[Ag h.ne];exact C
 have Y:Aj (upd d s (tO (.ptr r0 0 0) c6 none)) s=some (tO (.ptr r0 0 0) c6 none):=Ff j;have aa:B0 (upd d s (tO (.ptr r0 0 0) c6 none)) Ad 68 v l.length (l.flatMap Cd.cs):=N.lat w1 (Lat.upd d s _ (P:=λu=>u=s) rfl) (λu c=>(h.new u c).2.1);have R:Aj (upd d s (tO (.ptr r0 0 0) c6 none)) (As H)=some (c_ Ad b.cs):=by rw[Ag (by omega)];exact V
 show AD Ay (.ptr r0 0 0) (upd d s (tO (.ptr r0 0 0) c6 none)) _=_;rw[AQ (p:=0) rfl D (by simp)];show AD Ae (.ptr (As H) 0 0) (upd d s (tO (.ptr r0 0 0) c6 none)) _=_;rw[Bv rfl ED.symm R];show GM Ad 68 Ae 1 [(0,68,.agg b.cs)] (upd d s (tO (.ptr r0 0 0) c6 none)) (λac O=>E5 Ad 68 Ae Ay v ac O _)=_;obtain⟨f,g,h1,h2,t,h4,Q,h6⟩:=V_ (ie:=Ae) (i2:=Ay) (ys:=b.cs) aa ab ED Mq (by decide) rfl (λ_=>rfl) (by show(_+1)*800<=_;omega) (by omega);rw[C3u ED Mq,h1];have n0:¬A8 v r0:=λc=>(h.new r0 c).1 rfl;have ns:¬A8 v s:=λc=>(h.new s c).2.1 rfl;have F:=Q r0 _ D n0;have Z:=Q s _ Y ns;rw[Ei (q:=q0) (e:=e0) (cs:=[v]) F (by simp) rfl h2.co.1 h2.co.2];have ah:As H0<=As H:=by have:=h.r0n;omega
 have ag:As (upd d s (tO (.ptr r0 0 0) c6 none))=As H+1:=by rw[BB,n1]
 have i:∀u,A8 f u->As H<=u:=λu c=>by have:=h6 u c;omega
 have B:∀u,A8 f u->u≠r0/\u≠s/\As H0<=u:=λu c=>by
  have a1:=i u c;exact⟨by omega,by omega,by omega⟩
 have M:Aj (upd g r0 (.cells q0 e0 [f])) s=some (tO (.ptr r0 0 0) c6 none):=by rw[Ag h.ne.symm];exact Z
 show E7 (upd g r0 (.cells q0 e0 [f])) s false (some none) _=_;have k:=M;unfold tO at k;rw[Pg k];have kp:∀u y,u≠r0->u≠s->¬A8 v u->Aj H u=some y->Aj (upd (upd g r0 (.cells q0 e0 [f])) s (tO (.ptr r0 0 0) c6 (some none))) u=some y:=λu y h1 h2 t c=>by
  rw[Ag h2,Ag h1];exact Q u y (by rw[Ag h2];exact(k1 _ _ c).1) t
 have e2:(l++[b]).flatMap Cd.cs=l.flatMap Cd.cs++b.cs:=by simp
 refine hx f _ ⟨?_,?_,?_,B,Bq (Bq t),λu y c=>?_,h.ne,h.r0n,h.sn,h.w0⟩ kp i
 ·rw[Ag h.ne];exact AC F
 ·rw[EC,e2];have a:=h2.lat t (Lat.upd g r0 (.cells q0 e0 [f]) (P:=λu=>u=r0) rfl) (λu c=>(B u c).1);exact a.lat (Bq t) (Lat.upd _ s _ (P:=λu=>u=s) rfl) (λu c=>(B u c).2.1)
 ·exact Ff M
 ·have af:=h.w0.lt c;have b1:=h.r0n;have b2:=h.sn;exact kp u y (by omega) (by omega) (λhv=>by have:=(h.new u hv).2.2;omega) (h.keep u y c)
theorem CollC.it{H0 H:Hp}{r0 s e0 it:Nat}{q0:Bool}{c6 v:AV}{l:ed}(h:CollC H0 r0 s q0 e0 c6 l v H)(y:Row)(h1:it≠r0/\it≠s/\As H0<=it)(h2:¬A8 v it):CollC H0 r0 s q0 e0 c6 l v (upd H it y):=
 ⟨by rw[Ag h1.1.symm];exact h.at_,h.sl.lat h.wf (Lat.upd H it y (P:=λu=>u=it) rfl) (λu a e=>h2 (e▸a)),by rw[Ag h1.2.1.symm];exact h.lp,h.new,Bq h.wf,λu z a=>by rw[Ag (by have:=h.w0.lt a;omega)];exact h.keep u z a,h.ne,h.r0n,h.sn,h.w0⟩
def CollC.more{H0 H H':Hp}{r0 s e0:Nat}{q0:Bool}{c6 v:AV}{l:ed}(h:CollC H0 r0 s q0 e0 c6 l v H)(w:Wf H')(k:∀u y,Aj H u=some y->Aj H' u=some y):CollC H0 r0 s q0 e0 c6 l v H':=
 ⟨k _ _ h.at_,by
  rcases h.sl with h1|⟨r,q,rfl,h2,a⟩
  ·exact .inl h1
  ·exact .inr ⟨r,q,rfl,k _ _ h2,a⟩,k _ _ h.lp,h.new,w,λu y b=>k u y (h.keep u y b),h.ne,h.r0n,h.sn,h.w0⟩
structure NewC(H0:Hp)(l:ed)(v:AV)(H:Hp):Prop where
 sl:B0 H Ad 68 v l.length (l.flatMap Cd.cs)
 nil:l=[]->v=Aw
 new:∀u,A8 v u->As H0<=u
 wf:Wf H
 keep:∀u y,Aj H0 u=some y->Aj H u=some y
 nx:As H0<=As H
def ZU{Q:ed->AV->Prop}{Hs H0:Hp}{g:Nat}{cap:Is}(ws:Wf Hs)(w0:Wf H0)(hn:As H0=As Hs)(i:∀u y,Aj H0 u=some y->Aj Hs u=some y)(h:∀(H:Hp)(F:KV),CollC H0 (As Hs) (As Hs+1) true Bs (.fn (.func g) [] cap) [] Aw H->As H=As Hs+2->(∀u y,Aj Hs u=some y->Aj H u=some y)->
  (∀l v b,Q l v->(l=[]->v=Aw)->CollC H0 (As Hs) (As Hs+1) true Bs (.fn (.func g) [] cap) l v b->F (.tup []) b=x)->(r! L (n+1)).call g (.yl (As Hs+1)::cap) H F=x)(k:∀l v b,Q l v->NewC H0 l v b->K v b=x):
 (r! L (n+3)).call BC [.fn (.func g) [] cap] Hs K=x:=by
 rw[MZ];unfold Ge;rw[HO];unfold Da;simp only[BJ];rw[mG (by rfl),VE];have w1:=AJ (x:=.cells true Bs [Aw]) ws;have c:=Az (H:=Hs) (x:=.cells true Bs [Aw]) (by simp);have j:As ((As Hs,c_ Bs [Aw])::Hs)=As Hs+1:=rfl;have q:Wf ((As Hs+1,tO (.ptr (As Hs) 0 0) (.fn (.func g) [] cap) (some none))::(As Hs,c_ Bs [Aw])::Hs):=AJ (x:=tO (.ptr (As Hs) 0 0) (.fn (.func g) [] cap) (some none)) w1;have e:Aj ((As Hs+1,tO (.ptr (As Hs) 0 0) (.fn (.func g) [] cap) (some none))::(As Hs,c_ Bs [Aw])::Hs) (As Hs+1)=some (tO (.ptr (As Hs) 0 0) (.fn (.func g) [] cap) (some none)):=Az (H:=((As Hs,c_ Bs [Aw])::Hs)) (x:=tO (.ptr (As Hs) 0 0) (.fn (.func g) [] cap) (some none)) (by simp[tO]);have ol:∀u y,Aj Hs u=some y->Aj ((As Hs+1,tO (.ptr (As Hs) 0 0) (.fn (.func g) [] cap) (some none))::(As Hs,c_ Bs [Aw])::Hs) u=some y:=λu y a=>by
  have a1:=A7 (x:=.cells true Bs [Aw]) (ws.lt a) a;exact A7 (w1.lt a1) a1
 have d:Aj ((As Hs+1,tO (.ptr (As Hs) 0 0) (.fn (.func g) [] cap) (some none))::(As Hs,c_ Bs [Aw])::Hs) (As Hs)=some (c_ Bs [Aw]):=A7 (w1.lt c) c;refine h _ _ ⟨d,.inl ⟨rfl,rfl,rfl⟩,e,λu a=>absurd a HV,q,λu y a=>ol u y (i u y a),by omega,by omega,by omega,w0⟩ rfl ol ?_;intro l v b hq f hc;show I6 b (As Hs+1) _=_;rw[AX hc.lp];show Ll b (As Hs+1) .gone _=_;rw[Dh];have hr:Aj (upd b (As Hs+1) .gone) (As Hs)=some (c_ Bs [v]):=by rw[Ag (by omega)];exact hc.at_
 show AD Ay (.ptr (As Hs) 0 0) (upd b (As Hs+1) .gone) _=_;rw[AQ (p:=0) rfl hr (by simp)];refine k l _ _ hq ⟨?_,f,λu a=>(hc.new u a).2.2,Bq hc.wf,λu y a=>?_,?_⟩
 ·exact hc.sl.lat hc.wf (Lat.upd b _ _ (P:=λu=>u=As Hs+1) rfl) (λu a=>(hc.new u a).2.1)
 ·have:=w0.lt a;rw[Ag (by omega)];exact hc.keep u y a
 ·rw[BB];have:=hc.wf.lt hc.at_;omega
def xT{r0 s it:Nat}{c6 w:AV}{J:Ru}(V:Vw 6 w w=true)(D:A.length<1000)(i:∀l v H,l.Perm A->(l=[]->v=Aw)->CollC H0 r0 s true Bs c6 l v H->J H=some (w,[]))(d:it≠r0/\it≠s/\As H0<=it):
 ∀(f:Nat)(es:List (AN×Cd))(l:ed)(v:AV)(H:Hp)(o:Option (Value×AV)),es.length<f->(l++es.map Prod.snd).Perm A->(l=[]->v=Aw)->CollC H0 r0 s true Bs c6 l v H->¬A8 v it->Aj H it=some (.iter (Df DK es) o)->
 BX (L+20) (r! L (n+1)) K J f (.yl s) (.it it) H=some (w,[]):=by
 intro f
 induction f with
 |zero=>intro es l v H o h;omega
 |succ f ih=>
  intro es l v H o Q t P hc hv C;rw[EZ];unfold BY;refine XW (f:=DK) V C (λe=>?_) (λa e b he=>?_)
  ·subst e;rw[F3,Bh];exact i l v H (by simpa using t) P hc
  ·subst he;have c:=hc.it (.iter (Df DK (a++b)) (some (.string ⟨⟨e.1⟩⟩,DK e.2))) d hv;have g:=L0 (es:=Df DK (a++b)) (o:=some (.string ⟨⟨e.1⟩⟩,DK e.2)) C;have r:(l++(a++e::b).map Prod.snd).length=A.length:=t.length_eq;simp at r;rw[F3,Cr,Nu g,PT];generalize upd H it (.iter (Df DK (a++b)) (some (.string ⟨⟨e.1⟩⟩,DK e.2)))=Y at g c;obtain⟨Z,O,p,M,F⟩:=Il (e:=Ad) (zs:=CJ) (vs:=e.2.cs) c.wf ED;rw[B3 (cs:=CJ) rfl,Ch (cs:=CJ) (vs:=e.2.cs) (Az (by simp)) ED rfl Mq,<-O,Bv rfl ED.symm p];have q:=c.more M λu y B=>(F u y B).1;have j:=(F _ _ g).1;refine A56 q (by omega) λX N k R hr=>?_;rw[Et];show A2 (.v (.bool false)) _ _=_;rw[Bh];refine ih (a++b) (l++[e.2]) X N _ (by simp at Q⊢;omega) ?_ (by simp) k (λB=>?_) (R it _ d.1 d.2.1 hv j)
   ·refine List.Perm.trans ?_ t;simp only[Za,Xa,ZL];refine List.Perm.append_left l ?_;show(e.2::(a.map Prod.snd++b.map Prod.snd)).Perm _;exact List.perm_middle.symm
   ·have g1:=hr it B;have g2:=M.lt j;omega
def B0J(A:ed):(gE A).map Prod.snd=A:=by
 unfold gE;rw[List.map_map];exact List.map_id A
def B1N(es:List (AN×Cd)):(Df DK es).all (λp=>iT 3 p.2)=true:=by
 rw[GE];intro p g;obtain⟨e,_,rfl⟩:=Mj.1 g;show e.2.cs.all (iT 2)=true;have d:∀l:Is,l.all fixB=true->l.all (iT 2)=true:=λl h=>by
  rw[GE]at h⊢;intro a f;have:=h a f;cases a<;>first|rfl|(simp[fixB]at this)
 have h1:∀c:Cd,c.cs.all (iT 2)=true:=λc=>by
  obtain⟨a,b,e,h1,h2⟩:=mI c;rw[<-A4k c,e,List.all_append,d a h1,pY,d b h2];cases c.ps<;>rfl
 exact h1 _
def A8l{Hs:Hp}(V:Vw 6 w w=true)(j:A.length<1000)(hL:40000<L)(ws:Wf Hs)(hm:Aj Hs m=some (.map false (Df DK (gE A)) none))(X:∀l v g,l.Perm A->NewC (upd Hs m .gone) l v g->K v g=some (w,[])):
 (r! L (n+4)).call Bn [.mp m] Hs (λv H=>(r! L (n+4)).call BC [v] H K)=some (w,[]):=by
 rw[Dp];unfold B9 Iu;rw[B1w];have w1:=AJ (x:=.cells true Ax [.mp m]) ws;have mlt:=ws.lt hm;have hb:Aj ((As Hs,c_ Ax [.mp m])::Hs) (As Hs)=some (c_ Ax [.mp m]):=Az (by simp);have t:∀u y,Aj Hs u=some y->Aj ((As Hs,c_ Ax [.mp m])::Hs) u=some y:=λu y c=>A7 (ws.lt c) c;have f:=t _ _ hm;have M:As ((As Hs,c_ Ax [.mp m])::Hs)=As Hs+1:=rfl;generalize ((As Hs,c_ Ax [.mp m])::Hs:Hp)=B at w1 hb t f M;refine ZU (n:=n+1) (Q:=λl _=>l.Perm A) (H0:=upd B m .gone) w1 (Bq w1) (BB _ _ _) (λu y c=>?_) (λH F hc P i O=>?_) (λl v g hq h=>?_)
 ·have d:u≠m:=λe=>by subst e;rw[B8 f]at c;cases c
  rwa[Ag d]at c
 ·rw[Db];unfold Bx;simp only[BJ];rw[AQ (p:=0) rfl (i _ _ hb) (by simp)];show WN (.mp m) H _=_;have q:=i _ _ f;rw[A5L q (B1N _)];have Z:=hc.wf;have J:Wf (upd H m .gone):=Bq Z;have s:As (upd H m .gone)=As H:=BB _ _ _;have r:Aj ((As H,Row.iter (Df DK (gE A)) none)::upd H m .gone) (As H)=some (.iter (Df DK (gE A)) none):=by
   have:=Az (H:=upd H m .gone) (x:=.iter (Df DK (gE A)) none) (by simp)
   rwa[s]at this
  have up:∀u y,u≠m->Aj H u=some y->Aj ((As H,Row.iter (Df DK (gE A)) none)::upd H m .gone) u=some y:=λu y c Y=>by
   have a:Aj (upd H m .gone) u=some y:=by rw[Ag c];exact Y
   have b:=A7 (x:=.iter (Df DK (gE A)) none) (J.lt a) a
   rwa[s]at b
  have D:=AJ (x:=.iter (Df DK (gE A)) none) J;rw[s]at D;have C:=w1.lt f;refine xT (n:=n) (A:=A) (H0:=upd B m .gone) V j (λl v g R N k=>O l v g R N k) ⟨by omega,by omega,by rw[BB];omega⟩ (L+20) (gE A) [] Aw _ none (by simp[gE];omega) (by rw[B0J];simp) (λ_=>rfl)
   ⟨up _ _ (by omega) hc.at_,.inl ⟨rfl,rfl,rfl⟩,up _ _ (by omega) hc.lp,λu c=>absurd c HV,D,λu y c=>?_,hc.ne,hc.r0n,hc.sn,hc.w0⟩ HV r
  have d:u≠m:=λe=>by subst e;rw[B8 f]at c;cases c
  exact up u y d (hc.keep u y c)
 ·refine X l v g hq ⟨h.sl,h.nil,λu c=>?_,h.wf,λu y c=>?_,?_⟩
  ·have:=h.new u c;rw[BB]at this⊢;omega
  ·have d:u≠m:=λe=>by subst e;rw[B8 hm]at c;cases c
   rw[Ag d]at c;exact h.keep u y (by rw[Ag d];exact t u y c)
  ·have:=h.nx;rw[BB]at this⊢;omega
end
section
variable{F:K2}{x0:Af}
variable{L n:Nat}
def A4g{ty:Nat}{v:AV}{H:Hp}{K:KV}(h:Bw v=[v]/\AV.one v=true):Hr ty v H K=K (.ptr (As H) 0 0) ((As H,c_ ty [v])::H):=by
 unfold Hr;rw[CK,h.1,FK,BW];have:[v].all AV.one=true:=by simp[h.2]
 rw[this];rfl
def mP(H:Hp)(x:AV)(A:ed):Prop:=x=.iptr [.imap (Df DK (gE A))]\/∃r m,x=.ptr r 0 0/\Aj H r=some (c_ Dz [.mp m])/\Aj H m=some (.map false (Df DK (gE A)) none)
theorem mP.one{H:Hp}{x:AV}{A:ed}(h:mP H x A):Bw x=[x]/\AV.one x=true:=by
 rcases h with rfl|⟨_,_,rfl,_⟩<;>exact⟨rfl,rfl⟩
def mP.keep{H H':Hp}{x:AV}{A:ed}(h:mP H x A)(k:∀u y,Aj H u=some y->Aj H' u=some y):mP H' x A:=by
 rcases h with rfl|⟨r,m,rfl,h1,h2⟩
 ·exact .inl rfl
 ·exact .inr ⟨r,m,rfl,k _ _ h1,k _ _ h2⟩
def A2H{H:Hp}{r m:Nat}(h:Aj H r=some (c_ Dz [.mp m])):(Lh (.ptr r 0 0) λv=>CY 0 v λv=>AD Ai v H F)=F (.mp m):=by
 rw[Ix,fA,Jt,AQ (p:=0) rfl h (by simp)];rfl
def mP.fld{H:Hp}{x:AV}{A:ed}(h:mP H x A):∃mm,(∀F:K2,(Lh x λv=>CY 0 v λv=>AD Ai v H F)=F mm)/\∀K,xJ mm H K=K (Df DK (gE A)):=by
 rcases h with rfl|⟨r,m,rfl,h1,h2⟩
 ·exact⟨_,λF=>A0h,λK=>id rfl⟩
 ·exact⟨.mp m,λF=>A2H h1,λK=>Ze h2⟩
def mP.nn{H:Hp}{x:AV}{A:ed}(h:mP H x A):Rs BF CU .eql x (.v (.pointer none)) F=F (Bo false):=by
 rcases h with rfl|⟨r,m,rfl,_⟩<;>kernel_rfl
def mP.fx{H:Hp}{x:AV}{A:ed}(h:mP H x A){D:Nat}:∃q,Fx true (D+5) x (.iptr [.imap (Df DK (gE A))]) H q:=by
 rcases h with rfl|⟨r,m,rfl,h1,h2⟩
 ·exact⟨false,Rg⟩
 ·exact⟨true,Wy (D:=D+4) h1 (An (q:=true) (q':=false) (A3Q (D:=D) h2) AK)⟩
def eC(H:Hp)(v:AV)(l:List AN):Prop:=SA l v\/Nn H v l
section
variable{H H' H0:Hp}{v x iv:AV}{l ids:List AN}{A:ed}{K:KV}{w:AV}
theorem eC.one(h:eC H v l):Bw v=[v]/\AV.one v=true:=by
 rcases h with h|h
 ·rcases h with rfl|⟨_,rfl⟩<;>exact⟨rfl,rfl⟩
 ·rcases h with⟨rfl,_⟩|⟨_,_,_,rfl,_⟩<;>exact⟨rfl,rfl⟩
def eC.keep(h:eC H v l)(k:∀u y,Aj H u=some y->Aj H' u=some y):eC H' v l:=h.imp id λh=>h.kp λu y _ a=>k u y a
theorem eC.len(h:eC H v l):Bm Ac v F=F (I l.length):=by
 rcases h with h|h
 ·exact h.len
 ·exact h.len
def eC.get(h:eC H v l){i:Nat}(a:i<l.length):(Ds Ac v (I i) λp=>AD Ak p H F)=F (S l[i]):=by
 rcases h with h|h
 ·rw[h.ia a,LD]
 ·rcases h with⟨rfl,rfl⟩|⟨r,q,b,rfl,h2⟩
  ·simp at a
  ·rw[Rr a,AQ (p:=i) rfl h2 (by rw[EC,AZ];omega),Vf,l0m (by rw[AZ];exact a)];unfold AG;rw[xE,K8 a];rfl
def UT(A:ed)(ids:List AN):ed:=ids.filterMap λy=>Mu (gE A) y
def A6Q:(UT A ids).length<=ids.length:=List.length_filterMap_le _ _
def B50{r0 s m:Nat}{c6:AV}{k3:Ru}(t:GOk A)(g:∀y∈ids,y∈A.map Cd.id)(u:ids.length<900)(k:Aj H0 m=some (c_ AT [x]))(C:mP H0 x A)(hv:eC H0 iv ids)(e:∀v H,CollC H0 r0 s true Bs c6 (UT A ids) v H->(UT A ids=[]->v=Aw)->k3 H=x0):
 ∀(f i:Nat)(v:AV)(H:Hp),i<=ids.length->ids.length-i<f->CollC H0 r0 s true Bs c6 (UT A (ids.take i)) v H->(UT A (ids.take i)=[]->v=Aw)->
 Ie (L+20) (r! L (n+2)) K k3 f (.yl s) (.ptr m 0 0) iv (I ids.length) (I i) H=x0:=by
 intro f
 induction f with
 |zero=>intro i v H _ h;omega
 |succ f ih=>
  intro i v H N M hc r;rw[Pm];unfold Ig Em HR A3;by_cases h:i<ids.length
  ·obtain⟨c,a⟩:∃c,Mu (gE A) ids[i]=some c:=P_ (g _ (PD h));obtain⟨d,_⟩:=Yw a;have B:=WR (t.ok c d);have D:∀{F:K2},AD BF (.ptr m 0 0) H F=F x:=λ{F}=>AQ (p:=0) rfl (hc.keep _ _ k) (by simp);obtain⟨mm,f1,f2⟩:=(C.keep hc.keep).fld;rw[FV (by omega),Cr,(hv.keep hc.keep).get h,D,f1,O!,qF (f:=DK) (b:=gE A) f2,a];simp only[];rw[CT.z (A0w (n:=n) (t.ok c d) (by omega)) (uX H)];have q:UT A (ids.take (i+1))=UT A (ids.take i)++[c]:=by
    unfold UT;rw[lO h,List.filterMap_append,List.filterMap_cons,a];rfl
   have P:(UT A (ids.take i)).length<=i:=by
    have:=A6Q (A:=A) (ids:=ids.take i);rw[vN]at this;omega
   refine A56 hc (by omega) λJ H' j O hr=>?_;rw[Et];show A2 (.v (.bool false)) _ _=_;rw[Bh,Dd (by omega)];exact ih (i+1) J H' (by omega) (by omega) (by rw[q];exact j) (by rw[q];simp)
  ·have:i=ids.length:=by omega
   subst this;rw[vO]at hc r;rw[FT (by omega),Bh];exact e v H hc r
def A8I(D:GOk A)(c:∀y∈ids,y∈A.map Cd.id)(e:ids.length<900)(M:40000<L)(wf:Wf H)(q:mP H x A)(hv:eC H iv ids)(C:∀v H',NewC H (UT A ids) v H'->K v H'=x0):
 (r! L (n+6)).call Ib [x,iv] H (λv H=>(r! L (n+6)).call BC [v] H K)=x0:=by
 rw[Tj];unfold JT Lr;rw[A4g q.one,A4g hv.one];have w1:=AJ (x:=.cells true AT [x]) wf;have m:As ((As H,c_ AT [x])::H)=As H+1:=rfl;rw[m];have j:Wf ((As H+1,c_ A5 [iv])::(As H,c_ AT [x])::H):=AJ (x:=.cells true A5 [iv]) w1;have f:∀u y,Aj H u=some y->Aj ((As H+1,c_ A5 [iv])::(As H,c_ AT [x])::H) u=some y:=λu y a=>by
  have a1:=A7 (x:=.cells true AT [x]) (wf.lt a) a;exact A7 (w1.lt a1) a1
 have b1:Aj ((As H+1,c_ A5 [iv])::(As H,c_ AT [x])::H) (As H)=some (c_ AT [x]):=A7 (H:=(As H,c_ AT [x])::H) (by rw[m];omega) (Az (by simp));have b2:Aj ((As H+1,c_ A5 [iv])::(As H,c_ AT [x])::H) (As H+1)=some (c_ A5 [iv]):=Az (H:=(As H,c_ AT [x])::H) (by simp);have t:As ((As H+1,c_ A5 [iv])::(As H,c_ AT [x])::H)=As H+2:=rfl;generalize ((As H+1,c_ A5 [iv])::(As H,c_ AT [x])::H:Hp)=g at j f b1 b2 t;refine ZU (n:=n+3) (Q:=λl _=>l=UT A ids) (H0:=g) j j rfl (λu y a=>a) (λk F hc J d B=>?_) (λl v H' hq b=>?_)
 ·rw[Qk];unfold I3 A3;simp only[BJ];have li:∀{F:K2},AD Ac (.ptr (As H+1) 0 0) k F=F iv:=λ{F}=>AQ (p:=0) rfl (d _ _ b2) (by simp);have r:(AV.v (.int .i64 0))=I ((0:Nat):Int):=rfl;rw[li,(hv.keep f).keep d|>.len,r];exact B50 (n:=n+1) (r0:=As g) (s:=As g+1) (H0:=g) D c e b1 (q.keep f) (hv.keep f) (λv H' i h=>B _ v H' rfl h i) (L+20) 0 Aw k (by omega) (by omega) (by simpa [UT] using hc) (λ_=>rfl)
 ·subst hq;refine C v H' ⟨b.sl,b.nil,λu a=>?_,b.wf,λu y a=>b.keep u y (f u y a),?_⟩
  ·have:=b.new u a;omega
  ·have:=b.nx;omega
end
end
section
variable{v:AV}{F:K2}{p q:AV->Bool}
variable{L n:Nat}
def C08(c:Cd)(g:∀z,p (I z)=true)(h:∀s,p (S s)=true)(hn:p Aw=true)(a:p c.fT=true)(d:p c.fI=true)(e:p c.fN=true)(f:p (DJ c.ps)=true):c.cs.all p=true:=by
 match c,a,d,e,f with
 |.re b u,a,_,_,_=>
  have a:p (FF b.ts)=true:=a;show(Ey 1 b.m (uu u) (qn b.c) (qd b.c) (FF b.ts) (qn b.r) (qd b.r) Aw 0 Aw Aw u0 r0 0).all p=true;simp only[pY,l3c,g,h,hn,a,l1g]
 |.co b q ps none,a,d,e,f=>
  have a:p (FF b.ts)=true:=a;have d:p (BP q.ks)=true:=d;have e:p (Cu q.xs)=true:=e;have f:p (DJ ps)=true:=f;show(Ey 2 b.m (uu q.out) (qn b.c) (qd b.c) (FF b.ts) (qn b.r) (qd b.r) (DJ ps) q.id (BP q.ks) (Cu q.xs) (uu q.out) r0 0).all p=true;simp only[pY,l3c,g,h,hn,a,d,e,f,l1g]
 |.co b q ps (some (k,vd)),a,d,e,f=>
  have a:p (FF b.ts)=true:=a;have d:p (BP q.ks)=true:=d;have e:p (Cu q.xs)=true:=e;have f:p (DJ ps)=true:=f;show(Ey 3 b.m (uu q.out) (qn b.c) (qd b.c) (FF b.ts) (qn b.r) (qd b.r) (DJ ps) q.id (BP q.ks) (Cu q.xs) (uu q.out) (rr k) vd).all p=true;simp only[pY,l3c,g,h,hn,a,d,e,f,l1g]
def A8Z(h:∀t:Int×Int,(OI t).all q=true)(ts:jL):(ts.flatMap OI).all q=true:=by
 rw[GE];intro x c;obtain⟨a,_,b⟩:=l3b.1 c;exact GE.1 (h a) x b
def B0C(h:∀k:Nat,(HJ k).all q=true)(ks:Hb):(ks.flatMap HJ).all q=true:=by
 rw[GE];intro x c;obtain⟨a,_,b⟩:=l3b.1 c;exact GE.1 (h a) x b
def B0e(h:∀y:Nd,(K! y).all q=true)(xs:List Nd):(xs.flatMap K!).all q=true:=by
 rw[GE];intro x c;obtain⟨a,_,b⟩:=l3b.1 c;exact GE.1 (h a) x b
def jZ(h:∀s,q (S s)=true)(l:List AN):(AG l).all q=true:=by
 rw[GE];intro x b;obtain⟨a,_,rfl⟩:=Mj.1 b;exact h a
def fl1(a:AV):Bool:=match a with
 |.v _=>true
 |.list _ cs=>cs.all SM
 |_=>false
def A8Y(hn:p Aw=true)(a:∀n l,l.all SM=true->l.all (pl 4)=true->p (.list n l)=true)(ts:jL):p (FF ts)=true:=by
 cases ts with
 |nil=>exact hn
 |cons t ts=>exact a _ _ (A8Z (λ_=>rfl) _) (A8Z (λ_=>rfl) _)
def B5W(hn:p Aw=true)(a:∀n l,l.all SM=true->l.all (pl 4)=true->p (.list n l)=true)(ks:Hb):p (BP ks)=true:=by
 cases ks with
 |nil=>exact a _ _ rfl rfl
 |cons t ts=>exact a _ _ (B0C (λ_=>rfl) _) (B0C (λ_=>rfl) _)
def B5J(hn:p Aw=true)(a:∀n l,l.all SM=true->l.all (pl 4)=true->p (.list n l)=true)(xs:List Nd):p (Cu xs)=true:=by
 cases xs with
 |nil=>exact a _ _ rfl rfl
 |cons t ts=>exact a _ _ (B0e (λ_=>rfl) _) (B0e (λ_=>rfl) _)
def B5D(hn:p Aw=true)(a:∀n l,l.all SM=true->l.all (pl 4)=true->p (.list n l)=true)(ps:List AN):p (DJ ps)=true:=by
 cases ps with
 |nil=>exact hn
 |cons t ts=>exact a _ _ (jZ (λ_=>rfl) _) (jZ (λ_=>rfl) _)
def B53(c:Cd)(d:∀z,p (I z)=true)(e:∀s,p (S s)=true)(hn:p Aw=true)(a:∀n l,l.all SM=true->l.all (pl 4)=true->p (.list n l)=true):c.cs.all p=true:=by
 refine C08 c d e hn ?_ ?_ ?_ (B5D hn a _)
 ·match c with
  |.re b u=>exact A8Y hn a b.ts
  |.co b q ps none=>exact A8Y hn a b.ts
  |.co b q ps (some (k,vd))=>exact A8Y hn a b.ts
 ·match c with
  |.re b u=>exact hn
  |.co b q ps none=>exact B5W hn a q.ks
  |.co b q ps (some (k,vd))=>exact B5W hn a q.ks
 ·match c with
  |.re b u=>exact hn
  |.co b q ps none=>exact B5J hn a q.xs
  |.co b q ps (some (k,vd))=>exact B5J hn a q.xs
def C0j(c:Cd):c.cs.all fl1=true:=B53 c (λ_=>rfl) (λ_=>rfl) rfl λ_ _ h _=>h
def C0i(c:Cd):c.cs.all (pl 5)=true:=B53 c (λ_=>rfl) (λ_=>rfl) rfl λ_ _ _ h=>h
def B4i(l:ed):pl 6 (pA l)=true:=by
 cases l with
 |nil=>rfl
 |cons c l=>
  show((c::l).flatMap Cd.cs).all (pl 5)=true;rw[GE];intro x d;obtain⟨a,_,b⟩:=l3b.1 d;exact GE.1 (C0i a) x b
section
variable{H:Hp}{D:Nat}
def C2e{a:AV}(h:fl1 a=true):Nr H D a F=F a:=by
 cases a with
 |v x=>cases D<;>rfl
 |list n cs=>
  have h:cs.all SM=true:=h;have e:Nr H D (.list n cs) F=ck (cs.all SM) (F (.list n cs)):=by cases D<;>rfl
  rw[e,h];rfl
 |_=>simp[fl1]at h
def B0m:∀(l:Is),l.all fl1=true->∀F:Is->Af,SF (Nr H D) l F=F l:=by
 intro l
 induction l with
 |nil=>intro _ F;rfl
 |cons a l ih=>
  intro h F;simp only[pY,K0]at h;show Nr H D a (λb=>SF (Nr H D) l λc=>F (b::c))=_;rw[C2e h.1,ih h.2]
def B0n{l:ed}(h:B0 H Ad 68 v l.length (l.flatMap Cd.cs))(f:l=[]->v=Aw):Nr H (D+1) v F=F (pA l):=by
 cases l with
 |nil=>rw[f rfl];rfl
 |cons c l=>
  rcases h with⟨_,h1,_⟩|⟨r,q,rfl,h2,j⟩
  ·simp at h1
  ·have e:Nr H (D+1) (.sl 68 r 0 (c::l).length) F=I6 H r λx=>J6 x λ_ cs=>Ek (Nat.mul (c::l).length 68) (Dg 0 cs) λd=>SF (Nr H D) d λb=>F (.list (c::l).length b):=rfl;rw[e,AX h2];show Ek ((c::l).length*68) (Dg 0 ((c::l).flatMap Cd.cs)) (λd=>SF (Nr H D) d λb=>F (.list (c::l).length b))=_;rw[Cy,pE,JU _ _ _ (by omega),Y? (by omega),B0m _ (by
    rw[GE];intro x i;obtain⟨a,_,g⟩:=l3b.1 i;exact GE.1 (C0j a) x g)]
   rfl
end
def uA{D:Nat}{H:Hp}{l:ed}(h:B0 H Ad 68 v l.length (l.flatMap Cd.cs))(b:l=[]->v=Aw):∃q,Fx true (D+1) v (pA l) H q:=by
 cases l with
 |nil=>exact⟨false,by rw[b rfl];exact C7⟩
 |cons c l=>
  rcases h with⟨_,h1,_⟩|⟨r,q,rfl,h2,d⟩
  ·simp at h1
  ·exact⟨true,Xd (q':=false) h2 d (Zb _ (by
    rw[GE];intro x f;obtain⟨a,_,e⟩:=l3b.1 f;exact GE.1 (B53 (p:=fixB) a (λ_=>rfl) (λ_=>rfl) rfl λ_ _ _ _=>rfl) x e))⟩
section
variable{A:ed}{H:Hp}{x:AV}{w:AV}{K:KV}
def B06(a:GOk A){out:ed}(b:out.Perm (DU A)):fQ out=.tup [DJ (UW (DU A)),I 0]:=by
 rw[A6V (Rv a.ids) b];unfold fQ;rw[Dl (uT a.ids)]
def T_(a:GOk A){out:ed}(b:out.Perm (DU A)):GOk out:=by
 have d:∀c∈out,c∈A:=λc hc=>(OE.1 (b.mem_iff.1 hc)).1;refine⟨λc hc=>a.ok c (d c hc),λc hc=>a.nd c (d c hc),(b.map _).symm.nodup (Rv a.ids),?_⟩;have h1:(DU A).length<=A.length:=l32 _ _;have h2:=a.len;rw[b.length_eq];omega
def A8R(k:Vw 6 w w=true)(b:GOk A)(t:200000<L)(s:∀v H,NewC [] (NB A) v H->K v H=some (w,[])):
 (r! L (n+82)).call CH [.iptr [.imap (Df DK (gE A))]] [] K=some (w,[]):=by
 rw[Uh];unfold Km;have C:mP [] (.iptr [.imap (Df DK (gE A))]) A:=.inl rfl;rw[C.nn,Bh];refine rJ (n:=n+77) k b (by omega) Fl λout m N h hm _ w1 _ n1=>?_;have B:=T_ b h;refine A8l (n:=n+77) k (by have:=B.len;omega) (by omega) w1 hm λl v i f g=>?_;have d:=T_ b (f.trans h);obtain⟨q,hq⟩:=uA (D:=11) g.sl g.nil;have e:∀{F:K2},Ao (r! L (n+81)) Qb [v] i F=F (.tup [DJ (UW (DU A)),I 0]):=λ{F}=>by
  have:=AR (H:=i) (K:=F) (B2K (L:=L) (n:=n+1) d t (λc hc=>by have:=WR (d.ok c hc);omega) (YY l)) (An hq AK);rw[this,B06 b (f.trans h)]
 rw[e,F3,PT];refine A8I (n:=n+75) (A:=A) b (λy J=>?_) ?_ (by omega) g.wf (.inl rfl) (.inl (Lt _)) λM r a=>s M r ⟨a.sl,a.nil,λu j=>Y_ _,a.wf,λu y j=>by simp[Aj]at j,Y_ _⟩
 ·exact(LF.1 ((NU (gs:=DU A)).1.ids y J)).ids
 ·have h1:=(NU (gs:=DU A)).1.len;have h2:(DU A).length<=A.length:=l32 _ _;have O:=b.len;omega
def A8S(g:GOk A)(f:200000<L)(j:mP H x A):J4 (r! L (n+82)) CH [x] H F=F (pA (NB A)):=by
 have h:Vw 6 (pA (NB A)) (pA (NB A))=true:=Tb 6 _ (B4i _);rcases j with rfl|⟨r,m,rfl,h1,h2⟩
 ·show Ao (r! L (n+82)) CH [.iptr [.imap (Df DK (gE A))]] H F=_;exact CT.z (λK i=>A8R h g f λv H b=>i v H (uA (D:=11) b.sl b.nil)) (An (q:=false) Rg AK)
 ·have e:J4 (r! L (n+82)) CH [.ptr r 0 0] H F=I6 H r λx=>fD x λq _ cs=>match q,cs with
   |true,[.mp m]=>I6 H m λy=>oZ y λa=>ck (a.all λp=>iT 3 p.2) (Ar ((r! L (n+82)).call CH [.iptr [.imap a]] [] λv c=>Nr c depth v λd=>some (d,[])) F)
   |_,_=>none:=rfl
  rw[e,AX h1];show(I6 H m λy=>oZ y λa=>ck (a.all λp=>iT 3 p.2) (Ar ((r! L (n+82)).call CH [.iptr [.imap a]] [] λv c=>Nr c depth v λd=>some (d,[])) F))=_;rw[AX h2];show ck ((Df DK (gE A)).all λp=>iT 3 p.2) _=_;rw[B1N,A8R (w:=pA (NB A)) h g f λv H b=>by rw[show depth=11+1 from rfl,B0n b.sl b.nil]];rfl
end
end
section
variable{L n:Nat}
def lA:Ha:=[190,37,193,108,62,69,192,54,146,30,179,35,185,160,42,118,74,72,34,96,70,26,154,115,110,60,175,172,120,42,152,121]
def fC:Cd:=.re ⟨⟨1,1,1,0,0⟩, -80,0,[(1, -8),(2, -8),(3, -8),(4, -8),(5, -8)]⟩ 0
def A98:cdM 0 0 0 0 0 0 0 0 0 0 0 0 none []=fC:=by kernel_rfl
def ZX:fC.id=lA:=by kernel_rfl
end
section
variable{L n:Nat}
def RT(R:Rt)(f:Nat)(args:Is)(v:AV):Prop:=(R.call f args [] λv a=>HQ true a depth v λ_ b=>some (b,[]))=some (v,[])
def A09{R:Rt}{f:Nat}{args args':Is}{v:AV}{H:Hp}{K:K2}(hc:RT R f args' v)(a:R5 true depth args args' H false):Ao R f args H K=K v:=by
 unfold Ao;rw[a];show Ar (R.call f args' [] _) K=K v;rw[show((!false)=true) from rfl,hc];rfl
end
section
variable{F:K2}{PP:Af->Prop}{H0:Hp}{ss:List AN}{D:Nat}
variable{L n:Nat}
def PC.Ok:PC->Prop
 |.c d=>d.Ok/\d.ps.Nodup
 |.z=>True
def PC.id:PC->AN
 |.c d=>d.id
 |.z=>[]
def PC.len(p:PC):p.cells.length=68:=by
 cases p with
 |c d=>exact ED
 |z=>rfl
theorem PC.one(p:PC):p.cells.all AV.one=true:=by
 cases p with
 |c d=>exact Mq
 |z=>rfl
def PC.fxD{H:Hp}(p:PC):Fx true (D+3) (.agg p.cells) (.agg p.cells) H false:=by
 cases p with
 |c d=>exact A4p
 |z=>exact λK=>by kernel_rfl
def PC.fx{H:Hp}(p:PC):Fx true depth (.agg p.cells) (.agg p.cells) H false:=p.fxD (D:=9)
theorem PC.fixB(p:PC):p.cells.all Go.Abs.fixB=true:=by
 cases p with
 |c d=>exact B53 d (λ_=>rfl) (λ_=>rfl) rfl λ_ _ _ _=>rfl
 |z=>rfl
def fL(l:List PC):(l.flatMap PC.cells).length=l.length*68:=A5D PC.len l
def A5e(l:ed):(l.map PC.c).flatMap PC.cells=l.flatMap Cd.cs:=by
 induction l with
 |nil=>rfl
 |cons a l ih=>rw[Xa,qB,qB,ih];rfl
def B49(l:List PC):(l.flatMap PC.cells).all Go.Abs.fixB=true:=by
 rw[GE];intro x c;obtain⟨a,_,b⟩:=l3b.1 c;exact GE.1 a.fixB x b
def YN(H:Hp)(v:AV)(l:List PC):Prop:=(v=Aw/\l=[])\/v=.list l.length (l.flatMap PC.cells)\/∃r q b,v=.sl 68 r 0 l.length/\Aj H r=some (.cells q Ad (l.flatMap PC.cells++b))
section
variable{H H':Hp}{v a:AV}{l:List PC}{gs A:ed}{K:KV}{x0:Af}{x:AV}
def YN.of_LA(h:LA gs a):YN H a (gs.map .c):=by
 rcases h with rfl|⟨rfl,rfl⟩
 ·exact .inr (.inl (by rw[Qa,A5e]))
 ·exact .inl ⟨rfl,rfl⟩
def YN.keep(h:YN H v l)(k:∀u y,A8 v u->Aj H u=some y->Aj H' u=some y):YN H' v l:=by
 rcases h with h|h|⟨r,q,b,rfl,h⟩
 ·exact .inl h
 ·exact .inr (.inl h)
 ·exact .inr (.inr ⟨r,q,b,rfl,k r _ ⟨_,_,_,rfl⟩ h⟩)
theorem YN.one(h:YN H v l):Bw v=[v]/\AV.one v=true:=by
 rcases h with⟨rfl,_⟩|rfl|⟨_,_,_,rfl,_⟩<;>exact⟨rfl,rfl⟩
def YN.len(h:YN H v l):Bm Ay v F=F (I l.length):=by
 rcases h with⟨rfl,rfl⟩|rfl|⟨_,_,_,rfl,_⟩<;>exact r_ rfl
def YN.get(h:YN H v l){i:Nat}(b:i<l.length):(Ds Ay v (I i) λp=>AD Ae p H F)=F (.agg l[i].cells):=by
 rcases h with⟨rfl,rfl⟩|rfl|⟨r,q,s,rfl,h⟩
 ·simp at b
 ·rw[XA8 (f:=PC.cells) rfl PC.len b];cases l[i] with
  |c d=>exact A47
  |z=>exact r_ rfl
 ·rw[C00 b];have e:AD Ae (.ptr r (i*68) 0) H F=I6 H r λx=>J6 x λ_ cs=>Ek 68 (Dg (Nat.add (i*68) 0) cs) λc=>F (.agg c):=r_ rfl;rw[e,AX h];show Ek 68 (Dg (i*68+0) (l.flatMap PC.cells++s)) (λc=>F (.agg c))=_;rw[Nat.add_zero];have j:=fL l;have hm:(i+1)*68<=l.length*68:=l28 _ b;rw[Cy,JU _ _ _ (by rw[Z_,EC];omega),l35 (by omega),l34 (by rw[Z_];omega)];have g:l=l.take i++l[i]::l.drop (i+1):=by rw[<-vM b,l3a]
  have k:(l.flatMap PC.cells).drop (i*68)=l[i].cells++(l.drop (i+1)).flatMap PC.cells:=by
   conv=>lhs;rw[g]
   have m:((l.take i).flatMap PC.cells).length=i*68:=by rw[fL,vN];congr 1;omega
   rw[l2m,<-m,List.drop_left,qB]
  rw[k,List.take_left' (PC.len _)]
def YN.fx(h:YN H v l):∃a q,YN [] a l/\Fx true (D+1) v a H q:=by
 rcases h with⟨rfl,rfl⟩|rfl|⟨r,q,b,rfl,h⟩
 ·exact⟨Aw,false,.inl ⟨rfl,rfl⟩,C7⟩
 ·exact⟨_,false,.inr (.inl rfl),On⟩
 ·refine⟨.list l.length (l.flatMap PC.cells),true,.inr (.inl rfl),Wx (q':=false) h (by rw[EC,fL];omega) ?_⟩;rw[pE,l34 (by rw[fL];omega),Y? (by rw[fL];omega)];exact Zb _ (B49 l)
def C1E:RT (r! L (n+64)) GW [.agg CJ] (S []):=by unfold RT;kernel_rfl
def C12:RT (r! L (n+64)) FI [.agg CJ] (S []):=by unfold RT;kernel_rfl
def C1N(e:40000<L){p:PC}(b:p.Ok):Ao (r! L (n+64)) GW [.agg p.cells] H F=F (S p.id):=by
 cases p with
 |c d=>exact AR (A4o (n:=n) e b.1 b.2) (An (PC.fx (.c d)) AK)
 |z=>exact A09 (C1E (L:=L) (n:=n)) (An (PC.fx .z) AK)
def B5q(e:40000<L){p:PC}(b:p.Ok):Ao (r! L (n+64)) FI [.agg p.cells] H F=F (S p.id):=by
 cases p with
 |c d=>exact AR (B1H (n:=n+1) e b.1 b.2) (An (PC.fx (.c d)) AK)
 |z=>exact A09 (C12 (L:=L) (n:=n)) (An (PC.fx .z) AK)
def B9s{m:KV}(J:∀p∈l,p.Ok)(hb:l.length<1000)(B:40000<L)(C:YN H0 a l)(w0:Wf H0)(M:∀v H,NewSl H0 (l.map PC.id) v H->(l=[]->v=Aw)->PP (m v H)):∀(f i:Nat)(v:AV)(H:Hp),i<=l.length->l.length-i<f->NewSl H0 ((l.take i).map PC.id) v H->(l.take i=[]->v=Aw)->
 PP (VF (L+20) (r! L (n+64)) K m f a v (I i) H):=by
 intro f
 induction f with
 |zero=>intro i v H _ h;omega
 |succ f ih=>
  intro i v H Q P b j;rw[sB];unfold VG HR A3;have d:YN H a l:=C.keep λu y _ c=>b.keep u y c;rw[d.len];by_cases h:i<l.length
  ·have g:=b.sl;obtain⟨N,H',r,k,s,O,t,w⟩:=A5Y l[i].id g b.wf (by simp;omega);rw[FV (by omega),Cr,d.get h,C1N (n:=n) B (J _ (PD h)),r,Dd (by omega)];have q:(l.take i).map PC.id++[l[i].id]=(l.take (i+1)).map PC.id:=by rw[lO h,Za];rfl
   rw[q]at k;have nx:=b.nx;refine ih (i+1) N H' (by omega) (by omega) ⟨k,λu c=>ZK nx (w u c),s,λu y c=>t u y (b.keep u y c) λhv=>?_,by omega⟩ (λe=>by have:=congrArg List.length e;rw[vN,QT]at this;omega);have a1:=w0.lt c;have a2:=b.new u hv;omega
  ·rw[FT (by omega),Bh];have:i=l.length:=by omega
   subst this;rw[vO]at b j;exact M v H b j
def A8U(f:∀p∈l,p.Ok)(hb:l.length<1000)(d:40000<L)(e:YN H a l)(wf:Wf H)(g:∀v H',NewSl H (l.map PC.id) v H'->(l=[]->v=Aw)->PP (K v H')):PP ((r! L (n+65)).call Qo [a] H K):=by
 rw[wN];unfold XX A3;simp only[BJ];have c:(AV.v (.int .i64 0))=I ((0:Nat):Int):=rfl;rw[c];exact B9s f hb d e wf g (L+20) 0 Aw H (by omega) (by omega) ⟨.inl ⟨rfl,rfl,rfl⟩,λu b=>absurd b HV,wf,λu y b=>b,Me _⟩ (λ_=>rfl)
def C1a(d:∀p∈l,p.Ok)(hb:l.length<1000)(b:40000<L)(c:YN H a l)(wf:Wf H)(e:∀v H',NewSl H (l.map PC.id) v H'->(l=[]->v=Aw)->K v H'=x0):(r! L (n+65)).call Qo [a] H K=x0:=
 A8U (PP:=λa=>a=x0) d hb b c wf e
def NewSl.sat(h:NewSl H0 ss v H)(c:ss=[]->v=Aw):Nn H v ss:=by
 rcases h.sl with⟨rfl,_,h1⟩|⟨r,q,rfl,h2,_⟩
 ·refine .inl ⟨rfl,?_⟩;cases ss with
  |nil=>rfl
  |cons a b=>cases h1
 ·exact .inr ⟨r,q,[],rfl,by rw[UC];exact h2⟩
def A27(b:GOk A):GOk (NB A):=by
 have d:=B21 (l:=A) ⟨λc h=>h,b.ids⟩;exact d.ok b
def B91(b:GOk gs):∀p∈gs.map PC.c,p.Ok:=λp d=>by
 obtain⟨c,hc,rfl⟩:=Mj.1 d;exact⟨b.ok c hc,b.nd c hc⟩
def B48(gs:ed):(gs.map PC.c).map PC.id=gs.map Cd.id:=by rw[List.map_map];rfl
def A8C(d:GOk A)(i:200000<L)(j:mP H x A)(wf:Wf H)(h:∀v H',NewSl H ((NB A).map Cd.id) v H'->((NB A)=[]->v=Aw)->PP (K v H')):PP ((r! L (n+83)).call Kb [x] H K):=by
 rw[wY];unfold Yf;have f:=A27 d;rw[A8S (n:=n) d i j];refine A8U (n:=n+17) (l:=(NB A).map .c) (B91 f) (by rw[Qa];have:=f.len;omega) (by omega) (YN.of_LA (YY _)) wf λv H' b g=>?_;rw[B48]at b;exact h v H' b λe=>g (by rw[e];rfl)
def A2N(d:GOk A)(c:200000<L)(e:mP H x A)(wf:Wf H)(b:∀v H',NewSl H ((NB A).map Cd.id) v H'->((NB A)=[]->v=Aw)->K v H'=x0):(r! L (n+83)).call Kb [x] H K=x0:=
 A8C (PP:=λa=>a=x0) d c e wf b
def B5u{b:AV}{s:AN}(hb:eC H b ss)(j:ss.length<900)(g:40000<L):Ao (r! L (n+2)) T8 [b,S s] H F=F (Bo (decide (s∈ss))):=by
 obtain⟨f,q,c,hq⟩:∃f q,SA ss f/\Fx true depth b f H q:=by
  rcases hb with h|h
  ·exact⟨b,false,h,h.fx H⟩
  ·exact h.fx (D:=11)
 refine AR (λK d=>?_) (An hq (An (q:=false) C7 AK));rw[wZ];unfold Yg Lr;rw[AR (B5B (n:=n) c (by omega) (by omega)) (An (c.fx []) (An (q:=false) C7 AK))];by_cases h:s∈ss
 ·obtain⟨k,i,_,_,e⟩:=gY ss 0 h;rw[e,F3,PT];rw[Hj h]at d⊢;exact d _ _ λb=>⟨false,C7⟩
 ·rw[gZ ss 0 h,F3,PT];rw[HX h]at d⊢;exact d _ _ λb=>⟨false,C7⟩
end
end
section
variable{i r:Nat}
variable{L n:Nat}
section
variable{H H0 H':Hp}{v a1 a2:AV}{l l1 l2 ps:List AN}{A:ed}{K:KV}{x0:Af}{x:AV}
def A4U(h:Nn H v l)(hn:l.length<1000000000)(m:∀H',Nn H' v (DW l)->Lat H H' (A8 v)->K (.tup []) H'=x0):
 (r! L (n+4)).call AH [v] H K=x0:=by
 rcases h with⟨rfl,rfl⟩|⟨r,q,b,rfl,c⟩
 ·have e:(r! L (n+4)).call AH [Aw] H K=K (.tup []) H:=by kernel_rfl
  rw[e];exact m H (.inl ⟨rfl,rfl⟩) (Lat.refl _ _)
 ·by_cases p:l=[]
  ·subst p;have e:(r! L (n+4)).call AH [.sl 1 r 0 0] H K=K (.tup []) H:=by
    have f:(r! L (n+4)).call AH [.sl 1 r 0 0] H K=Tr [.sl 1 r 0 0] H K (YI (E (L+20)) (nT (L+20)) (r! L (n+3)) AH [.sl 1 r 0 0] H K):=rfl;have j:YI (E (L+20)) (nT (L+20)) (r! L (n+3)) AH [.sl 1 r 0 0] H K=K (.tup []) H:=by kernel_rfl
    rw[f,j];unfold Tr;simp only[c];split
    ·rename_i xs _;cases xs<;>rfl
    ·rfl
   show(r! L (n+4)).call AH [.sl 1 r 0 0] H K=x0;rw[e];exact m H (.inr ⟨r,q,b,rfl,c⟩) (Lat.refl _ _)
  ·have f:∀K,(r! L (n+4)).call AH [.sl 1 r 0 l.length] H K=Tr [.sl 1 r 0 l.length] H K (YI (E (L+20)) (nT (L+20)) (r! L (n+3)) AH [.sl 1 r 0 l.length] H K):=λK=>rfl;rw[f];have k:∀(l:List Ha),UO (AG l)=some l:=λl=>by
    induction l with
    |nil=>rfl
    |cons a l ih=>show(UO (AG l)).map _=_;rw[ih];rfl
   have t:0<l.length:=List.length_pos_iff.2 p;have s:=(Bg l).length_eq;have j:∀alt K,Tr [.sl 1 r 0 l.length] H K alt=Er 0 (AG (DW l)) (AG l++b) λd=>Ll H r (.cells q Av d) λH'=>K (.tup []) H':=λalt K=>by
    unfold Tr;simp only[c,pE];rw[l34 (by rw[AZ];omega),Y? (by rw[AZ];omega),k];have g:(Nat.beq l.length l.length&&(Nat.blt l.length 4611686018427387904&&Nat.blt 0 l.length))=true:=by simp;omega
    simp only[g];rfl
   rw[j,Iq _ _ _ _ (by rw[AZ,EC,AZ];omega),Dh];have u:splice (AG l++b) 0 (AG (DW l))=AG (DW l)++b:=by
    unfold splice;rw[List.take_zero,l3d,Jt,AZ,s]
    congr 1
    have:l.length=(AG l).length:=(AZ l).symm;rw[this,List.drop_left]
   rw[u];refine m _ (.inr ⟨r,q,b,by rw[s],AC c⟩) (Lat.upd H r _ ⟨1,0,l.length,rfl⟩)
def SA.src(h:SA l v){F:Nat->Is->Af}:SS H v F=F l.length (AG l):=by
 rcases h with rfl|⟨rfl,rfl⟩
 ·rfl
 ·rfl
def SA.ok(h:SA l v):(XG Ac.d&&RH 1 v)=true:=by
 rcases h with rfl|⟨rfl,rfl⟩<;>rfl
def A8P{ss:List AN}(e:B0 H Av 1 v ss.length (AG ss))(b:SA l a1)(hn:ss.length+l.length<1000000):
 ∃a H',(∀K:KV,E5 Av 1 Ak Ac v a1 H K=K a H')/\B0 H' Av 1 a (ss++l).length (AG (ss++l))/\(∀u,A8 a u->u=As H)/\Lat H H' (A8 v):=by
 obtain⟨a,H',h1,h2,c,d⟩:=apt (ie:=Ak) (i2:=Ac) e (λK=>b.src (F:=K)) (by rw[AZ,pZ]) (jZ (λ_=>rfl) l) (by decide) rfl b.ok (by show(ss.length+l.length)*16<=_;omega) (by omega);refine⟨a,H',h1,?_,c,d⟩;rw[EC];have:AG (ss++l)=AG ss++AG l:=by simp[AG]
 rw[this];exact h2
def SA.cell(h:SA l v):Bw v=[v]/\AV.one v=true:=by rcases h with rfl|⟨_,rfl⟩<;>exact⟨rfl,rfl⟩
def A5N{q:Bool}{e:Nat}{cs:Is}{F:K2}(h:Aj H r=some (.cells q e cs))(a:i<cs.length):AD Ac (.ptr r i 0) H F=F (cs.getD i .dk):=AQ (p:=i) rfl h a
def B1l{r i m:Nat}{F:K2}(h:i<m):Ds EM (.sl 1 r 0 m) (I (i:Int)) F=F (.ptr r i 0):=by
 have a:Ds EM (.sl 1 r 0 m) (I (i:Int)) F=iN (i:Int) λn=>ck (Nat.blt n m) (fN (Nat.add 0 (Nat.mul n 1)) λp=>F (.ptr r p 0)):=rfl;rw[a,Ju,Dy];have h1:Nat.blt i m=true:=by rw[Wr];exact h
 rw[h1];show F (.ptr r (0+i*1) 0)=_;rw[Jt,pZ]
def B6z{k:Nat}(e:k<1000000)(a:k=0->K Aw H=x0)(b:0<k->K (.sl 1 (As H) 0 0) ((As H,.cells false Av [])::H)=x0):(r! L (n+1)).call EW [Aw,I (k:Int)] H K=x0:=by
 have c:(r! L (n+1)).call EW [Aw,I (k:Int)] H K=A1n Av [Aw,I (k:Int)] H K (YI (E (L+20)) (nT (L+20)) (r! L n) EW [Aw,I (k:Int)] H K):=rfl;rw[c];have d:∀alt,A1n Av [Aw,I (k:Int)] H K alt=@Bool.rec (λ_=>Af) (@Bool.rec (λ_=>Af) alt (K Aw H) (Nat.beq k 0)) (Ik H λr=>K (.sl 1 r 0 0) ((r,.cells false Av [])::H)) (Nat.blt 0 k&&Nat.ble k 1000000):=λalt=>rfl;rw[d];by_cases h:k=0
 ·subst h;exact a rfl
 ·have g:(Nat.blt 0 k&&Nat.ble k 1000000)=true:=by simp;omega
  rw[g,<-b (by omega)];exact BW _ _
def A8N(wf:Wf H)(hr:Aj H r=some (.cells false A5 [a1,a2]))(h1:SA l1 a1)(h2:SA l2 a2)(X:l1.length<100000)(Y:l2.length<100000)(hL:40000<L)(V:∀v H',NewSl H (l1++l2) v H'->K v H'=x0):
 (r! L (n+2)).call Gr [.sl 1 r 0 2] H K=x0:=by
 rw[MY];unfold Gc A3;simp only[BJ];have g:∀{F:K2},Bm EM (.sl 1 r 0 2) F=F (I ((2:Nat):Int)):=λ{F}=>r_ rfl;have R:(AV.v (.int .i64 0))=I ((0:Nat):Int):=rfl;have D:∀{c}{F:K2},Aj c r=some (.cells false A5 [a1,a2])->(Ds EM (.sl 1 r 0 2) (I ((0:Nat):Int)) λp=>AD Ac p c F)=F a1:=λ{c F}h=>by
  rw[B1l (by decide),A5N h (by simp)];rfl
 have J:∀{c}{F:K2},Aj c r=some (.cells false A5 [a1,a2])->(Ds EM (.sl 1 r 0 2) (I ((1:Nat):Int)) λp=>AD Ac p c F)=F a2:=λ{c F}h=>by
  rw[B1l (by decide),A5N h (by simp)];rfl
 rw[g,R];have t:∀{a b:Nat}{F:K2},a+b<1000000->Ap Ab .add (I (a:Int)) (I (b:Int)) F=F (I ((a+b:Nat):Int)):=λ{a b F}h=>by
  rw[Do,CV (by omega) (by omega)];simp
 have N:∀{a:Nat}{F:K2},Ap Ab .lss (I (a:Int)) (AV.v (.int .i64 0)) F=F (Bo false):=λ{a F}=>by rw[DO,HX (by omega)]
 have tail:∀(v:AV)(c:Hp),B0 c Av 1 v 0 (AG [])->(∀u,A8 v u->As H<=u)->Wf c->(∀u y,Aj H u=some y->Aj c u=some y)->As H<=As c->
  ∀d1 d2 w B C:AV,FN (L+20) (r! L (n+1)) K (λs f=>K s f) (L+20) d1 d2 v w B C (.sl 1 r 0 2) (I ((2:Nat):Int)) (I ((0:Nat):Int)) c=x0:=λv c Z hv w1 k1 n1 d1 d2 w B C=>by
  have lat:∀{v:AV}{c e:Hp},(∀u,A8 v u->As H<=u)->Lat c e (A8 v)->Wf c->(∀u y,Aj H u=some y->Aj c u=some y)->∀u y,Aj H u=some y->Aj e u=some y:=λ{v c e}hv k w1 k1 u y d=>
   k.keep w1 u y (k1 u y d) λhr=>by have:=hv u hr;have:=wf.lt d;omega
  obtain⟨v2,e,s1,s2,s3,m⟩:=A8P (ss:=[]) Z h1 (by simp;omega);have P:=m.wf w1;have M:=lat hv m w1 k1;have n2:=m.nx;obtain⟨v3,Q,t1,O,t3,q⟩:=A8P (ss:=[]++l1) s2 h2 (by simp;omega);have j:∀u,A8 v2 u->As H<=u:=λu d=>by have:=s3 u d;omega
  have k3:=lat j q P M;rw[Fo];unfold Dr HR A3;rw[FV (by omega),Cr,D (k1 _ _ hr),s1,Dd (by omega),Fo];unfold Dr HR A3;rw[FV (by omega),Cr,J (M _ _ hr),t1,Dd (by omega),Fo];unfold Dr HR A3;rw[FT (by omega),Bh];have n3:=q.nx;exact V v3 Q ⟨by rw[l3d]at O;exact O,λu d=>by have:=t3 u d;omega,q.wf P,k3,by omega⟩
 rw[Fm];unfold Dq HR A3;simp only[BJ];rw[FV (by omega),Cr,D hr,h1.len,t (by omega),N,Bh,Dd (by omega),Fm];unfold Dq HR A3;simp only[BJ];rw[FV (by omega),Cr,J hr,h2.len,t (by omega),N,Bh,Dd (by omega),Fm];unfold Dq HR A3;rw[FT (by omega),Bh];refine B6z (n:=n) (by omega) (λhz=>?_) (λhp=>?_)
 ·rw[g];exact tail Aw H (.inl ⟨rfl,rfl,rfl⟩) (λu d=>absurd d HV) wf (λu y d=>d) (Me _) _ _ _ _ _
 ·rw[g];exact tail _ _ (.inr ⟨As H,false,rfl,Az (by simp),rfl⟩) (λu ⟨_,_,_,d⟩=>by injection d with _ d;omega) (AJ wf) (λu y d=>A7 (wf.lt d) d) (l1u _) _ _ _ _ _
end
end
section
variable{L n:Nat}
section
variable{H H0 H':Hp}{v a1 a2 lv:AV}{l ex:List AN}{A:ed}{K:KV}{x0:Af}{x w:AV}
def A6g{Hs:Hp}(s:Vw 6 w w=true)(c:A.length<1000)(B:40000<L)(ws:Wf Hs)(t:∀l v H',l.Perm A->NewC Hs l v H'->K v H'=some (w,[])):
 (r! L (n+4)).call Bn [.imap (Df DK (gE A))] Hs (λv H=>(r! L (n+4)).call BC [v] H K)=some (w,[]):=by
 rw[Dp];unfold B9 Iu;rw[uO];have w1:=AJ (x:=.cells true Ax [.imap (Df DK (gE A))]) ws;have hb:Aj ((As Hs,c_ Ax [.imap (Df DK (gE A))])::Hs) (As Hs)=some (c_ Ax [.imap (Df DK (gE A))]):=Az (by simp);have h:∀u y,Aj Hs u=some y->Aj ((As Hs,c_ Ax [.imap (Df DK (gE A))])::Hs) u=some y:=λu y a=>A7 (ws.lt a) a;have j:As ((As Hs,c_ Ax [.imap (Df DK (gE A))])::Hs)=As Hs+1:=rfl;generalize ((As Hs,c_ Ax [.imap (Df DK (gE A))])::Hs:Hp)=g at w1 hb h j;refine ZU (n:=n+1) (Q:=λl _=>l.Perm A) (H0:=g) w1 w1 rfl (λu y a=>a) (λH F hc q e m=>?_) (λl v H' hq b=>?_)
 ·rw[Db];unfold Bx;simp only[BJ];rw[AQ (p:=0) rfl (e _ _ hb) (by simp)];show WN (.imap (Df DK (gE A))) H _=_;rw[WM];have i:=hc.wf;have f:Aj ((As H,Row.iter (Df DK (gE A)) none)::H) (As H)=some (.iter (Df DK (gE A)) none):=Az (by simp);refine xT (n:=n) (A:=A) (H0:=g) s c (λl v H' r k d=>m l v H' r k d) ⟨by omega,by omega,by omega⟩ (L+20) (gE A) [] Aw _ none (by simp[gE];omega) (by rw[B0J];simp) (λ_=>rfl)
   (hc.more (AJ i) λu y a=>A7 (i.lt a) a) HV f
 ·refine t l v H' hq ⟨b.sl,b.nil,λu a=>?_,b.wf,λu y a=>b.keep u y (h u y a),?_⟩
  ·have:=b.new u a;omega
  ·have:=b.nx;omega
def pkA(p:Pk):Is:=[I p.kd,DJ p.ds,match p.cs with|[]=>Aw|c::cs=>.list (c::cs).length ((c::cs).flatMap PC.cells)]
def wI(l:List Pk):AV:=match l with
 |[]=>Aw
 |p::l=>.list (p::l).length ((p::l).flatMap pkA)
def B90{ws:List AN}:pl 6 (wI (wP ws))=true:=by
 unfold wP;split
 ·rfl
 ·show([I 2,DJ ws,Aw]++[]).all (pl 5)=true;have:pl 5 (DJ ws)=true:=B5D (p:=pl 5) rfl (λ_ _ _ h=>h) ws;simp only[UC,pY,this];rfl
def B9C{D:Nat}{b:Bool}(h:Nn H v l)(c:l≠[]):Fx b (D+1) v (DJ l) H true:=by
 rcases h with⟨_,h⟩|⟨r,q,d,rfl,h2⟩
 ·exact absurd h c
 ·have e:DJ l=.list l.length (AG l):=by
   cases l with
   |nil=>exact absurd rfl c
   |cons a b=>rfl
  rw[e];refine Wx (q':=false) h2 (by rw[EC,AZ];omega) ?_;rw[pE,l34 (by rw[AZ];omega),Y? (by rw[AZ];omega)];exact KS (λs=>Value.string ⟨⟨s⟩⟩) l
def ckT{X:Af}:ck true X=X:=rfl
def B51(h1:Bw a1=[a1]/\AV.one a1=true)(h2:Bw a2=[a2]/\AV.one a2=true):GM A5 1 Ac 2 [(0,1,a1),(1,1,a2)] H K=K (.sl 1 (As H) 0 2) ((As H,.cells false A5 [a1,a2])::H):=by
 have c:GM A5 1 Ac 2 [(0,1,a1),(1,1,a2)] H K=GX a1 λvs=>G6 vs 0 λn=>ck (Nat.beq n 1) (ck (N0 vs) (Er 0 vs [Aw,Aw] λb=>GX a2 λvs=>G6 vs 0 λn=>ck (Nat.beq n 1) (ck (N0 vs) (Er 1 vs b λa=>Ik H λs=>K (.sl 1 s 0 2) ((s,.cells false A5 a)::H))))):=r_ rfl;have e:N0 [a1]=true:=by rw[FK];simp[h1.2]
 have f:N0 [a2]=true:=by rw[FK];simp[h2.2]
 have k1:Nat.beq (0+[a1].length) 1=true:=rfl;have d:Nat.beq (0+[a2].length) 1=true:=rfl;rw[c,CK,h1.1,Cl,e,k1,ckT,ckT,Iq _ _ _ _ (by simp)];show(GX a2 λvs=>G6 vs 0 λn=>ck (Nat.beq n 1) (ck (N0 vs) (Er 1 vs [a1,Aw] λa=>Ik H λs=>K (.sl 1 s 0 2) ((s,.cells false A5 a)::H))))=_;rw[CK,h2.1,Cl,f,d,ckT,ckT,Iq _ _ _ _ (by simp),BW];rfl
def A4f{c:Int}(h1:Bw a1=[a1]/\AV.one a1=true)(h2:Bw a2=[a2]/\AV.one a2=true):GM Aq 3 Au 1 [(0,3,.agg [I c,a1,a2])] H K=K (.sl 3 (As H) 0 1) ((As H,.cells false Aq [I c,a1,a2])::H):=by
 have b:GM Aq 3 Au 1 [(0,3,.agg [I c,a1,a2])] H K=GX (.agg [I c,a1,a2]) λvs=>G6 vs 0 λn=>ck (Nat.beq n 3) (ck (N0 vs) (Er 0 vs [I 0,Aw,Aw] λa=>Ik H λs=>K (.sl 3 s 0 1) ((s,.cells false Aq a)::H))):=r_ rfl;have d:N0 [I c,a1,a2]=true:=by rw[FK];simp[h1.2,h2.2];rfl
 have hc:Bw (.agg [I c,a1,a2])=[I c,a1,a2]:=rfl;have k1:Nat.beq (0+[I c,a1,a2].length) 3=true:=rfl;rw[b,CK,hc,Cl,d,k1,ckT,ckT,Iq _ _ _ _ (by simp),BW];rfl
def A8k(d:GOk A)(hL:200000<L)(hx:mP H x A)(hv:eC H lv ex)(he:ex.length<=40){F:K2}:Ao (r! L (n+82)) Ia [x,lv] H F=F (wI (Tf A ex)):=by
 obtain⟨q1,u⟩:=hx.fx (D:=7);obtain⟨N,q2,Z,y⟩:∃Q q,SA ex Q/\Fx true depth lv Q H q:=by
  rcases hv with h|h
  ·exact⟨lv,false,h,h.fx H⟩
  ·exact h.fx (D:=11)
 refine AR (λK f=>?_) (An u (An y AK));have hw:Vw 6 (wI (Tf A ex)) (wI (Tf A ex))=true:=Tb 6 _ B90;rw[Ti];unfold JS Em A3;have xf:∀{F:K2},(Lh (.iptr [.imap (Df DK (gE A))]) λv1=>CY 0 v1 λO=>AD Ai O [] F)=F (.imap (Df DK (gE A))):=λ{F}=>A0h;rw[xf];refine A6g (n:=n+77) hw (by have:=d.len;omega) (by omega) Fl λl v P k t=>?_;have i:GOk l:=⟨λc hc=>d.ok c (k.mem_iff.1 hc),λc hc=>d.nd c (k.mem_iff.1 hc),(k.map _).symm.nodup d.ids,by rw[k.length_eq];exact d.len⟩
 obtain⟨q3,C⟩:=uA (D:=11) t.sl t.nil;have e:∀{F:K2},Ao (r! L (n+81)) ML [v] P F=F (DJ (ID A)):=λ{F}=>by
  have:=AR (H:=P) (K:=F) (A6m (L:=L) (n:=n+1) i (by omega) (λc hc=>by have:=WR (i.ok c hc);omega) (YY l)) (An C AK);rw[this,A3B k]
 rw[e,B51 Z.cell (Lt _).cell];have w1:=t.wf;have w2:=AJ (x:=.cells false A5 [N,DJ (ID A)]) w1;have R:=B0g d;refine A8N (n:=n+79) w2 (Az (by simp)) Z (Lt _) (by omega) (by omega) (by omega) λO H2 g=>?_;have J:Nn H2 O (ex++ID A):=by
  rcases g.sl with⟨rfl,h1,h2⟩|⟨r,q,rfl,h2,_⟩
  ·refine .inl ⟨rfl,?_⟩;exact gL h1
  ·exact .inr ⟨r,q,[],rfl,by rw[UC];exact h2⟩
 refine A4U (n:=n+77) J (by rw[EC];omega) λH3 M k3=>?_;have w3:=k3.wf g.wf;refine B5v (n:=n+80) w3 M (by rw[(Bg _).length_eq,EC];omega) (by omega) λv4 H4 a Y V k4=>?_;have e4:Qd (DW (ex++ID A))=ZR A ex:=rfl;rw[e4]at a;rw[a.len,CQ];have aa:=pO d (ex:=ex) he;unfold Tf at f⊢;by_cases hz:ZR A ex=[]
 ·rw[Dl hz]at f⊢;rw[Hj (by rw[hz];rfl),Cr];exact f _ _ λb=>⟨false,C7⟩
 ·rw[C5 hz]at f⊢;have X:0<(ZR A ex).length:=List.length_pos_iff.2 hz;rw[HX (by omega),Bh,a.len];have p:∀{F:K2},eMM true (I ((ZR A ex).length:Int)) (AV.v (.int .i64 64)) F=F (I ((ZR A ex).length:Int)):=λ{F}=>B1e (by omega);rw[p];rcases a with⟨_,h⟩|⟨r,q,tl,rfl,j⟩
  ·exact absurd h hz
  have s:∀{F:K2},C8 Ac (.sl 1 r 0 (ZR A ex).length) none (some (I ((ZR A ex).length:Int))) none F=F (.sl 1 r 0 (ZR A ex).length):=λ{F}=>Zh (Me _);have m:∀{F:K2},Ca Au [(0,1,(AV.v (.int .i64 2))),(1,1,.sl 1 r 0 (ZR A ex).length)] F=F (.agg [I 2,.sl 1 r 0 (ZR A ex).length,Aw]):=λ{F}=>by kernel_rfl
  rw[s,m,A4f ⟨rfl,rfl⟩ ⟨rfl,rfl⟩];have w4:=k4.wf w3;have B:=A7 (x:=.cells false Aq [I 2,.sl 1 r 0 (ZR A ex).length,Aw]) (w4.lt j) j;refine f _ _ λb=>⟨true,?_⟩
  show Fx b depth _ (.list 1 ([I 2,DJ (ZR A ex),Aw]++[])) _ true;exact Xd (D:=11) (q':=true) (Az (by simp)) rfl (An (q:=false) C7 (An (q:=true) (q':=false) (B9C (D:=10) (.inr ⟨r,q,tl,rfl,B⟩) hz) (An (q:=false) C7 AK)))
end
end
section
variable{P:Af->Prop}
variable{L n:Nat}
section
variable{H H0 H':Hp}{v dv cv:AV}{A:ed}{K:KV}{x0:Af}{x:AV}{r m:Nat}{p:PC}{q:Pk}
structure StAt(H:Hp)(r m:Nat)(A:ed):Prop where
 st:Aj H r=some (c_ Dz [.mp m])
 mm:Aj H m=some (.map false (Df DK (gE A)) none)
def StAt.sv(h:StAt H r m A):mP H (.ptr r 0 0) A:=.inr ⟨r,m,rfl,h.st,h.mm⟩
def StAt.ne(h:StAt H r m A):r≠m:=λe=>by
 have:=h.mm;rw[<-e,h.st]at this;cases this
def StAt.keep(h:StAt H r m A)(k:∀u y,Aj H u=some y->Aj H' u=some y):StAt H' r m A:=⟨k _ _ h.st,k _ _ h.mm⟩
def B5s:(r! L (n+1)).call O0 [] H K=K (.ptr (As H+1) 0 0) ((As H+1,c_ Dz [.mp (As H)])::(As H,.map false [] none)::H):=by
 rw[lG];unfold Sz q0N;have em:∀(H:Hp)(K:KV),LC Ae H K=K (.mp (As H)) ((As H,.map false [] none)::H):=λH K=>by
  show Ik H (λs=>K (.mp s) ((s,.map false [] (lJ Ae.d))::H))=_;rw[BW];rfl
 have a:∀{m:Nat}{F:K2},Ca CU [(0,1,.mp m)] F=F (.agg [.mp m]):=λ{m F}=>by kernel_rfl
 rw[em,a,En (by rfl)];rfl
def B0c(wf:Wf H):StAt ((As H+1,c_ Dz [.mp (As H)])::(As H,.map false [] none)::H) (As H+1) (As H) []/\Wf ((As H+1,c_ Dz [.mp (As H)])::(As H,.map false [] none)::H)/\
 ∀u y,Aj H u=some y->Aj ((As H+1,c_ Dz [.mp (As H)])::(As H,.map false [] none)::H) u=some y:=by
 have w1:=AJ (x:=.map false [] none) wf;have b:As ((As H,Row.map false [] none)::H)=As H+1:=rfl;refine⟨⟨Az (H:=(As H,Row.map false [] none)::H) (by simp),A7 (H:=(As H,Row.map false [] none)::H) (by rw[b];omega) (Az (by simp))⟩,AJ (x:=.cells true Dz [.mp (As H)]) w1,λu y a=>?_⟩;have a1:=A7 (x:=.map false [] none) (wf.lt a) a;exact A7 (w1.lt a1) a1
def add1(A:ed):PC->ed×Bool×Int
 |.z=>(A,false,280)
 |.c d=>if d.id∈A.map Cd.id then(A,false,0) else(A++[d],true,0)
def C4m:(Df DK (gE A)).length=A.length:=by simp[gE]
def A8T(Z:40000<L)(B:p.Ok)(wf:Wf H)(O:StAt H r m A)(N:A.length<60)(j:∀H',StAt H' r m (add1 A p).1->Lat H H' (λu=>u=m)->P (K (.tup [Bo (add1 A p).2.1,I (add1 A p).2.2]) H')):P ((r! L (n+65)).call Gw [.ptr r 0 0,.agg p.cells] H K):=by
 rw[Uf];unfold Kk Lr;rw[En p.one];have w1:=AJ (x:=.cells true Ad p.cells) wf;have C:∀u y,Aj H u=some y->Aj ((As H,c_ Ad p.cells)::H) u=some y:=λu y e=>A7 (wf.lt e) e;have b1:Aj ((As H,c_ Ad p.cells)::H) (As H)=some (c_ Ad p.cells):=Az (by simp);have n1:As ((As H,c_ Ad p.cells)::H)=As H+1:=rfl;generalize ((As H,c_ Ad p.cells)::H:Hp)=M at w1 C b1 n1;rw[Bv rfl p.len.symm b1,B5q (n:=n) Z B];have R:=O.keep C;rw[A2H R.st];refine A5o (b:=gE A) (F:=λab ac V=>Ap Ak .eql (S p.id) (AV.v (.string ⟨⟨[]⟩⟩)) λad=>_) (λF=>Ze R.mm) λa h2=>?_;obtain⟨cc,s⟩:=h2;have Q:∀u y,Aj M u=some y->Aj a u=some y:=λu y e=>by
  have:=w1.lt e;rw[s,Ag (by omega)];exact A7 this e
 have w2:Wf a:=by rw[s];exact Bq (AJ w1)
 have n2:As H<=As a:=by rw[s,BB];show As H<=As M+1;omega
 have k:∀u y,Aj H u=some y->Aj a u=some y:=λu y e=>Q u y (C u y e);have g:=O.keep k;have l2:Lat H a (λu=>u=m):=⟨λ_=>w2,n2,λ_ u y e _=>k u y e⟩
 have w:∀{F:K2},Ap Ak .eql (S p.id) (AV.v (.string ⟨⟨[]⟩⟩)) F=F (Bo (decide (p.id=[]))):=λ{F}=>Mb;simp only[w];cases p with
 |z=>
  rw[show decide (PC.z.id=[])=true from rfl,Cr];exact j a g l2
 |c d=>
  rw[show decide ((PC.c d).id=[])=false from HX (uW d),Bh];have ef:Mu (gE A) (PC.c d).id=Mu (gE A) d.id:=rfl;rw[ef,iC];by_cases i:d.id∈A.map Cd.id
  ·rw[Hj i,Cr];have t:add1 A (.c d)=(A,false,0):=Dl i;rw[t]at j;exact j a g l2
  ·rw[HX i,Bh];have t:add1 A (.c d)=(A++[d],true,0):=C5 i;rw[t]at j;rw[A2H g.st,uL g.mm,C4m];have X:∀{F:K2},Ap Ab .geq (I (A.length:Int)) (AV.v (.int .i64 64)) F=F (Bo false):=λ{F}=>by rw[KC,HX (by omega)]
   rw[X,Bh];have b2:=Q _ _ b1;have Y:∀{F:K2},(Ar (Lh (.ptr r 0 0) λv=>some (v,[])) λD=>Ar (CY 0 D λv=>some (v,[])) λJ=>Ar (AD Ai J a λv=>some (v,[])) F)=F (.mp m):=λ{F}=>by
    rw[Ix,B4,fA,B4,Jt,AQ (p:=0) rfl g.st (by simp),B4];rfl
   rw[Y,Bv rfl (PC.len (.c d)).symm b2,B4];have aa:=WR B.1;show P (Ar (Ao (r! L (n+64)) Ld [.agg d.cs] a λv=>some (v,[])) _);rw[CT.z (A0w (n:=n+62) B.1 (by omega)) (uX a),B4,O!];show P (D5 (Mm (.mp m) (SV d.id) (DK d) a λH=>some (AV.v undef,H)) _);rw[iJ (f:=DK) (b:=gE A) (v:=d) g.mm,Cb,YU (by rw[Ww];exact i),B0K];refine j _ ⟨by rw[Ag g.ne];exact g.st,(B8 g.mm).trans rfl⟩ (l2.trans (Lat.upd a m _ (P:=λu=>u=m) rfl) (λ_ _ h=>h) (λ_ _ h=>h))
def B6M(c:40000<L)(d:p.Ok)(wf:Wf H)(e:StAt H r m A)(b:A.length<60)(f:∀H',StAt H' r m (add1 A p).1->Lat H H' (λu=>u=m)->K (.tup [Bo (add1 A p).2.1,I (add1 A p).2.2]) H'=x0):(r! L (n+65)).call Gw [.ptr r 0 0,.agg p.cells] H K=x0:=
 A8T (P:=λa=>a=x0) c d wf e b f
def A8x(d:40000<L)(e:p.Ok)(wf:Wf H)(f:StAt H r m A)(a:A.length<60)(g:∀H',StAt H' r m (add1 A p).1->Lat H H' (λu=>u=m)->P (K (I (add1 A p).2.2) H')):P ((r! L (n+66)).call EY [.ptr r 0 0,.agg p.cells] H K):=by
 rw[Ug];unfold Kl A3;rw[En p.one];have w1:=AJ (x:=.cells true Ad p.cells) wf;have j:∀u y,Aj H u=some y->Aj ((As H,c_ Ad p.cells)::H) u=some y:=λu y b=>A7 (wf.lt b) b;have b1:Aj ((As H,c_ Ad p.cells)::H) (As H)=some (c_ Ad p.cells):=Az (by simp);have c:=f.keep j;have l1:Lat H ((As H,c_ Ad p.cells)::H) (λu=>u=m):=Lat.cons _ _ _;rw[c.sv.nn,Bh,Bv rfl p.len.symm b1];refine A8T (n:=n) d e w1 c a λH' k i=>?_;rw[F3,PT];exact g H' k (l1.trans i (λ_ _ h=>h) (λ_ _ h=>h))
def C3C(H:Hp)(v:AV)(q:Pk):Prop:=∃dv cv,v=.agg [I q.kd,dv,cv]/\eC H dv q.ds/\YN H cv q.cs
def C43{s:AN}:CS (r! L (n+1)) J1 [S s] (Bo (decide (s.length≠32))):=by
 intro K d;rw[Wj];unfold Ly Iu;have a:∀{F:K2},Bm Ak (S s) F=F (I (s.length:Int)):=λ{F}=>by
  have:Bm Ak (S s) F=G6 s 0 λn=>F (.v (.int .i64 (.ofNat n))):=r_ rfl;rw[this,Cl,Jt];rfl
 have c:(!decide ((s.length:Int)=32))=decide (s.length≠32):=by
  by_cases h:s.length=32
  ·simp[h]
  ·simp[h];omega
 rw[a,IS,c];exact d _ _ λb=>⟨false,C7⟩
abbrev r1F:AV:=.fn (.func J1) [] []
def A8u(Z:40000<L)(y:SA q.ds dv)(hc:YN [] cv q.cs)(X:q.ds.length<1000)(V:q.cs.length<1000):CS (r! L (n+4)) Ma [.agg [I q.kd,dv,cv]] (Bo (@decide q.Right (Classical.propDecidable _))):=by
 intro K k;rw[dI];unfold Pw Iu;have C:AV.one cv=true:=hc.one.2;have D:AV.one dv=true:=y.cell.2;rw[En (by simp[C,D];rfl)];have J:As ([]:Hp)=0:=rfl;simp only[J];have a:Aj [(0,c_ Aq [I q.kd,dv,cv])] 0=some (c_ Aq [I q.kd,dv,cv]):=rfl;have c:∀{j:Nat}{F:K2},CY j (.ptr 0 0 0) F=F (.ptr 0 j 0):=λ{j F}=>by rw[fA,Jt]
 generalize [(0,c_ Aq [I q.kd,dv,cv])]=H at a;have i:∀{F:K2},AD Ab (.ptr 0 0 0) H F=F (I q.kd):=λ{F}=>AQ (p:=0) rfl a (by simp);have l1:∀{F:K2},AD Ac (.ptr 0 1 0) H F=F dv:=λ{F}=>AQ (p:=1) rfl a (by simp);have l2:∀{F:K2},AD Ay (.ptr 0 2 0) H F=F cv:=λ{F}=>AQ (p:=2) rfl a (by simp);have d1:∀{F:K2},Bm Ac dv F=F (I q.ds.length):=λ{F}=>y.len;have d2:∀{F:K2},Bm Ay cv F=F (I q.cs.length):=λ{F}=>by
  rcases hc with⟨rfl,h⟩|rfl|⟨_,_,_,_,h⟩
  ·rw[h];rfl
  ·exact r_ rfl
  ·simp[Aj]at h
 have Q:∀{F:K2},Ap Ab .gtr (I (q.ds.length:Int)) (AV.v (.int .i64 64)) F=F (Bo (decide (64<q.ds.length))):=λ{F}=>by rw[Eo];congr 3;simp;omega
 have R:∀{F:K2},Ap Ab .gtr (I (q.cs.length:Int)) (AV.v (.int .i64 64)) F=F (Bo (decide (64<q.cs.length))):=λ{F}=>by rw[Eo];congr 3;simp;omega
 have O:∀{F:K2},Ap Ab .eql (I (q.ds.length:Int)) (AV.v (.int .i64 0)) F=F (Bo (decide (q.ds=[]))):=λ{F}=>by rw[CQ];congr 3;simp
 have Y:∀{F:K2},Ap Ab .eql (I (q.cs.length:Int)) (AV.v (.int .i64 0)) F=F (Bo (decide (q.cs=[]))):=λ{F}=>by rw[CQ];congr 3;simp
 have k1:∀{z:Int}{F:K2},Ap Ab .eql (I q.kd) (AV.v (.int .i64 z)) F=F (Bo (decide (q.kd=z))):=λ{z F}=>CQ;have u:∀{F:K2},Ao (r! L (n+3)) B2 [dv,r1F] H F=F (Bo (q.ds.any λs=>decide (s.length≠32))):=λ{F}=>
  AR (rH (n:=n+1) y (λs K=>by
   have e:Ct (E (L+20)) (r! L (n+1)) r1F [S s] [] K=Ao (r! L (n+1)) J1 [S s] [] λv=>K v []:=by kernel_rfl
   rw[e];exact AR C43 (An (q:=false) C7 AK)) (λK=>rfl) (by omega) (by omega)) (An (y.fx H) (An (q:=false) (λK=>rfl) AK))
 simp only[c,l1,d1,Q];by_cases h1:64<q.ds.length
 ·have hn:¬q.Right:=λ⟨h,_⟩=>by omega
  simp only[Hj h1,xG,Cb,Tt];rw[Cr];rw[@decide_eq_false _ (_) hn]at k⊢;exact k _ _ λb=>⟨false,C7⟩
 simp only[HX h1,gT,gU,Cb,c,l2,d2,R,Sf];by_cases h2:64<q.cs.length
 ·have hn:¬q.Right:=λ⟨_,h,_⟩=>by omega
  simp only[Hj h2,xG,Cb,Tt];rw[Cr];rw[@decide_eq_false _ (_) hn]at k⊢;exact k _ _ λb=>⟨false,C7⟩
 simp only[HX h2,gT,gU,Cb,c,l1,u,Sf];by_cases t:∀s∈q.ds,s.length=32
 rotate_left
 ·have hn:¬q.Right:=λ⟨_,_,h,_⟩=>t h;have B:(q.ds.any λs=>decide (s.length≠32))=true:=by
   simp only[Classical.not_forall]at t;obtain⟨s,M,N⟩:=t;exact List.any_eq_true.2 ⟨s,M,by simpa using N⟩
  rw[B,Cr];rw[@decide_eq_false _ (_) hn]at k⊢;exact k _ _ λb=>⟨false,C7⟩
 have B:(q.ds.any λs=>decide (s.length≠32))=false:=by
  rw[List.any_eq_false];intro s M;simp[t s M]
 rw[B,Bh];simp only[c,l2,d2,Y];have fin:∀(b:Bool)(H:Hp),(b=true↔q.Right)->K (Bo b) H=some (Bo (@decide q.Right (Classical.propDecidable _)),[]):=λb H hb=>by
  have e:b=@decide q.Right (Classical.propDecidable _):=by
   cases b
   ·exact(@decide_eq_false _ (_) λh=>by have:=hb.2 h;cases this).symm
   ·exact(@decide_eq_true _ (_) (hb.1 rfl)).symm
  rw[e];exact k _ _ λb=>⟨false,C7⟩
 have g:q.Right↔(q.cs=[]/\(q.kd=1\/q.kd=2))\/(q.ds=[]/\q.kd=3):=⟨λ⟨_,_,_,h⟩=>h,λh=>⟨by omega,by omega,t,h⟩⟩
 by_cases f:q.cs=[]
 ·by_cases kk:q.kd=1
  ·simp only[Hj f,gT,ZC,xG,gU,Cb,c,i,k1,Hj kk,Tt,Sf];exact fin true H ⟨λ_=>g.2 (.inl ⟨f,.inl kk⟩),λ_=>rfl⟩
  ·by_cases w:q.kd=2
   ·simp only[Hj f,gT,ZC,xG,gU,Cb,c,i,k1,HX kk,Hj w,Tt,Sf];exact fin true H ⟨λ_=>g.2 (.inl ⟨f,.inr w⟩),λ_=>rfl⟩
   ·simp only[Hj f,gT,ZC,xG,gU,Cb,c,i,k1,HX kk,HX w,Tt,Sf,l1,d1,O];by_cases d:q.ds=[]
    ·simp only[Hj d,gT,ZC,xG,gU,Cb,c,i,k1,Tt,Sf];refine fin _ H ⟨λh=>g.2 (.inr ⟨d,by simpa using h⟩),λh=>?_⟩;rcases g.1 h with⟨_,h|h⟩|⟨_,h⟩
     ·exact absurd h kk
     ·exact absurd h w
     ·exact Hj h
    ·simp only[HX d,gT,ZC,xG,gU,Cb,c,i,k1,Tt,Sf];refine fin false H ⟨λh=>(by cases h),λh=>?_⟩;rcases g.1 h with⟨_,h|h⟩|⟨h,_⟩
     ·exact absurd h kk
     ·exact absurd h w
     ·exact absurd h d
 ·simp only[HX f,gT,ZC,xG,gU,Cb,c,i,k1,Tt,Sf,l1,d1,O];by_cases d:q.ds=[]
  ·simp only[Hj d,gT,ZC,xG,gU,Cb,c,i,k1,Tt,Sf];refine fin _ H ⟨λh=>g.2 (.inr ⟨d,by simpa using h⟩),λh=>?_⟩;rcases g.1 h with⟨h,_⟩|⟨_,h⟩
   ·exact absurd h f
   ·exact Hj h
  ·simp only[HX d,gT,ZC,xG,gU,Cb,c,i,k1,Tt,Sf];refine fin false H ⟨λh=>(by cases h),λh=>?_⟩;rcases g.1 h with⟨h,_⟩|⟨h,_⟩
   ·exact absurd h f
   ·exact absurd h d
def A4V{pv:AV}(f:40000<L)(i:C3C H pv q)(d:q.ds.length<1000)(b:q.cs.length<1000){F:K2}:Ao (r! L (n+4)) Ma [pv] H F=F (Bo (@decide q.Right (Classical.propDecidable _))):=by
 obtain⟨dv,cv,rfl,g,hc⟩:=i;obtain⟨s,q1,c,f1⟩:∃e j,SA q.ds e/\Fx true 11 dv e H j:=by
  rcases g with h|h
  ·refine⟨dv,false,h,?_⟩;rcases h with rfl|⟨_,rfl⟩<;>exact λK=>rfl
  ·exact h.fx (D:=10)
 obtain⟨k,q2,a,f2⟩:=hc.fx (D:=10);exact AR (A8u (n:=n) f c a d b) (An (L2 (D:=11) (An (q:=false) C7 (An f1 (An f2 AK)))) AK)
end
end
section
variable{s:AN}{F:K2}{PP:Af->Prop}
variable{L n:Nat}
section
variable{H H0 H':Hp}{v dv cv pv:AV}{A:ed}{K:KV}{x0:Af}{x:AV}{r m:Nat}{q:Pk}{l:List AN}
def eC.nn(h:eC H v l)(b:l≠[]):Ap Ac .eql v (AV.v (.slice none 0 0)) F=F (Bo false):=by
 cases l with
 |nil=>exact absurd rfl b
 |cons a l=>
  rcases h with h|h
  ·rcases h with rfl|⟨h,_⟩
   ·exact r_ rfl
   ·cases h
  ·rcases h with⟨_,h⟩|⟨r,q,c,rfl,_⟩
   ·cases h
   ·exact r_ rfl
theorem eC.src(h:eC H v l){F:Nat->Is->Af}:SS H v F=F l.length (AG l):=by
 rcases h with h|h
 ·exact h.src
 ·rcases h with⟨rfl,rfl⟩|⟨r,q,a,rfl,h2⟩
  ·rfl
  ·have:SS H (.sl 1 r 0 l.length) F=I6 H r λx=>J6 x λ_ cs=>Ek (Nat.mul l.length 1) (Dg 0 cs) λc=>F l.length c:=rfl;rw[this,AX h2];show Ek (l.length*1) (Dg 0 (AG l++a)) (λc=>F l.length c)=_;rw[Cy,pE,JU _ _ _ (by rw[EC,AZ];omega),pZ,l34 (by rw[AZ];omega),Y? (by rw[AZ];omega)]
theorem eC.ok(h:eC H v l):(XG Ac.d&&RH 1 v)=true:=by
 rcases h with h|h
 ·exact h.ok
 ·rcases h with⟨rfl,rfl⟩|⟨r,q,a,rfl,h2⟩<;>rfl
def A0x(wf:Wf H)(h:eC H v l)(w:l=[]->v=Aw)(hn:l.length<100000)(i:∀b H',Nn H' b l->(∀u,A8 b u->As H<=u)->Wf H'->(∀u y,Aj H u=some y->Aj H' u=some y)->As H<=As H'->PP (K b H')):
 PP ((r! L (n+1)).call Bi [v] H K):=by
 rw[FR];unfold DD Iu;by_cases d:l=[]
 ·subst d;obtain rfl:=w rfl;have e:∀{K:K2},Ap Ac .eql Aw (AV.v (.slice none 0 0)) K=K (Bo true):=λ{K}=>r_ rfl;rw[e,Cr];exact i Aw H (.inl ⟨rfl,rfl⟩) (λu a=>absurd a HV) wf (λu y a=>a) (Me _)
 ·rw[h.nn d,Bh,B6b];have w1:=AJ (x:=.cells false Av []) wf;have j:∀u y,Aj H u=some y->Aj ((As H,Row.cells false Av [])::H) u=some y:=λu y a=>A7 (wf.lt a) a;have B:B0 ((As H,.cells false Av [])::H) Av 1 (.sl 1 (As H) 0 0) 0 []:=.inr ⟨As H,false,rfl,Az (by simp),rfl⟩;have f:=h.keep j;obtain⟨b,H',k,p,t,c⟩:=apt (ie:=Ak) (i2:=Ac) B (λK=>f.src (F:=K)) (by rw[AZ,pZ]) (jZ (λ_=>rfl) l) (by decide) rfl f.ok (by show(0+l.length)*16<=_;omega) (by omega);rw[k];have n1:As ((As H,Row.cells false Av [])::H)=As H+1:=rfl;refine i b H' ?_ (λu a=>?_) (c.wf w1) (λu y a=>?_) ?_
  ·rcases p with⟨_,h,_⟩|⟨r,q,rfl,h2,_⟩
   ·exact absurd (gL (by omega)) d
   ·exact .inr ⟨r,q,[],by rw[Jt],by rw[UC];exact h2⟩
  ·have:=t u a;omega
  ·have:=wf.lt a;exact c.keep w1 u y (j u y a) λ⟨_,_,_,g⟩=>by injection g with _ g;omega
  ·have:=c.nx;omega
def A8O(wf:Wf H)(h:eC H v l)(c:l=[]->v=Aw)(hn:l.length<100000)(d:∀b H',Nn H' b l->(∀u,A8 b u->As H<=u)->Wf H'->(∀u y,Aj H u=some y->Aj H' u=some y)->As H<=As H'->K b H'=x0):
 (r! L (n+1)).call Bi [v] H K=x0:=
 A0x (PP:=λa=>a=x0) wf h c hn d
structure PkS(H:Hp)(v:AV)(q:Pk):Prop where
 at_:∃dv cv,v=.agg [I q.kd,dv,cv]/\eC H dv q.ds/\YN H cv q.cs/\(q.ds=[]->dv=Aw)
def PkS.pk(h:PkS H v q):C3C H v q:=by
 obtain⟨dv,cv,h1,h2,a,_⟩:=h.at_;exact⟨dv,cv,h1,h2,a⟩
theorem PkS.keep(h:PkS H v q)(k:∀u y,Aj H u=some y->Aj H' u=some y):PkS H' v q:=by
 obtain⟨dv,cv,h1,h2,a,b⟩:=h.at_;exact⟨dv,cv,h1,h2.keep k,a.keep λu y _ c=>k u y c,b⟩
def A2O(e:mP H x A):Ao (r! L (n+1)) BN [x,S s] H F=F (Bo (decide (s∈A.map Cd.id))):=by
 obtain⟨q1,c⟩:=e.fx (D:=7);refine AR (λK d=>?_) (An c (An (q:=false) C7 AK));rw[Ue];unfold Kj Lr;rw[A0h];refine A3D (b:=gE A) (F:=λf _ a=>K f a) (λK=>r_ rfl) λH' _=>?_;rw[iC];exact d _ _ λb=>⟨false,C7⟩
abbrev B9w(x:AV):AV:=.fn (.func BN) [x] []
def A8d{N:Nat}:Ct (E (L+20)) (rt (L+20) N) (B9w x) [S s] H K=Ao (rt (L+20) N) BN [x,S s] H λv=>K v H:=by
 show SN [S s] [] (λa=>SN [x] a λall=>A1B ((E (L+20)).ne BN) all H K (@Bool.rec (λ_=>Af) (zpm (E (L+20)) BN (rt (L+20) N) all H λv=>K v H) ((rt (L+20) N).call BN all H K) ((E (L+20)).imp BN)))=_;rw[Jv,Jv,show(E (L+20)).ne BN=false from rfl,show(E (L+20)).imp BN=false from rfl];show zpm (E (L+20)) BN (rt (L+20) N) [x,S s] H (λv=>K v H)=_;rw[A2t (by simp)]
def B4B{D:Nat}(c:mP H x A):∃q,Fx true (D+6) (B9w x) (B9w (.iptr [.imap (Df DK (gE A))])) H q:=by
 obtain⟨q1,h1⟩:=c.fx (D:=D);refine⟨q1,λK=>?_⟩;show IE (HQ true H (D+5)) [x] (λq b=>IE (HQ true H (D+5)) [] λd a=>K (@Bool.rec (λ_=>Bool) d true q) (.fn (.func BN) b a))=_;have h2:R5 true (D+5) [x] [.iptr [.imap (Df DK (gE A))]] H (q1||false):=An h1 AK;rw[h2];show K (@Bool.rec (λ_=>Bool) false true (q1||false)) _=_;cases q1<;>rfl
def A0p(O:GOk A)(M:200000<L)(wf:Wf H)(g:StAt H r m A)(R:PkS H pv q)(N:q.ds.length<=40)(X:∀H',Lat H H' (λ_=>False)->PP (K (wI (Tf A (q.ds.filter λs=>decide (s∉A.map Cd.id)))) H')):PP ((r! L (n+83)).call CG [.ptr r 0 0,pv] H K):=by
 obtain⟨dv,cv,rfl,h1,h2,J⟩:=R.at_;rw[Sq];unfold J7 Em;have Y:([I q.kd,dv,cv]:Is).all AV.one=true:=by
  have a1:=h1.one.2;have a2:=h2.one.2;simp only[pY,l3c,a1,a2];rfl
 rw[En Y];have w1:=AJ (x:=.cells true Aq [I q.kd,dv,cv]) wf;have i:∀u y,Aj H u=some y->Aj ((As H,c_ Aq [I q.kd,dv,cv])::H) u=some y:=λu y a=>A7 (wf.lt a) a;have b1:Aj ((As H,c_ Aq [I q.kd,dv,cv])::H) (As H)=some (c_ Aq [I q.kd,dv,cv]):=Az (by simp);rw[fA,Jt,AQ (p:=1) rfl b1 (by simp)];refine A0x (n:=n+81) w1 (h1.keep i) J (by omega) λC t r2 f j w n2=>?_;have s2:=g.keep λu y a=>w u y (i u y a);obtain⟨Z,e⟩:=B4B (D:=6) s2.sv;have n2:As H+1<=As t:=n2;have d:∀u,A8 C u->As H+1<=u:=λu a=>f u a;have b:∀{c},Lat t c (A8 C)->∀u y,Aj H u=some y->Aj c u=some y:=λ{c}k u y a=>k.keep j u y (w u y (i u y a)) λQ=>by have:=d u Q;have:=wf.lt a;omega
 refine A8J (n:=n+80) (P:=λs=>decide (s∈A.map Cd.id)) j r2 (by omega) (by omega) ⟨_,Z,e,λs K=>?_⟩ (λc k3 s K=>?_) λv3 c B V k3=>?_
 ·rw[A8d];exact A2O (n:=n+79) (.inl rfl)
 ·rw[A8d];exact A2O (n:=n+80) (g.keep (b k3)).sv
 ·have w3:=k3.wf j;have ef:(q.ds.filter λs=>!decide (s∈A.map Cd.id))=q.ds.filter λs=>decide (s∉A.map Cd.id):=by
   congr 1
   funext s
   by_cases h:s∈A.map Cd.id<;>simp[h]
  rw[ef]at B;rw[A8k (n:=n) O M (g.keep (b k3)).sv (.inr B) (ZK (l32 _ _) N)];exact X c ⟨λ_=>w3,by have:=k3.nx;omega,λ_ u y a _=>b k3 u y a⟩
def A8D(d:GOk A)(b:200000<L)(wf:Wf H)(f:StAt H r m A)(e:PkS H pv q)(c:q.ds.length<=40)(g:∀H',Lat H H' (λ_=>False)->K (wI (Tf A (q.ds.filter λs=>decide (s∉A.map Cd.id)))) H'=x0):(r! L (n+83)).call CG [.ptr r 0 0,pv] H K=x0:=
 A0p (PP:=λa=>a=x0) d b wf f e c g
end
end
section
variable{L n:Nat}
abbrev PV:=List (Pk×AV×AV)
def UB(p:Pk×AV×AV):Is:=[I p.1.kd,p.2.1,p.2.2]
structure PvOk(H:Hp)(p:Pk×AV×AV):Prop where
 ds:eC H p.2.1 p.1.ds
 cs:YN H p.2.2 p.1.cs
 nl:p.1.ds=[]->p.2.1=Aw
def jF(H:Hp)(v:AV)(ps:PV):Prop:=(v=Aw/\ps=[])\/v=.list ps.length (ps.flatMap UB)\/∃r q a,v=.sl 3 r 0 ps.length/\Aj H r=some (.cells q Aq (ps.flatMap UB++a))
structure PksAt(H:Hp)(v:AV)(l:List Pk):Prop where
 at_:∃ps:PV,ps.map Prod.fst=l/\(∀p∈ps,PvOk H p)/\jF H v ps
section
variable{H H0 H':Hp}{v dv cv pv:AV}{A:ed}{K:KV}{x0:Af}{x:AV}{r m:Nat}{q:Pk}{l:List AN}{ps:PV}
theorem PvOk.keep{p:Pk×AV×AV}(h:PvOk H p)(k:∀u y,Aj H u=some y->Aj H' u=some y):PvOk H' p:=⟨h.ds.keep k,h.cs.keep λu y _ a=>k u y a,h.nl⟩
def XN(ps:PV):(ps.flatMap UB).length=ps.length*3:=A5D (f:=UB) (w:=3) (λ_=>rfl) ps
def PksAt.pks{ls:List Pk}:PksAt H (wI ls) ls:=by
 refine⟨ls.map λp=>(p,DJ p.ds,match p.cs with|[]=>Aw|c::cs=>.list (c::cs).length ((c::cs).flatMap PC.cells)),by rw[List.map_map];exact List.map_id _,λp b=>?_,?_⟩
 ·obtain⟨a,_,rfl⟩:=Mj.1 b;refine⟨.inl (Lt _),?_,λh=>?_⟩
  ·show YN H (match a.cs with|[]=>Aw|c::cs=>.list (c::cs).length ((c::cs).flatMap PC.cells)) a.cs;cases a.cs with
   |nil=>exact .inl ⟨rfl,rfl⟩
   |cons c cs=>exact .inr (.inl rfl)
  ·have h:a.ds=[]:=h;show DJ a.ds=Aw;rw[h];rfl
 ·cases ls with
  |nil=>exact .inl ⟨rfl,rfl⟩
  |cons p ls=>
   refine .inr (.inl ?_);show AV.list _ _=AV.list _ _;rw[Qa,List.flatMap_map];rfl
def B5p{s:AN}:CS (r! L (n+2)) Fh [S s,.iptr [.iptr [.imap (Df DK (gE A))]]] (Bo (decide (s∉A.map Cd.id))):=by
 intro K c;rw[OR];unfold HG Lr;have a:∀{F:K2},AD BF (.iptr [.iptr [.imap (Df DK (gE A))]]) [] F=F (.iptr [.imap (Df DK (gE A))]):=λ{F}=>by kernel_rfl
 rw[a,A2O (n:=n) (.inl rfl),Et];have:(!decide (s∈A.map Cd.id))=decide (s∉A.map Cd.id):=by by_cases h:s∈A.map Cd.id<;>simp[h]
 rw[this];exact c _ _ λb=>⟨false,C7⟩
def A5w{ws:List AN}:Xb A ws=[]↔Qd (DW (ws.filter λx=>decide (x∈A.map Cd.id)))=[]:=by
 constructor
 ·intro h;cases hc:Qd (DW (ws.filter λx=>decide (x∈A.map Cd.id))) with
  |nil=>rfl
  |cons a t=>
   have d:a∈Qd (DW (ws.filter λx=>decide (x∈A.map Cd.id))):=by rw[hc];simp
   rw[TA,(Bg _).mem_iff,N_,decide_eq_true_eq]at d;obtain⟨c,b⟩:=P_ d.2;unfold Xb at h;rw[hc,List.filterMap_cons,b]at h;cases h
 ·intro h;unfold Xb;rw[h];rfl
def A6f(hg:GOk A)(hL:200000<L)(wf:Wf H)(hs:StAt H r m A)(N:PkS H pv q)(hd:q.ds.length<=64)(O:∀J H',PksAt H' J (ZB A q.ds)->Lat H H' (λ_=>False)->K J H'=x0):(r! L (n+83)).call Dv [.ptr r 0 0,pv] H K=x0:=by
 obtain⟨dv,cv,rfl,h1,h2,h3⟩:=N.at_;rw[Rf];unfold Jh Em A3;rw[A4g ⟨rfl,rfl⟩];have o3:([I q.kd,dv,cv]:Is).all AV.one=true:=by
  have a1:=h1.one.2;have a2:=h2.one.2;simp only[pY,l3c,a1,a2];rfl
 rw[En o3];have w0:=AJ (x:=.cells true AT [.ptr r 0 0]) wf;have e0:As ((As H,c_ AT [.ptr r 0 0])::H)=As H+1:=rfl;rw[e0];have w1:Wf ((As H+1,c_ Aq [I q.kd,dv,cv])::(As H,c_ AT [.ptr r 0 0])::H):=AJ (x:=.cells true Aq [I q.kd,dv,cv]) w0;have Q:∀u y,Aj H u=some y->Aj ((As H+1,c_ Aq [I q.kd,dv,cv])::(As H,c_ AT [.ptr r 0 0])::H) u=some y:=λu y a=>by
  have a1:=A7 (x:=.cells true AT [.ptr r 0 0]) (wf.lt a) a;exact A7 (w0.lt a1) a1
 have V:Aj ((As H+1,c_ Aq [I q.kd,dv,cv])::(As H,c_ AT [.ptr r 0 0])::H) (As H)=some (c_ AT [.ptr r 0 0]):=A7 (H:=(As H,c_ AT [.ptr r 0 0])::H) (by rw[e0];omega) (Az (by simp));have b1:Aj ((As H+1,c_ Aq [I q.kd,dv,cv])::(As H,c_ AT [.ptr r 0 0])::H) (As H+1)=some (c_ Aq [I q.kd,dv,cv]):=Az (H:=(As H,c_ AT [.ptr r 0 0])::H) (by simp);have n1:As ((As H+1,c_ Aq [I q.kd,dv,cv])::(As H,c_ AT [.ptr r 0 0])::H)=As H+2:=rfl;generalize ((As H+1,c_ Aq [I q.kd,dv,cv])::(As H,c_ AT [.ptr r 0 0])::H:Hp)=M at w1 Q V b1 n1;rw[fA,Nat.add_comm 0 1,AQ (p:=1) rfl b1 (by simp)];refine A8O (n:=n+81) w1 (h1.keep Q) h3 (by omega) λJ H2 r2 aa w2 k2 n2=>?_;have g:∀u,A8 J u->As H+2<=u:=λu a=>by have:=aa u a;omega
 have B:∀{d},Lat H2 d (A8 J)->∀u y,Aj M u=some y->Aj d u=some y:=λ{d}k u y a=>k.keep w2 u y (k2 u y a) λw=>by have:=g u w;have:=w1.lt a;omega
 have fxc:∀(D:Nat){d},(∀u y,Aj M u=some y->Aj d u=some y)->Fx true (D+6) (.ptr (As H) 0 0) (.iptr [.iptr [.imap (Df DK (gE A))]]) d true:=λD{d}k=>by
  obtain⟨qx,O⟩:=(hs.keep λu y a=>k u y (Q u y a)).sv.fx (D:=D);exact Wy (D:=D+5) (k _ _ V) (An O AK)
 refine A8L (n:=n+80) (P:=λs=>decide (s∉A.map Cd.id)) w2 r2 (by omega) (by omega) ⟨.fn (.func Fh) [] [.iptr [.iptr [.imap (Df DK (gE A))]]],_,yT (D:=11) (An (fxc 5 k2) AK),λs K=>?_⟩ (λd k3 s K=>?_) λv3 d r3 ab k3=>?_
 ·rw[A_ rfl rfl];exact AR (B5p (n:=n+78)) (An (q:=false) C7 (An (q:=false) Rg AK))
 ·rw[A_ rfl rfl];exact AR (B5p (n:=n+79)) (An (q:=false) C7 (An (fxc 6 (B k3)) AK))
 ·have w3:=k3.wf w2;have ef:(q.ds.filter λs=>!decide (s∉A.map Cd.id))=q.ds.filter λs=>decide (s∈A.map Cd.id):=by
   congr 1
   funext s
   by_cases h:s∈A.map Cd.id<;>simp[h]
  rw[ef]at r3;have Z:(q.ds.filter λs=>decide (s∈A.map Cd.id)).length<=64:=ZK (l32 _ _) hd;have ae:=B k3;refine A4U (n:=n+78) r3 (by omega) λH4 r4 k4=>?_;have w4:=k4.wf w3;have b:∀u,A8 v3 u->As H+2<=u:=λu a=>g u (ab u a);have af:∀u y,Aj M u=some y->Aj H4 u=some y:=λu y a=>k4.keep w3 u y (ae u y a) λw=>by have:=b u w;have:=w1.lt a;omega
  refine B5v (n:=n+81) w4 r4 (by rw[(Bg _).length_eq];omega) (by omega) λv5 j r5 ah _ k5=>?_;have w5:=k5.wf w4;have C:∀u y,Aj M u=some y->Aj j u=some y:=λu y a=>k5.keep w4 u y (af u y a) λw=>by have:=b u w;have:=w1.lt a;omega
  have i:∀u y,Aj H u=some y->Aj j u=some y:=λu y a=>C u y (Q u y a);have ad:As H<=As j:=by have:=k3.nx;have:=k4.nx;have:=k5.nx;omega
  rw[r5.len,CQ];by_cases hz:Xb A q.ds=[]
  ·have f:=A5w.1 hz;rw[Hj (by rw[f];rfl),Cr];refine O Aw j ?_ ⟨λ_=>w5,ad,λ_ u y a _=>i u y a⟩;unfold ZB;rw[Dl hz];exact PksAt.pks (ls:=[])
  ·have f:Qd (DW (q.ds.filter λx=>decide (x∈A.map Cd.id)))≠[]:=λh=>hz (A5w.2 h);have ag:=List.length_pos_iff.2 f;rw[HX (λh=>f (gL (by simpa using h))),Bh];have lx:∀{F:K2},AD BF (.ptr (As H) 0 0) j F=F (.ptr r 0 0):=λ{F}=>AQ (p:=0) rfl (C _ _ V) (by simp);rw[lx];have t:=A5Q (DW (q.ds.filter λx=>decide (x∈A.map Cd.id)));rw[(Bg _).length_eq]at t;refine A8I (n:=n+76) (A:=A) hg (λy hy=>?_) (Nat.lt_of_le_of_lt (ZK t Z) (by decide)) (by omega) w5 (hs.keep i).sv (.inr r5) λR H6 e=>?_
   ·rw[TA,(Bg _).mem_iff,N_,decide_eq_true_eq]at hy;exact hy.2
   ·have eg:UT A (Qd (DW (q.ds.filter λx=>decide (x∈A.map Cd.id))))=Xb A q.ds:=rfl;rw[eg]at e;have Y:=e.sl.co;have X:∀{F:K2},Ca Au [(0,1,(AV.v (.int .i64 3))),(2,1,R)] F=F (.agg [I 3,Aw,R]):=λ{F}=>by
     rcases e.sl with⟨h,_⟩|⟨rr,qq,h,_⟩<;>(rw[h];kernel_rfl)
    rw[X,A4f ⟨rfl,rfl⟩ Y];refine O _ _ ?_ ⟨λ_=>AJ e.wf,by show As H<=As H6+1;have:=e.nx;omega,λ_ u y a _=>?_⟩
    ·unfold ZB;rw[C5 hz];have ac:=e.wf;refine⟨[(⟨3,[],(Xb A q.ds).map .c⟩,Aw,R)],rfl,λp N=>?_,.inr (.inr ⟨As H6,false,[],rfl,Az (by simp)⟩)⟩;rw[Tx]at N;subst N;refine⟨.inl (.inr ⟨rfl,rfl⟩),?_,λ_=>rfl⟩;show YN _ R ((Xb A q.ds).map .c);rcases e.sl with⟨rfl,h1,h2⟩|⟨rr,qq,rfl,h2,_⟩
     ·exact absurd (gL h1) hz
     ·refine .inr (.inr ⟨rr,qq,[],by rw[Qa],?_⟩);rw[UC,A5e];exact A7 (ac.lt h2) h2
    ·have:=e.keep u y (i u y a);exact A7 (e.wf.lt this) this
end
end
end Go.Abs
end
