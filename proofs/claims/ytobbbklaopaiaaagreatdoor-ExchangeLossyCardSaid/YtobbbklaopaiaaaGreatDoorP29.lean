import Derived.Test.YtobbbklaopaiaaaGreatDoorP28
set_option linter.all false
set_option maxHeartbeats 100000000
noncomputable section
namespace Go.Abs
open Go.RowKit Go.Proofs
set_option maxRecDepth 100000
section
variable{P:AV}{y6:Int}
variable{L n:Nat}
def A72{f:AV->(Bool->K2)->Af}:∀(l m:Is)(K:Bool->Is->Af),IE f (l++m) K=IE f l λq c=>IE f m λd h=>K (q||d) (c++h):=by
 intro l
 induction l with
 |nil=>intro m K;rfl
 |cons a l ih=>
  intro m K;have e:∀(l:Is)(K:Bool->Is->Af),IE f (a::l) K=f a λq g=>IE f l λd c=>K (@Bool.rec (λ_=>Bool) d true q) (g::c):=λ_ _=>rfl;rw[List.cons_append,e,e]
  congr 1
  funext q g
  rw[ih]
  congr 1
  funext q1 l1
  congr 1
  funext q2 l2
  cases q<;>rfl
def P'{b:Bool}{D:Nat}{l a m c:Is}{H:Hp}{q q':Bool}(h:R5 b D l a H q)(k:R5 b D m c H q'):R5 b D (l++m) (a++c) H (q||q'):=λK=>by
 rw[A72,h,k]
def fixB:AV->Bool
 |.v _=>true
 |.list _ _=>true
 |_=>false
def Zb{D:Nat}{H:Hp}:∀l:Is,l.all fixB=true->R5 true D l l H false:=by
 intro l
 induction l with
 |nil=>intro _;exact AK
 |cons a l ih=>
  intro h;simp only[pY,K0]at h;have h2:=ih h.2;cases a with
  |v x=>exact An (q:=false) C7 h2
  |list n cs=>exact An (q:=false) On h2
  |_=>cases h.1
def F_(ts:jL):fixB (FF ts)=true:=by cases ts<;>rfl
def A7d{k:IntKind}{z:Int}:fixB (.v (.int k z))=true:=rfl
def yX{l:Ha}:fixB (S l)=true:=rfl
def B9L:fixB (.v (.slice none 0 0))=true:=rfl
def C34{l:Is}:fixB (.list n l)=true:=rfl
def mI(c:Cd):∃A B:Is,(∀P,c.csP P=A++P::B)/\A.all fixB=true/\B.all fixB=true:=by
 match c with
 |.re b u=>
  refine⟨((Cd.re b u).csP Aw).take 31,((Cd.re b u).csP Aw).drop 32,λ_=>rfl,?_,?_⟩
  ·simp only[Cd.csP,List.take_succ_cons,List.take_zero,pY,l3c,A7d,yX,F_,l1g,Z!]
  ·simp only[Cd.csP,List.drop_succ_cons,pE,pY,l3c,A7d,yX,B9L,l1g,Z!]
 |.co b p ps none=>
  refine⟨((Cd.co b p ps none).csP Aw).take 31,((Cd.co b p ps none).csP Aw).drop 32,λ_=>rfl,?_,?_⟩
  ·simp only[Cd.csP,List.take_succ_cons,List.take_zero,pY,l3c,A7d,yX,F_,l1g,Z!]
  ·simp only[Cd.csP,List.drop_succ_cons,pE,pY,l3c,A7d,yX,B9L,C34,l1g,Z!]
 |.co b p ps (some (k,vd))=>
  refine⟨((Cd.co b p ps (some (k,vd))).csP Aw).take 31,((Cd.co b p ps (some (k,vd))).csP Aw).drop 32,λ_=>rfl,?_,?_⟩
  ·simp only[Cd.csP,List.take_succ_cons,List.take_zero,pY,l3c,A7d,yX,F_,l1g,Z!]
  ·simp only[Cd.csP,List.drop_succ_cons,pE,pY,l3c,A7d,yX,B9L,C34,l1g,Z!]
def qI(c:Cd)(h:AV.one P=true):(c.csP P).all AV.one=true:=by
 match c with
 |.re b u=>exact R4 (VA _) h rfl rfl
 |.co b p ps none=>exact R4 (VA _) h rfl rfl
 |.co b p ps (some (k,vd))=>exact R4 (VA _) h rfl rfl
def OC(c:Cd):(c.csP P).length=68:=by
 match c with
 |.re b u=>rfl
 |.co b p ps none=>rfl
 |.co b p ps (some (k,vd))=>rfl
section
variable{H H':Hp}{v:AV}{l:List Ha}{D:Nat}{b:Bool}
def hJ(h:B0 H Av 1 v l.length (AG l))(c:l=[]->v=Aw):∃q,Fx b (D+1) v (DJ l) H q:=by
 rcases h with⟨rfl,h2,_⟩|⟨r,q,rfl,h2,d⟩
 ·cases l with
  |nil=>exact⟨false,C7⟩
  |cons a l=>simp at h2
 ·cases l with
  |nil=>have:=c rfl;cases this
  |cons a l=>
   refine⟨true,?_⟩;show Fx b (D+1) _ (.list (a::l).length (AG (a::l))) H true;exact Xd (q':=false) h2 d (KS (λs=>Value.string ⟨⟨s⟩⟩) (a::l))
def T?{c:Cd}(h:B0 H Av 1 v c.ps.length (AG c.ps))(a:c.ps=[]->v=Aw):∃q,R5 true (D+1) (c.csP v) c.cs H q:=by
 obtain⟨q,hq⟩:=hJ (D:=D) (b:=true) h a;obtain⟨A,B,e,f1,f2⟩:=mI c;rw[<-A4k c,e,e];exact⟨_,P' (Zb A f1) (An hq (Zb B f2))⟩
abbrev GV:=List (Cd×AV)
def gvC(g:GV):Is:=g.flatMap λp=>p.1.csP p.2
structure GvOk(g:GV)(H:Hp):Prop where
 sl:∀p∈g,B0 H Av 1 p.2 p.1.ps.length (AG p.1.ps)
 nl:∀p∈g,p.1.ps=[]->p.2=Aw
def C2L{g:GV}(h:GvOk g H):∃q,R5 true (D+1) (gvC g) ((g.map Prod.fst).flatMap Cd.cs) H q:=by
 induction g with
 |nil=>exact⟨_,AK⟩
 |cons p g ih=>
  obtain⟨q1,h1⟩:=ih ⟨λr hr=>h.sl r (by simp[hr]),λr hr=>h.nl r (by simp[hr])⟩;obtain⟨q2,h2⟩:=T? (D:=D) (h.sl p (by simp)) (h.nl p (by simp));exact⟨_,P' h2 h1⟩
def pA(gs:ed):AV:=match gs with
 |[]=>Aw
 |c::gs=>.list (c::gs).length ((c::gs).flatMap Cd.cs)
def YY(gs:ed):LA gs (pA gs):=by cases gs with|nil=>exact .inr ⟨rfl,rfl⟩|cons _ _=>exact .inl rfl
def B9y{g:GV}{lv:AV}(h:GvOk g H)(f:B0 H Ad 68 lv g.length (gvC g))(c:g=[]->lv=Aw):∃q,Fx true (D+2) lv (pA (g.map Prod.fst)) H q:=by
 rcases f with⟨rfl,h2,_⟩|⟨r,q,rfl,h2,d⟩
 ·cases g with
  |nil=>exact⟨false,C7⟩
  |cons a l=>simp at h2
 ·cases g with
  |nil=>have:=c rfl;cases this
  |cons p g=>
   obtain⟨q1,h1⟩:=C2L (D:=D) h;refine⟨true,?_⟩;have e:pA ((p::g).map Prod.fst)=.list (p::g).length (((p::g).map Prod.fst).flatMap Cd.cs):=by
    show AV.list _ _=_;rw[show(p.1::g.map Prod.fst).length=(p::g).length by simp];rfl
   rw[e];exact Xd h2 d h1
end
structure Y7 where
 (y0 y1 y2 y3 y4 y5 y6:Int)
def Y7.cs(y:Y7):Is:=[I y.y0,I y.y1,I y.y2,I y.y3,I y.y4,I y.y5,I y.y6]
def Y7.Ok(y:Y7):Prop:=Lm y.y0/\Lm y.y1/\Lm y.y2/\Lm y.y3/\Lm y.y4/\Lm y.y5/\Lm y.y6
def wJ(ids:List Ha)(y6:Int):Nat->List Ha
 |0=>[]
 |k+1=>if 0<ids.length/\pk (y6.fdiv (2^(4*k))) 16<14 then wJ ids y6 k++[ids.getD ((pk (y6.fdiv (2^(4*k))) 16).toNat%ids.length) []] else wJ ids y6 k
def A5i{ids:List Ha}:∀k,∀s∈wJ ids y6 k,s∈ids:=by
 intro k
 induction k with
 |zero=>intro s a;simp[wJ]at a
 |succ k ih=>
  intro s a;unfold wJ at a;split at a
  ·rename_i h;rcases Yn.1 a with a|a
   ·exact ih s a
   ·rw[Tx]at a;subst a;have:=Nat.mod_lt (pk (y6.fdiv (2^(4*k))) 16).toNat h.1;rw[Vf,K8 this];exact PD this
  ·exact ih s a
def A5j{ids:List Ha}:∀k,(wJ ids y6 k).length<=k:=by
 intro k
 induction k with
 |zero=>simp[wJ]
 |succ k ih=>
  unfold wJ;split
  ·simp;omega
  ·omega
def kdM(i:Nat)(y:Y7):Int:=if i<2/\0<pk (y.y0.tdiv 3) 4 then 0 else y.y0
def cM(i:Nat)(y:Y7)(ids:List Ha):Cd:=cdM (kdM i y) y.y1 y.y2 y.y3 y.y4 y.y5 y.y1 y.y2 y.y3 y.y4 y.y5 y.y6 (some (y.y3,y.y4,y.y5,y.y6)) (wJ ids y.y6 3)
def Qx(xs:List Y7):Nat->ed
 |0=>[]
 |i+1=>
  if(cM i (xs.getD i ⟨0,0,0,0,0,0,0⟩) ((Qx xs i).map Cd.id)).ps.Nodup/\(cM i (xs.getD i ⟨0,0,0,0,0,0,0⟩) ((Qx xs i).map Cd.id)).id∉(Qx xs i).map Cd.id
  then Qx xs i++[cM i (xs.getD i ⟨0,0,0,0,0,0,0⟩) ((Qx xs i).map Cd.id)] else Qx xs i
def B69{i:Nat}{y:Y7}{gs:ed}:(cM i y (gs.map Cd.id)).Ok:=by
 refine A4q λs a=>?_;obtain⟨c,_,rfl⟩:=Mj.1 (A5i _ s a);exact U? c
def B0H(xs:List Y7):∀i,i<=8->GOk (Qx xs i)/\(Qx xs i).length<=i:=by
 intro i
 induction i with
 |zero=>intro _;exact⟨⟨by simp[Qx],by simp[Qx],by simp[Qx],by simp[Qx]⟩,by simp[Qx]⟩
 |succ i ih=>
  intro k;obtain⟨h,f⟩:=ih (by omega);unfold Qx;split
  ·rename_i hc;refine⟨⟨λc hm=>?_,λc hm=>?_,?_,by simp;omega⟩,by simp;omega⟩
   ·rcases Yn.1 hm with hm|hm
    ·exact h.ok c hm
    ·rw[Tx]at hm;subst hm;exact B69
   ·rcases Yn.1 hm with hm|hm
    ·exact h.nd c hm
    ·rw[Tx]at hm;subst hm;exact hc.1
   ·rw[Za,l38];refine⟨h.ids,by simp,λa g b hb e=>?_⟩;obtain⟨j,d,rfl⟩:=Mj.1 hb;rw[Tx]at d;subst d;exact hc.2 (e▸g)
  ·exact⟨h,by omega⟩
end
section
variable{L n:Nat}
abbrev AN:=Ha
section
variable{gs:ed}{b:List (AN×Unit)}{p:AN}{ids:List AN}
def W_(ids:List AN)(b:List (AN×Unit)):List AN->List (AN×Unit)
 |[]=>b
 |p::ps=>W_ ids (if p∈ids then b else LP b p ()) ps
def yF:∀b:List (AN×Unit),(LP b p ()).map Prod.fst=if p∈b.map Prod.fst then b.map Prod.fst else b.map Prod.fst++[p]:=by
 intro b
 induction b with
 |nil=>rfl
 |cons e b ih=>
  unfold LP;by_cases h:e.1=p
  ·simp[h]
  ·rw[C5 h,Xa,ih,Xa];have hm:(p∈e.1::b.map Prod.fst)↔p∈b.map Prod.fst:=by simp[Ne.symm h]
   by_cases h2:p∈b.map Prod.fst
   ·rw[Dl h2,Dl (hm.2 h2)]
   ·rw[C5 h2,C5 (λa=>h2 (hm.1 a))];rfl
def mO:∀(ps:List AN)(b:List (AN×Unit)),(b.map Prod.fst).Nodup->((W_ ids b ps).map Prod.fst).Nodup/\∀x,x∈(W_ ids b ps).map Prod.fst↔x∈b.map Prod.fst\/(x∈ps/\x∉ids):=by
 intro ps
 induction ps with
 |nil=>intro b h;exact⟨h,λx=>by simp[W_]⟩
 |cons p ps ih=>
  intro b h;have h1:((if p∈ids then b else LP b p ()).map Prod.fst).Nodup/\∀x,x∈(if p∈ids then b else LP b p ()).map Prod.fst↔x∈b.map Prod.fst\/(x=p/\x∉ids):=by
   by_cases f:p∈ids
   ·rw[Dl f];refine⟨h,λx=>⟨.inl,λd=>d.elim id λ⟨e,hn⟩=>absurd (e▸f) hn⟩⟩
   ·rw[C5 f,yF];by_cases hm:p∈b.map Prod.fst
    ·rw[Dl hm];exact⟨h,λx=>⟨.inl,λd=>d.elim id λ⟨e,_⟩=>e▸hm⟩⟩
    ·rw[C5 hm];refine⟨l38.2 ⟨h,by simp,λa j c hc=>by simp at hc;subst hc;exact λe=>hm (e▸j)⟩,λx=>?_⟩;rw[Yn,Tx];exact⟨λd=>d.imp id λe=>⟨e,e▸f⟩,λd=>d.imp id λe=>e.1⟩
  obtain⟨h2,i⟩:=ih _ h1.1;refine⟨h2,λx=>?_⟩;show x∈(W_ ids (if p∈ids then b else LP b p ()) ps).map Prod.fst↔_;rw[i,h1.2,Tz];constructor
  ·rintro((h|h)|h)
   ·exact .inl h
   ·exact .inr ⟨.inl h.1,h.2⟩
   ·exact .inr ⟨.inr h.1,h.2⟩
  ·rintro(h|⟨h|h,g⟩)
   ·exact .inl (.inl h)
   ·exact .inl (.inr ⟨h,g⟩)
   ·exact .inr ⟨h,g⟩
def ID(gs:ed):List AN:=DW ((W_ (gs.map Cd.id) [] (gs.flatMap Cd.ps)).map Prod.fst)
def tK:(ID gs).Nodup:=(Bg _).symm.nodup (mO _ [] (by simp)).1
def L_:(ID gs).Pairwise (· <= ·):=D2 _
def Jn{x:AN}:x∈ID gs↔x∉gs.map Cd.id/\∃c∈gs,x∈c.ps:=by
 rw[ID,(Bg _).mem_iff,(mO _ [] (by simp)).2];simp only[List.map_nil,List.not_mem_nil,false_or,l3b];exact and_comm
def A4T{H:Hp}{K:K2}:Ao (r! L (n+1)) Fj [gV gs,S p] H K=K (Bo (decide (p∈gs.map Cd.id))):=by
 refine AR (λK a=>?_) (An hY (An (q:=false) C7 AK));rw[Vc];unfold KP Lr;have d:∀(F:Value->Af),LW (S p) F=F (SV p):=λF=>id rfl;rw[d,A46 (f:=DK) (b:=gE gs) (λK=>id rfl)];by_cases h:p∈gs.map Cd.id
 ·obtain⟨c,hc⟩:∃c,Mu (gE gs) p=some c:=by
   rcases A5B (gs:=gs) (s:=p) with⟨_,k,e,h1,_⟩|⟨h1,_⟩
   ·exact⟨_,h1⟩
   ·exact absurd h h1
  rw[hc];simp only[];rw[F5,F4,B3 (cs:=CJ) rfl,Ch (cs:=CJ) (vs:=c.cs) (Az (by simp)) ED rfl Mq];rw[Hj h]at a⊢;exact a _ _ λb=>⟨false,C7⟩
 ·rw[Yv (by rw[Ww];exact h)];simp only[];rw[F5,F4,B3 (cs:=CJ) rfl]
  erw[Ch (cs:=CJ) (vs:=CJ) (Az (by simp)) rfl rfl rfl]
  rw[HX h]at a⊢;exact a _ _ λb=>⟨false,C7⟩
end
section
variable{gs:ed}{ids:List AN}
def A2c:∀(ps:List AN)(b:List (AN×Unit)),(W_ ids b ps).length<=b.length+ps.length:=by
 intro ps
 induction ps with
 |nil=>intro b;exact Me _
 |cons p ps ih=>
  intro b;have h1:(if p∈ids then b else LP b p ()).length<=b.length+1:=by
   split
   ·omega
   ·have:=congrArg List.length (yF (p:=p) b);rw[Qa]at this;rw[this];split<;>simp
  have h2:=ih (if p∈ids then b else LP b p ());show(W_ ids (if p∈ids then b else LP b p ()) ps).length<=_;rw[LV];omega
def B4N:∀gs:ed,(∀c∈gs,c.ps.length<100)->(gs.flatMap Cd.ps).length<=gs.length*100:=by
 intro gs
 induction gs with
 |nil=>intro _;simp
 |cons c gs ih=>
  intro h;have h1:=h c (by simp);have h2:=ih λd a=>h d (by simp[a]);rw[qB,EC,LV,Z'];omega
def A6Z(a:GOk gs)(d:∀c∈gs,c.ps.length<100):(ID gs).length<1000:=by
 have h1:=A2c (ids:=gs.map Cd.id) (gs.flatMap Cd.ps) [];have h2:=B4N gs d;have e:=a.len;rw[ID,(Bg _).length_eq,Qa];simp at h1;simp at h2;omega
def B00:∀l:List AN,pl 6 (DJ l)=true:=by
 intro l;cases l with
 |nil=>rfl
 |cons a l=>
  show(AG (a::l)).all (pl 5)=true;rw[GE];intro y c;obtain⟨s,_,rfl⟩:=Mj.1 c;rfl
def uO{ty:Nat}{es:IH}{H:Hp}{K:KV}:Hr ty (.imap es) H K=K (.ptr (As H) 0 0) ((As H,c_ ty [.imap es])::H):=by
 unfold Hr;rw[CK,FK,BW];rfl
end
abbrev B17(gs:ed):AV:=.fn (.func Fc) [] [.iptr [gV gs]]
def Y!(gs:ed)(p:Option (Option Code)):Row:=.loop 27 [(2,Aw),(3,.ptr 0 0 0),(5,.ptr 2 0 0),(7,.dk),(15,B17 gs),(17,.dk),(18,.dk),(19,.dk),(20,.dk),(21,.dk),(22,.dk),(23,.dk),(24,.dk)] (Ec).2.1 (Ec).2.2.1 (Ec).2.2.2 p
structure Ms(gs:ed)(b:List (AN×Unit))(H:Hp):Prop where
 net:Aj H 0=some (c_ CC [gV gs])
 mm:Aj H 1=some (.map false (Df uS b) none)
 st:Aj H 2=some (c_ CN [.mp 1])
 lp:Aj H 3=some (Y! gs (some none))
 wf:Wf H
section
variable{gs:ed}{b:List (AN×Unit)}{H:Hp}{K:KV}{x:Af}{p s:AN}
def Ms.kp{H':Hp}(h:Ms gs b H)(w:Wf H')(k:∀u y,u<4->Aj H u=some y->Aj H' u=some y):Ms gs b H':=
 ⟨k _ _ (by decide) h.net,k _ _ (by decide) h.mm,k _ _ (by decide) h.st,k _ _ (by decide) h.lp,w⟩
def B5N{a:Hp}{K:Ru}(h:Aj a 3=some (Y! gs none)):E7 a 3 false (some none) K=K (upd a 3 (Y! gs (some none))):=Pg h
def B3y(h:Ms gs b H)(r:∀t,Ms gs (if p∈gs.map Cd.id then b else LP b p ()) t->(∀u y,3<u->Aj H u=some y->Aj t u=some y)->K (Bo true) t=x):
 Ct (E (L+20)) (r! L (n+2)) (.yl 3) [S s,S p] H K=x:=by
 show XA6 (r! L (n+2)) 3 [S s,S p] H K=x;rw[OY h.lp (by kernel_rfl)];have j:(r! L (n+2)).run= λw=>OK (E (L+20)) (r! L (n+1)) w:=rfl;rw[j,dC,Ph h.lp];simp only[BJ];have d:Aj (upd H 3 (Y! gs none)) 0=some (c_ CC [gV gs]):=by rw[Ag (by decide)];exact h.net
 have c:Aj (upd H 3 (Y! gs none)) 1=some (.map false (Df uS b) none):=by rw[Ag (by decide)];exact h.mm
 have e:Aj (upd H 3 (Y! gs none)) 2=some (c_ CN [.mp 1]):=by rw[Ag (by decide)];exact h.st
 have a:Aj (upd H 3 (Y! gs none)) 3=some (Y! gs none):=Ff h.lp;have g:∀u y,3<u->Aj H u=some y->Aj (upd H 3 (Y! gs none)) u=some y:=λu y q k=>by rw[Ag (by omega)];exact k
 have w1:Wf (upd H 3 (Y! gs none)):=Bq h.wf;show AD Ai (.ptr 0 0 0) (upd H 3 (Y! gs none)) _=_;rw[AQ (p:=0) rfl d (by simp)];show Ao (r! L (n+1)) Fj [gV gs,S p] (upd H 3 (Y! gs none)) _=_;rw[A4T,Et];by_cases m:p∈gs.map Cd.id
 ·rw[Dl m]at r;rw[Hj m];show A2 (.v (.bool false)) _ _=_;rw[Bh];show E7 (upd H 3 (Y! gs none)) 3 false (some none) _=_;rw[B5N a];refine r _ ⟨?_,?_,?_,Ff a,Bq w1⟩ λu y q k=>?_
  ·rw[Ag (by decide)];exact d
  ·rw[Ag (by decide)];exact c
  ·rw[Ag (by decide)];exact e
  ·rw[Ag (by omega)];exact g u y q k
 ·rw[C5 m]at r;rw[HX m];show A2 (.v (.bool true)) _ _=_;rw[Cr];show AD CD (.ptr 2 0 0) (upd H 3 (Y! gs none)) _=_;rw[AQ (p:=0) rfl e (by simp)];have A:∀{K:K2},Ca F6 [] K=K (.agg []):=λ{K}=>id rfl;have B:∀(F:Value->Af),LW (S p) F=F (SV p):=λF=>id rfl;rw[A,B];show Mm (.mp 1) (SV p) (uS ()) (upd H 3 (Y! gs none)) _=_;rw[iJ (f:=uS) (v:=()) c];have i:Aj (upd (upd H 3 (Y! gs none)) 1 (.map false (Df uS (LP b p ())) none)) 3=some (Y! gs none):=by rw[Ag (by decide)];exact a
  show E7 (upd (upd H 3 (Y! gs none)) 1 (.map false (Df uS (LP b p ())) none)) 3 false (some none) _=_;rw[B5N i];refine r _ ⟨?_,?_,?_,Ff i,Bq (Bq w1)⟩ λu y q k=>?_
  ·rw[Ag (by decide),Ag (by decide)];exact d
  ·rw[Ag (by decide)];exact(B8 c).trans rfl
  ·rw[Ag (by decide),Ag (by decide)];exact e
  ·rw[Ag (by omega),Ag (by omega)];exact g u y q k
def B9R{c:AV->AV->AV->AV->AV->KV}{j:AV}{y:Row}{ps:List AN}(hb:ps.length<100):∀(f i:Nat)(b:List (AN×Unit))(H:Hp),i<=ps.length->ps.length-i<f->Ms gs b H->Aj H 4=some y->
 (∀d a,Ms gs (W_ (gs.map Cd.id) b (ps.drop i)) a->Aj a 4=some y->c (.yl 3) (S s) j (DJ ps) (I ps.length) d a=x)->
 Gj (L+20) (r! L (n+2)) K c f (.yl 3) (S s) j (DJ ps) (I ps.length) (I i) H=x:=by
 intro f
 induction f with
 |zero=>intro i b H _ h;omega
 |succ f ih=>
  intro i b H r q hm k e;rw[K9];unfold Gn HR A3;by_cases h:i<ps.length
  ·rw[FV (by omega),Cr,(Lt ps).ia h,LD];rw[vM h]at e;refine B3y hm λa g m=>?_;rw[Et];show A2 (.v (.bool false)) _ _=_;rw[Bh,Dd (by omega)];exact ih (i+1) _ a (by omega) (by omega) g (m 4 y (by decide) k) e
  ·rw[FT (by omega),Bh];have:i=ps.length:=by omega
   subst this;rw[List.drop_length]at e;exact e _ H hm k
def B9S{Y:Ru}{w:AV}(hw:Vw 6 w w=true)(V:∀c∈gs,c.ps.length<100)(hL:100<L)(r:∀b H,Ms gs b H->(b.map Prod.fst).Perm (ID gs)->Y H=some (w,[])):
 ∀(f:Nat)(es:List (AN×Cd))(b:List (AN×Unit))(H:Hp)(o:Option (Value×AV))(B d1 d2 C:AV),es.length<f->(∀e∈es,e∈gE gs)->Ms gs b H->Aj H 4=some (.iter (Df DK es) o)->
 (b.map Prod.fst).Nodup->(∀q∈b.map Prod.fst,q∈ID gs)->(∀q∈ID gs,q∈b.map Prod.fst\/∃e∈es,q∈e.2.ps)->
 Gk (L+20) (r! L (n+2)) K Y f (.yl 3) B (.it 4) d1 d2 C H=some (w,[]):=by
 intro f
 induction f with
 |zero=>intro es b H o B d1 d2 C h;omega
 |succ f ih=>
  intro es b H o B d1 d2 C hf he hm R A h1 h2;rw[KA];unfold Gp Em A3;refine XW (f:=DK) hw R (λe=>?_) (λa e c M=>?_)
  ·subst e;rw[F3,Bh];refine r b H hm ((l37 A tK).2 λq=>⟨h1 q,λhq=>(h2 q hq).elim id λ⟨e,he,_⟩=>absurd he (by simp)⟩)
  ·subst M;obtain⟨cd,i,J⟩:=Mj.1 (he e (by simp));subst J;have j:=L0 (es:=Df DK (a++c)) (o:=some (.string ⟨⟨cd.id⟩⟩,DK cd)) R;have k:Ms gs b (upd H 4 (.iter (Df DK (a++c)) (some (.string ⟨⟨cd.id⟩⟩,DK cd)))):=hm.kp (Bq hm.wf) λu y hu Q=>by rw[Ag (by omega)];exact Q
   rw[F3,Cr];simp only[BJ];rw[Nu j,F3,PT];generalize upd H 4 (.iter (Df DK (a++c)) (some (.string ⟨⟨cd.id⟩⟩,DK cd)))=H1 at j k;obtain⟨H2,e2,F,w2,X⟩:=Il (e:=Ad) (zs:=CJ) (vs:=cd.cs) k.wf ED;rw[B3 (cs:=CJ) rfl,Ch (cs:=CJ) (vs:=cd.cs) (Az (by simp)) ED rfl Mq,<-e2,fA,Jt,B1M F,iL];have P:=k.kp w2 λu y _ Q=>(X u y Q).1;have O:=(X _ _ j).1;have e0:(AV.v (.int .i64 0))=I ((0:Nat):Int):=rfl;rw[e0];refine B9R (n:=n) (V cd i) (L+20) 0 b H2 (by omega) (by have:=V cd i;omega) P O λd Z t N=>?_;rw[pE]at t;obtain⟨g1,D⟩:=mO (ids:=gs.map Cd.id) cd.ps b A;refine ih (a++c) _ Z _ _ _ _ _ (by simp at hf⊢;omega) (λe g=>he e (by simp at g⊢;rcases g with g|g;exact .inl g;exact .inr (.inr g))) t N g1 (λq hq=>?_) (λq hq=>?_)
   ·rcases(D q).1 hq with hq|⟨hq,hn⟩
    ·exact h1 q hq
    ·exact Jn.2 ⟨hn,cd,i,hq⟩
   ·rcases h2 q hq with h|⟨e,g,m⟩
    ·exact .inl ((D q).2 (.inl h))
    ·simp at g;rcases g with g|g|g
     ·exact .inr ⟨e,by simp[g],m⟩
     ·subst g;exact .inl ((D q).2 (.inr ⟨m,(Jn.1 hq).1⟩))
     ·exact .inr ⟨e,by simp[g],m⟩
def A6m{a:AV}(m:GOk gs)(O:40000<L)(w:∀c∈gs,c.ps.length<100)(u:LA gs a):CS (r! L (n+80)) ML [a] (DJ (ID gs)):=by
 intro K d;rw[gF];unfold QC;have k:R5 true depth [a] [a] [] false:=by rcases u with rfl|⟨_,rfl⟩<;>exact λK=>by kernel_rfl
 have of:∀{K:K2},Ao (r! L (n+79)) L7 [a] [] K=K (.tup [gV gs,Bo true]):=λ{K}=>K1 (λK d=>B6x (n:=n+15) m O u K d) k;have j:∀{H}{K:K2},Ao (r! L (n+79)) Fk [gV gs] H K=K (B17 gs):=λ{H K}=>by
  refine K1 (λK d=>?_) (An (q:=false) hY AK);rw[show n+79=(n+78)+1 from rfl,Nq];unfold IU Iu;rw[uO];exact d _ _ ⟨true,λK=>by kernel_rfl⟩
 rw[of,F5,F4];have w0:Vw 6 (DJ (ID gs)) (DJ (ID gs))=true:=Tb 6 _ (B00 _);have J:∀{F:AV->KV},(Bz CC Ai [] λy A=>E4 Ai y (gV gs) A λB=>LC F6 B λR C=>Bz CN CD C λg h=>E4 CD g R h λi=>F y g i)=
  F (.ptr 0 0 0) (.ptr 2 0 0) [(2,c_ CN [.mp 1]),(1,.map false [] none),(0,c_ CC [gV gs])]:=λ{F}=>by kernel_rfl
 rw[J];simp only[BJ];have M:∀{K:K2},AD Ai (.ptr 0 0 0) [(2,c_ CN [.mp 1]),(1,.map false [] none),(0,c_ CC [gV gs])] K=K (gV gs):=λ{K}=>by kernel_rfl
 rw[M,j,VE,show n+79=(n+78)+1 from rfl,KZ];unfold GD;have N:∀{H:Hp}{K:K2},AD Ai (.iptr [gV gs]) H K=K (gV gs):=λ{H K}=>by kernel_rfl
 rw[N,WM];simp only[BJ];refine B9S (n:=n+76) w0 w (by omega) (λb H hm f=>?_) (L+20) (gE gs) [] _ none _ _ _ _ (by have:=m.len;simp[gE];omega) (λe he=>he)
  ⟨rfl,rfl,rfl,rfl,AJ (AJ (AJ (AJ (AJ Fl))))⟩ rfl (by simp) (by simp) (λq hq=>.inr ?_)
 ·show I6 H 3 _=_;rw[AX hm.lp];show Ll H 3 .gone _=_;rw[Dh];have Q:Aj (upd H 3 .gone) 2=some (c_ CN [.mp 1]):=by rw[Ag (by decide)];exact hm.st
  have r:Aj (upd H 3 .gone) 1=some (.map false (Df uS b) none):=by rw[Ag (by decide)];exact hm.mm
  show AD CD (.ptr 2 0 0) (upd H 3 .gone) _=_;rw[AQ (p:=0) rfl Q (by simp)];have P:b.length<1000:=by
   have:=f.length_eq;rw[Qa]at this;rw[this];exact A6Z m w
  refine mS (n:=n+73) w0 (by omega) (by omega) (Bq hm.wf) r f L_ λv V hv t=>?_;exact d _ _ λbb=>by
   obtain⟨q,hq⟩:=hJ (D:=depth-1) (b:=bb) hv t;exact⟨q,hq⟩
 ·obtain⟨_,c,hc,hq⟩:=Jn.1 hq;exact⟨(c.id,c),Mj.2 ⟨c,hc,rfl⟩,hq⟩
end
end
def Sg(gs:ed)(s:AN):List AN:=match Mu (gE gs) s with
 |some c=>c.ps
 |none=>[]
inductive Anc(gs:ed)(s:AN):AN->Prop
 |one {x:AN}:x∈gs.map Cd.id->x∈Sg gs s->Anc gs s x
 |more {x y:AN}:Anc gs s y->x∈gs.map Cd.id->x∈Sg gs y->Anc gs s x
section
variable{gs:ed}{s x y p:AN}
def Anc.ids(h:Anc gs s x):x∈gs.map Cd.id:=by
 cases h with
 |one h _=>exact h
 |more _ h _=>exact h
def A7G:Anc gs s x↔(x∈gs.map Cd.id/\x∈Sg gs s)\/∃p∈Sg gs s,p∈gs.map Cd.id/\Anc gs p x:=by
 constructor
 ·intro h
  induction h with
  |one h1 h2=>exact .inl ⟨h1,h2⟩
  |@more x y d h1 h2 ih=>
   rcases ih with⟨b,a⟩|⟨p,b,a,c⟩
   ·exact .inr ⟨y,a,b,.one h1 h2⟩
   ·exact .inr ⟨p,b,a,.more c h1 h2⟩
 ·rintro(⟨h1,h2⟩|⟨p,h1,h2,b⟩)
  ·exact .one h1 h2
  ·induction b with
   |one a c=>exact .more (.one h2 h1) a c
   |more _ a c ih=>exact .more ih a c
end
open Classical in
def B5f(gs:ed)(s:AN):List AN:=DW ((gs.map Cd.id).filter λx=>decide (Anc gs s x))
section
variable{gs:ed}{s x p:AN}
end
def YM(H:Hp)(v:AV)(l:List AN):Prop:=(v=Aw/\l=[])\/∃r o q cs,v=.sl 1 r o l.length/\Aj H r=some (.cells q Av cs)/\cs.drop o=AG l/\o+l.length=cs.length
section
variable{H:Hp}{v:AV}{l ps:List AN}{K:K2}{p:AN}
def A1F{K:Nat->Is->Af}:SS H (DJ ps) K=K ps.length (AG ps):=by
 cases ps with
 |nil=>exact B1c
 |cons a l=>exact Vm
def A0C:(AG ps).all AV.one=true:=by
 rw[GE];intro y a;obtain⟨s,_,rfl⟩:=Mj.1 a;rfl
def yB:(XG Ac.d&&RH 1 (DJ ps))=true:=by
 cases ps<;>rfl
def YM.app(h:YM H v l)(hn:l.length+ps.length<1000000):∃k f,(∀K:KV,E5 Av 1 Ak Ac v (DJ ps) H K=K k f)/\YM f k (l++ps)/\(∀u,A8 k u->u=As H)/\Lat H f (A8 v):=by
 have hb:(l.length+ps.length)*Ak.bytes<=70368744177664:=by
  have:Ak.bytes<=100000:=by decide
  exact ZK (Nat.mul_le_mul (show l.length+ps.length<=1000000 by omega) this) (by decide)
 rcases h with⟨rfl,rfl⟩|⟨r,o,q,cs,rfl,h1,h2,O⟩
 ·obtain⟨k,f,J,L,M,N⟩:=apt (H:=H) (e:=Av) (sz:=1) (n:=0) (m:=ps.length) (ie:=Ak) (i2:=Ac) (v:=Aw) (src:=DJ ps) (cs:=[]) (ys:=AG ps) (.inl ⟨rfl,rfl,rfl⟩) (λK=>A1F) (by rw[AZ];omega) A0C (by decide) rfl yB (by simpa using hb) (by omega);refine⟨k,f,J,?_,M,N⟩;rcases L with⟨rfl,a,b⟩|⟨r,q,rfl,a,b⟩
  ·left;refine⟨rfl,?_⟩;have:ps.length=0:=by omega
   rw[l3d];exact gL this
  ·exact .inr ⟨r,0,q,_,by simp,a,by simp,by simp[AZ]⟩
 ·have j:∀K:KV,Qw Av 1 Ak Ac (.sl 1 r o l.length) (DJ ps) H K=I6 H r λx=>J6 x λE cs=>G6 cs 0 λcl=>
   ck (Nat.beq E Av&&(Nat.beq 1 1&&(Nat.beq (Nat.add o (Nat.mul l.length 1)) cl&&(Nat.ble (Nat.mul (Nat.add l.length ps.length) Ak.bytes) 70368744177664&&Nat.ble (Nat.add l.length ps.length) 70368744177664))))
    (Yy (Dg o cs) (AG ps) λg=>Ll H r .gone λf=>Ik H λr=>fN (Nat.add l.length ps.length) λnm=>K (.sl 1 r 0 nm) ((r,.cells false Av g)::f)):=λK=>by
   unfold Qw;rw[A1F,Cl,CK,Cl];have c:(Nat.beq (0+(AG ps).length) (Nat.mul ps.length 1)&&(N0 (AG ps)&&(!Nat.beq 1 0&&(Nat.beq (0+(Bw Ak.zero).length) 1&&(XG Ac.d&&RH 1 (DJ ps))))))=true:=by
    rw[FK,A0C,yB,AZ];have t:Nat.beq (0+ps.length) (Nat.mul ps.length 1)=true:=by
     rw[Jt];show Nat.beq ps.length (ps.length*1)=true;rw[pZ];exact jH _
    rw[t];rfl
   rw[c];rfl
  refine⟨.sl 1 (As H) 0 (l.length+ps.length),(As H,.cells false Av (AG (l++ps)))::upd H r .gone,λK=>?_,?_,λu ⟨a,b,c,w⟩=>by injection w with _ w;exact w.symm,?_⟩
  ·have t:E5 Av 1 Ak Ac (.sl 1 r o l.length) (DJ ps) H K=I6 H r λx=>J6 x λE cs=>G6 cs 0 λcl=>@Bool.rec (λ_=>Af) (OW (Nat.add o (Nat.mul l.length 1)) cs λg=>Ll H r (.cells false E g) λC=>Qw Av 1 Ak Ac (.sl 1 r o l.length) (DJ ps) C K) (Qw Av 1 Ak Ac (.sl 1 r o l.length) (DJ ps) H K) (Nat.beq (Nat.add o (Nat.mul l.length 1)) cl):=rfl;rw[t,AX h1];have B:∀F:TypeId->Is->Af,J6 (.cells q Av cs) F=F Av cs:=λ_=>rfl;rw[B,Cl];have A:Nat.beq (Nat.add o (Nat.mul l.length 1)) (0+cs.length)=true:=by
    show Nat.beq (o+l.length*1) (0+cs.length)=true;rw[pZ,O,Jt];exact jH _
   rw[A];show Qw Av 1 Ak Ac (.sl 1 r o l.length) (DJ ps) H K=_;rw[j K];rw[AX h1,B,Cl];have c:(Nat.beq Av Av&&(Nat.beq 1 1&&(Nat.beq (Nat.add o (Nat.mul l.length 1)) (0+cs.length)&&(Nat.ble (Nat.mul (Nat.add l.length ps.length) Ak.bytes) 70368744177664&&Nat.ble (Nat.add l.length ps.length) 70368744177664))))=true:=by
    rw[A,jH,jH];simp only[Z!,K0,jJ];exact⟨hb,show l.length+ps.length<=_ by omega⟩
   rw[c];show Yy (Dg o cs) (AG ps) _=_;rw[MK,Dh,BW,Dy,Cy,h2];have D:AG l++AG ps=AG (l++ps):=by simp[AG]
   rw[D];rfl
  ·have i:=Az (H:=upd H r .gone) (x:=.cells false Av (AG (l++ps))) (by simp);rw[BB]at i;exact .inr ⟨As H,0,false,_,by rw[EC],i,rfl,by rw[AZ];omega⟩
  ·have P:Lat H (upd H r .gone) (A8 (.sl 1 r o l.length)):=Lat.upd H r .gone ⟨1,o,_,rfl⟩;have i:=Lat.cons (upd H r .gone) (.cells false Av (AG (l++ps))) (A8 (.sl 1 r o l.length));rw[BB]at i;exact P.trans i (λ_ _ h=>h) (λ_ _ h=>h)
end
section
variable{L n:Nat}
section
variable{gs:ed}{s p:AN}{H:Hp}{K:KV}{x:Af}{ps:List AN}
def B6b:GM Av 1 Ak 0 [] H K=K (.sl 1 (As H) 0 0) ((As H,.cells false Av [])::H):=by
 have e:GM Av 1 Ak 0 [] H K=Ik H (λs=>K (.sl 1 s 0 0) ((s,.cells false Av [])::H)):=r_ rfl;rw[e,BW]
def B2X(wf:Wf H)(hn:ps.length<100)(f:∀v b,YM b v ps->(∀u y,Aj H u=some y->Aj b u=some y)->(∀u,A8 v u->As H<=u)->Wf b->K v b=x):
 (r! L (n+1)).call Bi [DJ ps] H K=x:=by
 rw[FR];unfold DD Iu;cases ps with
 |nil=>
  have e:∀{K:K2},Ap Ac .eql (DJ []) (AV.v (.slice none 0 0)) K=K (Bo true):=λ{K}=>id rfl;rw[e,Cr];exact f Aw H (.inl ⟨rfl,rfl⟩) (λu y h=>h) (λu ⟨_,_,_,h⟩=>by cases h) wf
 |cons a l=>
  have e:∀{K:K2},Ap Ac .eql (DJ (a::l)) (AV.v (.slice none 0 0)) K=K (Bo false):=λ{K}=>id rfl;rw[e,Bh,B6b];have hb:=Az (H:=H) (x:=.cells false Av []) (by simp);have w1:=AJ (x:=.cells false Av []) wf;obtain⟨m,b,g,i,j,d⟩:=YM.app (H:=(As H,.cells false Av [])::H) (v:=.sl 1 (As H) 0 0) (l:=[]) (ps:=a::l) (.inr ⟨As H,0,false,[],rfl,hb,rfl,rfl⟩) (by simp at hn⊢;omega);rw[g];refine f m b i (λu y c=>?_) (λu c=>?_) (d.wf w1)
  ·have k:=wf.lt c;refine d.keep w1 u y (A7 k c) λ⟨_,_,_,h⟩=>?_;injection h with _ h;omega
  ·have:=j u c;have h2:As ((As H,Row.cells false Av [])::H)=As H+1:=rfl;omega
end
end
section
variable{a:Int}{b k:Nat}
variable{L n:Nat}
def B0T(h:Lm a)(c:k<3):Lm (a.fdiv (2^(4*k))):=by
 unfold Lm at h⊢;have e:a.fdiv (2^(4*k))=a/(2^(4*k)):=Int.fdiv_eq_ediv_of_nonneg _ (Int.le_of_lt (Int.pow_pos (by decide)));rw[e];obtain rfl|rfl|rfl:k=0\/k=1\/k=2:=by omega
 ·rw[show(2:Int)^(4*0)=1 by decide];omega
 ·rw[show(2:Int)^(4*1)=16 by decide];omega
 ·rw[show(2:Int)^(4*2)=256 by decide];omega
def B5w{j:TI}{K:K2}(c:k<=64):Ap j .shr (I a) (I k) K=K (I (a.fdiv (2^k))):=by
 have:Ap j .shr (I a) (I k) K=ck (pG 0 (k:Int)) (fI (a.fdiv (2^(min (k:Int).toNat 64))) λz=>K (.v (.int .i64 z))):=rfl;rw[this,Vl,jI,l22 c];have h1:pG 0 (k:Int)=true:=by rw[L1];simp
 rw[h1];rfl
def rd7{H:Hp}{y:Y7}(h:Aj H b=some (c_ YQ y.cs)):
 (∀{K},AD Ab (.ptr b 0 0) H K=K (I y.y0))/\(∀{K},AD Ab (.ptr b 1 0) H K=K (I y.y1))/\(∀{K},AD Ab (.ptr b 2 0) H K=K (I y.y2))/\(∀{K},AD Ab (.ptr b 3 0) H K=K (I y.y3))/\(∀{K},AD Ab (.ptr b 4 0) H K=K (I y.y4))/\(∀{K},AD Ab (.ptr b 5 0) H K=K (I y.y5))/\(∀{K},AD Ab (.ptr b 6 0) H K=K (I y.y6)):=
 ⟨λ{K}=>AQ (p:=0) rfl h (by simp[Y7.cs]),λ{K}=>AQ (p:=1) rfl h (by simp[Y7.cs]),λ{K}=>AQ (p:=2) rfl h (by simp[Y7.cs]),λ{K}=>AQ (p:=3) rfl h (by simp[Y7.cs]),λ{K}=>AQ (p:=4) rfl h (by simp[Y7.cs]),λ{K}=>AQ (p:=5) rfl h (by simp[Y7.cs]),λ{K}=>AQ (p:=6) rfl h (by simp[Y7.cs])⟩
def C2v{K:K2}:Ds Co (.ptr b 0 0) (.v (.int .i64 0)) K=K (.ptr b 0 0):=EL (z:=0) 0 rfl rfl (by decide)
def C4y{K:K2}:Ds Co (.ptr b 0 0) (.v (.int .i64 1)) K=K (.ptr b 1 0):=EL (z:=1) 1 rfl rfl (by decide)
def C4x{K:K2}:Ds Co (.ptr b 0 0) (.v (.int .i64 2)) K=K (.ptr b 2 0):=EL (z:=2) 2 rfl rfl (by decide)
def C4w{K:K2}:Ds Co (.ptr b 0 0) (.v (.int .i64 3)) K=K (.ptr b 3 0):=EL (z:=3) 3 rfl rfl (by decide)
def C4v{K:K2}:Ds Co (.ptr b 0 0) (.v (.int .i64 4)) K=K (.ptr b 4 0):=EL (z:=4) 4 rfl rfl (by decide)
def C4u{K:K2}:Ds Co (.ptr b 0 0) (.v (.int .i64 5)) K=K (.ptr b 5 0):=EL (z:=5) 5 rfl rfl (by decide)
def C2u{K:K2}:Ds Co (.ptr b 0 0) (.v (.int .i64 6)) K=K (.ptr b 6 0):=EL (z:=6) 6 rfl rfl (by decide)
structure Pa(H0:Hp)(ps:List Ha)(u:AV)(H:Hp):Prop where
 sl:B0 H Av 1 u ps.length (AG ps)
 nl:ps=[]->u=Aw
 fr:∀s,A8 u s->As H0<=s
 wf:Wf H
 w0:Wf H0
 nx:As H0<=As H
 kp:∀s q,Aj H0 s=some q->Aj H s=some q
section
variable{K:KV}{x:Af}{H0 H H':Hp}{y:Y7}{ids:List Ha}{a0 lv iv kd:AV}{q7 i:Nat}
def C1U{m:AV->AV->AV->AV->AV->AV->AV->KV}(hL:100<L)(Z:Lm y.y6)(hq:Aj H0 q7=some (c_ YQ y.cs))(hi:B0 H0 Av 1 iv ids.length (AG ids))(hb:ids.length<100)(j:∀u k H,Pa H0 (wJ ids y.y6 3) u H->m a0 lv iv (I i) (.ptr q7 0 0) kd u k H=x):
 ∀(f k:Nat)(u:AV)(H:Hp),k<=3->3-k<f->Pa H0 (wJ ids y.y6 k) u H->
 TG (L+20) (r! L (n+64)) K m f a0 lv iv (I i) (.ptr q7 0 0) kd u (I k) H=x:=by
 intro f
 induction f with
 |zero=>intro k u H _ h;omega
 |succ f ih=>
  intro k u H hk hf d;rw[nV];unfold TJ HR Dk A3 HS;have V:(AV.v (.int .i64 3))=I ((3:Nat):Int):=rfl;have w:=hi.kp λs q _=>d.kp s q;rw[V];by_cases h:k<3
  ·rw[FV (by omega)];simp only[gT,Cb,Le (t:=Ac) rfl w,Eo];by_cases B:0<ids.length
   ·have hm:=Nat.mod_lt (pk (y.y6.fdiv (2^(4*k))) 16).toNat B;have pr:=FQ (c:=y.y6.fdiv (2^(4*k))) (n:=16) (by decide);obtain⟨-, -, -, -, -, -,P⟩:=rd7 (d.kp _ _ hq);have ml:∀{K:K2},Ap Ab .mul (.v (.int .i64 4)) (I (k:Int)) K=K (I ((4*k:Nat):Int)):=λ{K}=>by
     rw[Qv,CV (by omega) (by omega)];rw[show(4:Int)*(k:Int)=((4*k:Nat):Int) by omega]
    have C:∀{H K},Ao (r! L (n+64)) LY [I (y.y6.fdiv (2^(4*k))),.v (.int .i64 16)] H K=K (I (pk (y.y6.fdiv (2^(4*k))) 16)):=λ{H K}=>A0Z (n:=n+63) (B0T Z h) (by decide) (by decide) H K;have J:∀{K:K2},Ap Ab .add (I k) (.v (.int .i64 1)) K=K (I ((k+1:Nat):Int)):=λ{K}=>Dd (by omega);rw[Hj (by omega),Tt,Cr];simp only[BJ];rw[C2u,P,ml,B5w (by omega),C,DO];have r:wJ ids y.y6 (k+1)=if 0<ids.length/\pk (y.y6.fdiv (2^(4*k))) 16<14 then wJ ids y.y6 k++[ids.getD ((pk (y.y6.fdiv (2^(4*k))) 16).toNat%ids.length) []] else wJ ids y.y6 k:=rfl
    by_cases g:pk (y.y6.fdiv (2^(4*k))) 16<14
    ·rw[Dl ⟨B,g⟩]at r;have D:PL H ids iv:=.inr w;obtain⟨p,X,Y⟩:=D.at2 hm;have rm:∀{K:K2},Ap Ab .rem (I (pk (y.y6.fdiv (2^(4*k))) 16)) (I (ids.length:Int)) K=K (I (((pk (y.y6.fdiv (2^(4*k))) 16).toNat%ids.length:Nat):Int)):=λ{K}=>by
      rw[Qu (by omega),Int.tmod_eq_emod_of_nonneg pr.1];have:(pk (y.y6.fdiv (2^(4*k))) 16)=(((pk (y.y6.fdiv (2^(4*k))) 16).toNat:Nat):Int):=by omega
      rw[this,jI];rfl
     have aa:=A5j (ids:=ids) (y6:=y.y6) k;obtain⟨u',H',a1,a2,M,a4,N,O⟩:=V_ (ie:=Ak) (i2:=Ac) (ys:=AG [ids[(pk (y.y6.fdiv (2^(4*k))) 16).toNat%ids.length]]) d.sl d.wf rfl rfl (by decide) rfl (λ_=>rfl) (by show(_+1)*16<=_;omega) (by omega);have R:ids.getD ((pk (y.y6.fdiv (2^(4*k))) 16).toNat%ids.length) []=ids[(pk (y.y6.fdiv (2^(4*k))) 16).toNat%ids.length]:=by simp[List.getD,K8 hm]
     rw[R]at r;have g0:=d.nx;rw[Hj g,Cr,rm,X,Y,iX,a1,J];refine ih (k+1) u' H' (by omega) (by omega) ⟨?_,λe=>?_,λs A=>?_,M,d.w0,by omega,λs q A=>?_⟩
     ·rw[r,EC];have:AG (wJ ids y.y6 k++[ids[(pk (y.y6.fdiv (2^(4*k))) 16).toNat%ids.length]])=AG (wJ ids y.y6 k)++AG [ids[(pk (y.y6.fdiv (2^(4*k))) 16).toNat%ids.length]]:=by simp[AG]
      rw[this];exact a2
     ·rw[r]at e;simp at e
     ·have:=O s A;omega
     ·exact N _ _ (d.kp s q A) λe=>by have:=d.fr s e;have:=d.w0.lt A;omega
    ·rw[C5 λhc=>g hc.2]at r;rw[HX g,Bh,J];exact ih (k+1) u H (by omega) (by omega) (by rw[r];exact d)
   ·rw[HX (by omega),Tt,Bh];have Q:∀k,wJ ids y.y6 k=[]:=by
     intro k
     induction k with
     |zero=>rfl
     |succ k F=>unfold wJ;rw[C5 λhc=>B hc.1];exact F
    refine j u _ H ?_;rw[Q]at d⊢;exact d
  ·have:k=3:=by omega
   subst this;rw[FT (by omega)];simp only[ZC,Cb,Sf];rw[Bh];exact j u _ H d
end
end
section
variable{a:AV}{s:Nat}
variable{L n:Nat}
structure Gm(g:GV)(lv iv:AV)(H:Hp):Prop where
 gv:GvOk g H
 sl:B0 H Ad 68 lv g.length (gvC g)
 nl:g=[]->lv=Aw
 si:B0 H Av 1 iv g.length (AG ((g.map Prod.fst).map Cd.id))
 ni:g=[]->iv=Aw
 dl:∀s,A8 lv s->¬A8 iv s/\∀p∈g,¬A8 p.2 s
 di:∀s,A8 iv s->∀p∈g,¬A8 p.2 s
 wf:Wf H
section
variable{K:KV}{x:Af}{H0 H H':Hp}{g:GV}{lv iv a0:AV}{c:Cd}{v:AV}
def Gm.grow(h:Gm g lv iv H)(wf:Wf H')(kp:∀s q,Aj H s=some q->Aj H' s=some q):Gm g lv iv H':=
 ⟨⟨λp b=>(h.gv.sl p b).kp λs q _=>kp s q,h.gv.nl⟩,h.sl.kp λs q _=>kp s q,h.nl,h.si.kp λs q _=>kp s q,h.ni,h.dl,h.di,wf⟩
def Gm.lti(h:Gm g lv iv H)(b:A8 iv s):s<As H:=h.si.lt h.wf b
def Gm.ltl(h:Gm g lv iv H)(b:A8 lv s):s<As H:=h.sl.lt h.wf b
def Gm.ltp(h:Gm g lv iv H){p:Cd×AV}(b:p∈g)(d:A8 p.2 s):s<As H:=(h.gv.sl p b).lt h.wf d
def C3u{cs:Is}(d:cs.length=68)(h1:cs.all AV.one=true):GM Ad 68 Ae 1 [(0,68,.agg cs)] H K=K (.sl 68 (As H) 0 1) ((As H,.cells false Ad cs)::H):=by
 have e:GM Ad 68 Ae 1 [(0,68,.agg cs)] H K=GX (.agg cs) λvs=>G6 vs 0 λn=>ck (Nat.beq n 68) (ck (N0 vs) (Er 0 vs CJ λb=>Ik H λs=>K (.sl 68 s 0 1) ((s,.cells false Ad b)::H))):=r_ rfl;have hc:Bw (.agg cs)=cs:=rfl;rw[e,CK,hc,Cl,d,FK,h1];show Er 0 cs CJ _=_;rw[Iq _ _ _ _ (by rw[d];decide),VC _ _ (by rw[d];rfl),BW]
def Gm.add(h:Gm g lv iv H)(hv:B0 H Av 1 v c.ps.length (AG c.ps))(hn:c.ps=[]->v=Aw)(B:∀s,A8 v s->¬A8 lv s/\¬A8 iv s)(hb:g.length<100):
 ∃i j f k,(∀K:KV,(GM Ad 68 Ae 1 [(0,68,.agg (c.csP v))] H λv1 j=>E5 Ad 68 Ae Ay lv v1 j K)=K i j)/\
  (∀K:KV,(GM Av 1 Ak 1 [(0,1,S c.id)] j λv1 k=>E5 Av 1 Ak Ac iv v1 k K)=K f k)/\Gm (g++[(c,v)]) i f k:=by
 obtain⟨i,j,a1,a2,u,D,w,y⟩:=V_ (ie:=Ae) (i2:=Ay) (ys:=c.csP v) h.sl h.wf (OC c) (qI c (B0.one hv)) (by decide) rfl (λ_=>rfl) (by show(_+1)*800<=_;omega) (by omega);have t:B0 j Av 1 iv g.length (AG ((g.map Prod.fst).map Cd.id)):=h.si.kp λs q d r=>w s q r (λe=>(h.dl s e).1 d);obtain⟨f,k,b1,b2,C,b4,A,b6⟩:=V_ (ie:=Ak) (i2:=Ac) (ys:=AG [c.id]) t u rfl rfl (by decide) rfl (λ_=>rfl) (by show(_+1)*16<=_;omega) (by omega);have kp:∀s q,¬A8 lv s->¬A8 iv s->Aj H s=some q->Aj k s=some q:=λs q h1 h2 d=>A _ _ (w _ _ d h1) h2;refine⟨i,j,f,k,λK=>by rw[C3u (OC c) (qI c (B0.one hv))];exact a1 K,λK=>by rw[iX];exact b1 K,⟨λp b=>?_,λp b=>?_⟩,?_,λe=>by simp at e,?_,λe=>by simp at e,λs d=>⟨λe=>?_,λp b e=>?_⟩,λs d p b e=>?_,C⟩
 ·rcases Yn.1 b with b|b
  ·exact(h.gv.sl p b).kp λs q d=>kp s q (λe=>(h.dl s e).2 p b d) (λe=>h.di s e p b d)
  ·rw[Tx]at b;subst b;exact hv.kp λs q d=>kp s q (B s d).1 (B s d).2
 ·rcases Yn.1 b with b|b
  ·exact h.gv.nl p b
  ·rw[Tx]at b;subst b;exact hn
 ·have m:gvC (g++[(c,v)])=gvC g++c.csP v:=by simp[gvC]
  rw[m,EC];exact B0.kp a2 λs q d r=>A s q r λe=>by have:=y s d;have:=h.lti e;omega
 ·have m:AG (((g++[(c,v)]).map Prod.fst).map Cd.id)=AG ((g.map Prod.fst).map Cd.id)++AG [c.id]:=by simp[AG]
  rw[m,EC];exact b2
 ·have:=b6 s e;have:=B0.lt a2 u d;omega
 ·have:=y s d;rcases Yn.1 b with b|b
  ·have:=h.ltp b e;omega
  ·rw[Tx]at b;subst b;have:=hv.lt h.wf e;omega
 ·have:=b6 s d;rcases Yn.1 b with b|b
  ·have:=h.ltp b e;omega
  ·rw[Tx]at b;subst b;have:=hv.lt h.wf e;omega
def XA(xs:List Y7)(a:AV):Prop:=a=.list xs.length (xs.flatMap Y7.cs)\/(xs=[]/\a=Aw)
def XA.len{xs:List Y7}{K:K2}(h:XA xs a):Bm My a K=K (I xs.length):=by
 rcases h with rfl|⟨rfl,rfl⟩<;>exact r_ rfl
def XA.ia{xs:List Y7}{i:Nat}{K:K2}(h:XA xs a)(b:i<xs.length):Ds My a (I i) K=K (.iptr xs[i].cs):=by
 rcases h with rfl|⟨rfl,rfl⟩
 ·exact XA8 (f:=Y7.cs) rfl (λ_=>rfl) b
 ·simp at b
end
end
section
variable{a b c d:Int}
variable{L n:Nat}
section
variable{K:KV}{x:Af}{xs:List Y7}{a0:AV}
def b6{a b c d e f:Int}{K:K2}:Ca B7 [(0,1,I a),(1,1,I b),(2,1,I c),(3,1,I d),(4,1,I e),(5,1,I f)] K=K (.agg [I a,I b,I c,I d,I e,I f]):=id rfl
def b4{K:K2}:Ca CM [(0,1,I a),(1,1,I b),(2,1,I c),(3,1,I d)] K=K (.agg [I a,I b,I c,I d]):=id rfl
def bs4{H:Hp}:GM HU 4 CM 1 [(0,4,.agg [I a,I b,I c,I d])] H K=K (.sl 4 (As H) 0 1) ((As H,.cells false HU [I a,I b,I c,I d])::H):=by
 have e:GM HU 4 CM 1 [(0,4,.agg [I a,I b,I c,I d])] H K=Ik H (λs=>K (.sl 4 s 0 1) ((s,.cells false HU [I a,I b,I c,I d])::H)):=r_ rfl;rw[e,BW]
def C26{k4:KV}(hL:40000<L)(hx:XA xs a0)(a4:∀y∈xs,y.Ok)(w:∀g lv iv H,g.map Prod.fst=Qx xs (min 8 xs.length)->Gm g lv iv H->k4 lv H=x):
 ∀(f i:Nat)(g:GV)(lv iv:AV)(H:Hp)(d0 d1 d2 d3:AV),i<=min 8 xs.length->min 8 xs.length-i<f->g.map Prod.fst=Qx xs i->Gm g lv iv H->
 TH (L+20) (r! L (n+64)) K k4 f a0 lv iv (I i) d0 d1 d2 d3 H=x:=by
 intro f
 induction f with
 |zero=>intro i g lv iv H d0 d1 d2 d3 _ h;omega
 |succ f ih=>
  intro i g lv iv H d0 d1 d2 d3 hi hf M hh;rw[nW];unfold TK HR Dk A3 HS;have e8:(AV.v (.int .i64 8))=I ((8:Nat):Int):=rfl;rw[hx.len,e8];by_cases h:i<min 8 xs.length
  ·have R:i<xs.length:=by omega
   obtain⟨y,hy⟩:∃y,xs[i]=y:=⟨_,rfl⟩
   have ak:=a4 _ (PD R);have ay:xs.getD i ⟨0,0,0,0,0,0,0⟩=y:=by rw[<-hy];simp[List.getD,K8 R]
   rw[hy]at ak;obtain⟨o0,o1,o2,o3,o4,o5,o6⟩:=ak;rw[FV (by omega)];simp only[gT,Cb];rw[FV (by omega),Cb,Tt,Cr];refine PE λbe aa=>?_;refine PE λa8 ab=>?_;have ar:(Qx xs i).length=g.length:=by rw[<-M,Qa]
   have g8:=(B0H xs i (by omega)).2;have O:Qx xs (i+1)=if(cM i y ((Qx xs i).map Cd.id)).ps.Nodup/\(cM i y ((Qx xs i).map Cd.id)).id∉(Qx xs i).map Cd.id then Qx xs i++[cM i y ((Qx xs i).map Cd.id)] else Qx xs i:=by
    have:Qx xs (i+1)=if(cM i (xs.getD i ⟨0,0,0,0,0,0,0⟩) ((Qx xs i).map Cd.id)).ps.Nodup/\(cM i (xs.getD i ⟨0,0,0,0,0,0,0⟩) ((Qx xs i).map Cd.id)).id∉(Qx xs i).map Cd.id
     then Qx xs i++[cM i (xs.getD i ⟨0,0,0,0,0,0,0⟩) ((Qx xs i).map Cd.id)] else Qx xs i:=rfl
    rw[this,ay]
   have B:∀g' t p q kd u k C,g'.map Prod.fst=Qx xs (i+1)->Gm g' t p C->a8 a0 t p (I i) q kd u k C=x:=by
    intro g' t p q kd u k C h1 h2;have ad:∀{K:K2},Ap Ab .add (I i) (.v (.int .i64 1)) K=K (I ((i+1:Nat):Int)):=λ{K}=>Dd (by omega);rw[ab,aa];simp only[ad];exact ih (i+1) g' t p C q kd u k (by omega) (by omega) h1 h2
   clear aa ab ih w;have l7:∀{H}{K:K2},AD Co (.iptr y.cs) H K=K (.agg y.cs):=λ{H K}=>r_ rfl;obtain⟨H1,e1,m1,w1,am⟩:=Il (e:=YQ) (zs:=[zI,zI,zI,zI,zI,zI,zI]) (vs:=y.cs) hh.wf rfl;rw[hx.ia R,hy,l7,B3 (cs:=[zI,zI,zI,zI,zI,zI,zI]) rfl,Ch (cs:=[zI,zI,zI,zI,zI,zI,zI]) (vs:=y.cs) (Az (by simp)) rfl rfl rfl,<-e1];have h1:=hh.grow w1 λs q m=>(am s q m).1;generalize As H=q7 at m1;clear e1 am hh;obtain⟨Y, -⟩:=rd7 m1;rw[C2v,Y];refine PE λa9 ac=>?_;have j:a9 (I (kdM i y)) H1=x:=by
    rw[ac];clear ac;refine PE λbf ae=>?_;refine PE λbc J=>?_;have aj:=h1.si;rw[M]at aj;have A:((Qx xs i).map Cd.id).length=g.length:=by rw[Qa,ar]
    refine C1U (n:=n) (ids:=(Qx xs i).map Cd.id) (by omega) o6 m1 (by rw[A];exact aj) (by rw[A];omega) (λu k H2 hp=>?_) (L+20) 0 Aw H1 (by omega) (by omega) ⟨.inl ⟨rfl,rfl,rfl⟩,λ_=>rfl,(λs m=>by obtain⟨_,_,_,h⟩:=m;cases h),w1,w1,Me _,λ_ _ h=>h⟩;rw[J,ae];clear J ae;obtain⟨-,r1,r2,r3,r4,r5,r6⟩:=rd7 (hp.kp _ _ m1);simp only[C4y,C4x,C4w,C4v,C4u,C2u,r1,r2,r3,r4,r5,r6];rw[b6,b6,b4,bs4];obtain⟨H3,s3,e3,Z,m3,w3,an⟩:=push hp.wf (.cells false HU [I y.y3,I y.y4,I y.y5,I y.y6]) (by simp);rw[<-Z,<-e3];have az:Lm (kdM i y):=by
     unfold kdM;split
     ·unfold Lm;omega
     ·exact o0
    have a7:YA H3 (some (y.y3,y.y4,y.y5,y.y6)) (.sl 4 s3 0 1):=λC kp=>⟨true,Xd (D:=depth-1) (q':=false) (kp _ _ m3) rfl (KS (λz:Int=>Value.int .i64 z) [y.y3,y.y4,y.y5,y.y6])⟩
    have a6:PL H3 (wJ ((Qx xs i).map Cd.id) y.y6 3) u:=.inr (hp.sl.kp λs q _ m=>(an _ _ m).1);have h3:=h1.grow w3 λs q m=>(an _ _ (hp.kp s q m)).1;have bd:=A5j (ids:=(Qx xs i).map Cd.id) (y6:=y.y6) 3;clear r1 r2 r3 r4 r5 r6 e3 Z m3 h1;have ax:∀s∈wJ ((Qx xs i).map Cd.id) y.y6 3,s.length=32:=λs m=>by
     obtain⟨c,_,rfl⟩:=Mj.1 (A5i _ s m);exact U? c
    refine sI (n:=n+20) (y:=some (y.y3,y.y4,y.y5,y.y6)) hL w3 az o1 o2 o3 o4 o5 o1 o2 o3 o4 o5 o6 a7 ⟨o3,o4,o5,o6⟩ a6 (by omega) ax ?_;show∀v C,B0 C Av 1 v (cM i y ((Qx xs i).map Cd.id)).ps.length (AG (cM i y ((Qx xs i).map Cd.id)).ps)->((cM i y ((Qx xs i).map Cd.id)).ps=[]->v=Aw)->Wf C->(∀s q,Aj H3 s=some q->Aj C s=some q)->(∀s,A8 v s->As H3<=s)->_;intro v H4 sv nv w4 ao P;have N:(cM i y ((Qx xs i).map Cd.id)).Ok:=B69;have ec:cdM (kdM i y) y.y1 y.y2 y.y3 y.y4 y.y5 y.y1 y.y2 y.y3 y.y4 y.y5 y.y6 (some (y.y3,y.y4,y.y5,y.y6)) (wJ ((Qx xs i).map Cd.id) y.y6 3)=cM i y ((Qx xs i).map Cd.id):=rfl;rw[ec];generalize cM i y ((Qx xs i).map Cd.id)=c at sv nv N O⊢;have h4:=h3.grow w4 ao;have hd:∀s,A8 v s->¬A8 lv s/\¬A8 iv s:=λs m=>⟨λe=>by have:=h3.ltl e;have:=P s m;omega,λe=>by have:=h3.lti e;have:=P s m;omega⟩
    obtain⟨X,e5,m5,w5,V⟩:=Il (e:=Ad) (zs:=CJ) (vs:=c.csP v) w4 (OC c);rw[B3 (cs:=CJ) rfl,Ch (cs:=CJ) (vs:=c.csP v) (Az (by simp)) (OC c) rfl (qI c (B0.one sv)),<-e5];have h5:=h4.grow w5 λs q m=>(V s q m).1;have aq:=B0.kp sv λs q _ m=>(V s q m).1;generalize As H4=r at m5;have lc:∀{K},AD Ae (.ptr r 0 0) X K=K (.agg (c.csP v)):=λ{K}=>Bv rfl (by exact(OC c).symm) m5;clear e5 V h4 h3 sv ao P m5;have ah:((Qx xs i).map Cd.id).length<1000:=by rw[A];omega
    have a3:([]:Ha)∉(Qx xs i).map Cd.id:=λe=>by
     obtain⟨d,_,hd⟩:=Mj.1 e;exact uW d hd
    have af:∀{s:Ha}{K},Ao (r! L (n+64)) T3 [iv,S s] X K=K (lR s ((Qx xs i).map Cd.id) 0):=λ{s K}=>by
     have ap:=h5.si;rw[M,<-A]at ap;have ba:(Qx xs i).map Cd.id=[]->iv=Aw:=λe=>h5.ni (by
      have:g.length=0:=by rw[<-A,e];rfl
      exact gL this)
     obtain⟨q,hq⟩:=hJ (D:=depth-1) (b:=true) ap ba;exact AR (B5B (L:=L) (n:=n+63) (s:=s) (Lt ((Qx xs i).map Cd.id)) ah (by omega)) (An hq (An (q:=false) C7 AK))
    obtain⟨qc,ai⟩:=T? (D:=depth-2) aq nv;by_cases F:c.ps.Nodup
    ·have Q:∀{K},Ao (r! L (n+64)) GW [.agg (c.csP v)] X K=K (S c.id):=λ{K}=>AR (A4o (n:=n) hL N F) (An (L2 (D:=depth-1) ai) AK);rw[lc,Q,af];by_cases hm:c.id∈(Qx xs i).map Cd.id
     ·obtain⟨k,hk, -, -,e⟩:=gY _ 0 hm;rw[C5 λhc=>hc.2 hm]at O;rw[e,F5,F4,Zj,HX (uW c),Bool.not_false];simp only[gT,Cb,ntT,Tt];rw[Bh];exact B g lv iv _ _ _ _ X (by rw[O];exact M) h5
     ·rw[Dl ⟨F,hm⟩]at O;obtain⟨t,H6,p,H7,b1,b2,b3⟩:=h5.add aq nv hd (by omega);rw[gZ _ 0 hm,F5,F4,Zj,HX (uW c),Bool.not_false];simp only[gT,Cb,ntF,Tt];rw[Cr,lc,b1,b2];exact B (g++[(c,v)]) t p _ _ _ _ H7 (by rw[O,Za,M];rfl) b3
    ·have Q:∀{K},Ao (r! L (n+64)) GW [.agg (c.csP v)] X K=K (S []):=λ{K}=>AR (B58 (n:=n) hL N F) (An (L2 (D:=depth-1) ai) AK);rw[C5 λhc=>F hc.1]at O;rw[lc,Q,af,gZ _ 0 a3,F5,F4,Zj,Hj rfl,Bool.not_true];simp only[ZC,Cb,Sf];rw[Bh];exact B g lv iv _ _ _ _ X (by rw[O];exact M) h5
   have e2:(AV.v (.int .i64 2))=I ((2:Nat):Int):=rfl;rw[e2];by_cases ag:i<2
   ·have a5:∀{H K},Ao (r! L (n+64)) LY [I (y.y0.tdiv 3),.v (.int .i64 4)] H K=K (I (pk (y.y0.tdiv 3) 4)):=λ{H K}=>A0Z (n:=n+63) (NG o0 (by decide)) (by decide) (by decide) H K;rw[FV (by omega)];simp only[gT,Cb,C2v,Y,mU o0 (show(1:Int)<=3 by decide),a5,Eo,Tt];by_cases h0:0<pk (y.y0.tdiv 3) 4
    ·rw[Hj h0,Cr];have e:kdM i y=0:=Dl ⟨ag,h0⟩;rw[e]at j;exact j
    ·rw[HX h0,Bh];have e:kdM i y=y.y0:=C5 λhc=>h0 hc.2;rw[e]at j;exact j
   ·rw[FT (by omega)];simp only[ZC,Cb,gU,Sf];rw[Bh];have e:kdM i y=y.y0:=C5 λhc=>ag hc.1;rw[e]at j;exact j
  ·have:i=min 8 xs.length:=by omega
   subst this;by_cases h8:xs.length<=8
   ·rw[FT (by omega)];simp only[ZC,Cb,Sf];rw[Bh];exact w g lv iv H M hh
   ·rw[FV (by omega)];simp only[gT,Cb];rw[FT (by omega),Cb,Tt,Bh];exact w g lv iv H M hh
def A9H(m:40000<L)(r:XA xs a0)(f:∀y∈xs,y.Ok):CT (r! L (n+65)) WI [a0] (pA (Qx xs (min 8 xs.length))):=by
 intro K k;rw[sS];unfold VR A3;simp only[BJ];refine C26 m r f (λg lv iv H q e=>?_) (L+20) 0 [] Aw Aw [] _ _ _ _ (by omega) (by omega) rfl ⟨⟨(λp i=>by cases i),(λp i=>by cases i)⟩,.inl ⟨rfl,rfl,rfl⟩,λ_=>rfl,.inl ⟨rfl,rfl,rfl⟩,λ_=>rfl,(λs j=>by obtain⟨_,_,_,h⟩:=j;cases h),(λs j=>by obtain⟨_,_,_,h⟩:=j;cases h),Fl⟩;refine k _ _ ?_;rw[<-q];exact B9y (D:=depth-2) e.gv e.sl e.nl
end
end
section
variable{L n:Nat}
section
variable{K:KV}{x:Af}{gs:ed}{a w o sm:AV}{H:Hp}{ws:List Int}
end
end
section
variable{L n:Nat}
section
variable{K:KV}{x:Af}{H:Hp}{l:List AN}{p:AN}{a:AV}
end
section
variable{K:KV}{x:Af}{H:Hp}{il al sl cp:List AN}{idk:AN}{k r rc:Nat}{less:ed}{v:AV}{R:Rt}
end
end
section
variable{L n:Nat}
section
variable{α:Type}{f:α->Is}{w:Nat}
def A5D(b:∀x,(f x).length=w):∀l:List α,(l.flatMap f).length=l.length*w:=by
 intro l
 induction l with
 |nil=>simp
 |cons a l ih=>rw[qB,EC,b,ih,LV,Z'];omega
end
section
variable{gs less:ed}{H:Hp}{K:K2}{D:Nat}
def C00{r m i:Nat}(h:i<m):Ds Ay (.sl 68 r 0 m) (I (i:Int)) K=K (.ptr r (i*68) 0):=by
 have a:Ds Ay (.sl 68 r 0 m) (I (i:Int)) K=iN (i:Int) λn=>ck (Nat.blt n m) (fN (Nat.add 0 (Nat.mul n 68)) λp=>K (.ptr r p 0)):=rfl;rw[a,Ju,Dy];have h1:Nat.blt i m=true:=by rw[Wr];exact h
 have b:Nat.add 0 (Nat.mul i 68)=i*68:=Jt _;rw[h1,b];rfl
end
section
variable{gs:ed}{k:Nat}
end
end
section
variable{L n:Nat}
section
variable{gs:ed}{s:Ha}
def B4K(h:(gs.map Cd.id).Nodup){i:Nat}(b:i<gs.length):Mu (gr gs) gs[i].id=some (cE gs[i]):=by
 induction gs generalizing i with
 |nil=>simp at b
 |cons c gs ih=>
  rw[Xa,List.nodup_cons]at h;show Mu ((c.id,cE c)::gr gs) _=_;unfold Mu;cases i with
  |zero=>rw[List.getElem_cons_zero,Dl rfl]
  |succ i=>
   rw[List.getElem_cons_succ];have a:i<gs.length:=by simpa using b
   rw[C5 (λe=>h.1 (Mj.2 ⟨_,PD a,e.symm⟩))];exact ih h.2 a
end
end
section
variable{L n:Nat}
section
variable{gs:ed}{f:AN->Bool}{s x y:AN}
def J!(h:(gs.map Cd.id).Nodup){i:Nat}(d:i<gs.length):Sg gs gs[i].id=gs[i].ps:=by
 have h1:=B4K h d;rw[B9I]at h1;unfold Sg;cases b:Mu (gE gs) gs[i].id with
 |none=>rw[b]at h1;cases h1
 |some c=>
  rw[b]at h1;simp only[yN,l0z]at h1;exact congrArg Ce.ps h1
end
section
variable{K:KV}{x:Af}{H:Hp}{gs:ed}{a w:AV}{i:Nat}{R:Rt}
end
section
variable{K:KV}{l:List AN}
end
end
section
variable{a b:List AN}
section
variable{gs:ed}{out l:List AN}{x y p m:AN}
def C0l(gs:ed)(out:List AN)(x:AN):Bool:=decide (x∉out)&&(Sg gs x).all λp=>decide (p∉gs.map Cd.id)||decide (p∈out)
def B1J:C0l gs out x=true↔x∉out/\∀p∈Sg gs x,p∈gs.map Cd.id->p∈out:=by
 unfold C0l;rw[K0,decide_eq_true_eq,GE];refine and_congr Iff.rfl ⟨λh p d c=>?_,λh p d=>?_⟩
 ·have:=h p d;rw[l1i,decide_eq_true_eq,decide_eq_true_eq]at this;exact this.resolve_left λh=>h c
 ·rw[l1i,decide_eq_true_eq,decide_eq_true_eq];by_cases c:p∈gs.map Cd.id
  ·exact .inr (h p d c)
  ·exact .inl c
def kN(gs:ed)(out:List AN):List AN:=(gs.map Cd.id).filter (C0l gs out)
def VN:x∈kN gs out↔x∈gs.map Cd.id/\x∉out/\∀p∈Sg gs x,p∈gs.map Cd.id->p∈out:=by
 rw[kN,N_,B1J]
def kV(gs:ed):Nat->List AN->List AN
 |0,out=>out
 |n+1,out=>match DW (kN gs out) with
  |[]=>out
  |m::_=>kV gs n (out++[m])
def UW(gs:ed):List AN:=kV gs gs.length []
structure OrdK(gs:ed)(out:List AN):Prop where
 nd:out.Nodup
 ids:∀x∈out,x∈gs.map Cd.id
 pr:∀a x b,out=a++x::b->∀p∈Sg gs x,p∈gs.map Cd.id->p∈a
def OrdK.nil:OrdK gs []:=⟨List.nodup_nil,by simp,λa x b h=>by cases a<;>cases h⟩
def OrdK.step(h:OrdK gs out)(hm:m∈kN gs out):OrdK gs (out++[m]):=by
 obtain⟨h1,h2,q⟩:=VN.1 hm;refine⟨l38.2 ⟨h.nd,by simp,λa r c hc=>by simp at hc;subst hc;exact λe=>h2 (e▸r)⟩,λx d=>?_,λa x b e p k j=>?_⟩
 ·rcases Yn.1 d with d|d
  ·exact h.ids x d
  ·rw[Tx]at d;subst d;exact h1
 ·rcases List.eq_nil_or_concat b with rfl|⟨g,z,rfl⟩
  ·have:=List.append_inj' e rfl;obtain⟨f,i⟩:=this;cases i
   subst f;exact q p k j
  ·have n:out++[m]=(a++x::g)++[z]:=by rw[e];simp
   obtain⟨f,i⟩:=List.append_inj' n rfl;exact h.pr a x g f p k j
def VP{α:Type}:∀{l1 l2:List α},l1.Nodup->(∀x∈l1,x∈l2)->l1.length<=l2.length:=by
 intro l1
 induction l1 with
 |nil=>intro _ _ _;exact Y_ _
 |cons a l ih=>
  intro l2 hn c;rw[List.nodup_cons]at hn;have e:a∈l2:=c a (by simp);obtain⟨u,v,rfl⟩:=List.append_of_mem e;have:=ih (l2:=u++v) hn.2 λx d=>by
   have h1:=c x (by simp[d]);rw[Yn,Tz]at h1;rw[Yn];rcases h1 with h1|h1|h1
   ·exact .inl h1
   ·subst h1;exact absurd d hn.1
   ·exact .inr h1
  simp at this⊢;omega
def OrdK.len(h:OrdK gs out):out.length<=gs.length:=by
 have:=VP h.nd h.ids;rw[Qa]at this;exact this
def OrdK.all(h:OrdK gs out)(e:gs.length<=out.length)(d:x∈gs.map Cd.id):x∈out:=by
 apply l39;intro hn;have:=VP (l1:=x::out) (l2:=gs.map Cd.id) (List.nodup_cons.2 ⟨hn,h.nd⟩) λy c=>by
  rcases Tz.1 c with rfl|c
  ·exact d
  ·exact h.ids y c
 rw[Qa,LV]at this;omega
def A0K(h:OrdK gs out)(c:gs.length<=out.length):kN gs out=[]:=by
 rw[List.eq_nil_iff_forall_not_mem];intro x d;obtain⟨h1,h2,_⟩:=VN.1 d;exact h2 (h.all c h1)
def B08:∀(n:Nat)(out:List AN),OrdK gs out->gs.length<=out.length+n->OrdK gs (kV gs n out)/\kN gs (kV gs n out)=[]:=by
 intro n
 induction n with
 |zero=>intro out h c;exact⟨h,A0K h c⟩
 |succ n ih=>
  intro out h c;unfold kV;cases d:DW (kN gs out) with
  |nil=>
   refine⟨h,?_⟩;have:=(Bg (kN gs out)).length_eq;rw[d]at this;exact gL this.symm
  |cons m l=>
   have hm:m∈kN gs out:=(Bg _).mem_iff.1 (by rw[d];simp);exact ih (out++[m]) (h.step hm) (by rw[EC,List.length_singleton];omega)
def NU:OrdK gs (UW gs)/\kN gs (UW gs)=[]:=B08 gs.length [] OrdK.nil (by simp)
def OrdK.before(h:OrdK gs out)(e:out=a++x::b)(c:Anc gs x y):y∈a:=by
 induction c with
 |one h1 h2=>exact h.pr a x b e _ h2 h1
 |more _ h1 h2 ih=>
  obtain⟨u,v,rfl⟩:=List.append_of_mem ih;have:=h.pr u _ (v++x::b) (by rw[e];simp) _ h2 h1;exact List.mem_append_left _ this
def OrdK.acyc(h:OrdK gs out)(d:x∈out):¬Anc gs x x:=by
 intro c;obtain⟨a,b,rfl⟩:=List.append_of_mem d;have:=h.before rfl c;have hn:=h.nd;rw[l38]at hn;exact hn.2.2 x this x (by simp) rfl
def A7F(h:Anc gs x p)(hq:Anc gs p y):Anc gs x y:=by
 induction hq with
 |one h1 h2=>exact .more h h1 h2
 |more _ h1 h2 ih=>exact .more ih h1 h2
open Classical in
def B5e(c:¬Anc gs p p)(h:Anc gs x p):(B5f gs p).length<(B5f gs x).length:=by
 unfold B5f;rw[(Bg _).length_eq,(Bg _).length_eq];refine yZ (λa _ hq=>?_) h.ids (Hj h) (HX c);rw[decide_eq_true_eq]at hq⊢;exact A7F h hq
def OrdK.full(h:OrdK gs out)(hr:kN gs out=[])(c:∀x∈gs.map Cd.id,¬Anc gs x x):∀(n:Nat)(x:AN),(B5f gs x).length<n->x∈gs.map Cd.id->x∈out:=by
 intro n
 induction n with
 |zero=>intro x h;omega
 |succ n ih=>
  intro x i g;apply l39;intro hn;have h1:x∉kN gs out:=by rw[hr];simp
  refine h1 (VN.2 ⟨g,hn,λp f d=>?_⟩);have e:Anc gs x p:=.one d f;have:=B5e (c p d) e;exact ih p (by omega) d
def B07(hn:(gs.map Cd.id).Nodup):gs.length<=(UW gs).length↔∀x∈gs.map Cd.id,¬Anc gs x x:=by
 obtain⟨h1,h2⟩:=NU (gs:=gs);constructor
 ·intro d x c;exact h1.acyc (h1.all d c)
 ·intro h;have:=VP hn λx c=>h1.full h2 h _ x (Nat.lt_succ_self _) c;rw[Qa]at this;exact this
def Ej(gs:ed):List AN:=DW ((gs.map Cd.id).filter λx=>decide (∀c∈gs,x∉c.ps))
def PI:x∈Ej gs↔x∈gs.map Cd.id/\∀c∈gs,x∉c.ps:=by
 rw[Ej,(Bg _).mem_iff,N_,decide_eq_true_eq]
def tZ(h:(gs.map Cd.id).Nodup):(Ej gs).Nodup:=(Bg _).symm.nodup (h.sublist List.filter_sublist)
def yS:(Ej gs).length<=gs.length:=by
 rw[Ej,(Bg _).length_eq];have:=l32 (λx=>decide (∀c∈gs,x∉Cd.ps c)) (gs.map Cd.id);rw[Qa]at this;exact this
def OrdK.after(h:OrdK gs out)(e:out=a++x::b)(c:y∈out)(d:x∈Sg gs y)(f:x∈gs.map Cd.id):y∈b:=by
 have hn:=h.nd;rw[e,l38,List.nodup_cons]at hn;rw[e,Yn,Tz]at c;rcases c with c|c|c
 ·obtain⟨u,v,rfl⟩:=List.append_of_mem c;have:=h.pr u y (v++x::b) (by rw[e];simp) x d f;exact absurd rfl (hn.2.2 x (List.mem_append_left _ this) x (by simp))
 ·subst c;have:=h.pr a y b e y d f;exact absurd rfl (hn.2.2 y this y (by simp))
 ·exact c
def OrdK.covered(s:(gs.map Cd.id).Nodup)(h:OrdK gs out)(d:∀x∈gs.map Cd.id,x∈out):∀(n:Nat)(x:AN)(a b:List AN),b.length<n->out=a++x::b->x∈Ej gs\/∃z∈Ej gs,Anc gs z x:=by
 intro n
 induction n with
 |zero=>intro x a b h;omega
 |succ n ih=>
  intro x a b t e;have f:x∈gs.map Cd.id:=h.ids x (by rw[e];simp);by_cases k:∀c∈gs,x∉c.ps
  ·exact .inl (PI.2 ⟨f,k⟩)
  ·right;simp only[Classical.not_forall,Classical.not_not]at k;obtain⟨c,hc,j⟩:=k;obtain⟨i,q,rfl⟩:=List.getElem_of_mem hc;have r:x∈Sg gs gs[i].id:=by rw[J! s q];exact j
   have g:gs[i].id∈gs.map Cd.id:=Mj.2 ⟨_,hc,rfl⟩;have hb:=h.after e (d _ g) r f;obtain⟨u,v,rfl⟩:=List.append_of_mem hb;rcases ih gs[i].id (a++x::u) v (by simp at t;omega) (by rw[e];simp) with h1|⟨z,h1,h2⟩
   ·exact⟨_,h1,.one f r⟩
   ·exact⟨z,h1,.more h2 f r⟩
end
end
section
variable{v:AV}{PP:Af->Prop}{q:Bool}{D i r:Nat}
variable{L n:Nat}
section
variable{l:List AN}{m a b:AN}{x:Af}{K:KV}{H:Hp}
def C38{K:K2}:eMM true (S a) (S b) K=K (S (if a<=b then a else b)):=by
 have e:eMM true (S a) (S b) K=@Bool.rec (λ_=>Af) (K (S b)) (K (S a)) (ltB a b||eqB a b):=rfl;rw[e,M?,QK,bytesLess_eq];by_cases h:a<=b
 ·have h1:(decide (a<b)||a==b)=true:=by
   by_cases h2:a<b
   ·simp[h2]
   ·have:=rT h h2;simp[this]
  rw[Dl h,h1]
 ·have h1:(decide (a<b)||a==b)=false:=by
   have h2:¬a<b:=λh2=>h ((No a b).elim id λc=>absurd h2 c);have c:a≠b:=λe=>h (e▸((No a a).elim id id));simp[h2,c]
  rw[C5 h,h1]
def B9c{g:KV}(hm:m∈l)(e:∀y∈l,m<=y)(hb:l.length<1000000)(j:g (S m) H=x):∀(f i:Nat)(cur:AN),i<=l.length->l.length-i<f->cur∈l->(∀y∈l.take i,cur<=y)->
 GN (L+20) (rt (L+20) n) K g f (Ls l) (S cur) (I i) H=x:=by
 intro f
 induction f with
 |zero=>intro i cur _ h;omega
 |succ f ih=>
  intro i cur p k hc d;rw[NH];unfold GO HR A3;rw[MN];by_cases h:i<l.length
  ·rw[FV (by omega),Cr,XA7 h,LD,C38,Dd (by omega)];refine ih (i+1) _ (by omega) (by omega) ?_ λy c=>?_
   ·split
    ·exact hc
    ·exact PD h
   ·rw[lO h,Yn,Tx]at c;split
    ·rename_i h1;rcases c with c|rfl
     ·exact d y c
     ·exact h1
    ·rename_i h1;have h2:l[i]<=cur:=(No cur l[i]).elim (λh=>absurd h h1) id;rcases c with c|rfl
     ·exact jX h2 (d y c)
     ·exact(No _ _).elim id id
  ·have:i=l.length:=by omega
   subst this;rw[vO]at d;rw[FT (by omega),Bh];have:cur=m:=rT (d m hm) (e cur hc);rw[this];exact j
def C14(hm:m∈l)(d:∀y∈l,m<=y)(hb:l.length<1000000)(j:l.length<L):CS (rt (L+20) (n+1)) HK [Ls l] (S m):=by
 intro K h;rw[ON];unfold HC A3;have c:0<l.length:=List.length_pos_of_mem hm;simp only[BJ];have ls:∀{K:K2},Ap Ab .lss (I (l.length:Int)) (AV.v (.int .i64 1)) K=K (Bo false):=λ{K}=>FT (by omega);have f:(AV.v (.int .i64 0))=I ((0:Nat):Int):=rfl;have g:(AV.v (.int .i64 1))=I ((1:Nat):Int):=rfl;rw[MN,ls,Bh,f,XA7 c,LD,g];refine B9c (n:=n) hm d hb (h _ _ λb=>⟨false,C7⟩) (L+20) 1 _ (by omega) (by omega) (PD c) λy e=>?_;rw[show 1=0+1 from rfl,lO c,List.take_zero,l3d,Tx]at e;subst e;exact(No _ _).elim id id
end
section
variable{l:List AN}{x:Af}{K:KV}{H:Hp}{fn:AV}{P:AN->Bool}{R:Rt}
def fiN(P:AN->Bool):List AN->Nat->Int
 |[],_=> -1
 |a::l,i=>if P a=true then(i:Int) else fiN P l (i+1)
def B0S{a:AN}:fiN P (a::l) i=if P a=true then(i:Int) else fiN P l (i+1):=rfl
def B9t{d:Ru}{a:AV}(e:SA l a)(g:∀(s:AN)(K:KV),Ct (E (L+20)) R fn [S s] H K=K (Bo (P s)) H)(hb:l.length<1000000)(k:∀v,v=fiN P l 0->K (I v) H=x)(p:fiN P l 0= -1->d H=x):
 ∀(f i:Nat),i<=l.length->l.length-i<f->fiN P (l.drop i) i=fiN P l 0->
 DH (L+20) R K d f a fn (I l.length) (I i) H=x:=by
 intro f
 induction f with
 |zero=>intro i _ h;omega
 |succ f ih=>
  intro i t j he;rw[Hv];unfold DI HR A3;by_cases h:i<l.length
  ·rw[FV (by omega),Cr,e.ia h,LD,g];rw[vM h]at he;rw[B0S]at he;cases c:P l[i] with
   |true=>
    rw[c,Dl rfl]at he;rw[Cr];exact k _ he
   |false=>
    rw[c,C5 (by simp)]at he;rw[Bh,Dd (by omega)];exact ih (i+1) (by omega) (by omega) he
  ·have:i=l.length:=by omega
   subst this;rw[List.drop_length]at he;rw[FT (by omega),Bh];exact p he.symm
def B5t{a:AV}(c:SA l a)(g:∀(s:AN)(K:KV),Ct (E (L+20)) (rt (L+20) n) fn [S s] [] K=K (Bo (P s)) [])(hb:l.length<1000000)(h:l.length<L):CS (rt (L+20) (n+1)) DR [a,fn] (I (fiN P l 0)):=by
 intro K f;rw[HW];unfold DQ A3;simp only[BJ];have d:(AV.v (.int .i64 0))=I ((0:Nat):Int):=rfl;rw[c.len,d];have fin:∀v H,v=fiN P l 0->K (I v) H=some (I (fiN P l 0),[]):=λv H e=>by
  rw[e];exact f _ _ λb=>⟨false,C7⟩
 refine B9t (R:=rt (L+20) n) c g hb (λv e=>fin v _ e) (λe=>fin (-1) _ e.symm) (L+20) 0 (by omega) (by omega) (by rw[pE])
def Nn(H:Hp)(v:AV)(l:List AN):Prop:=(v=Aw/\l=[])\/∃r q c,v=.sl 1 r 0 l.length/\Aj H r=some (.cells q Av (AG l++c))
def Nn.len(h:Nn H v l){K:K2}:Bm Ac v K=K (I l.length):=by
 rcases h with⟨rfl,rfl⟩|⟨r,q,c,rfl,_⟩<;>exact r_ rfl
def Nn.kp{H':Hp}(h:Nn H v l)(k:∀u y,A8 v u->Aj H u=some y->Aj H' u=some y):Nn H' v l:=by
 rcases h with h|⟨r,q,c,h1,h2⟩
 ·exact .inl h
 ·exact .inr ⟨r,q,c,h1,k r _ ⟨1,0,_,h1⟩ h2⟩
theorem Nn.lt(h:Nn H v l)(w:Wf H){u:Nat}(d:A8 v u):u<As H:=by
 obtain⟨a,b,c,rfl⟩:=d;rcases h with⟨h,_⟩|⟨r,q,e,h1,h2⟩
 ·cases h
 ·injection h1 with _ h1;subst h1;exact w.lt h2
def Vj{b:Bool}:∀l:List AN,R5 b D (AG l) (AG l) H false:=by
 intro l
 induction l with
 |nil=>exact AK
 |cons s l ih=>exact An (q:=false) C7 ih
def Nn.fx(h:Nn H v l):∃a q,SA l a/\Fx true (D+1) v a H q:=by
 rcases h with⟨rfl,rfl⟩|⟨r,q,c,rfl,h2⟩
 ·exact⟨Aw,false,.inr ⟨rfl,rfl⟩,C7⟩
 ·refine⟨Ls l,true,.inl rfl,Wx (q':=false) h2 (by rw[EC,AZ];omega) ?_⟩;have:((AG l++c).drop 0).take (l.length*1)=AG l:=by
   rw[pE,pZ];have:=List.take_left (l₁:=AG l) (l₂:=c);rw[AZ]at this;exact this
  rw[this];exact Vj l
def Zg{m i:Nat}(h:i<=m){K:K2}:C8 Ac (.sl 1 r 0 m) (some (I (i:Int))) none none K=K (.sl 1 r i (m-i)):=by
 have e:C8 Ac (.sl 1 r 0 m) (some (I (i:Int))) none none K=ck (Nat.beq 1 1) (iN (i:Int) λl=>fN m λh=>fN m λx=>ck ((true||false)&&(Nat.ble l h&&(Nat.ble h x&&Nat.ble x m))) (fN (Nat.add 0 (Nat.mul l 1)) λd=>fN (Nat.sub h l) λn=>K (.sl 1 r d n))):=rfl;rw[e,Ju,Dy,Dy];have c:((true||false)&&(Nat.ble i m&&(Nat.ble m m&&Nat.ble m m)))=true:=by simp;omega
 rw[c];show fN (Nat.add 0 (Nat.mul i 1)) (λd=>fN (Nat.sub m i) λn=>K (.sl 1 r d n))=_;rw[Dy,Dy];have f:Nat.add 0 (Nat.mul i 1)=i:=by show 0+i*1=i;omega
 rw[f];rfl
def Zh{m i:Nat}(h:i<=m){K:K2}:C8 Ac (.sl 1 r 0 m) none (some (I (i:Int))) none K=K (.sl 1 r 0 i):=by
 have e:C8 Ac (.sl 1 r 0 m) none (some (I (i:Int))) none K=ck (Nat.beq 1 1) (fN 0 λl=>iN (i:Int) λh=>fN m λx=>ck ((true||true)&&(Nat.ble l h&&(Nat.ble h x&&Nat.ble x m))) (fN (Nat.add 0 (Nat.mul l 1)) λd=>fN (Nat.sub h l) λn=>K (.sl 1 r d n))):=rfl;rw[e,Dy,Ju,Dy];have c:((true||true)&&(Nat.ble 0 i&&(Nat.ble i m&&Nat.ble m m)))=true:=by simp;omega
 rw[c];show fN (Nat.add 0 (Nat.mul 0 1)) (λd=>fN (Nat.sub i 0) λn=>K (.sl 1 r d n))=_;rw[Dy,Dy];rfl
def B1u{r i m:Nat}{cs:Is}(e:Aj H r=some (.cells q Av cs))(h:i+m<=cs.length):∃c d,(∀K:Ru,uN 1 Ak (.sl 1 r i m) H K=K d)/\Aj d r=some (.cells q Av c)/\c.take i=cs.take i/\Lat H d (λu=>u=r):=by
 cases m with
 |zero=>exact⟨cs,H,λK=>rfl,e,rfl,Lat.refl _ _⟩
 |succ m=>
  refine⟨splice cs i (List.replicate (m+1) (S [])),upd H r (.cells q Av (splice cs i (List.replicate (m+1) (S [])))),λK=>?_,AC e,?_,Lat.upd _ _ _ rfl⟩
  ·have f:uN 1 Ak (.sl 1 r i (m+1)) H K=GX Ak.zero λz=>G6 z 0 λk=>ck (Nat.beq k 1&&(Nat.beq 1 1&&N0 z)) (Yt (m+1) z λg=>I6 H r λx=>fD x λq E cs=>Er i g cs λc=>Ll H r (.cells q E c) K):=rfl;have hz:Bw Ak.zero=[S []]:=rfl;rw[f,CK,hz,Cl];show Yt (m+1) [S []] _=_;rw[yU,AX e];show Er i (List.replicate (m+1) (S [])) cs _=_;rw[Iq _ _ _ _ (by rw[List.length_replicate];omega),Dh]
  ·unfold splice;rw[ZL,l34 (by rw[vN];omega),List.take_take,Nat.min_self]
def A1y(P:AN->Bool):∀(l:List AN)(k:Nat),(fiN P l k= -1/\∀a∈l,P a=false)\/∃(i:Nat)(h:i<l.length),fiN P l k=((k+i:Nat):Int)/\P l[i]=true/\∀a∈l.take i,P a=false:=by
 intro l
 induction l with
 |nil=>intro k;exact .inl ⟨rfl,by simp⟩
 |cons a l ih=>
  intro k;unfold fiN;cases c:P a with
  |true=>
   rw[Dl rfl];exact .inr ⟨0,by simp,by simp,c,by simp⟩
  |false=>
   rw[C5 (by simp)];rcases ih (k+1) with⟨h1,h2⟩|⟨i,h,h1,h2,d⟩
   ·refine .inl ⟨h1,λb hb=>?_⟩;rcases Tz.1 hb with rfl|hb
    ·exact c
    ·exact h2 b hb
   ·refine .inr ⟨i+1,by simp;omega,by rw[h1];congr 1;omega,h2,λb hb=>?_⟩;rw[List.take_succ_cons]at hb;rcases Tz.1 hb with rfl|hb
    ·exact c
    ·exact d b hb
def C06{k12:AV->KV}{H0:Hp}{tl:Is}(hb:l.length<1000000)(w0:Wf H0)(O:∀H',Lat H0 H' (λu=>u=r)->∀(s:AN)(K:KV),Ct (E (L+20)) R fn [S s] H' K=K (Bo (P s)) H')(e:∀cs H',Aj H' r=some (.cells q Av cs)->cs.length=l.length+tl.length->cs.take (l.filter λs=>!P s).length=AG (l.filter λs=>!P s)->Lat H0 H' (λu=>u=r)->PP (k12 (.sl 1 r 0 l.length) (I (l.filter λs=>!P s).length) H')):
 ∀(f j:Nat)(cs:Is)(H':Hp),j<=l.length->l.length-j<f->Aj H' r=some (.cells q Av cs)->cs.length=l.length+tl.length->cs.take ((l.take j).filter λs=>!P s).length=AG ((l.take j).filter λs=>!P s)->cs.drop j=AG (l.drop j)++tl->Lat H0 H' (λu=>u=r)->((l.take j).filter λs=>!P s).length<j->
 PP (XA0 (L+20) R K k12 f (.sl 1 r 0 l.length) fn (I ((l.take j).filter λs=>!P s).length) (I j) H'):=by
 intro f
 induction f with
 |zero=>intro j cs H' _ h;omega
 |succ f ih=>
  intro j cs H' Y Q g c w N t X;rw[Lg];unfold ER HR A3;have M:∀K,Bm Ac (.sl 1 r 0 l.length) K=K (I l.length):=λK=>id rfl;rw[M];by_cases h:j<l.length
  ·have hc:j<cs.length:=by omega
   have k:=N;rw[vM hc,vM h]at k;injection k with k B
   have y:∀{K:K2},AD Ak (.ptr r j 0) H' K=K (S l[j]):=λ{K}=>by
    rw[AQ (p:=j) rfl g hc,Vf,K8 hc,l1q,k]
   rw[FV (by omega),Cr];simp only[BJ];rw[Rr h,y,O H' t,Et];have F:(l.take (j+1)).filter (λs=>!P s)=(l.take j).filter (λs=>!P s)++[l[j]].filter (λs=>!P s):=by
    rw[lO h,List.filter_append]
   cases J:P l[j] with
   |true=>
    have d:(l.take (j+1)).filter (λs=>!P s)=(l.take j).filter (λs=>!P s):=by rw[F];simp[J]
    show PP (A2 (.v (.bool false)) _ _);rw[Bh,Dd (by omega)];have:=ih (j+1) cs H' (by omega) (by omega) g c (by rw[d];exact w) B t (by rw[d];omega);rw[d]at this;exact this
   |false=>
    have d:(l.take (j+1)).filter (λs=>!P s)=(l.take j).filter (λs=>!P s)++[l[j]]:=by rw[F];simp[J]
    have V:((l.take j).filter λs=>!P s).length<l.length:=by omega
    show PP (A2 (.v (.bool true)) _ _);rw[Cr,Rr V,Ei g (by omega) rfl rfl rfl,Dd (by omega),Dd (by omega)];have C:((l.take (j+1)).filter λs=>!P s).length=((l.take j).filter λs=>!P s).length+1:=by rw[d,EC];rfl
    rw[<-C];refine ih (j+1) (cs.set ((l.take j).filter λs=>!P s).length (S l[j])) _ (by omega) (by omega) (AC g) (by rw[List.length_set];exact c) ?_ ?_ (t.trans (Lat.upd _ _ _ (P:=λu=>u=r) rfl) (λ_ _ h=>h) (λ_ _ h=>h)) (by omega)
    ·have A:((l.take j).filter λs=>!P s).length<(cs.set ((l.take j).filter λs=>!P s).length (S l[j])).length:=by rw[List.length_set];omega
     rw[C,lO A,List.getElem_set_self,d,List.take_set_of_le (Me _),w];simp[AG]
    ·rw[List.drop_set_of_lt (by omega)];exact B
  ·have:j=l.length:=by omega
   subst this;rw[vO]at w⊢;rw[FT (by omega),Bh];exact e cs H' g c w t
def A8J(wf:Wf H)(h:Nn H v l)(hb:l.length<100000)(hL:200000<L)(F:∃d q,Fx true depth fn d H q/\∀(s:AN)(K:KV),Ct (E (L+20)) (rt (L+20) n) d [S s] [] K=K (Bo (P s)) [])(hf:∀c,Lat H c (A8 v)->∀(s:AN)(K:KV),Ct (E (L+20)) (rt (L+20) (n+1)) fn [S s] c K=K (Bo (P s)) c)(M:∀N c,Nn c N (l.filter λs=>!P s)->(∀u,A8 N u↔A8 v u)->Lat H c (A8 v)->PP (K N c)):PP ((rt (L+20) (n+2)).call Bk [v,fn] H K):=by
 rw[Lv];unfold XA1 A3;obtain⟨a,q,f,hq⟩:=h.fx (D:=depth-1);obtain⟨d,q',J,C⟩:=F;rw[AR (B5t (n:=n) f C (by omega) (by omega)) (An hq (An J AK))];rcases A1y P l 0 with⟨h1,h2⟩|⟨i,X,h1,h2,h3⟩
 ·have e:∀{K:K2},Ap Ab .eql (I (-1)) (AV.v (.int .i64 (-1))) K=K (Bo true):=λ{K}=>by rw[CQ,Hj rfl]
  rw[h1,e,Cr];have e2:l.filter (λs=>!P s)=l:=List.filter_eq_self.2 λa f=>by rw[h2 a f];rfl
  rw[e2]at M;exact M v H h (λ_=>Iff.rfl) (Lat.refl _ _)
 ·rw[Jt]at h1;have e:∀{K:K2},Ap Ab .eql (I (i:Int)) (AV.v (.int .i64 (-1))) K=K (Bo false):=λ{K}=>by rw[CQ,HX (by omega)]
  rw[h1,e,Bh];simp only[BJ];rcases h with⟨_,rfl⟩|⟨r,q0,tl,rfl,hl⟩
  ·simp at X
  have j:∀u,A8 (.sl 1 r 0 l.length) u↔u=r:=λu=>⟨λ⟨_,_,_,h⟩=>by injection h with _ h;exact h.symm,λh=>h▸⟨1,0,_,rfl⟩⟩
  have lat:∀{c},Lat H c (λu=>u=r)->Lat H c (A8 (.sl 1 r 0 l.length)):=λk=>⟨k.wf,k.nx,λw u y hu hn=>k.keep w u y hu λe=>hn ((j u).2 e)⟩
  have Q:(l.take (i+1)).filter (λs=>!P s)=l.take i:=by
   rw[lO X,List.filter_append];have a1:(l.take i).filter (λs=>!P s)=l.take i:=List.filter_eq_self.2 λa f=>by rw[h3 a f];rfl
   rw[a1];simp[h2]
  have V:((l.take (i+1)).filter λs=>!P s).length=i:=by rw[Q,vN];omega
  have ht:AG (l.take i)=(AG l).take i:=by simp[AG,List.map_take]
  have hd:AG (l.drop (i+1))=(AG l).drop (i+1):=by simp[AG,List.map_drop]
  rw[Dd (by omega)];have main:=C06 (L:=L) (R:=rt (L+20) (n+1)) (K:=K) (fn:=fn) (P:=P) (l:=l) (H0:=H) (r:=r) (q:=q0) (tl:=tl) (PP:=PP)
   (k12:=λp t A=>C8 Ac p (some t) none none λv7=>uN 1 Ak v7 A λZ=>C8 Ac p none (some t) none λO=>K O Z)
   (by omega) wf (λc k=>hf c (lat k)) (λcs c g1 g2 g3 g4=>?_) (L+20) (i+1) (AG l++tl) H (by omega) (by omega) hl (by rw[EC,AZ]) (by rw[V,Q,ht,l34 (by rw[AZ];omega)]) (by rw[hd,l35 (by rw[AZ];omega)]) (Lat.refl _ _) (by omega)
  ·rw[V]at main;exact main
  ·have g:(l.filter λs=>!P s).length<=l.length:=l32 _ _;obtain⟨B,Y,c1,c2,c3,c4⟩:=B1u (H:=c) (r:=r) (i:=(l.filter λs=>!P s).length) (m:=l.length-(l.filter λs=>!P s).length) g1 (by omega);show PP (C8 Ac (.sl 1 r 0 l.length) (some (I ((l.filter λs=>!P s).length:Nat))) none none _);rw[Zg g,c1,Zh g];refine M _ Y (.inr ⟨r,q0,B.drop (l.filter λs=>!P s).length,rfl,?_⟩) (λu=>⟨λ⟨_,_,_,h⟩=>?_,λ⟨_,_,_,h⟩=>?_⟩) (lat (g4.trans c4 (λ_ _ h=>h) (λ_ _ h=>h)))
   ·rw[c2,<-g3,<-c3,l3a]
   ·injection h with _ h
    exact⟨1,0,_,by rw[h]⟩
   ·injection h with _ h
    exact⟨1,0,_,by rw[h]⟩
def A8K(wf:Wf H)(h:Nn H v l)(hb:l.length<100000)(g:200000<L)(e:∃d q,Fx true depth fn d H q/\∀(s:AN)(K:KV),Ct (E (L+20)) (rt (L+20) n) d [S s] [] K=K (Bo (P s)) [])(j:∀c,Lat H c (A8 v)->∀(s:AN)(K:KV),Ct (E (L+20)) (rt (L+20) (n+1)) fn [S s] c K=K (Bo (P s)) c)(k:∀f c,Nn c f (l.filter λs=>!P s)->(∀u,A8 f u↔A8 v u)->Lat H c (A8 v)->K f c=x):(rt (L+20) (n+2)).call Bk [v,fn] H K=x:=
 A8J (PP:=λa=>a=x) wf h hb g e j k
def A8L(wf:Wf H)(h:Nn H v l)(hb:l.length<100000)(j:200000<L)(g:∃e q,Fx true depth fn e H q/\∀(s:AN)(K:KV),Ct (E (L+20)) (rt (L+20) n) e [S s] [] K=K (Bo (P s)) [])(k:∀d,Lat H d (A8 v)->∀(s:AN)(K:KV),Ct (E (L+20)) (rt (L+20) (n+1)) fn [S s] d K=K (Bo (P s)) d)(p:∀f d,Nn d f (l.filter λs=>!P s)->(∀u,A8 f u->A8 v u)->Lat H d (A8 v)->K f d=x):(rt (L+20) (n+2)).call Bk [v,fn] H K=x:=
 A8K wf h hb j g k λf d a b c=>p f d a (λu h=>(b u).1 h) c
end
end
section
variable{w:AV}{H H0:Hp}{k4:Ru}
variable{L n:Nat}
abbrev vR:=AN×AN
def OT(gs:ed):List vR:=gs.flatMap λc=>c.ps.map λp=>(c.id,p)
def vH(R:Rt)(L s0 it:Nat)(I:List vR->Hp->Prop):Prop:=∀(b:List vR)(s p:AN)(H:Hp)(K:KV)(x:Af),b.length<1000->I b H->(∀a,I (b++[(s,p)]) a->(∀y,Aj H it=some y->Aj a it=some y)->K (Bo true) a=x)->Ct (E (L+20)) R (.yl s0) [S s,S p] H K=x
def A1r{rem:ed}{a c:List (AN×Cd)}{e:AN×Cd}(h:gE rem=a++e::c):∃b cd rc,rem=b++cd::rc/\a=gE b/\e=(cd.id,cd)/\c=gE rc:=by
 obtain⟨b,j,h1,h2,d⟩:=List.map_eq_append_iff.1 h;obtain⟨cd,rc,f,g,i⟩:=List.map_eq_cons_iff.1 d;subst f;exact⟨b,cd,rc,h1,h2.symm,g.symm,i.symm⟩
section
variable{gs:ed}{K:KV}{x:Af}{s0 it:Nat}{Q:List vR->Hp->Prop}
def A1D:∀gs:ed,(∀c∈gs,c.ps.length<100)->(OT gs).length<=gs.length*100:=by
 intro gs
 induction gs with
 |nil=>intro _;simp[OT]
 |cons c gs ih=>
  intro h;have h1:=h c (by simp);have h2:=ih λd a=>h d (by simp[a]);have e:OT (c::gs)=c.ps.map (λp=>(c.id,p))++OT gs:=rfl;rw[e,EC,Qa,LV,Z'];omega
def B4Y{b:AV->AV->AV->AV->AV->KV}{j:AV}{s:AN}{ps:List AN}(hb:ps.length<100)(hr:vH (r! L (n+2)) L s0 it Q):∀(f i:Nat)(es:List vR)(H:Hp)(y:Row),i<=ps.length->ps.length-i<f->es.length+(ps.length-i)<1000->Q es H->Aj H it=some y->
 (∀d a,Q (es++(ps.drop i).map λp=>(s,p)) a->Aj a it=some y->b (.yl s0) (S s) j (DJ ps) (I ps.length) d a=x)->
 Gj (L+20) (r! L (n+2)) K b f (.yl s0) (S s) j (DJ ps) (I ps.length) (I i) H=x:=by
 intro f
 induction f with
 |zero=>intro i es H y _ h;omega
 |succ f ih=>
  intro i es H y t r hn hm k c;rw[K9];unfold Gn HR A3;by_cases h:i<ps.length
  ·rw[FV (by omega),Cr,(Lt ps).ia h,LD];rw[vM h]at c;refine hr es s ps[i] H _ x (by omega) hm λa e q=>?_;rw[Et];show A2 (.v (.bool false)) _ _=_;rw[Bh,Dd (by omega)];refine ih (i+1) (es++[(s,ps[i])]) a y (by omega) (by omega) (by rw[EC,List.length_singleton];omega) e (q y k) λd m h2 g=>c d m ?_ g;rw[Xa];rw[ZL]at h2;exact h2
  ·rw[FT (by omega),Bh];have:i=ps.length:=by omega
   subst this;rw[List.drop_length,List.map_nil,UC]at c;exact c _ H hm k
def B4Z(hw:Vw 6 w w=true)(hg:gs.length<=8)(V:∀c∈gs,c.ps.length<100)(hL:100<L)(hr:vH (r! L (n+2)) L s0 it Q)(r:∀es H m,Q es H->Wf m->(∀u y,u≠it->Aj H u=some y->Aj m u=some y)->Q es m)(A:∀es H,Q es H->Wf H)(q:∀done H,done.Perm gs->Q (OT done) H->k4 H=some (w,[])):
 ∀(f:Nat)(rem done:ed)(H:Hp)(o:Option (Value×AV))(B d1 d2 C:AV),rem.length<f->(done++rem).Perm gs->Q (OT done) H->Aj H it=some (.iter (Df DK (gE rem)) o)->
 Gk (L+20) (r! L (n+2)) K k4 f (.yl s0) B (.it it) d1 d2 C H=some (w,[]):=by
 intro f
 induction f with
 |zero=>intro rem done H o B d1 d2 C h;omega
 |succ f ih=>
  intro rem done H o B d1 d2 C hf b hm R;rw[KA];unfold Gp Em A3;refine XW (f:=DK) hw R (λe=>?_) (λa e c J=>?_)
  ·have Z:rem=[]:=by
    cases rem with
    |nil=>rfl
    |cons _ _=>cases e
   subst Z;rw[F3,Bh];rw[UC]at b;exact q done H b hm
  ·obtain⟨g,cd,rc,rfl,rfl,rfl,rfl⟩:=A1r J;have F:cd∈gs:=b.mem_iff.1 (by simp);have O:=V cd F;have e9:gE g++gE rc=gE (g++rc):=by simp[gE]
   have i:=L0 (es:=Df DK (gE g++gE rc)) (o:=some (.string ⟨⟨cd.id⟩⟩,DK cd)) R;have k:Q (OT done) (upd H it (.iter (Df DK (gE g++gE rc)) (some (.string ⟨⟨cd.id⟩⟩,DK cd)))):=r _ _ _ hm (Bq (A _ _ hm)) λu y hu P=>by rw[Ag hu];exact P
   show C9 (.tup [.v (.bool true),S cd.id,DK cd]) 0 _=_;rw[F3,Cr];simp only[BJ];show ZE (.it it) (upd H it (.iter (Df DK (gE g++gE rc)) (some (.string ⟨⟨cd.id⟩⟩,DK cd)))) _=_;rw[Nu i,F3,PT];generalize upd H it (.iter (Df DK (gE g++gE rc)) (some (.string ⟨⟨cd.id⟩⟩,DK cd)))=H1 at i k;obtain⟨Y,e2,D,w2,X⟩:=Il (e:=Ad) (zs:=CJ) (vs:=cd.cs) (A _ _ k) ED;rw[B3 (cs:=CJ) rfl,Ch (cs:=CJ) (vs:=cd.cs) (Az (by simp)) ED rfl Mq,<-e2,fA,Jt,B1M D,iL];have N:=r _ _ _ k w2 λu y _ P=>(X u y P).1;have M:=(X _ _ i).1;have e0:(AV.v (.int .i64 0))=I ((0:Nat):Int):=rfl;have t:=b.length_eq;rw[EC,EC,LV]at t;have aa:=A1D done λc hc=>V c (b.mem_iff.1 (by simp[hc]));rw[e0];refine B4Y (n:=n) O hr (L+20) 0 (OT done) Y _ (by omega) (by omega) (by omega) N M λd m j s=>?_;rw[pE]at j;have e8:OT done++cd.ps.map (λp=>(cd.id,p))=OT (done++[cd]):=by simp[OT]
   rw[e8]at j;rw[e9]at s;refine ih (g++rc) (done++[cd]) m _ _ _ _ _ (by simp at hf⊢;omega) ?_ j s;refine List.Perm.trans ?_ b;rw[ZL];refine List.Perm.append_left done ?_;show(cd::(g++rc)).Perm _;exact List.perm_middle.symm
def A4X(q:Vw 6 w w=true)(m:gs.length<=8)(p:∀c∈gs,c.ps.length<100)(j:100<L)(hr:vH (r! L (n+2)) L s0 (As H) Q)(e:∀b g d,Q b g->Wf d->(∀u y,u≠As H->Aj g u=some y->Aj d u=some y)->Q b d)(f:∀b H,Q b H->Wf H)(i:Q [] ((As H,.iter (Df DK (gE gs)) none)::H))(a:∀done H,done.Perm gs->Q (OT done) H->K (.tup []) H=some (w,[])):
 (r! L (n+3)).call Fc [.yl s0,.iptr [gV gs]] H K=some (w,[]):=by
 rw[KZ];unfold GD;have h:∀{H:Hp}{K:K2},AD Ai (.iptr [gV gs]) H K=K (gV gs):=λ{H K}=>Ni rfl;rw[h,WM];simp only[BJ];exact B4Z (n:=n) (it:=As H) q m p j hr e f (λdone H k hq=>a done H k hq) (L+20) gs [] _ none _ _ _ _ (by omega) (List.Perm.refl _) i (Az (by simp))
def A8H{K:K2}:Ao (r! L (n+1)) Fk [gV gs] H K=K (B17 gs):=by
 refine K1 (λK a=>?_) (An (q:=false) hY AK);rw[Nq];unfold IU Iu;rw[uO];exact a _ _ ⟨true,λK=>by kernel_rfl⟩
abbrev gP(gs:ed):AV:=.fn (.func Ew) [] [.iptr [gV gs]]
def B0x{r0 s e0 it:Nat}{q0:Bool}{c6 w:AV}{ks:List AN}(F:Vw 6 w w=true)(q:ks.length<1000000)(i:∀l v H,l.Perm ks->(l=[]->v=Aw)->Coll H0 r0 s q0 e0 c6 l v H->k4 H=some (w,[]))(c:it≠r0/\it≠s/\As H0<=it):
 ∀(f:Nat)(es:List (AN×Cd))(l:List AN)(v:AV)(H:Hp)(o:Option (Value×AV)),es.length<f->(l++es.map Prod.fst).Perm ks->(l=[]->v=Aw)->Coll H0 r0 s q0 e0 c6 l v H->¬A8 v it->Aj H it=some (.iter (Df DK es) o)->
 Cg (L+20) (r! L (n+1)) K k4 f (.yl s) (.it it) H=some (w,[]):=by
 intro f
 induction f with
 |zero=>intro es l v H o h;omega
 |succ f ih=>
  intro es l v H o B m A hc hv p;rw[HI];unfold CW;refine XW (f:=DK) F p (λe=>?_) (λa e b he=>?_)
  ·subst e;rw[F3,Bh];exact i l v H (by simpa using m) A hc
  ·subst he;have g:=hc.it (.iter (Df DK (a++b)) (some (.string ⟨⟨e.1⟩⟩,DK e.2))) c hv;have d:=L0 (es:=Df DK (a++b)) (o:=some (.string ⟨⟨e.1⟩⟩,DK e.2)) p;have k:(l++(a++e::b).map Prod.fst).length=ks.length:=m.length_eq;simp at k;have t:sQ (.string ⟨⟨e.1⟩⟩)=S e.1:=rfl;rw[F3,Cr,Nu d,F3,t];refine H! g (by omega) λJ r j C hr=>?_;rw[Et];show A2 (.v (.bool false)) _ _=_;rw[Bh];refine ih (a++b) (l++[e.1]) J r _ (by simp at B⊢;omega) ?_ (by simp) j (λD=>?_) (C it _ c.1 c.2.1 hv d)
   ·refine List.Perm.trans ?_ m;simp only[Za,Xa,ZL];refine List.Perm.append_left l ?_;show(e.1::(a.map Prod.fst++b.map Prod.fst)).Perm _;exact List.perm_middle.symm
   ·have u:=hr it D;have y:=g.wf.lt d;rw[BB]at u y;omega
def A2R(B:Vw 6 w w=true)(J:gs.length<=8)(F:100<L)(wf:Wf H0)(C:∀l v H,l.Perm (gs.map Cd.id)->(l=[]->v=Aw)->NewSl H0 l v H->K v H=some (w,[])):
 (r! L (n+4)).call EF [gP gs] H0 K=some (w,[]):=by
 rw[GC];unfold EE;rw[D9];unfold C4;simp only[BJ];rw[mG (by rfl),VE,HP];unfold Dc;simp only[BJ];have w1:=AJ (x:=.cells true A5 [Aw]) wf;have c:=Az (H:=H0) (x:=.cells true A5 [Aw]) (by simp);have t:As ((As H0,c_ A5 [Aw])::H0)=As H0+1:=rfl;have i:Wf ((As H0+1,NC (.ptr (As H0) 0 0) (gP gs) (some none))::(As H0,c_ A5 [Aw])::H0):=AJ (x:=NC (.ptr (As H0) 0 0) (gP gs) (some none)) w1;have e:Aj ((As H0+1,NC (.ptr (As H0) 0 0) (gP gs) (some none))::(As H0,c_ A5 [Aw])::H0) (As H0+1)=some (NC (.ptr (As H0) 0 0) (gP gs) (some none)):=Az (H:=((As H0,c_ A5 [Aw])::H0)) (x:=NC (.ptr (As H0) 0 0) (gP gs) (some none)) (by simp[NC]);have ol:∀u y,Aj H0 u=some y->Aj ((As H0+1,NC (.ptr (As H0) 0 0) (gP gs) (some none))::(As H0,c_ A5 [Aw])::H0) u=some y:=λu y a=>by
  have a1:=A7 (x:=.cells true A5 [Aw]) (wf.lt a) a;exact A7 (w1.lt a1) a1
 have k:∀{H:Hp}{K:K2},AD Ai (.iptr [gV gs]) H K=K (gV gs):=λ{H K}=>Ni rfl;rw[k,WM];have d:Aj ((As H0+1,NC (.ptr (As H0) 0 0) (gP gs) (some none))::(As H0,c_ A5 [Aw])::H0) (As H0)=some (c_ A5 [Aw]):=A7 (w1.lt c) c;show Cg (L+20) (r! L (n+1)) _ _ (L+20) (.yl (As H0+1)) (.it (As ((As H0+1,NC (.ptr (As H0) 0 0) (gP gs) (some none))::(As H0,c_ A5 [Aw])::H0))) ((As ((As H0+1,NC (.ptr (As H0) 0 0) (gP gs) (some none))::(As H0,c_ A5 [Aw])::H0),.iter (Df DK (gE gs)) none)::((As H0+1,NC (.ptr (As H0) 0 0) (gP gs) (some none))::(As H0,c_ A5 [Aw])::H0))=_;generalize f:((As H0+1,NC (.ptr (As H0) 0 0) (gP gs) (some none))::(As H0,c_ A5 [Aw])::H0:Hp)=b at i e ol d;have r:As b=As H0+2:=by rw[<-f];rfl
 have D:=AJ (x:=.iter (Df DK (gE gs)) none) i;have up:∀u y,Aj b u=some y->Aj ((As b,Row.iter (Df DK (gE gs)) none)::b) u=some y:=λu y j=>A7 (i.lt j) j;have g:Aj ((As b,Row.iter (Df DK (gE gs)) none)::b) (As b)=some (.iter (Df DK (gE gs)) none):=Az (by simp);have q:(gE gs).length=gs.length:=by simp[gE]
 refine B0x (n:=n) (H0:=H0) (r0:=As H0) (s:=As H0+1) (it:=As b) (q0:=true) (e0:=A5) (c6:=gP gs) (ks:=gs.map Cd.id) B (by rw[Qa];omega) ?_ (by omega) (L+20) (gE gs) [] Aw _ none (by omega) (by rw[l3d,Ww]) (λ_=>rfl)
  ⟨up _ _ d,.inl ⟨rfl,rfl,rfl⟩,up _ _ e,λu ⟨_,_,_,h⟩=>(by cases h),D,λu y a=>up u y (ol u y a),by omega,by omega,by omega,wf⟩ (λ⟨_,_,_,h⟩=>(by cases h)) g
 intro l v H A m hc;show I6 H (As H0+1) _=_;rw[AX hc.lp];show Ll H (As H0+1) .gone _=_;rw[Dh];have hr:Aj (upd H (As H0+1) .gone) (As H0)=some (c_ A5 [v]):=by rw[Ag (by omega)];exact hc.at_
 show AD Ac (.ptr (As H0) 0 0) (upd H (As H0+1) .gone) _=_;rw[AQ (p:=0) rfl hr (by simp)];refine C _ _ _ A m ⟨?_,λu a=>(hc.new u a).2.2,Bq hc.wf,λu y a=>?_,?_⟩
 ·exact hc.sl.lat hc.wf (Lat.upd H _ _ (P:=λu=>u=As H0+1) rfl) (λu a=>(hc.new u a).2.1)
 ·have:=wf.lt a;rw[Ag (by omega)];exact hc.keep u y a
 ·rw[BB];have:=hc.wf.lt hc.at_;omega
def A8z(k:Vw 6 w w=true)(j:gs.length<=8)(i:100<L)(wf:Wf H0)(m:∀v H,NewSl H0 (DW (gs.map Cd.id)) v H->(gs=[]->v=Aw)->K v H=some (w,[])):(r! L (n+6)).call Ml [gV gs] H0 K=some (w,[]):=by
 rw[Xn];unfold Mi;have ky:∀{K:K2},Ao (r! L (n+5)) Dw [gV gs] H0 K=K (gP gs):=λ{K}=>by
  refine K1 (λK g=>?_) (An (q:=false) hY AK);rw[show n+5=(n+4)+1 from rfl,IP];unfold Du Iu;have f:∀{H:Hp}{K:KV},Hr CC (gV gs) H K=K (.ptr (As H) 0 0) ((As H,c_ CC [gV gs])::H):=λ{H K}=>uO;rw[f];exact g _ _ ⟨true,λK=>by kernel_rfl⟩
 rw[ky,Hh];unfold EV;refine A2R (n:=n) k j i wf λl v H b c hc=>?_;refine A2I (n:=n) wf (by rw[b.length_eq,Qa];omega) c hc λd a=>?_;have e:DW l=DW (gs.map Cd.id):=IB ((Bg l).trans (b.trans (Bg _).symm)) (D2 l) (D2 _);rw[e]at a;refine m v d a λh=>c ?_;subst h;exact gL (by rw[b.length_eq];rfl)
end
end
section
variable{L n:Nat}
section
variable{α:Type}{f:α->AV}{b:List (AN×α)}{x:AN}{H:Hp}
def uQ(b:List (AN×α))(x:AN):List (AN×α):=match b with
 |[]=>[]
 |e::b=>if e.1=x then b else e::uQ b x
def B0Q:∀(b:List (AN×α))(i:Nat),(match Yx x b i with|none=>b|some (j,_)=>b.eraseIdx (j-i))=uQ b x/\(∀j w,Yx x b i=some (j,w)->i<=j):=by
 intro b
 induction b with
 |nil=>intro i;exact⟨rfl,λj w h=>by cases h⟩
 |cons e b ih=>
  intro i;rw[Zc];unfold uQ;by_cases h:e.1=x
  ·refine⟨?_,λj w a=>?_⟩
   ·simp[h]
   ·simp[h]at a;omega
  ·obtain⟨h1,h2⟩:=ih (i+1);refine⟨?_,λj w a=>?_⟩
   ·rw[C5 h,C5 h,<-h1];cases d:Yx x b (i+1) with
    |none=>rfl
    |some p=>
     obtain⟨j,w⟩:=p;have:=h2 j w d;have c:j-i=(j-(i+1))+1:=by omega
     simp only[c,List.eraseIdx_cons_succ]
   ·rw[C5 h]at a;have:=h2 j w a;omega
def A7v:∀b:List (AN×α),(b.map Prod.fst).Nodup->((uQ b x).map Prod.fst).Nodup/\∀y,y∈(uQ b x).map Prod.fst↔y∈b.map Prod.fst/\y≠x:=by
 intro b
 induction b with
 |nil=>intro _;exact⟨by simp[uQ],λy=>by simp[uQ]⟩
 |cons e b ih=>
  intro h;rw[Xa,List.nodup_cons]at h;obtain⟨h1,h2⟩:=ih h.2;unfold uQ;by_cases he:e.1=x
  ·rw[Dl he];subst he;refine⟨h.2,λy=>?_⟩;rw[Xa,Tz];constructor
   ·intro a;exact⟨.inr a,λe=>h.1 (e▸a)⟩
   ·rintro⟨a|a,hn⟩
    ·exact absurd a hn
    ·exact a
  ·rw[C5 he];refine⟨?_,λy=>?_⟩
   ·rw[Xa,List.nodup_cons];exact⟨λhm=>h.1 ((h2 _).1 hm).1,h1⟩
   ·rw[Xa,Tz,h2,Xa,Tz];constructor
    ·rintro(rfl|⟨a,hn⟩)
     ·exact⟨.inl rfl,he⟩
     ·exact⟨.inr a,hn⟩
    ·rintro⟨a|a,hn⟩
     ·exact .inl a
     ·exact .inr ⟨a,hn⟩
def B9Q{β:Type}(g:α->β):∀(l:List α)(i:Nat),(l.map g).eraseIdx i=(l.eraseIdx i).map g:=by
 intro l
 induction l with
 |nil=>intro i;rfl
 |cons a l ih=>
  intro i;cases i with
  |zero=>rfl
  |succ i=>show g a::(l.map g).eraseIdx i=g a::(l.eraseIdx i).map g;rw[ih]
def B1h{r:Nat}(h:Aj H r=some (.map false (Df f b) none)):∃c,(∀K:Ru,iK (.mp r) (SV x) H K=K c)/\Aj c r=some (.map false (Df f (uQ b x)) none)/\Lat H c (λu=>u=r):=by
 have e:∀K:Ru,iK (.mp r) (SV x) H K=I6 H r λy=>lL y λd g=>I5 (SV x) d λq=>match q with
  |none=>K H
  |some (i,_)=>Ll H r (.map false (d.eraseIdx i) (C0s g i)) K:=λK=>rfl
 obtain⟨h1,h2⟩:=B0Q (x:=x) b 0;cases a:Yx x b 0 with
 |none=>
  rw[a]at h1;refine⟨H,λK=>?_,by rw[<-h1];exact h,Lat.refl _ _⟩;rw[e,AX h];show I5 (SV x) (Df f b) _=_;rw[kfK,a];rfl
 |some p=>
  obtain⟨j,w⟩:=p;rw[a]at h1;refine⟨upd H r (.map false (Df f (uQ b x)) none),λK=>?_,(B8 h).trans rfl,Lat.upd _ _ _ rfl⟩;rw[e,AX h];show I5 (SV x) (Df f b) _=_;rw[kfK,a];show Ll H r (.map false ((Df f b).eraseIdx j) none) K=_;rw[Dh,<-h1,Df,Df,B9Q];rfl
end
def S!{gs:ed}{e:vR}:e∈OT gs↔∃c∈gs,e.1=c.id/\e.2∈c.ps:=by
 unfold OT;rw[l3b];constructor
 ·rintro⟨c,hc,he⟩;obtain⟨p,a,rfl⟩:=Mj.1 he;exact⟨c,hc,rfl,a⟩
 ·rintro⟨c,hc,h1,h2⟩;exact⟨c,hc,Mj.2 ⟨e.2,h2,by rw[<-h1]⟩⟩
def tN(gs:ed)(p:Option (Option Code)):Row:=.loop 32 [(2,Aw),(3,gV gs),(5,.ptr 1 0 0),(8,.dk),(16,.it 2),(25,B17 gs),(27,.dk),(28,.dk),(29,.dk)] (ET).2.1 (ET).2.2.1 (ET).2.2.2 p
structure Hs(gs:ed)(es:List vR)(b:List (AN×Unit))(H:Hp):Prop where
 mm:Aj H 0=some (.map false (Df uS b) none)
 st:Aj H 1=some (c_ CN [.mp 0])
 lp:Aj H 3=some (tN gs (some none))
 wf:Wf H
 nd:(b.map Prod.fst).Nodup
 ky:∀x,x∈b.map Prod.fst↔x∈gs.map Cd.id/\∀e∈es,e.2≠x
section
variable{gs:ed}{K:KV}{x:Af}
def C29{a:Hp}{K:Ru}(h:Aj a 3=some (tN gs none)):E7 a 3 false (some none) K=K (upd a 3 (tN gs (some none))):=Pg h
def B3z:vH (r! L (n+2)) L 3 4 (λq H=>∃b,Hs gs q b H):=by
 intro q s p H K x _ ⟨b,h⟩ w;show XA6 (r! L (n+2)) 3 [S s,S p] H K=x;rw[OY h.lp (by kernel_rfl)];have c:(r! L (n+2)).run= λt=>OK (E (L+20)) (r! L (n+1)) t:=rfl;rw[c,kP,Ph h.lp];have j:Aj (upd H 3 (tN gs none)) 0=some (.map false (Df uS b) none):=by rw[Ag (by decide)];exact h.mm
 have d:Aj (upd H 3 (tN gs none)) 1=some (c_ CN [.mp 0]):=by rw[Ag (by decide)];exact h.st
 have i:Aj (upd H 3 (tN gs none)) 3=some (tN gs none):=Ff h.lp;have w1:Wf (upd H 3 (tN gs none)):=Bq h.wf;have k1:∀y,Aj H 4=some y->Aj (upd H 3 (tN gs none)) 4=some y:=λy m=>by rw[Ag (by decide)];exact m
 show AD CD (.ptr 1 0 0) (upd H 3 (tN gs none)) _=_;rw[AQ (p:=0) rfl d (by simp)];have u:∀(F:Value->Af),LW (S p) F=F (SV p):=λF=>id rfl;rw[u];obtain⟨r,d1,d2,g⟩:=B1h (f:=uS) (x:=p) j;show iK (.mp 0) (SV p) (upd H 3 (tN gs none)) _=_;rw[d1];have k:=g.keep w1 _ _ d (by decide);have a:=g.keep w1 _ _ i (by decide);show E7 r 3 false (some none) _=_;rw[C29 a];obtain⟨n1,n2⟩:=A7v (x:=p) b h.nd;refine w _ ⟨uQ b p,?_,?_,Ff a,Bq (g.wf w1),n1,λz=>?_⟩ λy m=>?_
 ·rw[Ag (by decide)];exact d2
 ·rw[Ag (by decide)];exact k
 ·rw[n2,h.ky];constructor
  ·rintro⟨⟨h1,h2⟩,v⟩;refine⟨h1,λe he=>?_⟩;rcases Yn.1 he with he|he
   ·exact h2 e he
   ·rw[Tx]at he;subst he;exact Ne.symm v
  ·rintro⟨h1,h2⟩;exact⟨⟨h1,λe he=>h2 e (List.mem_append_left _ he)⟩,Ne.symm (h2 (s,p) (by simp))⟩
 ·rw[Ag (by decide)];exact g.keep w1 _ _ (k1 y m) (by decide)
def B0E{s:AV->AV->AV->AV->AV->AV->AV->KV}{w a0 a1 u d2 y A:AV}(R:Vw 6 w w=true)(hn:(gs.map Cd.id).Nodup)(m:∀b H,Aj H 0=some (.map false (Df uS b) none)->Aj H 1=some (c_ CN [.mp 0])->Wf H->As H=3->(b.map Prod.fst).Perm (gs.map Cd.id)->s a0 a1 (.ptr 1 0 0) u (.it 2) d2 y A H=some (w,[])):
 ∀(f:Nat)(rem:ed)(b:List (AN×Unit))(H:Hp)(o:Option (Value×AV))(d1:AV),rem.length<f->(b.map Prod.fst++rem.map Cd.id).Perm (gs.map Cd.id)->Aj H 0=some (.map false (Df uS b) none)->Aj H 1=some (c_ CN [.mp 0])->Wf H->As H=3->Aj H 2=some (.iter (Df DK (gE rem)) o)->
 SK (L+20) (r! L n) K s f a0 a1 (.ptr 1 0 0) u (.it 2) d1 d2 y A H=some (w,[]):=by
 intro f
 induction f with
 |zero=>intro rem b H o d1 h;omega
 |succ f ih=>
  intro rem b H o d1 Q i hm C wf r B;rw[lU];unfold SL;refine XW (f:=DK) R B (λe=>?_) (λa e c t=>?_)
  ·have J:rem=[]:=by
    cases rem with
    |nil=>rfl
    |cons _ _=>cases e
   subst J;rw[F3,Bh];rw[List.map_nil,UC]at i;exact m b H hm C wf r i
  ·obtain⟨d,cd,rc,rfl,rfl,rfl,rfl⟩:=A1r t;have M:gE d++gE rc=gE (d++rc):=by simp[gE]
   have g:=L0 (es:=Df DK (gE d++gE rc)) (o:=some (.string ⟨⟨cd.id⟩⟩,DK cd)) B;have j:Aj (upd H 2 (.iter (Df DK (gE d++gE rc)) (some (.string ⟨⟨cd.id⟩⟩,DK cd)))) 0=some (.map false (Df uS b) none):=by rw[Ag (by decide)];exact hm
   have k:Aj (upd H 2 (.iter (Df DK (gE d++gE rc)) (some (.string ⟨⟨cd.id⟩⟩,DK cd)))) 1=some (c_ CN [.mp 0]):=by rw[Ag (by decide)];exact C
   have w1:Wf (upd H 2 (.iter (Df DK (gE d++gE rc)) (some (.string ⟨⟨cd.id⟩⟩,DK cd)))):=Bq wf;have n1:As (upd H 2 (.iter (Df DK (gE d++gE rc)) (some (.string ⟨⟨cd.id⟩⟩,DK cd))))=3:=by rw[BB];exact r
   show C9 (.tup [.v (.bool true),S cd.id,DK cd]) 0 _=_;rw[F3,Cr];show ZE (.it 2) (upd H 2 (.iter (Df DK (gE d++gE rc)) (some (.string ⟨⟨cd.id⟩⟩,DK cd)))) _=_;rw[Nu g,F3];generalize upd H 2 (.iter (Df DK (gE d++gE rc)) (some (.string ⟨⟨cd.id⟩⟩,DK cd)))=D at g j k w1 n1;have P:sQ (.string ⟨⟨cd.id⟩⟩)=S cd.id:=rfl;have N:∀{K:K2},Ca F6 [] K=K (.agg []):=λ{K}=>id rfl;have O:∀(F:Value->Af),LW (S cd.id) F=F (SV cd.id):=λF=>id rfl;rw[AQ (p:=0) rfl k (by simp),N,P,O];show Mm (.mp 0) (SV cd.id) (uS ()) D _=_;rw[iJ (f:=uS) (v:=()) j];have q:cd.id∉b.map Prod.fst:=λhc=>by
    have h2:=(i.nodup_iff).2 hn;rw[l38]at h2;exact h2.2.2 _ hc cd.id (by simp) rfl
   rw[YU q];rw[M]at g;refine ih (d++rc) (b++[(cd.id,())]) _ (some (.string ⟨⟨cd.id⟩⟩,DK cd)) _ (by simp at Q⊢;omega) ?_ ((B8 j).trans rfl) ?_ (Bq w1) (by rw[BB];exact n1) ?_
   ·refine List.Perm.trans ?_ i;simp only[Za,Xa,List.map_nil,ZL];refine List.Perm.append_left _ ?_;show(cd.id::(d.map Cd.id++rc.map Cd.id)).Perm _;exact List.perm_middle.symm
   ·rw[Ag (by decide)];exact k
   ·rw[Ag (by decide)];exact g
def B2N{a:AV}(r:GOk gs)(hL:40000<L)(hp:∀c∈gs,c.ps.length<100)(R:LA gs a):CS (r! L (n+80)) Uu [a] (DJ (Ej gs)):=by
 intro K B;rw[oX];unfold Ul;have C:R5 true depth [a] [a] [] false:=by rcases R with rfl|⟨_,rfl⟩<;>exact λK=>by kernel_rfl
 have of:∀{K:K2},Ao (r! L (n+79)) L7 [a] [] K=K (.tup [gV gs,Bo true]):=λ{K}=>K1 (λK B=>B6x (n:=n+15) r hL R K B) C;have w0:Vw 6 (DJ (Ej gs)) (DJ (Ej gs))=true:=Tb 6 _ (B00 _);have h8:=r.len;rw[of,F5,F4];have e0:∀{F:KV},(LC F6 [] λv4 Z=>Bz CN CD Z λX H7=>E4 CD X v4 H7 λH8=>F X H8)=F (.ptr 1 0 0) [(1,c_ CN [.mp 0]),(0,.map false [] none)]:=λ{F}=>by kernel_rfl
 rw[e0];simp only[BJ];rw[WM];refine B0E (n:=n+79) w0 r.ids (λb H hm N wf d s=>?_) (L+20) gs [] _ none _ (by omega) (List.Perm.refl _) rfl rfl (AJ (AJ (AJ Fl))) rfl rfl;rw[A8H (n:=n+78),VE,d];have ab:As ((3,tN gs (some none))::H)=4:=rfl;have Y:Wf ((3,tN gs (some none))::H):=by
  have:=AJ (x:=tN gs (some none)) wf;rw[d]at this;exact this
 have M:Aj ((3,tN gs (some none))::H) 3=some (tN gs (some none)):=by
  have:=Az (H:=H) (x:=tN gs (some none)) (by simp[tN]);rw[d]at this;exact this
 have ol:∀u y,Aj H u=some y->Aj ((3,tN gs (some none))::H) u=some y:=λu y t=>by
  have:=A7 (x:=tN gs (some none)) (wf.lt t) t;rw[d]at this;exact this
 have i:∀u y,Aj ((3,tN gs (some none))::H) u=some y->Aj ((4,.iter (Df DK (gE gs)) none)::(3,tN gs (some none))::H) u=some y:=λu y t=>A7 (x:=.iter (Df DK (gE gs)) none) (Y.lt t) t;show(r! L (n+79)).call Fc [.yl 3,.iptr [gV gs]] ((3,tN gs (some none))::H) _=_;refine A4X (n:=n+76) (s0:=3) (Q:=λA H=>∃b,Hs gs A b H) w0 h8 hp (by omega) B3z (λA H1 j ⟨b,h⟩ P k=>⟨b,k _ _ (show 0≠4 by decide) h.mm,k _ _ (show 1≠4 by decide) h.st,k _ _ (show 3≠4 by decide) h.lp,P,h.nd,h.ky⟩) (λA H ⟨b,h⟩=>h.wf) ?_ (λdone j V ⟨w,m⟩=>?_)
 ·refine⟨b,i _ _ (ol _ _ hm),i _ _ (ol _ _ N),i _ _ M,AJ Y,s.symm.nodup r.ids,λz=>?_⟩;rw[s.mem_iff];exact⟨λh=>⟨h,by simp⟩,λh=>h.1⟩
 ·show I6 j 3 _=_;rw[AX m.lp];show Ll j 3 .gone _=_;rw[Dh];have N:Aj (upd j 3 .gone) 1=some (c_ CN [.mp 0]):=by rw[Ag (by decide)];exact m.st
  have J:Aj (upd j 3 .gone) 0=some (.map false (Df uS w) none):=by rw[Ag (by decide)];exact m.mm
  show AD CD (.ptr 1 0 0) (upd j 3 .gone) _=_;rw[AQ (p:=0) rfl N (by simp)];have g:(w.map Prod.fst).Perm (Ej gs):=by
   refine(l37 m.nd (tZ r.ids)).2 λz=>?_;rw[m.ky,PI];refine and_congr Iff.rfl ⟨λh c hc hz=>?_,λh e he=>?_⟩
   ·exact h (c.id,z) (S!.2 ⟨c,V.mem_iff.2 hc,rfl,hz⟩) rfl
   ·obtain⟨c,hc,h1,h2⟩:=S!.1 he;exact λe'=>h c (V.mem_iff.1 hc) (e'▸h2)
  have aa:w.length<1000:=by
   have h1:=g.length_eq;have h2:=yS (gs:=gs);rw[Qa]at h1;omega
  refine mS (n:=n+73) w0 (by omega) (by omega) (Bq m.wf) J g (D2 _) λv H hv O=>?_;exact B _ _ λbb=>by
   obtain⟨q,hq⟩:=hJ (D:=depth-1) (b:=bb) hv O;exact⟨q,hq⟩
end
end
end Go.Abs
end
