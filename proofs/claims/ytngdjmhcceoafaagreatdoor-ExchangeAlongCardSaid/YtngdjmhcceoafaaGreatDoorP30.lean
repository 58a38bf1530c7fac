import Derived.Test.YtngdjmhcceoafaaGreatDoorP29
set_option linter.all false
set_option maxHeartbeats 100000000
noncomputable section
namespace Go.Abs
open Go.RowKit Go.Proofs
set_option maxRecDepth 100000
section
variable {P:AV} {y6:Int}
variable {L n:Nat}
def A6L {f:AV->(Bool->AV->Af)->Af}:∀(l m:List AV) (K:Bool->List AV->Af),IB f (l++m) K=IB f l λq c=>IB f m λd h=>K (q||d) (c++h):=by
 intro l
 induction l with
 |nil=>intro m K;rfl
 |cons a l ih=>
  intro m K;have e:∀(l:List AV) (K:Bool->List AV->Af),IB f (a::l) K=f a λq g=>IB f l λd c=>K (@Bool.rec (λ_=>Bool) d true q) (g::c):= λ_ _=>rfl;rw[List.cons_append,e,e]
  congr 1
  funext q g
  rw[ih]
  congr 1
  funext q1 i
  congr 1
  funext q2 j
  cases q<;>rfl
def M' {b:Bool} {D:Nat} {l a m c:List AV} {H:Hp} {q q':Bool} (h:Rr b D l a H q) (k:Rr b D m c H q'):Rr b D (l++m) (a++c) H (q||q'):= λK=>by
 rw[A6L,h,k]
def fixB:AV->Bool
 | .v _=>true
 | .list _ _=>true
 |_=>false
def YO {D:Nat} {H:Hp}:∀l:List AV,l.all fixB=true->Rr true D l l H false:=by
 intro l
 induction l with
 |nil=>intro _;exact AJ
 |cons a l ih=>
  intro h;simp only[pK,Kw] at h;have h2:=ih h.2;cases a with
  |v x=>exact Am (q:=false) C7 h2
  |list n cs=>exact Am (q:=false) Of h2
  |_=>cases h.1
def C? (ts:iU):fixB (FD ts)=true:=by cases ts<;>rfl
def A6Y {k:IntKind} {z:Int}:fixB (.v (.int k z))=true:=rfl
def yL {l:List UInt8}:fixB (S l)=true:=rfl
def B9z:fixB (.v (.slice none 0 0))=true:=rfl
def C2R {l:List AV}:fixB (.list n l)=true:=rfl
def lT (c:Cd):∃A B:List AV,(∀P,c.csP P=A++P::B)/\A.all fixB=true/\B.all fixB=true:=by
 match c with
 | .re b u=>
  refine⟨((Cd.re b u).csP As).take 31,((Cd.re b u).csP As).drop 32,λ_=>rfl,?_,?_⟩
  ·simp only[Cd.csP,List.take_succ_cons,List.take_zero,pK,l3c,A6Y,yL,C?,l1g,X']
  ·simp only[Cd.csP,List.drop_succ_cons,pM,pK,l3c,A6Y,yL,B9z,l1g,X']
 | .co b p ps none=>
  refine⟨((Cd.co b p ps none).csP As).take 31,((Cd.co b p ps none).csP As).drop 32,λ_=>rfl,?_,?_⟩
  ·simp only[Cd.csP,List.take_succ_cons,List.take_zero,pK,l3c,A6Y,yL,C?,l1g,X']
  ·simp only[Cd.csP,List.drop_succ_cons,pM,pK,l3c,A6Y,yL,B9z,C2R,l1g,X']
 | .co b p ps (some (k,vd))=>
  refine⟨((Cd.co b p ps (some (k,vd))).csP As).take 31,((Cd.co b p ps (some (k,vd))).csP As).drop 32,λ_=>rfl,?_,?_⟩
  ·simp only[Cd.csP,List.take_succ_cons,List.take_zero,pK,l3c,A6Y,yL,C?,l1g,X']
  ·simp only[Cd.csP,List.drop_succ_cons,pM,pK,l3c,A6Y,yL,B9z,C2R,l1g,X']
def pX (c:Cd) (h:AV.one P=true):(c.csP P).all AV.one=true:=by
 match c with
 | .re b u=>exact Rq (Vs _) h rfl rfl
 | .co b p ps none=>exact Rq (Vs _) h rfl rfl
 | .co b p ps (some (k,vd))=>exact Rq (Vs _) h rfl rfl
def O8 (c:Cd):(c.csP P).length=68:=by
 match c with
 | .re b u=>rfl
 | .co b p ps none=>rfl
 | .co b p ps (some (k,vd))=>rfl
section
variable {H H':Hp} {v:AV} {l:List (List UInt8)} {D:Nat} {b:Bool}
def gK (h:B2 H Ar 1 v l.length (AG l)) (c:l=[]->v=As):∃q,Fx b (D+1) v (DJ l) H q:=by
 rcases h with⟨rfl,h2,_⟩|⟨r,q,rfl,h2,d⟩
 ·cases l with
  |nil=>exact⟨false,C7⟩
  |cons a l=>simp at h2
 ·cases l with
  |nil=>have:=c rfl;cases this
  |cons a l=>
   refine⟨true,?_⟩;show Fx b (D+1) _ (.list (a::l).length (AG (a::l))) H true;exact WU (q':=false) h2 d (KO (λs=>Value.string ⟨⟨s⟩⟩) (a::l))
def Q? {c:Cd} (h:B2 H Ar 1 v c.ps.length (AG c.ps)) (a:c.ps=[]->v=As):∃q,Rr true (D+1) (c.csP v) c.cs H q:=by
 obtain⟨q,hq⟩:=gK (D:=D) (b:=true) h a;obtain⟨A,B,e,f1,f2⟩:=lT c;rw[<-A43 c,e,e];exact⟨_,M' (YO A f1) (Am hq (YO B f2))⟩
abbrev GV:=List (Cd×AV)
def gvC (g:GV):List AV:=g.flatMap λp=>p.1.csP p.2
structure GvOk (g:GV) (H:Hp):Prop where
 sl:∀p∈g,B2 H Ar 1 p.2 p.1.ps.length (AG p.1.ps)
 nl:∀p∈g,p.1.ps=[]->p.2=As
def C2y {g:GV} (h:GvOk g H):∃q,Rr true (D+1) (gvC g) ((g.map Prod.fst).flatMap Cd.cs) H q:=by
 induction g with
 |nil=>exact⟨_,AJ⟩
 |cons p g ih=>
  obtain⟨q1,h1⟩:=ih ⟨λr hr=>h.sl r (by simp[hr]),λr hr=>h.nl r (by simp[hr])⟩;obtain⟨q2,h2⟩:=Q? (D:=D) (h.sl p (by simp)) (h.nl p (by simp));exact⟨_,M' h2 h1⟩
def oN (gs:List Cd):AV:=match gs with
 |[]=>As
 |c::gs=> .list (c::gs).length ((c::gs).flatMap Cd.cs)
def YK (gs:List Cd):LA gs (oN gs):=by cases gs with|nil=>exact .inr ⟨rfl,rfl⟩|cons _ _=>exact .inl rfl
def B9m {g:GV} {lv:AV} (h:GvOk g H) (f:B2 H Ad 68 lv g.length (gvC g)) (c:g=[]->lv=As):∃q,Fx true (D+2) lv (oN (g.map Prod.fst)) H q:=by
 rcases f with⟨rfl,h2,_⟩|⟨r,q,rfl,h2,d⟩
 ·cases g with
  |nil=>exact⟨false,C7⟩
  |cons a l=>simp at h2
 ·cases g with
  |nil=>have:=c rfl;cases this
  |cons p g=>
   obtain⟨q1,h1⟩:=C2y (D:=D) h;refine⟨true,?_⟩;have e:oN ((p::g).map Prod.fst)= .list (p::g).length (((p::g).map Prod.fst).flatMap Cd.cs):=by
    show AV.list _ _=_;rw[show(p.1::g.map Prod.fst).length=(p::g).length by simp];rfl
   rw[e];exact WU h2 d h1
end
structure Y7 where
 (y0 y1 y2 y3 y4 y5 y6:Int)
def Y7.cs (y:Y7):List AV:=[I y.y0,I y.y1,I y.y2,I y.y3,I y.y4,I y.y5,I y.y6]
def Y7.Ok (y:Y7):Prop:=Le y.y0/\Le y.y1/\Le y.y2/\Le y.y3/\Le y.y4/\Le y.y5/\Le y.y6
def vV (ids:List (List UInt8)) (y6:Int):Nat->List (List UInt8)
 |0=>[]
 |k+1=>if 0<ids.length/\pk (y6.fdiv (2^(4*k))) 16<14 then vV ids y6 k++[ids.getD ((pk (y6.fdiv (2^(4*k))) 16).toNat%ids.length) []] else vV ids y6 k
def A50 {ids:List (List UInt8)}:∀k,∀s∈vV ids y6 k,s∈ids:=by
 intro k
 induction k with
 |zero=>intro s a;simp[vV] at a
 |succ k ih=>
  intro s a;unfold vV at a;split at a
  ·rename_i h;rcases Zs.1 a with a|a
   ·exact ih s a
   ·rw[Ur] at a;subst a;have:=Nat.mod_lt (pk (y6.fdiv (2^(4*k))) 16).toNat h.1;rw[Vl,K9 this];exact Qe this
  ·exact ih s a
def A51 {ids:List (List UInt8)}:∀k,(vV ids y6 k).length<=k:=by
 intro k
 induction k with
 |zero=>simp[vV]
 |succ k ih=>
  unfold vV;split
  ·simp;omega
  ·omega
def kdM (i:Nat) (y:Y7):Int:=if i<2/\0<pk (y.y0.tdiv 3) 4 then 0 else y.y0
def cM (i:Nat) (y:Y7) (ids:List (List UInt8)):Cd:=cdM (kdM i y) y.y1 y.y2 y.y3 y.y4 y.y5 y.y1 y.y2 y.y3 y.y4 y.y5 y.y6 (some (y.y3,y.y4,y.y5,y.y6)) (vV ids y.y6 3)
def Qn (xs:List Y7):Nat->List Cd
 |0=>[]
 |i+1=>
  if(cM i (xs.getD i ⟨0,0,0,0,0,0,0⟩) ((Qn xs i).map Cd.id)).ps.Nodup/\(cM i (xs.getD i ⟨0,0,0,0,0,0,0⟩) ((Qn xs i).map Cd.id)).id∉(Qn xs i).map Cd.id
  then Qn xs i++[cM i (xs.getD i ⟨0,0,0,0,0,0,0⟩) ((Qn xs i).map Cd.id)] else Qn xs i
def B5Z {i:Nat} {y:Y7} {gs:List Cd}:(cM i y (gs.map Cd.id)).Ok:=by
 refine A49 λs a=> ?_;obtain⟨c,_,rfl⟩:=Ma.1 (A50 _ s a);exact R_ c
def B0s (xs:List Y7):∀i,i<=8->GOk (Qn xs i)/\(Qn xs i).length<=i:=by
 intro i
 induction i with
 |zero=>intro _;exact⟨⟨by simp[Qn],by simp[Qn],by simp[Qn],by simp[Qn]⟩,by simp[Qn]⟩
 |succ i ih=>
  intro k;obtain⟨h,f⟩:=ih (by omega);unfold Qn;split
  ·rename_i hc;refine⟨⟨λc hm=> ?_,λc hm=> ?_,?_,by simp;omega⟩,by simp;omega⟩
   ·rcases Zs.1 hm with hm|hm
    ·exact h.ok c hm
    ·rw[Ur] at hm;subst hm;exact B5Z
   ·rcases Zs.1 hm with hm|hm
    ·exact h.nd c hm
    ·rw[Ur] at hm;subst hm;exact hc.1
   ·rw[YN,l38];refine⟨h.ids,by simp,λa g b hb e=> ?_⟩;obtain⟨j,d,rfl⟩:=Ma.1 hb;rw[Ur] at d;subst d;exact hc.2 (e▸g)
  ·exact⟨h,by omega⟩
end
section
variable {L n:Nat}
abbrev AM:=List UInt8
section
variable {gs:List Cd} {b:List (AM×Unit)} {p:AM} {ids:List AM}
def U! (ids:List AM) (b:List (AM×Unit)):List AM->List (AM×Unit)
 |[]=>b
 |p::ps=>U! ids (if p∈ids then b else LJ b p ()) ps
def xS:∀b:List (AM×Unit),(LJ b p ()).map Prod.fst=if p∈b.map Prod.fst then b.map Prod.fst else b.map Prod.fst++[p]:=by
 intro b
 induction b with
 |nil=>rfl
 |cons e b ih=>
  unfold LJ;by_cases h:e.1=p
  ·simp[h]
  ·rw[C4 h,WR,ih,WR];have hm:(p∈e.1::b.map Prod.fst)↔p∈b.map Prod.fst:=by simp[Ne.symm h]
   by_cases h2:p∈b.map Prod.fst
   ·rw[Dj h2,Dj (hm.2 h2)]
   ·rw[C4 h2,C4 (λa=>h2 (hm.1 a))];rfl
def mA:∀(ps:List AM) (b:List (AM×Unit)),(b.map Prod.fst).Nodup->((U! ids b ps).map Prod.fst).Nodup/\∀x,x∈(U! ids b ps).map Prod.fst↔x∈b.map Prod.fst\/(x∈ps/\x∉ids):=by
 intro ps
 induction ps with
 |nil=>intro b h;exact⟨h,λx=>by simp[U!]⟩
 |cons p ps ih=>
  intro b h;have h1:((if p∈ids then b else LJ b p ()).map Prod.fst).Nodup/\∀x,x∈(if p∈ids then b else LJ b p ()).map Prod.fst↔x∈b.map Prod.fst\/(x=p/\x∉ids):=by
   by_cases f:p∈ids
   ·rw[Dj f];refine⟨h,λx=>⟨.inl,λd=>d.elim id λ⟨e,hn⟩=>absurd (e▸f) hn⟩⟩
   ·rw[C4 f,xS];by_cases hm:p∈b.map Prod.fst
    ·rw[Dj hm];exact⟨h,λx=>⟨.inl,λd=>d.elim id λ⟨e,_⟩=>e▸hm⟩⟩
    ·rw[C4 hm];refine⟨l38.2 ⟨h,by simp,λa j c hc=>by simp at hc;subst hc;exact λe=>hm (e▸j)⟩,λx=> ?_⟩;rw[Zs,Ur];exact⟨λd=>d.imp id λe=>⟨e,e▸f⟩,λd=>d.imp id λe=>e.1⟩
  obtain⟨h2,i⟩:=ih _ h1.1;refine⟨h2,λx=> ?_⟩;show x∈(U! ids (if p∈ids then b else LJ b p ()) ps).map Prod.fst↔_;rw[i,h1.2,Uf];constructor
  ·rintro((h|h)|h)
   ·exact .inl h
   ·exact .inr ⟨.inl h.1,h.2⟩
   ·exact .inr ⟨.inr h.1,h.2⟩
  ·rintro(h|⟨h|h,g⟩)
   ·exact .inl (.inl h)
   ·exact .inl (.inr ⟨h,g⟩)
   ·exact .inr ⟨h,g⟩
def IA (gs:List Cd):List AM:=DQ ((U! (gs.map Cd.id) [] (gs.flatMap Cd.ps)).map Prod.fst)
def sZ:(IA gs).Nodup:=(Be _).symm.nodup (mA _ [] (by simp)).1
def I_:(IA gs).Pairwise (· <= ·):=Dy _
def Jn {x:AM}:x∈IA gs↔x∉gs.map Cd.id/\∃c∈gs,x∈c.ps:=by
 rw[IA,(Be _).mem_iff,(mA _ [] (by simp)).2];simp only[List.map_nil,List.not_mem_nil,false_or,l3b];exact and_comm
def A4C {H:Hp} {K:AV->Af}:An (r! L (n+1)) Fi [gV gs,S p] H K=K (Bo (decide (p∈gs.map Cd.id))):=by
 refine AQ (λK a=> ?_) (Am gL (Am (q:=false) C7 AJ));rw[UR];unfold KM Lo;have d:∀(F:Value->Af),LQ (S p) F=F (SV p):= λF=>id rfl;rw[d,A3R (f:=DF) (b:=gE gs) (λK=>id rfl)];by_cases h:p∈gs.map Cd.id
 ·obtain⟨c,hc⟩:∃c,Mn (gE gs) p=some c:=by
   rcases A5j (gs:=gs) (s:=p) with⟨_,k,e,h1,_⟩|⟨h1,_⟩
   ·exact⟨_,h1⟩
   ·exact absurd h h1
  rw[hc];simp only[];rw[F3,F2,B1 (cs:=CH) rfl,Cc (cs:=CH) (vs:=c.cs) (Aw (by simp)) EA rfl Mk];rw[Iu h] at a⊢;exact a _ _ λb=>⟨false,C7⟩
 ·rw[Yj (by rw[Wp];exact h)];simp only[];rw[F3,F2,B1 (cs:=CH) rfl]
  erw [Cc (cs:=CH) (vs:=CH) (Aw (by simp)) rfl rfl rfl]
  rw[IG h] at a⊢;exact a _ _ λb=>⟨false,C7⟩
end
section
variable {gs:List Cd} {ids:List AM}
def A20:∀(ps:List AM) (b:List (AM×Unit)),(U! ids b ps).length<=b.length+ps.length:=by
 intro ps
 induction ps with
 |nil=>intro b;exact Mb _
 |cons p ps ih=>
  intro b;have h1:(if p∈ids then b else LJ b p ()).length<=b.length+1:=by
   split
   ·omega
   ·have:=congrArg List.length (xS (p:=p) b);rw[QI] at this;rw[this];split<;>simp
  have h2:=ih (if p∈ids then b else LJ b p ());show(U! ids (if p∈ids then b else LJ b p ()) ps).length<=_;rw[LP];omega
def B4E:∀gs:List Cd,(∀c∈gs,c.ps.length<100)->(gs.flatMap Cd.ps).length<=gs.length*100:=by
 intro gs
 induction gs with
 |nil=>intro _;simp
 |cons c gs ih=>
  intro h;have h1:=h c (by simp);have h2:=ih λd a=>h d (by simp[a]);rw[pP,EY,LP,W_];omega
def A6I (a:GOk gs) (d:∀c∈gs,c.ps.length<100):(IA gs).length<1000:=by
 have h1:=A20 (ids:=gs.map Cd.id) (gs.flatMap Cd.ps) [];have h2:=B4E gs d;have e:=a.len;rw[IA,(Be _).length_eq,QI];simp at h1;simp at h2;omega
def A9K:∀l:List AM,pl 6 (DJ l)=true:=by
 intro l;cases l with
 |nil=>rfl
 |cons a l=>
  show(AG (a::l)).all (pl 5)=true;rw[GH];intro y c;obtain⟨s,_,rfl⟩:=Ma.1 c;rfl
def uB {ty:Nat} {es:List (Value×AV)} {H:Hp} {K:KV}:Ho ty (.imap es) H K=K (.ptr (Ao H) 0 0) ((Ao H,c_ ty [.imap es])::H):=by
 unfold Ho;rw[CI,FI,BV];rfl
end
abbrev B0S (gs:List Cd):AV:= .fn (.func Fb) [] [.iptr [gV gs]]
def V_ (gs:List Cd) (p:Option (Option Code)):Row:= .loop 27 [(2,As),(3,.ptr 0 0 0),(5,.ptr 2 0 0),(7,.dk),(15,B0S gs),(17,.dk),(18,.dk),(19,.dk),(20,.dk),(21,.dk),(22,.dk),(23,.dk),(24,.dk)] (DX).2.1 (DX).2.2.1 (DX).2.2.2 p
structure Ms (gs:List Cd) (b:List (AM×Unit)) (H:Hp):Prop where
 net:Aj H 0=some (c_ C9 [gV gs])
 mm:Aj H 1=some (.map false (Dc uS b) none)
 st:Aj H 2=some (c_ CL [.mp 1])
 lp:Aj H 3=some (V_ gs (some none))
 wf:Wf H
section
variable {gs:List Cd} {b:List (AM×Unit)} {H:Hp} {K:KV} {x:Af} {p s:AM}
def Ms.kp {H':Hp} (h:Ms gs b H) (w:Wf H') (k:∀u y,u<4->Aj H u=some y->Aj H' u=some y):Ms gs b H':=
 ⟨k _ _ (by decide) h.net,k _ _ (by decide) h.mm,k _ _ (by decide) h.st,k _ _ (by decide) h.lp,w⟩
def B5D {a:Hp} {K:Hp->Af} (h:Aj a 3=some (V_ gs none)):E2 a 3 false (some none) K=K (upd a 3 (V_ gs (some none))):=OZ h
def B3o (h:Ms gs b H) (r:∀t,Ms gs (if p∈gs.map Cd.id then b else LJ b p ()) t->(∀u y,3<u->Aj H u=some y->Aj t u=some y)->K (Bo true) t=x):
 Cr (E (L+20)) (r! L (n+2)) (.yl 3) [S s,S p] H K=x:=by
 show Nz (r! L (n+2)) 3 [S s,S p] H K=x;rw[OT h.lp (by kernel_rfl)];have j:(r! L (n+2)).run= λw=>OG (E (L+20)) (r! L (n+1)) w:=rfl;rw[j,ZP,Pb h.lp];simp only[BK];have d:Aj (upd H 3 (V_ gs none)) 0=some (c_ C9 [gV gs]):=by rw[Ag (by decide)];exact h.net
 have c:Aj (upd H 3 (V_ gs none)) 1=some (.map false (Dc uS b) none):=by rw[Ag (by decide)];exact h.mm
 have e:Aj (upd H 3 (V_ gs none)) 2=some (c_ CL [.mp 1]):=by rw[Ag (by decide)];exact h.st
 have a:Aj (upd H 3 (V_ gs none)) 3=some (V_ gs none):=XA1 h.lp;have g:∀u y,3<u->Aj H u=some y->Aj (upd H 3 (V_ gs none)) u=some y:= λu y q k=>by rw[Ag (by omega)];exact k
 have w1:Wf (upd H 3 (V_ gs none)):=Bn h.wf;show AF Ah (.ptr 0 0 0) (upd H 3 (V_ gs none)) _=_;rw[AP (p:=0) rfl d (by simp)];show An (r! L (n+1)) Fi [gV gs,S p] (upd H 3 (V_ gs none)) _=_;rw[A4C,En];by_cases m:p∈gs.map Cd.id
 ·rw[Dj m] at r;rw[Iu m];show Az (.v (.bool false)) _ _=_;rw[Bj];show E2 (upd H 3 (V_ gs none)) 3 false (some none) _=_;rw[B5D a];refine r _ ⟨?_,?_,?_,XA1 a,Bn w1⟩ λu y q k=> ?_
  ·rw[Ag (by decide)];exact d
  ·rw[Ag (by decide)];exact c
  ·rw[Ag (by decide)];exact e
  ·rw[Ag (by omega)];exact g u y q k
 ·rw[C4 m] at r;rw[IG m];show Az (.v (.bool true)) _ _=_;rw[Cy];show AF CA (.ptr 2 0 0) (upd H 3 (V_ gs none)) _=_;rw[AP (p:=0) rfl e (by simp)];have A:∀{K:AV->Af},BZ F4 [] K=K (.agg []):= λ{K}=>id rfl;have B:∀(F:Value->Af),LQ (S p) F=F (SV p):= λF=>id rfl;rw[A,B];show Mh (.mp 1) (SV p) (uS ()) (upd H 3 (V_ gs none)) _=_;rw[gZ (f:=uS) (v:=()) c];have i:Aj (upd (upd H 3 (V_ gs none)) 1 (.map false (Dc uS (LJ b p ())) none)) 3=some (V_ gs none):=by rw[Ag (by decide)];exact a
  show E2 (upd (upd H 3 (V_ gs none)) 1 (.map false (Dc uS (LJ b p ())) none)) 3 false (some none) _=_;rw[B5D i];refine r _ ⟨?_,?_,?_,XA1 i,Bn (Bn w1)⟩ λu y q k=> ?_
  ·rw[Ag (by decide),Ag (by decide)];exact d
  ·rw[Ag (by decide)];exact(BB c).trans rfl
  ·rw[Ag (by decide),Ag (by decide)];exact e
  ·rw[Ag (by omega),Ag (by omega)];exact g u y q k
def B9F {c:AV->AV->AV->AV->AV->AV->Hp->Af} {j:AV} {y:Row} {ps:List AM} (hb:ps.length<100):∀(f i:Nat) (b:List (AM×Unit)) (H:Hp),i<=ps.length->ps.length-i<f->Ms gs b H->Aj H 4=some y->
 (∀d a,Ms gs (U! (gs.map Cd.id) b (ps.drop i)) a->Aj a 4=some y->c (.yl 3) (S s) j (DJ ps) (I ps.length) d a=x)->
 Gh (L+20) (r! L (n+2)) K c f (.yl 3) (S s) j (DJ ps) (I ps.length) (I i) H=x:=by
 intro f
 induction f with
 |zero=>intro i b H _ h;omega
 |succ f ih=>
  intro i b H r q hm k e;rw[K5];unfold Gj Iv A0;by_cases h:i<ps.length
  ·rw[FR (by omega),Cy,(MK ps).ia h,L5];rw[vA h] at e;refine B3o hm λa g m=> ?_;rw[En];show Az (.v (.bool false)) _ _=_;rw[Bj,Dg (by omega)];exact ih (i+1) _ a (by omega) (by omega) g (m 4 y (by decide) k) e
  ·rw[FP (by omega),Bj];have:i=ps.length:=by omega
   subst this;rw[List.drop_length] at e;exact e _ H hm k
def B9G {Y:Hp->Af} {w:AV} (hw:Vn 6 w w=true) (V:∀c∈gs,c.ps.length<100) (hL:100<L)
 (r:∀b H,Ms gs b H->(b.map Prod.fst).Perm (IA gs)->Y H=some (w,[])):
 ∀(f:Nat) (es:List (AM×Cd)) (b:List (AM×Unit)) (H:Hp) (o:Option (Value×AV)) (B d1 d2 C:AV),es.length<f->(∀e∈es,e∈gE gs)->Ms gs b H->Aj H 4=some (.iter (Dc DF es) o)->
 (b.map Prod.fst).Nodup->(∀q∈b.map Prod.fst,q∈IA gs)->(∀q∈IA gs,q∈b.map Prod.fst\/∃e∈es,q∈e.2.ps)->
 Gi (L+20) (r! L (n+2)) K Y f (.yl 3) B (.it 4) d1 d2 C H=some (w,[]):=by
 intro f
 induction f with
 |zero=>intro es b H o B d1 d2 C h;omega
 |succ f ih=>
  intro es b H o B d1 d2 C hf he hm R A h1 h2;rw[K6];unfold Gk Eh A0;refine XM (f:=DF) hw R (λe=> ?_) (λa e c M=> ?_)
  ·subst e;rw[EX,Bj];refine r b H hm ((l37 A sZ).2 λq=>⟨h1 q,λhq=>(h2 q hq).elim id λ⟨e,he,_⟩=>absurd he (by simp)⟩)
  ·subst M;obtain⟨cd,i,J⟩:=Ma.1 (he e (by simp));subst J;have j:=Lv (es:=Dc DF (a++c)) (o:=some (.string ⟨⟨cd.id⟩⟩,DF cd)) R;have k:Ms gs b (upd H 4 (.iter (Dc DF (a++c)) (some (.string ⟨⟨cd.id⟩⟩,DF cd)))):=hm.kp (Bn hm.wf) λu y hu Q=>by rw[Ag (by omega)];exact Q
   rw[EX,Cy];simp only[BK];rw[No j,EX,Na];generalize upd H 4 (.iter (Dc DF (a++c)) (some (.string ⟨⟨cd.id⟩⟩,DF cd)))=H1 at j k;obtain⟨H2,e2,F,w2,X⟩:=Ih (e:=Ad) (zs:=CH) (vs:=cd.cs) k.wf EA;rw[B1 (cs:=CH) rfl,Cc (cs:=CH) (vs:=cd.cs) (Aw (by simp)) EA rfl Mk,<-e2,fA,JQ,B1A F,hJ];have P:=k.kp w2 λu y _ Q=>(X u y Q).1;have O:=(X _ _ j).1;have e0:(AV.v (.int .i64 0))=I ((0:Nat):Int):=rfl;rw[e0];refine B9F (n:=n) (V cd i) (L+20) 0 b H2 (by omega) (by have:=V cd i;omega) P O λd Z t N=> ?_;rw[pM] at t;obtain⟨g1,D⟩:=mA (ids:=gs.map Cd.id) cd.ps b A;refine ih (a++c) _ Z _ _ _ _ _ (by simp at hf⊢;omega) (λe g=>he e (by simp at g⊢;rcases g with g|g;exact .inl g;exact .inr (.inr g))) t N g1 (λq hq=> ?_) (λq hq=> ?_)
   ·rcases(D q).1 hq with hq|⟨hq,hn⟩
    ·exact h1 q hq
    ·exact Jn.2 ⟨hn,cd,i,hq⟩
   ·rcases h2 q hq with h|⟨e,g,m⟩
    ·exact .inl ((D q).2 (.inl h))
    ·simp at g;rcases g with g|g|g
     ·exact .inr ⟨e,by simp[g],m⟩
     ·subst g;exact .inl ((D q).2 (.inr ⟨m,(Jn.1 hq).1⟩))
     ·exact .inr ⟨e,by simp[g],m⟩
def A65 {a:AV} (m:GOk gs) (O:40000<L) (w:∀c∈gs,c.ps.length<100) (u:LA gs a):CS (r! L (n+80)) ME [a] (DJ (IA gs)):=by
 intro K d;rw[fM];unfold Qw;have k:Rr true depth [a] [a] [] false:=by rcases u with rfl|⟨_,rfl⟩<;>exact λK=>by kernel_rfl
 have of:∀{K:AV->Af},An (r! L (n+79)) L0 [a] [] K=K (.tup [gV gs,Bo true]):= λ{K}=>Ky (λK d=>B6m (n:=n+15) m O u K d) k;have j:∀{H} {K:AV->Af},An (r! L (n+79)) Fj [gV gs] H K=K (B0S gs):= λ{H K}=>by
  refine Ky (λK d=> ?_) (Am (q:=false) gL AJ);rw[show n+79=(n+78)+1 from rfl,Nk];unfold IU Ip;rw[uB];exact d _ _ ⟨true,λK=>by kernel_rfl⟩
 rw[of,F3,F2];have w0:Vn 6 (DJ (IA gs)) (DJ (IA gs))=true:=SP 6 _ (A9K _);have J:∀{F:AV->AV->Hp->Af},(Bx C9 Ah [] λy A=>E0 Ah y (gV gs) A λB=>L4 F4 B λR C=>Bx CL CA C λg h=>E0 CA g R h λi=>F y g i)=
  F (.ptr 0 0 0) (.ptr 2 0 0) [(2,c_ CL [.mp 1]),(1,.map false [] none),(0,c_ C9 [gV gs])]:= λ{F}=>by kernel_rfl
 rw[J];simp only[BK];have M:∀{K:AV->Af},AF Ah (.ptr 0 0 0) [(2,c_ CL [.mp 1]),(1,.map false [] none),(0,c_ C9 [gV gs])] K=K (gV gs):= λ{K}=>by kernel_rfl
 rw[M,j,Vw,show n+79=(n+78)+1 from rfl,KW];unfold GC;have N:∀{H:Hp} {K:AV->Af},AF Ah (.iptr [gV gs]) H K=K (gV gs):= λ{H K}=>by kernel_rfl
 rw[N,Wy];simp only[BK];refine B9G (n:=n+76) w0 w (by omega) (λb H hm f=> ?_) (L+20) (gE gs) [] _ none _ _ _ _ (by have:=m.len;simp[gE];omega) (λe he=>he)
  ⟨rfl,rfl,rfl,rfl,AI (AI (AI (AI (AI Fk))))⟩ rfl (by simp) (by simp) (λq hq=> .inr ?_)
 ·show IJ H 3 _=_;rw[Bf hm.lp];show LC H 3 .gone _=_;rw[Dh];have Q:Aj (upd H 3 .gone) 2=some (c_ CL [.mp 1]):=by rw[Ag (by decide)];exact hm.st
  have r:Aj (upd H 3 .gone) 1=some (.map false (Dc uS b) none):=by rw[Ag (by decide)];exact hm.mm
  show AF CA (.ptr 2 0 0) (upd H 3 .gone) _=_;rw[AP (p:=0) rfl Q (by simp)];have P:b.length<1000:=by
   have:=f.length_eq;rw[QI] at this;rw[this];exact A6I m w
  refine mE (n:=n+73) w0 (by omega) (by omega) (Bn hm.wf) r f I_ λv V hv t=> ?_;exact d _ _ λbb=>by
   obtain⟨q,hq⟩:=gK (D:=depth-1) (b:=bb) hv t;exact⟨q,hq⟩
 ·obtain⟨_,c,hc,hq⟩:=Jn.1 hq;exact⟨(c.id,c),Ma.2 ⟨c,hc,rfl⟩,hq⟩
end
end
def RW (gs:List Cd) (s:AM):List AM:=match Mn (gE gs) s with
 |some c=>c.ps
 |none=>[]
inductive Anc (gs:List Cd) (s:AM):AM->Prop
 |one {x:AM}:x∈gs.map Cd.id->x∈RW gs s->Anc gs s x
 |more {x y:AM}:Anc gs s y->x∈gs.map Cd.id->x∈RW gs y->Anc gs s x
section
variable {gs:List Cd} {s x y p:AM}
def Anc.ids (h:Anc gs s x):x∈gs.map Cd.id:=by
 cases h with
 |one h _=>exact h
 |more _ h _=>exact h
def A7r:Anc gs s x↔(x∈gs.map Cd.id/\x∈RW gs s)\/∃p∈RW gs s,p∈gs.map Cd.id/\Anc gs p x:=by
 constructor
 ·intro h
  induction h with
  |one h1 h2=>exact .inl ⟨h1,h2⟩
  |@more x y d h1 h2 ih=>
   rcases ih with⟨b,a⟩|⟨p,b,a,c⟩
   ·exact .inr ⟨y,a,b,.one h1 h2⟩
   ·exact .inr ⟨p,b,a,.more c h1 h2⟩
 ·rintro(⟨h1,h2⟩|⟨p,h1,h2,b⟩)
  ·exact .one h1 h2
  ·induction b with
   |one a c=>exact .more (.one h2 h1) a c
   |more _ a c ih=>exact .more ih a c
end
open Classical in
def B55 (gs:List Cd) (s:AM):List AM:=DQ ((gs.map Cd.id).filter λx=>decide (Anc gs s x))
section
variable {gs:List Cd} {s x p:AM}
end
def Yz (H:Hp) (v:AV) (l:List AM):Prop:=(v=As/\l=[])\/∃r o q cs,v= .sl 1 r o l.length/\Aj H r=some (.cells q Ar cs)/\cs.drop o=AG l/\o+l.length=cs.length
section
variable {H:Hp} {v:AV} {l ps:List AM} {K:AV->Af} {p:AM}
def A1v {K:Nat->List AV->Af}:Ta H (DJ ps) K=K ps.length (AG ps):=by
 cases ps with
 |nil=>exact B0X
 |cons a l=>exact Va
def A0r:(AG ps).all AV.one=true:=by
 rw[GH];intro y a;obtain⟨s,_,rfl⟩:=Ma.1 a;rfl
def xO:(Zz Ac.d&&Tf 1 (DJ ps))=true:=by
 cases ps<;>rfl
def Yz.app (h:Yz H v l) (hn:l.length+ps.length<1000000):∃k f,(∀K:KV,E9 Ar 1 Ai Ac v (DJ ps) H K=K k f)/\Yz f k (l++ps)/\(∀u,A8 k u->u=Ao H)/\Lat H f (A8 v):=by
 have hb:(l.length+ps.length)*Ai.bytes<=70368744177664:=by
  have:Ai.bytes<=100000:=by decide
  exact Z7 (Nat.mul_le_mul (show l.length+ps.length<=1000000 by omega) this) (by decide)
 rcases h with⟨rfl,rfl⟩|⟨r,o,q,cs,rfl,h1,h2,O⟩
 ·obtain⟨k,f,J,L,M,N⟩:=apt (H:=H) (e:=Ar) (sz:=1) (n:=0) (m:=ps.length) (ie:=Ai) (i2:=Ac) (v:=As) (src:=DJ ps) (cs:=[]) (ys:=AG ps) (.inl ⟨rfl,rfl,rfl⟩) (λK=>A1v) (by rw[AX];omega) A0r (by decide) rfl xO (by simpa using hb) (by omega);refine⟨k,f,J,?_,M,N⟩;rcases L with⟨rfl,a,b⟩|⟨r,q,rfl,a,b⟩
  ·left;refine⟨rfl,?_⟩;have:ps.length=0:=by omega
   rw[l3d];exact mL this
  ·exact .inr ⟨r,0,q,_,by simp,a,by simp,by simp[AX]⟩
 ·have j:∀K:KV,Ve Ar 1 Ai Ac (.sl 1 r o l.length) (DJ ps) H K=IJ H r λx=>JV x λE cs=>HI cs 0 λcl=>
   ck (Nat.beq E Ar&&(Nat.beq 1 1&&(Nat.beq (Nat.add o (Nat.mul l.length 1)) cl&&(Nat.ble (Nat.mul (Nat.add l.length ps.length) Ai.bytes) 70368744177664&&Nat.ble (Nat.add l.length ps.length) 70368744177664))))
    (Ym (Di o cs) (AG ps) λg=>LC H r .gone λf=>Ig H λr=>fN (Nat.add l.length ps.length) λnm=>K (.sl 1 r 0 nm) ((r,.cells false Ar g)::f)):= λK=>by
   unfold Ve;rw[A1v,Co,CI,Co];have c:(Nat.beq (0+(AG ps).length) (Nat.mul ps.length 1)&&(Nu (AG ps)&&(!Nat.beq 1 0&&(Nat.beq (0+(Bv Ai.zero).length) 1&&(Zz Ac.d&&Tf 1 (DJ ps))))))=true:=by
    rw[FI,A0r,xO,AX];have t:Nat.beq (0+ps.length) (Nat.mul ps.length 1)=true:=by
     rw[JQ];show Nat.beq ps.length (ps.length*1)=true;rw[pL];exact mK _
    rw[t];rfl
   rw[c];rfl
  refine⟨.sl 1 (Ao H) 0 (l.length+ps.length),(Ao H,.cells false Ar (AG (l++ps)))::upd H r .gone,λK=> ?_,?_,λu ⟨a,b,c,w⟩=>by injection w with _ w;exact w.symm,?_⟩
  ·have t:E9 Ar 1 Ai Ac (.sl 1 r o l.length) (DJ ps) H K=IJ H r λx=>JV x λE cs=>HI cs 0 λcl=>@Bool.rec (λ_=>Af) (SB (Nat.add o (Nat.mul l.length 1)) cs λg=>LC H r (.cells false E g) λC=>Ve Ar 1 Ai Ac (.sl 1 r o l.length) (DJ ps) C K) (Ve Ar 1 Ai Ac (.sl 1 r o l.length) (DJ ps) H K) (Nat.beq (Nat.add o (Nat.mul l.length 1)) cl):=rfl;rw[t,Bf h1];have B:∀F:TypeId->List AV->Af,JV (.cells q Ar cs) F=F Ar cs:= λ_=>rfl;rw[B,Co];have A:Nat.beq (Nat.add o (Nat.mul l.length 1)) (0+cs.length)=true:=by
    show Nat.beq (o+l.length*1) (0+cs.length)=true;rw[pL,O,JQ];exact mK _
   rw[A];show Ve Ar 1 Ai Ac (.sl 1 r o l.length) (DJ ps) H K=_;rw[j K];rw[Bf h1,B,Co];have c:(Nat.beq Ar Ar&&(Nat.beq 1 1&&(Nat.beq (Nat.add o (Nat.mul l.length 1)) (0+cs.length)&&(Nat.ble (Nat.mul (Nat.add l.length ps.length) Ai.bytes) 70368744177664&&Nat.ble (Nat.add l.length ps.length) 70368744177664))))=true:=by
    rw[A,mK,mK];simp only[X',Kw,iS];exact⟨hb,show l.length+ps.length<=_ by omega⟩
   rw[c];show Ym (Di o cs) (AG ps) _=_;rw[MD,Dh,BV,DT,C6,h2];have D:AG l++AG ps=AG (l++ps):=by simp[AG]
   rw[D];rfl
  ·have i:=Aw (H:=upd H r .gone) (x:= .cells false Ar (AG (l++ps))) (by simp);rw[BC] at i;exact .inr ⟨Ao H,0,false,_,by rw[EY],i,rfl,by rw[AX];omega⟩
  ·have P:Lat H (upd H r .gone) (A8 (.sl 1 r o l.length)):=Lat.upd H r .gone ⟨1,o,_,rfl⟩;have i:=Lat.cons (upd H r .gone) (.cells false Ar (AG (l++ps))) (A8 (.sl 1 r o l.length));rw[BC] at i;exact P.trans i (λ_ _ h=>h) (λ_ _ h=>h)
end
section
variable {L n:Nat}
section
variable {gs:List Cd} {s p:AM} {H:Hp} {K:KV} {x:Af} {ps:List AM}
def B61:Hf Ar 1 Ai 0 [] H K=K (.sl 1 (Ao H) 0 0) ((Ao H,.cells false Ar [])::H):=by
 have e:Hf Ar 1 Ai 0 [] H K=Ig H (λs=>K (.sl 1 s 0 0) ((s,.cells false Ar [])::H)):=r_ rfl;rw[e,BV]
def B2L (wf:Wf H) (hn:ps.length<100) (f:∀v b,Yz b v ps->(∀u y,Aj H u=some y->Aj b u=some y)->(∀u,A8 v u->Ao H<=u)->Wf b->K v b=x):
 (r! L (n+1)).call Bg [DJ ps] H K=x:=by
 rw[FO];unfold D9 Ip;cases ps with
 |nil=>
  have e:∀{K:AV->Af},Go.Abs.Ap Ac .eql (DJ []) (AV.v (.slice none 0 0)) K=K (Bo true):= λ{K}=>id rfl;rw[e,Cy];exact f As H (.inl ⟨rfl,rfl⟩) (λu y h=>h) (λu ⟨_,_,_,h⟩=>by cases h) wf
 |cons a l=>
  have e:∀{K:AV->Af},Go.Abs.Ap Ac .eql (DJ (a::l)) (AV.v (.slice none 0 0)) K=K (Bo false):= λ{K}=>id rfl;rw[e,Bj,B61];have hb:=Aw (H:=H) (x:= .cells false Ar []) (by simp);have w1:=AI (x:= .cells false Ar []) wf;obtain⟨m,b,g,i,j,d⟩:=Yz.app (H:=(Ao H,.cells false Ar [])::H) (v:= .sl 1 (Ao H) 0 0) (l:=[]) (ps:=a::l) (.inr ⟨Ao H,0,false,[],rfl,hb,rfl,rfl⟩) (by simp at hn⊢;omega);rw[g];refine f m b i (λu y c=> ?_) (λu c=> ?_) (d.wf w1)
  ·have k:=wf.lt c;refine d.keep w1 u y (A4 k c) λ⟨_,_,_,h⟩=> ?_;injection h with _ h;omega
  ·have:=j u c;have h2:Ao ((Ao H,Row.cells false Ar [])::H)=Ao H+1:=rfl;omega
end
end
section
variable {a:Int} {b k:Nat}
variable {L n:Nat}
def B0E (h:Le a) (c:k<3):Le (a.fdiv (2^(4*k))):=by
 unfold Le at h⊢;have e:a.fdiv (2^(4*k))=a/(2^(4*k)):=Int.fdiv_eq_ediv_of_nonneg _ (Int.le_of_lt (Int.pow_pos (by decide)));rw[e];obtain rfl|rfl|rfl:k=0\/k=1\/k=2:=by omega
 ·rw[show(2:Int)^(4*0)=1 by decide];omega
 ·rw[show(2:Int)^(4*1)=16 by decide];omega
 ·rw[show(2:Int)^(4*2)=256 by decide];omega
def B5n {j:TI} {K:AV->Af} (c:k<=64):Go.Abs.Ap j .shr (I a) (I k) K=K (I (a.fdiv (2^k))):=by
 have:Go.Abs.Ap j .shr (I a) (I k) K=ck (oR 0 (k:Int)) (fI (a.fdiv (2^(min (k:Int).toNat 64))) λz=>K (.v (.int .i64 z))):=rfl;rw[this,UZ,kV,l22 c];have h1:oR 0 (k:Int)=true:=by rw[Lw];simp
 rw[h1];rfl
def rd7 {H:Hp} {y:Y7} (h:Aj H b=some (c_ YC y.cs)):
 (∀{K},AF Ab (.ptr b 0 0) H K=K (I y.y0))/\(∀{K},AF Ab (.ptr b 1 0) H K=K (I y.y1))/\(∀{K},AF Ab (.ptr b 2 0) H K=K (I y.y2))/\(∀{K},AF Ab (.ptr b 3 0) H K=K (I y.y3))/\(∀{K},AF Ab (.ptr b 4 0) H K=K (I y.y4))/\(∀{K},AF Ab (.ptr b 5 0) H K=K (I y.y5))/\(∀{K},AF Ab (.ptr b 6 0) H K=K (I y.y6)):=
 ⟨λ{K}=>AP (p:=0) rfl h (by simp[Y7.cs]),λ{K}=>AP (p:=1) rfl h (by simp[Y7.cs]),λ{K}=>AP (p:=2) rfl h (by simp[Y7.cs]),λ{K}=>AP (p:=3) rfl h (by simp[Y7.cs]),λ{K}=>AP (p:=4) rfl h (by simp[Y7.cs]),λ{K}=>AP (p:=5) rfl h (by simp[Y7.cs]),λ{K}=>AP (p:=6) rfl h (by simp[Y7.cs])⟩
def C2i {K:AV->Af}:Dw Cl (.ptr b 0 0) (.v (.int .i64 0)) K=K (.ptr b 0 0):=EJ (z:=0) 0 rfl rfl (by decide)
def C4k {K:AV->Af}:Dw Cl (.ptr b 0 0) (.v (.int .i64 1)) K=K (.ptr b 1 0):=EJ (z:=1) 1 rfl rfl (by decide)
def C4j {K:AV->Af}:Dw Cl (.ptr b 0 0) (.v (.int .i64 2)) K=K (.ptr b 2 0):=EJ (z:=2) 2 rfl rfl (by decide)
def C4i {K:AV->Af}:Dw Cl (.ptr b 0 0) (.v (.int .i64 3)) K=K (.ptr b 3 0):=EJ (z:=3) 3 rfl rfl (by decide)
def C4h {K:AV->Af}:Dw Cl (.ptr b 0 0) (.v (.int .i64 4)) K=K (.ptr b 4 0):=EJ (z:=4) 4 rfl rfl (by decide)
def C4g {K:AV->Af}:Dw Cl (.ptr b 0 0) (.v (.int .i64 5)) K=K (.ptr b 5 0):=EJ (z:=5) 5 rfl rfl (by decide)
def C2h {K:AV->Af}:Dw Cl (.ptr b 0 0) (.v (.int .i64 6)) K=K (.ptr b 6 0):=EJ (z:=6) 6 rfl rfl (by decide)
structure Pa (H0:Hp) (ps:List (List UInt8)) (u:AV) (H:Hp):Prop where
 sl:B2 H Ar 1 u ps.length (AG ps)
 nl:ps=[]->u=As
 fr:∀s,A8 u s->Ao H0<=s
 wf:Wf H
 w0:Wf H0
 nx:Ao H0<=Ao H
 kp:∀s q,Aj H0 s=some q->Aj H s=some q
section
variable {K:KV} {x:Af} {H0 H H':Hp} {y:Y7} {ids:List (List UInt8)} {a0 lv iv kd:AV} {q7 i:Nat}
def C1F {m:AV->AV->AV->AV->AV->AV->AV->AV->Hp->Af} (hL:100<L) (Z:Le y.y6) (hq:Aj H0 q7=some (c_ YC y.cs)) (hi:B2 H0 Ar 1 iv ids.length (AG ids)) (hb:ids.length<100)
 (j:∀u k H,Pa H0 (vV ids y.y6 3) u H->m a0 lv iv (I i) (.ptr q7 0 0) kd u k H=x):
 ∀(f k:Nat) (u:AV) (H:Hp),k<=3->3-k<f->Pa H0 (vV ids y.y6 k) u H->
 T3 (L+20) (r! L (n+64)) K m f a0 lv iv (I i) (.ptr q7 0 0) kd u (I k) H=x:=by
 intro f
 induction f with
 |zero=>intro k u H _ h;omega
 |succ f ih=>
  intro k u H hk hf d;rw[mX];unfold T6 Iv Df A0 HQ;have V:(AV.v (.int .i64 3))=I ((3:Nat):Int):=rfl;have w:=hi.kp λs q _=>d.kp s q;rw[V];by_cases h:k<3
  ·rw[FR (by omega)];simp only[gT,Cn,Lb (t:=Ac) rfl w,E5];by_cases B:0<ids.length
   ·have hm:=Nat.mod_lt (pk (y.y6.fdiv (2^(4*k))) 16).toNat B;have pr:=FY (c:=y.y6.fdiv (2^(4*k))) (n:=16) (by decide);obtain⟨-, -, -, -, -, -,P⟩:=rd7 (d.kp _ _ hq);have ml:∀{K:AV->Af},Go.Abs.Ap Ab .mul (.v (.int .i64 4)) (I (k:Int)) K=K (I ((4*k:Nat):Int)):= λ{K}=>by
     rw[Qm,CW (by omega) (by omega)];rw[show(4:Int)*(k:Int)=((4*k:Nat):Int) by omega]
    have C:∀{H K},An (r! L (n+64)) XA5 [I (y.y6.fdiv (2^(4*k))),.v (.int .i64 16)] H K=K (I (pk (y.y6.fdiv (2^(4*k))) 16)):= λ{H K}=>A0P (n:=n+63) (B0E Z h) (by decide) (by decide) H K;have J:∀{K:AV->Af},Go.Abs.Ap Ab .add (I k) (.v (.int .i64 1)) K=K (I ((k+1:Nat):Int)):= λ{K}=>Dg (by omega);rw[Iu (by omega),UH,Cy];simp only[BK];rw[C2h,P,ml,B5n (by omega),C,Ej];have r:vV ids y.y6 (k+1)=if 0<ids.length/\pk (y.y6.fdiv (2^(4*k))) 16<14 then vV ids y.y6 k++[ids.getD ((pk (y.y6.fdiv (2^(4*k))) 16).toNat%ids.length) []] else vV ids y.y6 k:=rfl
    by_cases g:pk (y.y6.fdiv (2^(4*k))) 16<14
    ·rw[Dj ⟨B,g⟩] at r;have D:PL H ids iv:= .inr w;obtain⟨p,X,Y⟩:=D.at2 hm;have rm:∀{K:AV->Af},Go.Abs.Ap Ab .rem (I (pk (y.y6.fdiv (2^(4*k))) 16)) (I (ids.length:Int)) K=K (I (((pk (y.y6.fdiv (2^(4*k))) 16).toNat%ids.length:Nat):Int)):= λ{K}=>by
      rw[Vd (by omega),Int.tmod_eq_emod_of_nonneg pr.1];have:(pk (y.y6.fdiv (2^(4*k))) 16)=(((pk (y.y6.fdiv (2^(4*k))) 16).toNat:Nat):Int):=by omega
      rw[this,kV];rfl
     have aa:=A51 (ids:=ids) (y6:=y.y6) k;obtain⟨u',H',a1,a2,M,a4,N,O⟩:=T? (ie:=Ai) (i2:=Ac) (ys:=AG [ids[(pk (y.y6.fdiv (2^(4*k))) 16).toNat%ids.length]]) d.sl d.wf rfl rfl (by decide) rfl (λ_=>rfl) (by show(_+1)*16<=_;omega) (by omega);have R:ids.getD ((pk (y.y6.fdiv (2^(4*k))) 16).toNat%ids.length) []=ids[(pk (y.y6.fdiv (2^(4*k))) 16).toNat%ids.length]:=by simp[List.getD,K9 hm]
     rw[R] at r;have g0:=d.nx;rw[Iu g,Cy,rm,X,Y,iI,a1,J];refine ih (k+1) u' H' (by omega) (by omega) ⟨?_,λe=> ?_,λs A=> ?_,M,d.w0,by omega,λs q A=> ?_⟩
     ·rw[r,EY];have:AG (vV ids y.y6 k++[ids[(pk (y.y6.fdiv (2^(4*k))) 16).toNat%ids.length]])=AG (vV ids y.y6 k)++AG [ids[(pk (y.y6.fdiv (2^(4*k))) 16).toNat%ids.length]]:=by simp[AG]
      rw[this];exact a2
     ·rw[r] at e;simp at e
     ·have:=O s A;omega
     ·exact N _ _ (d.kp s q A) λe=>by have:=d.fr s e;have:=d.w0.lt A;omega
    ·rw[C4 λhc=>g hc.2] at r;rw[IG g,Bj,J];exact ih (k+1) u H (by omega) (by omega) (by rw[r];exact d)
   ·rw[IG (by omega),UH,Bj];have Q:∀k,vV ids y.y6 k=[]:=by
     intro k
     induction k with
     |zero=>rfl
     |succ k F=>unfold vV;rw[C4 λhc=>B hc.1];exact F
    refine j u _ H ?_;rw[Q] at d⊢;exact d
  ·have:k=3:=by omega
   subst this;rw[FP (by omega)];simp only[dF,Cn,SS];rw[Bj];exact j u _ H d
end
end
section
variable {a:AV} {s:Nat}
variable {L n:Nat}
structure Gm (g:GV) (lv iv:AV) (H:Hp):Prop where
 gv:GvOk g H
 sl:B2 H Ad 68 lv g.length (gvC g)
 nl:g=[]->lv=As
 si:B2 H Ar 1 iv g.length (AG ((g.map Prod.fst).map Cd.id))
 ni:g=[]->iv=As
 dl:∀s,A8 lv s->¬A8 iv s/\∀p∈g,¬A8 p.2 s
 di:∀s,A8 iv s->∀p∈g,¬A8 p.2 s
 wf:Wf H
section
variable {K:KV} {x:Af} {H0 H H':Hp} {g:GV} {lv iv a0:AV} {c:Cd} {v:AV}
def Gm.grow (h:Gm g lv iv H) (wf:Wf H') (kp:∀s q,Aj H s=some q->Aj H' s=some q):Gm g lv iv H':=
 ⟨⟨λp b=>(h.gv.sl p b).kp λs q _=>kp s q,h.gv.nl⟩,h.sl.kp λs q _=>kp s q,h.nl,h.si.kp λs q _=>kp s q,h.ni,h.dl,h.di,wf⟩
def Gm.lti (h:Gm g lv iv H) (b:A8 iv s):s<Ao H:=h.si.lt h.wf b
def Gm.ltl (h:Gm g lv iv H) (b:A8 lv s):s<Ao H:=h.sl.lt h.wf b
def Gm.ltp (h:Gm g lv iv H) {p:Cd×AV} (b:p∈g) (d:A8 p.2 s):s<Ao H:=(h.gv.sl p b).lt h.wf d
def C3i {cs:List AV} (d:cs.length=68) (h1:cs.all AV.one=true):Hf Ad 68 Ae 1 [(0,68,.agg cs)] H K=K (.sl 68 (Ao H) 0 1) ((Ao H,.cells false Ad cs)::H):=by
 have e:Hf Ad 68 Ae 1 [(0,68,.agg cs)] H K=GW (.agg cs) λvs=>HI vs 0 λn=>ck (Nat.beq n 68) (ck (Nu vs) (El 0 vs CH λb=>Ig H λs=>K (.sl 68 s 0 1) ((s,.cells false Ad b)::H))):=r_ rfl;have hc:Bv (.agg cs)=cs:=rfl;rw[e,CI,hc,Co,d,FI,h1];show El 0 cs CH _=_;rw[Il _ _ _ _ (by rw[d];decide),Vu _ _ (by rw[d];rfl),BV]
def Gm.add (h:Gm g lv iv H) (hv:B2 H Ar 1 v c.ps.length (AG c.ps)) (hn:c.ps=[]->v=As) (B:∀s,A8 v s->¬A8 lv s/\¬A8 iv s) (hb:g.length<100):
 ∃i j f k,(∀K:KV,(Hf Ad 68 Ae 1 [(0,68,.agg (c.csP v))] H λv1 j=>E9 Ad 68 Ae Av lv v1 j K)=K i j)/\
  (∀K:KV,(Hf Ar 1 Ai 1 [(0,1,S c.id)] j λv1 k=>E9 Ar 1 Ai Ac iv v1 k K)=K f k)/\Gm (g++[(c,v)]) i f k:=by
 obtain⟨i,j,a1,a2,u,D,w,y⟩:=T? (ie:=Ae) (i2:=Av) (ys:=c.csP v) h.sl h.wf (O8 c) (pX c (B2.one hv)) (by decide) rfl (λ_=>rfl) (by show(_+1)*800<=_;omega) (by omega);have t:B2 j Ar 1 iv g.length (AG ((g.map Prod.fst).map Cd.id)):=h.si.kp λs q d r=>w s q r (λe=>(h.dl s e).1 d);obtain⟨f,k,b1,b2,C,b4,A,b6⟩:=T? (ie:=Ai) (i2:=Ac) (ys:=AG [c.id]) t u rfl rfl (by decide) rfl (λ_=>rfl) (by show(_+1)*16<=_;omega) (by omega);have kp:∀s q,¬A8 lv s->¬A8 iv s->Aj H s=some q->Aj k s=some q:= λs q h1 h2 d=>A _ _ (w _ _ d h1) h2;refine⟨i,j,f,k,λK=>by rw[C3i (O8 c) (pX c (B2.one hv))];exact a1 K,λK=>by rw[iI];exact b1 K,⟨λp b=> ?_,λp b=> ?_⟩,?_,λe=>by simp at e,?_,λe=>by simp at e,λs d=>⟨λe=> ?_,λp b e=> ?_⟩,λs d p b e=> ?_,C⟩
 ·rcases Zs.1 b with b|b
  ·exact(h.gv.sl p b).kp λs q d=>kp s q (λe=>(h.dl s e).2 p b d) (λe=>h.di s e p b d)
  ·rw[Ur] at b;subst b;exact hv.kp λs q d=>kp s q (B s d).1 (B s d).2
 ·rcases Zs.1 b with b|b
  ·exact h.gv.nl p b
  ·rw[Ur] at b;subst b;exact hn
 ·have m:gvC (g++[(c,v)])=gvC g++c.csP v:=by simp[gvC]
  rw[m,EY];exact B2.kp a2 λs q d r=>A s q r λe=>by have:=y s d;have:=h.lti e;omega
 ·have m:AG (((g++[(c,v)]).map Prod.fst).map Cd.id)=AG ((g.map Prod.fst).map Cd.id)++AG [c.id]:=by simp[AG]
  rw[m,EY];exact b2
 ·have:=b6 s e;have:=B2.lt a2 u d;omega
 ·have:=y s d;rcases Zs.1 b with b|b
  ·have:=h.ltp b e;omega
  ·rw[Ur] at b;subst b;have:=hv.lt h.wf e;omega
 ·have:=b6 s d;rcases Zs.1 b with b|b
  ·have:=h.ltp b e;omega
  ·rw[Ur] at b;subst b;have:=hv.lt h.wf e;omega
def XA (xs:List Y7) (a:AV):Prop:=a= .list xs.length (xs.flatMap Y7.cs)\/(xs=[]/\a=As)
def XA.len {xs:List Y7} {K:AV->Af} (h:XA xs a):Bq Mr a K=K (I xs.length):=by
 rcases h with rfl|⟨rfl,rfl⟩<;>exact r_ rfl
def XA.ia {xs:List Y7} {i:Nat} {K:AV->Af} (h:XA xs a) (b:i<xs.length):Dw Mr a (I i) K=K (.iptr xs[i].cs):=by
 rcases h with rfl|⟨rfl,rfl⟩
 ·exact WH (f:=Y7.cs) rfl (λ_=>rfl) b
 ·simp at b
end
end
section
variable {a b c d:Int}
variable {L n:Nat}
section
variable {K:KV} {x:Af} {xs:List Y7} {a0:AV}
def b6 {a b c d e f:Int} {K:AV->Af}:BZ B6 [(0,1,I a),(1,1,I b),(2,1,I c),(3,1,I d),(4,1,I e),(5,1,I f)] K=K (.agg [I a,I b,I c,I d,I e,I f]):=id rfl
def b4 {K:AV->Af}:BZ CK [(0,1,I a),(1,1,I b),(2,1,I c),(3,1,I d)] K=K (.agg [I a,I b,I c,I d]):=id rfl
def bs4 {H:Hp}:Hf HS 4 CK 1 [(0,4,.agg [I a,I b,I c,I d])] H K=K (.sl 4 (Ao H) 0 1) ((Ao H,.cells false HS [I a,I b,I c,I d])::H):=by
 have e:Hf HS 4 CK 1 [(0,4,.agg [I a,I b,I c,I d])] H K=Ig H (λs=>K (.sl 4 s 0 1) ((s,.cells false HS [I a,I b,I c,I d])::H)):=r_ rfl;rw[e,BV]
def C1R {k4:AV->Hp->Af} (hL:40000<L) (hx:XA xs a0) (a4:∀y∈xs,y.Ok)
 (w:∀g lv iv H,g.map Prod.fst=Qn xs (min 8 xs.length)->Gm g lv iv H->k4 lv H=x):
 ∀(f i:Nat) (g:GV) (lv iv:AV) (H:Hp) (d0 d1 d2 d3:AV),i<=min 8 xs.length->min 8 xs.length-i<f->g.map Prod.fst=Qn xs i->Gm g lv iv H->
 T4 (L+20) (r! L (n+64)) K k4 f a0 lv iv (I i) d0 d1 d2 d3 H=x:=by
 intro f
 induction f with
 |zero=>intro i g lv iv H d0 d1 d2 d3 _ h;omega
 |succ f ih=>
  intro i g lv iv H d0 d1 d2 d3 hi hf M hh;rw[mY];unfold T7 Iv Df A0 HQ;have e8:(AV.v (.int .i64 8))=I ((8:Nat):Int):=rfl;rw[hx.len,e8];by_cases h:i<min 8 xs.length
  ·have R:i<xs.length:=by omega
   obtain⟨y,hy⟩:∃y,xs[i]=y:=⟨_,rfl⟩
   have ak:=a4 _ (Qe R);have ay:xs.getD i ⟨0,0,0,0,0,0,0⟩=y:=by rw[<-hy];simp[List.getD,K9 R]
   rw[hy] at ak;obtain⟨o0,o1,o2,o3,o4,o5,o6⟩:=ak;rw[FR (by omega)];simp only[gT,Cn];rw[FR (by omega),Cn,UH,Cy];refine Px λbe aa=> ?_;refine Px λa8 ab=> ?_;have ar:(Qn xs i).length=g.length:=by rw[<-M,QI]
   have g8:=(B0s xs i (by omega)).2;have O:Qn xs (i+1)=if(cM i y ((Qn xs i).map Cd.id)).ps.Nodup/\(cM i y ((Qn xs i).map Cd.id)).id∉(Qn xs i).map Cd.id then Qn xs i++[cM i y ((Qn xs i).map Cd.id)] else Qn xs i:=by
    have:Qn xs (i+1)=if(cM i (xs.getD i ⟨0,0,0,0,0,0,0⟩) ((Qn xs i).map Cd.id)).ps.Nodup/\(cM i (xs.getD i ⟨0,0,0,0,0,0,0⟩) ((Qn xs i).map Cd.id)).id∉(Qn xs i).map Cd.id
     then Qn xs i++[cM i (xs.getD i ⟨0,0,0,0,0,0,0⟩) ((Qn xs i).map Cd.id)] else Qn xs i:=rfl
    rw[this,ay]
   have B:∀g' t p q kd u k C,g'.map Prod.fst=Qn xs (i+1)->Gm g' t p C->a8 a0 t p (I i) q kd u k C=x:=by
    intro g' t p q kd u k C h1 h2;have ad:∀{K:AV->Af},Go.Abs.Ap Ab .add (I i) (.v (.int .i64 1)) K=K (I ((i+1:Nat):Int)):= λ{K}=>Dg (by omega);rw[ab,aa];simp only[ad];exact ih (i+1) g' t p C q kd u k (by omega) (by omega) h1 h2
   clear aa ab ih w;have l7:∀{H} {K:AV->Af},AF Cl (.iptr y.cs) H K=K (.agg y.cs):= λ{H K}=>r_ rfl;obtain⟨H1,e1,m1,w1,am⟩:=Ih (e:=YC) (zs:=[zI,zI,zI,zI,zI,zI,zI]) (vs:=y.cs) hh.wf rfl;rw[hx.ia R,hy,l7,B1 (cs:=[zI,zI,zI,zI,zI,zI,zI]) rfl,Cc (cs:=[zI,zI,zI,zI,zI,zI,zI]) (vs:=y.cs) (Aw (by simp)) rfl rfl rfl,<-e1];have h1:=hh.grow w1 λs q m=>(am s q m).1;generalize Ao H=q7 at m1;clear e1 am hh;obtain⟨Y, -⟩:=rd7 m1;rw[C2i,Y];refine Px λa9 ac=> ?_;have j:a9 (I (kdM i y)) H1=x:=by
    rw[ac];clear ac;refine Px λbf ae=> ?_;refine Px λbc J=> ?_;have aj:=h1.si;rw[M] at aj;have A:((Qn xs i).map Cd.id).length=g.length:=by rw[QI,ar]
    refine C1F (n:=n) (ids:=(Qn xs i).map Cd.id) (by omega) o6 m1 (by rw[A];exact aj) (by rw[A];omega) (λu k H2 hp=> ?_) (L+20) 0 As H1 (by omega) (by omega) ⟨.inl ⟨rfl,rfl,rfl⟩,λ_=>rfl,(λs m=>by obtain⟨_,_,_,h⟩:=m;cases h),w1,w1,Mb _,λ_ _ h=>h⟩;rw[J,ae];clear J ae;obtain⟨-,r1,r2,r3,r4,r5,r6⟩:=rd7 (hp.kp _ _ m1);simp only[C4k,C4j,C4i,C4h,C4g,C2h,r1,r2,r3,r4,r5,r6];rw[b6,b6,b4,bs4];obtain⟨H3,s3,e3,Z,m3,w3,an⟩:=push hp.wf (.cells false HS [I y.y3,I y.y4,I y.y5,I y.y6]) (by simp);rw[<-Z,<-e3];have az:Le (kdM i y):=by
     unfold kdM;split
     ·unfold Le;omega
     ·exact o0
    have a7:YA H3 (some (y.y3,y.y4,y.y5,y.y6)) (.sl 4 s3 0 1):= λC kp=>⟨true,WU (D:=depth-1) (q':=false) (kp _ _ m3) rfl (KO (λz:Int=>Value.int .i64 z) [y.y3,y.y4,y.y5,y.y6])⟩
    have a6:PL H3 (vV ((Qn xs i).map Cd.id) y.y6 3) u:= .inr (hp.sl.kp λs q _ m=>(an _ _ m).1);have h3:=h1.grow w3 λs q m=>(an _ _ (hp.kp s q m)).1;have bd:=A51 (ids:=(Qn xs i).map Cd.id) (y6:=y.y6) 3;clear r1 r2 r3 r4 r5 r6 e3 Z m3 h1;have ax:∀s∈vV ((Qn xs i).map Cd.id) y.y6 3,s.length=32:= λs m=>by
     obtain⟨c,_,rfl⟩:=Ma.1 (A50 _ s m);exact R_ c
    refine rW (n:=n+20) (y:=some (y.y3,y.y4,y.y5,y.y6)) hL w3 az o1 o2 o3 o4 o5 o1 o2 o3 o4 o5 o6 a7 ⟨o3,o4,o5,o6⟩ a6 (by omega) ax ?_;show∀v C,B2 C Ar 1 v (cM i y ((Qn xs i).map Cd.id)).ps.length (AG (cM i y ((Qn xs i).map Cd.id)).ps)->((cM i y ((Qn xs i).map Cd.id)).ps=[]->v=As)->Wf C->(∀s q,Aj H3 s=some q->Aj C s=some q)->(∀s,A8 v s->Ao H3<=s)->_;intro v H4 sv nv w4 ao P;have N:(cM i y ((Qn xs i).map Cd.id)).Ok:=B5Z;have ec:cdM (kdM i y) y.y1 y.y2 y.y3 y.y4 y.y5 y.y1 y.y2 y.y3 y.y4 y.y5 y.y6 (some (y.y3,y.y4,y.y5,y.y6)) (vV ((Qn xs i).map Cd.id) y.y6 3)=cM i y ((Qn xs i).map Cd.id):=rfl;rw[ec];generalize cM i y ((Qn xs i).map Cd.id)=c at sv nv N O⊢;have h4:=h3.grow w4 ao;have hd:∀s,A8 v s->¬A8 lv s/\¬A8 iv s:= λs m=>⟨λe=>by have:=h3.ltl e;have:=P s m;omega,λe=>by have:=h3.lti e;have:=P s m;omega⟩
    obtain⟨X,e5,m5,w5,V⟩:=Ih (e:=Ad) (zs:=CH) (vs:=c.csP v) w4 (O8 c);rw[B1 (cs:=CH) rfl,Cc (cs:=CH) (vs:=c.csP v) (Aw (by simp)) (O8 c) rfl (pX c (B2.one sv)),<-e5];have h5:=h4.grow w5 λs q m=>(V s q m).1;have aq:=B2.kp sv λs q _ m=>(V s q m).1;generalize Ao H4=r at m5;have lc:∀{K},AF Ae (.ptr r 0 0) X K=K (.agg (c.csP v)):= λ{K}=>Bu rfl (by exact(O8 c).symm) m5;clear e5 V h4 h3 sv ao P m5;have ah:((Qn xs i).map Cd.id).length<1000:=by rw[A];omega
    have a3:([]:List UInt8)∉(Qn xs i).map Cd.id:= λe=>by
     obtain⟨d,_,hd⟩:=Ma.1 e;exact uJ d hd
    have af:∀{s:List UInt8} {K},An (r! L (n+64)) To [iv,S s] X K=K (lC s ((Qn xs i).map Cd.id) 0):= λ{s K}=>by
     have ap:=h5.si;rw[M,<-A] at ap;have ba:(Qn xs i).map Cd.id=[]->iv=As:= λe=>h5.ni (by
      have:g.length=0:=by rw[<-A,e];rfl
      exact mL this)
     obtain⟨q,hq⟩:=gK (D:=depth-1) (b:=true) ap ba;exact AQ (B5s (L:=L) (n:=n+63) (s:=s) (MK ((Qn xs i).map Cd.id)) ah (by omega)) (Am hq (Am (q:=false) C7 AJ))
    obtain⟨qc,ai⟩:=Q? (D:=depth-2) aq nv;by_cases F:c.ps.Nodup
    ·have Q:∀{K},An (r! L (n+64)) GU [.agg (c.csP v)] X K=K (S c.id):= λ{K}=>AQ (A47 (n:=n) hL N F) (Am (Lx (D:=depth-1) ai) AJ);rw[lc,Q,af];by_cases hm:c.id∈(Qn xs i).map Cd.id
     ·obtain⟨k,hk, -, -,e⟩:=gH _ 0 hm;rw[C4 λhc=>hc.2 hm] at O;rw[e,F3,F2,YW,IG (uJ c),Bool.not_false];simp only[gT,Cn,ntT,UH];rw[Bj];exact B g lv iv _ _ _ _ X (by rw[O];exact M) h5
     ·rw[Dj ⟨F,hm⟩] at O;obtain⟨t,H6,p,H7,b1,b2,b3⟩:=h5.add aq nv hd (by omega);rw[gI _ 0 hm,F3,F2,YW,IG (uJ c),Bool.not_false];simp only[gT,Cn,ntF,UH];rw[Cy,lc,b1,b2];exact B (g++[(c,v)]) t p _ _ _ _ H7 (by rw[O,YN,M];rfl) b3
    ·have Q:∀{K},An (r! L (n+64)) GU [.agg (c.csP v)] X K=K (S []):= λ{K}=>AQ (B4Y (n:=n) hL N F) (Am (Lx (D:=depth-1) ai) AJ);rw[C4 λhc=>F hc.1] at O;rw[lc,Q,af,gI _ 0 a3,F3,F2,YW,Iu rfl,Bool.not_true];simp only[dF,Cn,SS];rw[Bj];exact B g lv iv _ _ _ _ X (by rw[O];exact M) h5
   have e2:(AV.v (.int .i64 2))=I ((2:Nat):Int):=rfl;rw[e2];by_cases ag:i<2
   ·have a5:∀{H K},An (r! L (n+64)) XA5 [I (y.y0.tdiv 3),.v (.int .i64 4)] H K=K (I (pk (y.y0.tdiv 3) 4)):= λ{H K}=>A0P (n:=n+63) (N0 o0 (by decide)) (by decide) (by decide) H K;rw[FR (by omega)];simp only[gT,Cn,C2i,Y,mG o0 (show(1:Int)<=3 by decide),a5,E5,UH];by_cases h0:0<pk (y.y0.tdiv 3) 4
    ·rw[Iu h0,Cy];have e:kdM i y=0:=Dj ⟨ag,h0⟩;rw[e] at j;exact j
    ·rw[IG h0,Bj];have e:kdM i y=y.y0:=C4 λhc=>h0 hc.2;rw[e] at j;exact j
   ·rw[FP (by omega)];simp only[dF,Cn,gU,SS];rw[Bj];have e:kdM i y=y.y0:=C4 λhc=>ag hc.1;rw[e] at j;exact j
  ·have:i=min 8 xs.length:=by omega
   subst this;by_cases h8:xs.length<=8
   ·rw[FP (by omega)];simp only[dF,Cn,SS];rw[Bj];exact w g lv iv H M hh
   ·rw[FR (by omega)];simp only[gT,Cn];rw[FP (by omega),Cn,UH,Bj];exact w g lv iv H M hh
def A9r (m:40000<L) (r:XA xs a0) (f:∀y∈xs,y.Ok):CT (r! L (n+65)) Wv [a0] (oN (Qn xs (min 8 xs.length))):=by
 intro K k;rw[sH];unfold VI A0;simp only[BK];refine C1R m r f (λg lv iv H q e=> ?_) (L+20) 0 [] As As [] _ _ _ _ (by omega) (by omega) rfl ⟨⟨(λp i=>by cases i),(λp i=>by cases i)⟩,.inl ⟨rfl,rfl,rfl⟩,λ_=>rfl,.inl ⟨rfl,rfl,rfl⟩,λ_=>rfl,(λs j=>by obtain⟨_,_,_,h⟩:=j;cases h),(λs j=>by obtain⟨_,_,_,h⟩:=j;cases h),Fk⟩;refine k _ _ ?_;rw[<-q];exact B9m (D:=depth-2) e.gv e.sl e.nl
end
end
section
variable {L n:Nat}
section
variable {K:KV} {x:Af} {gs:List Cd} {a w o sm:AV} {H:Hp} {ws:List Int}
end
end
section
variable {L n:Nat}
section
variable {K:KV} {x:Af} {H:Hp} {l:List AM} {p:AM} {a:AV}
end
section
variable {K:KV} {x:Af} {H:Hp} {il al sl cp:List AM} {idk:AM} {k r rc:Nat} {less:List Cd} {v:AV} {R:Rt}
end
end
section
variable {L n:Nat}
section
variable {α:Type} {f:α->List AV} {w:Nat}
def A5l (b:∀x,(f x).length=w):∀l:List α,(l.flatMap f).length=l.length*w:=by
 intro l
 induction l with
 |nil=>simp
 |cons a l ih=>rw[pP,EY,b,ih,LP,W_];omega
end
section
variable {gs less:List Cd} {H:Hp} {K:AV->Af} {D:Nat}
def B9M {r m i:Nat} (h:i<m):Dw Av (.sl 68 r 0 m) (I (i:Int)) K=K (.ptr r (i*68) 0):=by
 have a:Dw Av (.sl 68 r 0 m) (I (i:Int)) K=iN (i:Int) λn=>ck (Nat.blt n m) (fN (Nat.add 0 (Nat.mul n 68)) λp=>K (.ptr r p 0)):=rfl;rw[a,JW,DT];have h1:Nat.blt i m=true:=by rw[Wj];exact h
 have b:Nat.add 0 (Nat.mul i 68)=i*68:=JQ _;rw[h1,b];rfl
end
section
variable {gs:List Cd} {k:Nat}
end
end
section
variable {L n:Nat}
section
variable {gs:List Cd} {s:List UInt8}
def B4B (h:(gs.map Cd.id).Nodup) {i:Nat} (b:i<gs.length):Mn (gr gs) gs[i].id=some (cE gs[i]):=by
 induction gs generalizing i with
 |nil=>simp at b
 |cons c gs ih=>
  rw[WR,List.nodup_cons] at h;show Mn ((c.id,cE c)::gr gs) _=_;unfold Mn;cases i with
  |zero=>rw[List.getElem_cons_zero,Dj rfl]
  |succ i=>
   rw[List.getElem_cons_succ];have a:i<gs.length:=by simpa using b
   rw[C4 (λe=>h.1 (Ma.2 ⟨_,Qe a,e.symm⟩))];exact ih h.2 a
end
end
section
variable {L n:Nat}
section
variable {gs:List Cd} {f:AM->Bool} {s x y:AM}
def G! (h:(gs.map Cd.id).Nodup) {i:Nat} (d:i<gs.length):RW gs gs[i].id=gs[i].ps:=by
 have h1:=B4B h d;rw[B9w] at h1;unfold RW;cases b:Mn (gE gs) gs[i].id with
 |none=>rw[b] at h1;cases h1
 |some c=>
  rw[b] at h1;simp only[xZ,l0z] at h1;exact congrArg Ce.ps h1
end
section
variable {K:KV} {x:Af} {H:Hp} {gs:List Cd} {a w:AV} {i:Nat} {R:Rt}
end
section
variable {K:KV} {l:List AM}
end
end
section
variable {a b:List AM}
section
variable {gs:List Cd} {out l:List AM} {x y p m:AM}
def C07 (gs:List Cd) (out:List AM) (x:AM):Bool:=decide (x∉out)&&(RW gs x).all λp=>decide (p∉gs.map Cd.id)||decide (p∈out)
def B1x:C07 gs out x=true↔x∉out/\∀p∈RW gs x,p∈gs.map Cd.id->p∈out:=by
 unfold C07;rw[Kw,decide_eq_true_eq,GH];refine and_congr Iff.rfl ⟨λh p d c=> ?_,λh p d=> ?_⟩
 ·have:=h p d;rw[l1i,decide_eq_true_eq,decide_eq_true_eq] at this;exact this.resolve_left λh=>h c
 ·rw[l1i,decide_eq_true_eq,decide_eq_true_eq];by_cases c:p∈gs.map Cd.id
  ·exact .inr (h p d c)
  ·exact .inl c
def jX (gs:List Cd) (out:List AM):List AM:=(gs.map Cd.id).filter (C07 gs out)
def VE:x∈jX gs out↔x∈gs.map Cd.id/\x∉out/\∀p∈RW gs x,p∈gs.map Cd.id->p∈out:=by
 rw[jX,K_,B1x]
def kG (gs:List Cd):Nat->List AM->List AM
 |0,out=>out
 |n+1,out=>match DQ (jX gs out) with
  |[]=>out
  |m::_=>kG gs n (out++[m])
def UL (gs:List Cd):List AM:=kG gs gs.length []
structure OrdK (gs:List Cd) (out:List AM):Prop where
 nd:out.Nodup
 ids:∀x∈out,x∈gs.map Cd.id
 pr:∀a x b,out=a++x::b->∀p∈RW gs x,p∈gs.map Cd.id->p∈a
def OrdK.nil:OrdK gs []:=⟨List.nodup_nil,by simp,λa x b h=>by cases a<;>cases h⟩
def OrdK.step (h:OrdK gs out) (hm:m∈jX gs out):OrdK gs (out++[m]):=by
 obtain⟨h1,h2,q⟩:=VE.1 hm;refine⟨l38.2 ⟨h.nd,by simp,λa r c hc=>by simp at hc;subst hc;exact λe=>h2 (e▸r)⟩,λx d=> ?_,λa x b e p k j=> ?_⟩
 ·rcases Zs.1 d with d|d
  ·exact h.ids x d
  ·rw[Ur] at d;subst d;exact h1
 ·rcases List.eq_nil_or_concat b with rfl|⟨g,z,rfl⟩
  ·have:=List.append_inj' e rfl;obtain⟨f,i⟩:=this;cases i
   subst f;exact q p k j
  ·have n:out++[m]=(a++x::g)++[z]:=by rw[e];simp
   obtain⟨f,i⟩:=List.append_inj' n rfl;exact h.pr a x g f p k j
def VG {α:Type}:∀{l1 l2:List α},l1.Nodup->(∀x∈l1,x∈l2)->l1.length<=l2.length:=by
 intro l1
 induction l1 with
 |nil=>intro _ _ _;exact W? _
 |cons a l ih=>
  intro l2 hn c;rw[List.nodup_cons] at hn;have e:a∈l2:=c a (by simp);obtain⟨u,v,rfl⟩:=List.append_of_mem e;have:=ih (l2:=u++v) hn.2 λx d=>by
   have h1:=c x (by simp[d]);rw[Zs,Uf] at h1;rw[Zs];rcases h1 with h1|h1|h1
   ·exact .inl h1
   ·subst h1;exact absurd d hn.1
   ·exact .inr h1
  simp at this⊢;omega
def OrdK.len (h:OrdK gs out):out.length<=gs.length:=by
 have:=VG h.nd h.ids;rw[QI] at this;exact this
def OrdK.all (h:OrdK gs out) (e:gs.length<=out.length) (d:x∈gs.map Cd.id):x∈out:=by
 apply l39;intro hn;have:=VG (l1:=x::out) (l2:=gs.map Cd.id) (List.nodup_cons.2 ⟨hn,h.nd⟩) λy c=>by
  rcases Uf.1 c with rfl|c
  ·exact d
  ·exact h.ids y c
 rw[QI,LP] at this;omega
def A0z (h:OrdK gs out) (c:gs.length<=out.length):jX gs out=[]:=by
 rw[List.eq_nil_iff_forall_not_mem];intro x d;obtain⟨h1,h2,_⟩:=VE.1 d;exact h2 (h.all c h1)
def A9T:∀(n:Nat) (out:List AM),OrdK gs out->gs.length<=out.length+n->OrdK gs (kG gs n out)/\jX gs (kG gs n out)=[]:=by
 intro n
 induction n with
 |zero=>intro out h c;exact⟨h,A0z h c⟩
 |succ n ih=>
  intro out h c;unfold kG;cases d:DQ (jX gs out) with
  |nil=>
   refine⟨h,?_⟩;have:=(Be (jX gs out)).length_eq;rw[d] at this;exact mL this.symm
  |cons m l=>
   have hm:m∈jX gs out:=(Be _).mem_iff.1 (by rw[d];simp);exact ih (out++[m]) (h.step hm) (by rw[EY,List.length_singleton];omega)
def NN:OrdK gs (UL gs)/\jX gs (UL gs)=[]:=A9T gs.length [] OrdK.nil (by simp)
def OrdK.before (h:OrdK gs out) (e:out=a++x::b) (c:Anc gs x y):y∈a:=by
 induction c with
 |one h1 h2=>exact h.pr a x b e _ h2 h1
 |more _ h1 h2 ih=>
  obtain⟨u,v,rfl⟩:=List.append_of_mem ih;have:=h.pr u _ (v++x::b) (by rw[e];simp) _ h2 h1;exact List.mem_append_left _ this
def OrdK.acyc (h:OrdK gs out) (d:x∈out):¬Anc gs x x:=by
 intro c;obtain⟨a,b,rfl⟩:=List.append_of_mem d;have:=h.before rfl c;have hn:=h.nd;rw[l38] at hn;exact hn.2.2 x this x (by simp) rfl
def A7q (h:Anc gs x p) (hq:Anc gs p y):Anc gs x y:=by
 induction hq with
 |one h1 h2=>exact .more h h1 h2
 |more _ h1 h2 ih=>exact .more ih h1 h2
open Classical in
def B54 (c:¬Anc gs p p) (h:Anc gs x p):(B55 gs p).length<(B55 gs x).length:=by
 unfold B55;rw[(Be _).length_eq,(Be _).length_eq];refine yN (λa _ hq=> ?_) h.ids (Iu h) (IG c);rw[decide_eq_true_eq] at hq⊢;exact A7q h hq
def OrdK.full (h:OrdK gs out) (hr:jX gs out=[]) (c:∀x∈gs.map Cd.id,¬Anc gs x x):∀(n:Nat) (x:AM),(B55 gs x).length<n->x∈gs.map Cd.id->x∈out:=by
 intro n
 induction n with
 |zero=>intro x h;omega
 |succ n ih=>
  intro x i g;apply l39;intro hn;have h1:x∉jX gs out:=by rw[hr];simp
  refine h1 (VE.2 ⟨g,hn,λp f d=> ?_⟩);have e:Anc gs x p:= .one d f;have:=B54 (c p d) e;exact ih p (by omega) d
def A9S (hn:(gs.map Cd.id).Nodup):gs.length<=(UL gs).length↔∀x∈gs.map Cd.id,¬Anc gs x x:=by
 obtain⟨h1,h2⟩:=NN (gs:=gs);constructor
 ·intro d x c;exact h1.acyc (h1.all d c)
 ·intro h;have:=VG hn λx c=>h1.full h2 h _ x (Nat.lt_succ_self _) c;rw[QI] at this;exact this
def EG (gs:List Cd):List AM:=DQ ((gs.map Cd.id).filter λx=>decide (∀c∈gs,x∉c.ps))
def PA:x∈EG gs↔x∈gs.map Cd.id/\∀c∈gs,x∉c.ps:=by
 rw[EG,(Be _).mem_iff,K_,decide_eq_true_eq]
def tM (h:(gs.map Cd.id).Nodup):(EG gs).Nodup:=(Be _).symm.nodup (h.sublist List.filter_sublist)
def yF:(EG gs).length<=gs.length:=by
 rw[EG,(Be _).length_eq];have:=l32 (λx=>decide (∀c∈gs,x∉Cd.ps c)) (gs.map Cd.id);rw[QI] at this;exact this
def OrdK.after (h:OrdK gs out) (e:out=a++x::b) (c:y∈out) (d:x∈RW gs y) (f:x∈gs.map Cd.id):y∈b:=by
 have hn:=h.nd;rw[e,l38,List.nodup_cons] at hn;rw[e,Zs,Uf] at c;rcases c with c|c|c
 ·obtain⟨u,v,rfl⟩:=List.append_of_mem c;have:=h.pr u y (v++x::b) (by rw[e];simp) x d f;exact absurd rfl (hn.2.2 x (List.mem_append_left _ this) x (by simp))
 ·subst c;have:=h.pr a y b e y d f;exact absurd rfl (hn.2.2 y this y (by simp))
 ·exact c
def OrdK.covered (s:(gs.map Cd.id).Nodup) (h:OrdK gs out) (d:∀x∈gs.map Cd.id,x∈out):∀(n:Nat) (x:AM) (a b:List AM),b.length<n->out=a++x::b->x∈EG gs\/∃z∈EG gs,Anc gs z x:=by
 intro n
 induction n with
 |zero=>intro x a b h;omega
 |succ n ih=>
  intro x a b t e;have f:x∈gs.map Cd.id:=h.ids x (by rw[e];simp);by_cases k:∀c∈gs,x∉c.ps
  ·exact .inl (PA.2 ⟨f,k⟩)
  ·right;simp only[Classical.not_forall,Classical.not_not] at k;obtain⟨c,hc,j⟩:=k;obtain⟨i,q,rfl⟩:=List.getElem_of_mem hc;have r:x∈RW gs gs[i].id:=by rw[G! s q];exact j
   have g:gs[i].id∈gs.map Cd.id:=Ma.2 ⟨_,hc,rfl⟩;have hb:=h.after e (d _ g) r f;obtain⟨u,v,rfl⟩:=List.append_of_mem hb;rcases ih gs[i].id (a++x::u) v (by simp at t;omega) (by rw[e];simp) with h1|⟨z,h1,h2⟩
   ·exact⟨_,h1,.one f r⟩
   ·exact⟨z,h1,.more h2 f r⟩
end
end
section
variable {v:AV} {PP:Af->Prop} {q:Bool} {D i r:Nat}
variable {L n:Nat}
section
variable {l:List AM} {m a b:AM} {x:Af} {K:KV} {H:Hp}
def C2V {K:AV->Af}:eMM true (S a) (S b) K=K (S (if a<=b then a else b)):=by
 have e:eMM true (S a) (S b) K=@Bool.rec (λ_=>Af) (K (S b)) (K (S a)) (ltB a b||Y? a b):=rfl;rw[e,J?,QA,bytesLess_eq];by_cases h:a<=b
 ·have h1:(decide (a<b)||a==b)=true:=by
   by_cases h2:a<b
   ·simp[h2]
   ·have:=rI h h2;simp[this]
  rw[Dj h,h1]
 ·have h1:(decide (a<b)||a==b)=false:=by
   have h2:¬a<b:= λh2=>h ((Ni a b).elim id λc=>absurd h2 c);have c:a≠b:= λe=>h (e▸((Ni a a).elim id id));simp[h2,c]
  rw[C4 h,h1]
def B90 {g:AV->Hp->Af} (hm:m∈l) (e:∀y∈l,m<=y) (hb:l.length<1000000) (j:g (S m) H=x):∀(f i:Nat) (cur:AM),i<=l.length->l.length-i<f->cur∈l->(∀y∈l.take i,cur<=y)->
 GL (L+20) (rt (L+20) n) K g f (Ls l) (S cur) (I i) H=x:=by
 intro f
 induction f with
 |zero=>intro i cur _ h;omega
 |succ f ih=>
  intro i cur p k hc d;rw[N8];unfold GM Iv A0;rw[MG];by_cases h:i<l.length
  ·rw[FR (by omega),Cy,SI h,L5,C2V,Dg (by omega)];refine ih (i+1) _ (by omega) (by omega) ?_ λy c=> ?_
   ·split
    ·exact hc
    ·exact Qe h
   ·rw[kY h,Zs,Ur] at c;split
    ·rename_i h1;rcases c with c|rfl
     ·exact d y c
     ·exact h1
    ·rename_i h1;have h2:l[i]<=cur:=(Ni cur l[i]).elim (λh=>absurd h h1) id;rcases c with c|rfl
     ·exact jI h2 (d y c)
     ·exact(Ni _ _).elim id id
  ·have:i=l.length:=by omega
   subst this;rw[vB] at d;rw[FP (by omega),Bj];have:cur=m:=rI (d m hm) (e cur hc);rw[this];exact j
def C0P (hm:m∈l) (d:∀y∈l,m<=y) (hb:l.length<1000000) (j:l.length<L):CS (rt (L+20) (n+1)) HJ [Ls l] (S m):=by
 intro K h;rw[OJ];unfold Hz A0;have c:0<l.length:=List.length_pos_of_mem hm;simp only[BK];have ls:∀{K:AV->Af},Go.Abs.Ap Ab .lss (I (l.length:Int)) (AV.v (.int .i64 1)) K=K (Bo false):= λ{K}=>FP (by omega);have f:(AV.v (.int .i64 0))=I ((0:Nat):Int):=rfl;have g:(AV.v (.int .i64 1))=I ((1:Nat):Int):=rfl;rw[MG,ls,Bj,f,SI c,L5,g];refine B90 (n:=n) hm d hb (h _ _ λb=>⟨false,C7⟩) (L+20) 1 _ (by omega) (by omega) (Qe c) λy e=> ?_;rw[show 1=0+1 from rfl,kY c,List.take_zero,l3d,Ur] at e;subst e;exact(Ni _ _).elim id id
end
section
variable {l:List AM} {x:Af} {K:KV} {H:Hp} {fn:AV} {P:AM->Bool} {R:Rt}
def fiN (P:AM->Bool):List AM->Nat->Int
 |[],_=> -1
 |a::l,i=>if P a=true then(i:Int) else fiN P l (i+1)
def B0D {a:AM}:fiN P (a::l) i=if P a=true then(i:Int) else fiN P l (i+1):=rfl
def B9h {d:Hp->Af} {a:AV} (e:SA l a) (g:∀(s:AM) (K:KV),Cr (E (L+20)) R fn [S s] H K=K (Bo (P s)) H) (hb:l.length<1000000) (k:∀v,v=fiN P l 0->K (I v) H=x) (p:fiN P l 0= -1->d H=x):
 ∀(f i:Nat),i<=l.length->l.length-i<f->fiN P (l.drop i) i=fiN P l 0->
 DD (L+20) R K d f a fn (I l.length) (I i) H=x:=by
 intro f
 induction f with
 |zero=>intro i _ h;omega
 |succ f ih=>
  intro i t j he;rw[Ht];unfold DE Iv A0;by_cases h:i<l.length
  ·rw[FR (by omega),Cy,e.ia h,L5,g];rw[vA h] at he;rw[B0D] at he;cases c:P l[i] with
   |true=>
    rw[c,Dj rfl] at he;rw[Cy];exact k _ he
   |false=>
    rw[c,C4 (by simp)] at he;rw[Bj,Dg (by omega)];exact ih (i+1) (by omega) (by omega) he
  ·have:i=l.length:=by omega
   subst this;rw[List.drop_length] at he;rw[FP (by omega),Bj];exact p he.symm
def B5k {a:AV} (c:SA l a) (g:∀(s:AM) (K:KV),Cr (E (L+20)) (rt (L+20) n) fn [S s] [] K=K (Bo (P s)) []) (hb:l.length<1000000) (h:l.length<L):CS (rt (L+20) (n+1)) DM [a,fn] (I (fiN P l 0)):=by
 intro K f;rw[HT];unfold DL A0;simp only[BK];have d:(AV.v (.int .i64 0))=I ((0:Nat):Int):=rfl;rw[c.len,d];have fin:∀v H,v=fiN P l 0->K (I v) H=some (I (fiN P l 0),[]):= λv H e=>by
  rw[e];exact f _ _ λb=>⟨false,C7⟩
 refine B9h (R:=rt (L+20) n) c g hb (λv e=>fin v _ e) (λe=>fin (-1) _ e.symm) (L+20) 0 (by omega) (by omega) (by rw[pM])
def Nh (H:Hp) (v:AV) (l:List AM):Prop:=(v=As/\l=[])\/∃r q c,v= .sl 1 r 0 l.length/\Aj H r=some (.cells q Ar (AG l++c))
def Nh.len (h:Nh H v l) {K:AV->Af}:Bq Ac v K=K (I l.length):=by
 rcases h with⟨rfl,rfl⟩|⟨r,q,c,rfl,_⟩<;>exact r_ rfl
def Nh.kp {H':Hp} (h:Nh H v l) (k:∀u y,A8 v u->Aj H u=some y->Aj H' u=some y):Nh H' v l:=by
 rcases h with h|⟨r,q,c,h1,h2⟩
 ·exact .inl h
 ·exact .inr ⟨r,q,c,h1,k r _ ⟨1,0,_,h1⟩ h2⟩
theorem Nh.lt (h:Nh H v l) (w:Wf H) {u:Nat} (d:A8 v u):u<Ao H:=by
 obtain⟨a,b,c,rfl⟩:=d;rcases h with⟨h,_⟩|⟨r,q,e,h1,h2⟩
 ·cases h
 ·injection h1 with _ h1;subst h1;exact w.lt h2
def UX {b:Bool}:∀l:List AM,Rr b D (AG l) (AG l) H false:=by
 intro l
 induction l with
 |nil=>exact AJ
 |cons s l ih=>exact Am (q:=false) C7 ih
def Nh.fx (h:Nh H v l):∃a q,SA l a/\Fx true (D+1) v a H q:=by
 rcases h with⟨rfl,rfl⟩|⟨r,q,c,rfl,h2⟩
 ·exact⟨As,false,.inr ⟨rfl,rfl⟩,C7⟩
 ·refine⟨Ls l,true,.inl rfl,Wq (q':=false) h2 (by rw[EY,AX];omega) ?_⟩;have:((AG l++c).drop 0).take (l.length*1)=AG l:=by
   rw[pM,pL];have:=List.take_left (l₁:=AG l) (l₂:=c);rw[AX] at this;exact this
  rw[this];exact UX l
def YT {m i:Nat} (h:i<=m) {K:AV->Af}:Ee Ac (.sl 1 r 0 m) (some (I (i:Int))) none none K=K (.sl 1 r i (m-i)):=by
 have e:Ee Ac (.sl 1 r 0 m) (some (I (i:Int))) none none K=ck (Nat.beq 1 1) (iN (i:Int) λl=>fN m λh=>fN m λx=>ck ((true||false)&&(Nat.ble l h&&(Nat.ble h x&&Nat.ble x m))) (fN (Nat.add 0 (Nat.mul l 1)) λd=>fN (Nat.sub h l) λn=>K (.sl 1 r d n))):=rfl;rw[e,JW,DT,DT];have c:((true||false)&&(Nat.ble i m&&(Nat.ble m m&&Nat.ble m m)))=true:=by simp;omega
 rw[c];show fN (Nat.add 0 (Nat.mul i 1)) (λd=>fN (Nat.sub m i) λn=>K (.sl 1 r d n))=_;rw[DT,DT];have f:Nat.add 0 (Nat.mul i 1)=i:=by show 0+i*1=i;omega
 rw[f];rfl
def YU {m i:Nat} (h:i<=m) {K:AV->Af}:Ee Ac (.sl 1 r 0 m) none (some (I (i:Int))) none K=K (.sl 1 r 0 i):=by
 have e:Ee Ac (.sl 1 r 0 m) none (some (I (i:Int))) none K=ck (Nat.beq 1 1) (fN 0 λl=>iN (i:Int) λh=>fN m λx=>ck ((true||true)&&(Nat.ble l h&&(Nat.ble h x&&Nat.ble x m))) (fN (Nat.add 0 (Nat.mul l 1)) λd=>fN (Nat.sub h l) λn=>K (.sl 1 r d n))):=rfl;rw[e,DT,JW,DT];have c:((true||true)&&(Nat.ble 0 i&&(Nat.ble i m&&Nat.ble m m)))=true:=by simp;omega
 rw[c];show fN (Nat.add 0 (Nat.mul 0 1)) (λd=>fN (Nat.sub i 0) λn=>K (.sl 1 r d n))=_;rw[DT,DT];rfl
def B1f {r i m:Nat} {cs:List AV} (e:Aj H r=some (.cells q Ar cs)) (h:i+m<=cs.length):∃c d,(∀K:Hp->Af,uA 1 Ai (.sl 1 r i m) H K=K d)/\Aj d r=some (.cells q Ar c)/\c.take i=cs.take i/\Lat H d (λu=>u=r):=by
 cases m with
 |zero=>exact⟨cs,H,λK=>rfl,e,rfl,Lat.refl _ _⟩
 |succ m=>
  refine⟨splice cs i (List.replicate (m+1) (S [])),upd H r (.cells q Ar (splice cs i (List.replicate (m+1) (S [])))),λK=> ?_,AC e,?_,Lat.upd _ _ _ rfl⟩
  ·have f:uA 1 Ai (.sl 1 r i (m+1)) H K=GW Ai.zero λz=>HI z 0 λk=>ck (Nat.beq k 1&&(Nat.beq 1 1&&Nu z)) (Yh (m+1) z λg=>IJ H r λx=>eS x λq E cs=>El i g cs λc=>LC H r (.cells q E c) K):=rfl;have hz:Bv Ai.zero=[S []]:=rfl;rw[f,CI,hz,Co];show Yh (m+1) [S []] _=_;rw[yH,Bf e];show El i (List.replicate (m+1) (S [])) cs _=_;rw[Il _ _ _ _ (by rw[List.length_replicate];omega),Dh]
  ·unfold splice;rw[dW,l34 (by rw[l0h];omega),List.take_take,Nat.min_self]
def A1o (P:AM->Bool):∀(l:List AM) (k:Nat),(fiN P l k= -1/\∀a∈l,P a=false)\/∃(i:Nat) (h:i<l.length),fiN P l k=((k+i:Nat):Int)/\P l[i]=true/\∀a∈l.take i,P a=false:=by
 intro l
 induction l with
 |nil=>intro k;exact .inl ⟨rfl,by simp⟩
 |cons a l ih=>
  intro k;unfold fiN;cases c:P a with
  |true=>
   rw[Dj rfl];exact .inr ⟨0,by simp,by simp,c,by simp⟩
  |false=>
   rw[C4 (by simp)];rcases ih (k+1) with⟨h1,h2⟩|⟨i,h,h1,h2,d⟩
   ·refine .inl ⟨h1,λb hb=> ?_⟩;rcases Uf.1 hb with rfl|hb
    ·exact c
    ·exact h2 b hb
   ·refine .inr ⟨i+1,by simp;omega,by rw[h1];congr 1;omega,h2,λb hb=> ?_⟩;rw[List.take_succ_cons] at hb;rcases Uf.1 hb with rfl|hb
    ·exact c
    ·exact d b hb
def B9S {k12:AV->AV->Hp->Af} {H0:Hp} {tl:List AV} (hb:l.length<1000000) (w0:Wf H0) (O:∀H',Lat H0 H' (λu=>u=r)->∀(s:AM) (K:KV),Cr (E (L+20)) R fn [S s] H' K=K (Bo (P s)) H')
 (e:∀cs H',Aj H' r=some (.cells q Ar cs)->cs.length=l.length+tl.length->cs.take (l.filter λs=> !P s).length=AG (l.filter λs=> !P s)->Lat H0 H' (λu=>u=r)->PP (k12 (.sl 1 r 0 l.length) (I (l.filter λs=> !P s).length) H')):
 ∀(f j:Nat) (cs:List AV) (H':Hp),j<=l.length->l.length-j<f->Aj H' r=some (.cells q Ar cs)->cs.length=l.length+tl.length->cs.take ((l.take j).filter λs=> !P s).length=AG ((l.take j).filter λs=> !P s)->cs.drop j=AG (l.drop j)++tl->Lat H0 H' (λu=>u=r)->((l.take j).filter λs=> !P s).length<j->
 PP (EO (L+20) R K k12 f (.sl 1 r 0 l.length) fn (I ((l.take j).filter λs=> !P s).length) (I j) H'):=by
 intro f
 induction f with
 |zero=>intro j cs H' _ h;omega
 |succ f ih=>
  intro j cs H' Y Q g c w N t X;rw[Lf];unfold EP Iv A0;have M:∀K,Bq Ac (.sl 1 r 0 l.length) K=K (I l.length):= λK=>id rfl;rw[M];by_cases h:j<l.length
  ·have hc:j<cs.length:=by omega
   have k:=N;rw[vA hc,vA h] at k;injection k with k B
   have y:∀{K:AV->Af},AF Ai (.ptr r j 0) H' K=K (S l[j]):= λ{K}=>by
    rw[AP (p:=j) rfl g hc,Vl,K9 hc,l1q,k]
   rw[FR (by omega),Cy];simp only[BK];rw[Rh h,y,O H' t,En];have F:(l.take (j+1)).filter (λs=> !P s)=(l.take j).filter (λs=> !P s)++[l[j]].filter (λs=> !P s):=by
    rw[kY h,List.filter_append]
   cases J:P l[j] with
   |true=>
    have d:(l.take (j+1)).filter (λs=> !P s)=(l.take j).filter (λs=> !P s):=by rw[F];simp[J]
    show PP (Az (.v (.bool false)) _ _);rw[Bj,Dg (by omega)];have:=ih (j+1) cs H' (by omega) (by omega) g c (by rw[d];exact w) B t (by rw[d];omega);rw[d] at this;exact this
   |false=>
    have d:(l.take (j+1)).filter (λs=> !P s)=(l.take j).filter (λs=> !P s)++[l[j]]:=by rw[F];simp[J]
    have V:((l.take j).filter λs=> !P s).length<l.length:=by omega
    show PP (Az (.v (.bool true)) _ _);rw[Cy,Rh V,Ed g (by omega) rfl rfl rfl,Dg (by omega),Dg (by omega)];have C:((l.take (j+1)).filter λs=> !P s).length=((l.take j).filter λs=> !P s).length+1:=by rw[d,EY];rfl
    rw[<-C];refine ih (j+1) (cs.set ((l.take j).filter λs=> !P s).length (S l[j])) _ (by omega) (by omega) (AC g) (by rw[List.length_set];exact c) ?_ ?_ (t.trans (Lat.upd _ _ _ (P:= λu=>u=r) rfl) (λ_ _ h=>h) (λ_ _ h=>h)) (by omega)
    ·have A:((l.take j).filter λs=> !P s).length<(cs.set ((l.take j).filter λs=> !P s).length (S l[j])).length:=by rw[List.length_set];omega
     rw[C,kY A,List.getElem_set_self,d,List.take_set_of_le (Mb _),w];simp[AG]
    ·rw[List.drop_set_of_lt (by omega)];exact B
  ·have:j=l.length:=by omega
   subst this;rw[vB] at w⊢;rw[FP (by omega),Bj];exact e cs H' g c w t
def A8u (wf:Wf H) (h:Nh H v l) (hb:l.length<100000) (hL:200000<L) (F:∃d q,Fx true depth fn d H q/\∀(s:AM) (K:KV),Cr (E (L+20)) (rt (L+20) n) d [S s] [] K=K (Bo (P s)) [])
 (hf:∀c,Lat H c (A8 v)->∀(s:AM) (K:KV),Cr (E (L+20)) (rt (L+20) (n+1)) fn [S s] c K=K (Bo (P s)) c)
 (M:∀N c,Nh c N (l.filter λs=> !P s)->(∀u,A8 N u↔A8 v u)->Lat H c (A8 v)->PP (K N c)):PP ((rt (L+20) (n+2)).call Bh [v,fn] H K):=by
 rw[Lq];unfold Fc A0;obtain⟨a,q,f,hq⟩:=h.fx (D:=depth-1);obtain⟨d,q',J,C⟩:=F;rw[AQ (B5k (n:=n) f C (by omega) (by omega)) (Am hq (Am J AJ))];rcases A1o P l 0 with⟨h1,h2⟩|⟨i,X,h1,h2,h3⟩
 ·have e:∀{K:AV->Af},Go.Abs.Ap Ab .eql (I (-1)) (AV.v (.int .i64 (-1))) K=K (Bo true):= λ{K}=>by rw[CP,Iu rfl]
  rw[h1,e,Cy];have e2:l.filter (λs=> !P s)=l:=List.filter_eq_self.2 λa f=>by rw[h2 a f];rfl
  rw[e2] at M;exact M v H h (λ_=>Iff.rfl) (Lat.refl _ _)
 ·rw[JQ] at h1;have e:∀{K:AV->Af},Go.Abs.Ap Ab .eql (I (i:Int)) (AV.v (.int .i64 (-1))) K=K (Bo false):= λ{K}=>by rw[CP,IG (by omega)]
  rw[h1,e,Bj];simp only[BK];rcases h with⟨_,rfl⟩|⟨r,q0,tl,rfl,hl⟩
  ·simp at X
  have j:∀u,A8 (.sl 1 r 0 l.length) u↔u=r:= λu=>⟨λ⟨_,_,_,h⟩=>by injection h with _ h;exact h.symm,λh=>h▸⟨1,0,_,rfl⟩⟩
  have lat:∀{c},Lat H c (λu=>u=r)->Lat H c (A8 (.sl 1 r 0 l.length)):= λk=>⟨k.wf,k.nx,λw u y hu hn=>k.keep w u y hu λe=>hn ((j u).2 e)⟩
  have Q:(l.take (i+1)).filter (λs=> !P s)=l.take i:=by
   rw[kY X,List.filter_append];have a1:(l.take i).filter (λs=> !P s)=l.take i:=List.filter_eq_self.2 λa f=>by rw[h3 a f];rfl
   rw[a1];simp[h2]
  have V:((l.take (i+1)).filter λs=> !P s).length=i:=by rw[Q,l0h];omega
  have ht:AG (l.take i)=(AG l).take i:=by simp[AG,List.map_take]
  have hd:AG (l.drop (i+1))=(AG l).drop (i+1):=by simp[AG,List.map_drop]
  rw[Dg (by omega)];have main:=B9S (L:=L) (R:=rt (L+20) (n+1)) (K:=K) (fn:=fn) (P:=P) (l:=l) (H0:=H) (r:=r) (q:=q0) (tl:=tl) (PP:=PP)
   (k12:= λp t A=>Ee Ac p (some t) none none λv7=>uA 1 Ai v7 A λZ=>Ee Ac p none (some t) none λO=>K O Z)
   (by omega) wf (λc k=>hf c (lat k)) (λcs c g1 g2 g3 g4=> ?_) (L+20) (i+1) (AG l++tl) H (by omega) (by omega) hl (by rw[EY,AX]) (by rw[V,Q,ht,l34 (by rw[AX];omega)]) (by rw[hd,l35 (by rw[AX];omega)]) (Lat.refl _ _) (by omega)
  ·rw[V] at main;exact main
  ·have g:(l.filter λs=> !P s).length<=l.length:=l32 _ _;obtain⟨B,Y,c1,c2,c3,c4⟩:=B1f (H:=c) (r:=r) (i:=(l.filter λs=> !P s).length) (m:=l.length-(l.filter λs=> !P s).length) g1 (by omega);show PP (Ee Ac (.sl 1 r 0 l.length) (some (I ((l.filter λs=> !P s).length:Nat))) none none _);rw[YT g,c1,YU g];refine M _ Y (.inr ⟨r,q0,B.drop (l.filter λs=> !P s).length,rfl,?_⟩) (λu=>⟨λ⟨_,_,_,h⟩=> ?_,λ⟨_,_,_,h⟩=> ?_⟩) (lat (g4.trans c4 (λ_ _ h=>h) (λ_ _ h=>h)))
   ·rw[c2,<-g3,<-c3,l3a]
   ·injection h with _ h
    exact⟨1,0,_,by rw[h]⟩
   ·injection h with _ h
    exact⟨1,0,_,by rw[h]⟩
def A8v (wf:Wf H) (h:Nh H v l) (hb:l.length<100000) (g:200000<L) (e:∃d q,Fx true depth fn d H q/\∀(s:AM) (K:KV),Cr (E (L+20)) (rt (L+20) n) d [S s] [] K=K (Bo (P s)) [])
 (j:∀c,Lat H c (A8 v)->∀(s:AM) (K:KV),Cr (E (L+20)) (rt (L+20) (n+1)) fn [S s] c K=K (Bo (P s)) c)
 (k:∀f c,Nh c f (l.filter λs=> !P s)->(∀u,A8 f u↔A8 v u)->Lat H c (A8 v)->K f c=x):(rt (L+20) (n+2)).call Bh [v,fn] H K=x:=
 A8u (PP:= λa=>a=x) wf h hb g e j k
def A8w (wf:Wf H) (h:Nh H v l) (hb:l.length<100000) (j:200000<L) (g:∃e q,Fx true depth fn e H q/\∀(s:AM) (K:KV),Cr (E (L+20)) (rt (L+20) n) e [S s] [] K=K (Bo (P s)) [])
 (k:∀d,Lat H d (A8 v)->∀(s:AM) (K:KV),Cr (E (L+20)) (rt (L+20) (n+1)) fn [S s] d K=K (Bo (P s)) d)
 (p:∀f d,Nh d f (l.filter λs=> !P s)->(∀u,A8 f u->A8 v u)->Lat H d (A8 v)->K f d=x):(rt (L+20) (n+2)).call Bh [v,fn] H K=x:=
 A8v wf h hb j g k λf d a b c=>p f d a (λu h=>(b u).1 h) c
end
end
section
variable {w:AV} {H H0:Hp} {k4:Hp->Af}
variable {L n:Nat}
abbrev vE:=AM×AM
def OP (gs:List Cd):List vE:=gs.flatMap λc=>c.ps.map λp=>(c.id,p)
def uV (R:Rt) (L s0 it:Nat) (I:List vE->Hp->Prop):Prop:=∀(b:List vE) (s p:AM) (H:Hp) (K:KV) (x:Af),b.length<1000->I b H->(∀a,I (b++[(s,p)]) a->(∀y,Aj H it=some y->Aj a it=some y)->K (Bo true) a=x)->Cr (E (L+20)) R (.yl s0) [S s,S p] H K=x
def A1h {rem:List Cd} {a c:List (AM×Cd)} {e:AM×Cd} (h:gE rem=a++e::c):∃b cd rc,rem=b++cd::rc/\a=gE b/\e=(cd.id,cd)/\c=gE rc:=by
 obtain⟨b,j,h1,h2,d⟩:=List.map_eq_append_iff.1 h;obtain⟨cd,rc,f,g,i⟩:=List.map_eq_cons_iff.1 d;subst f;exact⟨b,cd,rc,h1,h2.symm,g.symm,i.symm⟩
section
variable {gs:List Cd} {K:KV} {x:Af} {s0 it:Nat} {Q:List vE->Hp->Prop}
def A1t:∀gs:List Cd,(∀c∈gs,c.ps.length<100)->(OP gs).length<=gs.length*100:=by
 intro gs
 induction gs with
 |nil=>intro _;simp[OP]
 |cons c gs ih=>
  intro h;have h1:=h c (by simp);have h2:=ih λd a=>h d (by simp[a]);have e:OP (c::gs)=c.ps.map (λp=>(c.id,p))++OP gs:=rfl;rw[e,EY,QI,LP,W_];omega
def B4P {b:AV->AV->AV->AV->AV->AV->Hp->Af} {j:AV} {s:AM} {ps:List AM} (hb:ps.length<100) (hr:uV (r! L (n+2)) L s0 it Q):∀(f i:Nat) (es:List vE) (H:Hp) (y:Row),i<=ps.length->ps.length-i<f->es.length+(ps.length-i)<1000->Q es H->Aj H it=some y->
 (∀d a,Q (es++(ps.drop i).map λp=>(s,p)) a->Aj a it=some y->b (.yl s0) (S s) j (DJ ps) (I ps.length) d a=x)->
 Gh (L+20) (r! L (n+2)) K b f (.yl s0) (S s) j (DJ ps) (I ps.length) (I i) H=x:=by
 intro f
 induction f with
 |zero=>intro i es H y _ h;omega
 |succ f ih=>
  intro i es H y t r hn hm k c;rw[K5];unfold Gj Iv A0;by_cases h:i<ps.length
  ·rw[FR (by omega),Cy,(MK ps).ia h,L5];rw[vA h] at c;refine hr es s ps[i] H _ x (by omega) hm λa e q=> ?_;rw[En];show Az (.v (.bool false)) _ _=_;rw[Bj,Dg (by omega)];refine ih (i+1) (es++[(s,ps[i])]) a y (by omega) (by omega) (by rw[EY,List.length_singleton];omega) e (q y k) λd m h2 g=>c d m ?_ g;rw[WR];rw[dW] at h2;exact h2
  ·rw[FP (by omega),Bj];have:i=ps.length:=by omega
   subst this;rw[List.drop_length,List.map_nil,Wi] at c;exact c _ H hm k
def B4Q (hw:Vn 6 w w=true) (hg:gs.length<=8) (V:∀c∈gs,c.ps.length<100) (hL:100<L) (hr:uV (r! L (n+2)) L s0 it Q)
 (r:∀es H m,Q es H->Wf m->(∀u y,u≠it->Aj H u=some y->Aj m u=some y)->Q es m) (A:∀es H,Q es H->Wf H)
 (q:∀done H,done.Perm gs->Q (OP done) H->k4 H=some (w,[])):
 ∀(f:Nat) (rem done:List Cd) (H:Hp) (o:Option (Value×AV)) (B d1 d2 C:AV),rem.length<f->(done++rem).Perm gs->Q (OP done) H->Aj H it=some (.iter (Dc DF (gE rem)) o)->
 Gi (L+20) (r! L (n+2)) K k4 f (.yl s0) B (.it it) d1 d2 C H=some (w,[]):=by
 intro f
 induction f with
 |zero=>intro rem done H o B d1 d2 C h;omega
 |succ f ih=>
  intro rem done H o B d1 d2 C hf b hm R;rw[K6];unfold Gk Eh A0;refine XM (f:=DF) hw R (λe=> ?_) (λa e c J=> ?_)
  ·have Z:rem=[]:=by
    cases rem with
    |nil=>rfl
    |cons _ _=>cases e
   subst Z;rw[EX,Bj];rw[Wi] at b;exact q done H b hm
  ·obtain⟨g,cd,rc,rfl,rfl,rfl,rfl⟩:=A1h J;have F:cd∈gs:=b.mem_iff.1 (by simp);have O:=V cd F;have e9:gE g++gE rc=gE (g++rc):=by simp[gE]
   have i:=Lv (es:=Dc DF (gE g++gE rc)) (o:=some (.string ⟨⟨cd.id⟩⟩,DF cd)) R;have k:Q (OP done) (upd H it (.iter (Dc DF (gE g++gE rc)) (some (.string ⟨⟨cd.id⟩⟩,DF cd)))):=r _ _ _ hm (Bn (A _ _ hm)) λu y hu P=>by rw[Ag hu];exact P
   show Cx (.tup [.v (.bool true),S cd.id,DF cd]) 0 _=_;rw[EX,Cy];simp only[BK];show Zv (.it it) (upd H it (.iter (Dc DF (gE g++gE rc)) (some (.string ⟨⟨cd.id⟩⟩,DF cd)))) _=_;rw[No i,EX,Na];generalize upd H it (.iter (Dc DF (gE g++gE rc)) (some (.string ⟨⟨cd.id⟩⟩,DF cd)))=H1 at i k;obtain⟨Y,e2,D,w2,X⟩:=Ih (e:=Ad) (zs:=CH) (vs:=cd.cs) (A _ _ k) EA;rw[B1 (cs:=CH) rfl,Cc (cs:=CH) (vs:=cd.cs) (Aw (by simp)) EA rfl Mk,<-e2,fA,JQ,B1A D,hJ];have N:=r _ _ _ k w2 λu y _ P=>(X u y P).1;have M:=(X _ _ i).1;have e0:(AV.v (.int .i64 0))=I ((0:Nat):Int):=rfl;have t:=b.length_eq;rw[EY,EY,LP] at t;have aa:=A1t done λc hc=>V c (b.mem_iff.1 (by simp[hc]));rw[e0];refine B4P (n:=n) O hr (L+20) 0 (OP done) Y _ (by omega) (by omega) (by omega) N M λd m j s=> ?_;rw[pM] at j;have e8:OP done++cd.ps.map (λp=>(cd.id,p))=OP (done++[cd]):=by simp[OP]
   rw[e8] at j;rw[e9] at s;refine ih (g++rc) (done++[cd]) m _ _ _ _ _ (by simp at hf⊢;omega) ?_ j s;refine List.Perm.trans ?_ b;rw[dW];refine List.Perm.append_left done ?_;show(cd::(g++rc)).Perm _;exact List.perm_middle.symm
def A4H (q:Vn 6 w w=true) (m:gs.length<=8) (p:∀c∈gs,c.ps.length<100) (j:100<L) (hr:uV (r! L (n+2)) L s0 (Ao H) Q)
 (e:∀b g d,Q b g->Wf d->(∀u y,u≠Ao H->Aj g u=some y->Aj d u=some y)->Q b d) (f:∀b H,Q b H->Wf H)
 (i:Q [] ((Ao H,.iter (Dc DF (gE gs)) none)::H)) (a:∀done H,done.Perm gs->Q (OP done) H->K (.tup []) H=some (w,[])):
 (r! L (n+3)).call Fb [.yl s0,.iptr [gV gs]] H K=some (w,[]):=by
 rw[KW];unfold GC;have h:∀{H:Hp} {K:AV->Af},AF Ah (.iptr [gV gs]) H K=K (gV gs):= λ{H K}=>O0 rfl;rw[h,Wy];simp only[BK];exact B4Q (n:=n) (it:=Ao H) q m p j hr e f (λdone H k hq=>a done H k hq) (L+20) gs [] _ none _ _ _ _ (by omega) (List.Perm.refl _) i (Aw (by simp))
def A8s {K:AV->Af}:An (r! L (n+1)) Fj [gV gs] H K=K (B0S gs):=by
 refine Ky (λK a=> ?_) (Am (q:=false) gL AJ);rw[Nk];unfold IU Ip;rw[uB];exact a _ _ ⟨true,λK=>by kernel_rfl⟩
abbrev fZ (gs:List Cd):AV:= .fn (.func Es) [] [.iptr [gV gs]]
def B0i {r0 s e0 it:Nat} {q0:Bool} {c6 w:AV} {ks:List AM} (F:Vn 6 w w=true) (q:ks.length<1000000)
 (i:∀l v H,l.Perm ks->(l=[]->v=As)->Coll H0 r0 s q0 e0 c6 l v H->k4 H=some (w,[])) (c:it≠r0/\it≠s/\Ao H0<=it):
 ∀(f:Nat) (es:List (AM×Cd)) (l:List AM) (v:AV) (H:Hp) (o:Option (Value×AV)),es.length<f->(l++es.map Prod.fst).Perm ks->(l=[]->v=As)->Coll H0 r0 s q0 e0 c6 l v H->¬A8 v it->Aj H it=some (.iter (Dc DF es) o)->
 Cb (L+20) (r! L (n+1)) K k4 f (.yl s) (.it it) H=some (w,[]):=by
 intro f
 induction f with
 |zero=>intro es l v H o h;omega
 |succ f ih=>
  intro es l v H o B m A hc hv p;rw[HG];unfold CQ;refine XM (f:=DF) F p (λe=> ?_) (λa e b he=> ?_)
  ·subst e;rw[EX,Bj];exact i l v H (by simpa using m) A hc
  ·subst he;have g:=hc.it (.iter (Dc DF (a++b)) (some (.string ⟨⟨e.1⟩⟩,DF e.2))) c hv;have d:=Lv (es:=Dc DF (a++b)) (o:=some (.string ⟨⟨e.1⟩⟩,DF e.2)) p;have k:(l++(a++e::b).map Prod.fst).length=ks.length:=m.length_eq;simp at k;have t:sF (.string ⟨⟨e.1⟩⟩)=S e.1:=rfl;rw[EX,Cy,No d,EX,t];refine E' g (by omega) λJ r j C hr=> ?_;rw[En];show Az (.v (.bool false)) _ _=_;rw[Bj];refine ih (a++b) (l++[e.1]) J r _ (by simp at B⊢;omega) ?_ (by simp) j (λD=> ?_) (C it _ c.1 c.2.1 hv d)
   ·refine List.Perm.trans ?_ m;simp only[YN,WR,dW];refine List.Perm.append_left l ?_;show(e.1::(a.map Prod.fst++b.map Prod.fst)).Perm _;exact List.perm_middle.symm
   ·have u:=hr it D;have y:=g.wf.lt d;rw[BC] at u y;omega
def A2D (B:Vn 6 w w=true) (J:gs.length<=8) (F:100<L) (wf:Wf H0)
 (C:∀l v H,l.Perm (gs.map Cd.id)->(l=[]->v=As)->NewSl H0 l v H->K v H=some (w,[])):
 (r! L (n+4)).call EC [fZ gs] H0 K=some (w,[]):=by
 rw[GB];unfold EB;rw[D5];unfold Cz;simp only[BK];rw[lQ (by rfl),Vw,HO];unfold Da;simp only[BK];have w1:=AI (x:= .cells true A2 [As]) wf;have c:=Aw (H:=H0) (x:= .cells true A2 [As]) (by simp);have t:Ao ((Ao H0,c_ A2 [As])::H0)=Ao H0+1:=rfl;have i:Wf ((Ao H0+1,Ny (.ptr (Ao H0) 0 0) (fZ gs) (some none))::(Ao H0,c_ A2 [As])::H0):=AI (x:=Ny (.ptr (Ao H0) 0 0) (fZ gs) (some none)) w1;have e:Aj ((Ao H0+1,Ny (.ptr (Ao H0) 0 0) (fZ gs) (some none))::(Ao H0,c_ A2 [As])::H0) (Ao H0+1)=some (Ny (.ptr (Ao H0) 0 0) (fZ gs) (some none)):=Aw (H:=((Ao H0,c_ A2 [As])::H0)) (x:=Ny (.ptr (Ao H0) 0 0) (fZ gs) (some none)) (by simp[Ny]);have ol:∀u y,Aj H0 u=some y->Aj ((Ao H0+1,Ny (.ptr (Ao H0) 0 0) (fZ gs) (some none))::(Ao H0,c_ A2 [As])::H0) u=some y:= λu y a=>by
  have a1:=A4 (x:= .cells true A2 [As]) (wf.lt a) a;exact A4 (w1.lt a1) a1
 have k:∀{H:Hp} {K:AV->Af},AF Ah (.iptr [gV gs]) H K=K (gV gs):= λ{H K}=>O0 rfl;rw[k,Wy];have d:Aj ((Ao H0+1,Ny (.ptr (Ao H0) 0 0) (fZ gs) (some none))::(Ao H0,c_ A2 [As])::H0) (Ao H0)=some (c_ A2 [As]):=A4 (w1.lt c) c;show Cb (L+20) (r! L (n+1)) _ _ (L+20) (.yl (Ao H0+1)) (.it (Ao ((Ao H0+1,Ny (.ptr (Ao H0) 0 0) (fZ gs) (some none))::(Ao H0,c_ A2 [As])::H0))) ((Ao ((Ao H0+1,Ny (.ptr (Ao H0) 0 0) (fZ gs) (some none))::(Ao H0,c_ A2 [As])::H0),.iter (Dc DF (gE gs)) none)::((Ao H0+1,Ny (.ptr (Ao H0) 0 0) (fZ gs) (some none))::(Ao H0,c_ A2 [As])::H0))=_;generalize f:((Ao H0+1,Ny (.ptr (Ao H0) 0 0) (fZ gs) (some none))::(Ao H0,c_ A2 [As])::H0:Hp)=b at i e ol d;have r:Ao b=Ao H0+2:=by rw[<-f];rfl
 have D:=AI (x:= .iter (Dc DF (gE gs)) none) i;have up:∀u y,Aj b u=some y->Aj ((Ao b,Row.iter (Dc DF (gE gs)) none)::b) u=some y:= λu y j=>A4 (i.lt j) j;have g:Aj ((Ao b,Row.iter (Dc DF (gE gs)) none)::b) (Ao b)=some (.iter (Dc DF (gE gs)) none):=Aw (by simp);have q:(gE gs).length=gs.length:=by simp[gE]
 refine B0i (n:=n) (H0:=H0) (r0:=Ao H0) (s:=Ao H0+1) (it:=Ao b) (q0:=true) (e0:=A2) (c6:=fZ gs) (ks:=gs.map Cd.id) B (by rw[QI];omega) ?_ (by omega) (L+20) (gE gs) [] As _ none (by omega) (by rw[l3d,Wp]) (λ_=>rfl)
  ⟨up _ _ d,.inl ⟨rfl,rfl,rfl⟩,up _ _ e,λu ⟨_,_,_,h⟩=>(by cases h),D,λu y a=>up u y (ol u y a),by omega,by omega,by omega,wf⟩ (λ⟨_,_,_,h⟩=>(by cases h)) g
 intro l v H A m hc;show IJ H (Ao H0+1) _=_;rw[Bf hc.lp];show LC H (Ao H0+1) .gone _=_;rw[Dh];have hr:Aj (upd H (Ao H0+1) .gone) (Ao H0)=some (c_ A2 [v]):=by rw[Ag (by omega)];exact hc.at_
 show AF Ac (.ptr (Ao H0) 0 0) (upd H (Ao H0+1) .gone) _=_;rw[AP (p:=0) rfl hr (by simp)];refine C _ _ _ A m ⟨?_,λu a=>(hc.new u a).2.2,Bn hc.wf,λu y a=> ?_,?_⟩
 ·exact hc.sl.lat hc.wf (Lat.upd H _ _ (P:= λu=>u=Ao H0+1) rfl) (λu a=>(hc.new u a).2.1)
 ·have:=wf.lt a;rw[Ag (by omega)];exact hc.keep u y a
 ·rw[BC];have:=hc.wf.lt hc.at_;omega
def A8k (k:Vn 6 w w=true) (j:gs.length<=8) (i:100<L) (wf:Wf H0)
 (m:∀v H,NewSl H0 (DQ (gs.map Cd.id)) v H->(gs=[]->v=As)->K v H=some (w,[])):(r! L (n+6)).call Mf [gV gs] H0 K=some (w,[]):=by
 rw[Xe];unfold LZ;have ky:∀{K:AV->Af},An (r! L (n+5)) Dt [gV gs] H0 K=K (fZ gs):= λ{K}=>by
  refine Ky (λK g=> ?_) (Am (q:=false) gL AJ);rw[show n+5=(n+4)+1 from rfl,IP];unfold Dr Ip;have f:∀{H:Hp} {K:KV},Ho C9 (gV gs) H K=K (.ptr (Ao H) 0 0) ((Ao H,c_ C9 [gV gs])::H):= λ{H K}=>uB;rw[f];exact g _ _ ⟨true,λK=>by kernel_rfl⟩
 rw[ky,Hh];unfold ET;refine A2D (n:=n) k j i wf λl v H b c hc=> ?_;refine A2u (n:=n) wf (by rw[b.length_eq,QI];omega) c hc λd a=> ?_;have e:DQ l=DQ (gs.map Cd.id):=I8 ((Be l).trans (b.trans (Be _).symm)) (Dy l) (Dy _);rw[e] at a;refine m v d a λh=>c ?_;subst h;exact mL (by rw[b.length_eq];rfl)
end
end
section
variable {L n:Nat}
section
variable {α:Type} {f:α->AV} {b:List (AM×α)} {x:AM} {H:Hp}
def uE (b:List (AM×α)) (x:AM):List (AM×α):=match b with
 |[]=>[]
 |e::b=>if e.1=x then b else e::uE b x
def B0B:∀(b:List (AM×α)) (i:Nat),(match Yl x b i with|none=>b|some (j,_)=>b.eraseIdx (j-i))=uE b x/\(∀j w,Yl x b i=some (j,w)->i<=j):=by
 intro b
 induction b with
 |nil=>intro i;exact⟨rfl,λj w h=>by cases h⟩
 |cons e b ih=>
  intro i;rw[YP];unfold uE;by_cases h:e.1=x
  ·refine⟨?_,λj w a=> ?_⟩
   ·simp[h]
   ·simp[h] at a;omega
  ·obtain⟨h1,h2⟩:=ih (i+1);refine⟨?_,λj w a=> ?_⟩
   ·rw[C4 h,C4 h,<-h1];cases d:Yl x b (i+1) with
    |none=>rfl
    |some p=>
     obtain⟨j,w⟩:=p;have:=h2 j w d;have c:j-i=(j-(i+1))+1:=by omega
     simp only[c,List.eraseIdx_cons_succ]
   ·rw[C4 h] at a;have:=h2 j w a;omega
def A7g:∀b:List (AM×α),(b.map Prod.fst).Nodup->((uE b x).map Prod.fst).Nodup/\∀y,y∈(uE b x).map Prod.fst↔y∈b.map Prod.fst/\y≠x:=by
 intro b
 induction b with
 |nil=>intro _;exact⟨by simp[uE],λy=>by simp[uE]⟩
 |cons e b ih=>
  intro h;rw[WR,List.nodup_cons] at h;obtain⟨h1,h2⟩:=ih h.2;unfold uE;by_cases he:e.1=x
  ·rw[Dj he];subst he;refine⟨h.2,λy=> ?_⟩;rw[WR,Uf];constructor
   ·intro a;exact⟨.inr a,λe=>h.1 (e▸a)⟩
   ·rintro⟨a|a,hn⟩
    ·exact absurd a hn
    ·exact a
  ·rw[C4 he];refine⟨?_,λy=> ?_⟩
   ·rw[WR,List.nodup_cons];exact⟨λhm=>h.1 ((h2 _).1 hm).1,h1⟩
   ·rw[WR,Uf,h2,WR,Uf];constructor
    ·rintro(rfl|⟨a,hn⟩)
     ·exact⟨.inl rfl,he⟩
     ·exact⟨.inr a,hn⟩
    ·rintro⟨a|a,hn⟩
     ·exact .inl a
     ·exact .inr ⟨a,hn⟩
def B9E {β:Type} (g:α->β):∀(l:List α) (i:Nat),(l.map g).eraseIdx i=(l.eraseIdx i).map g:=by
 intro l
 induction l with
 |nil=>intro i;rfl
 |cons a l ih=>
  intro i;cases i with
  |zero=>rfl
  |succ i=>show g a::(l.map g).eraseIdx i=g a::(l.eraseIdx i).map g;rw[ih]
def B12 {r:Nat} (h:Aj H r=some (.map false (Dc f b) none)):∃c,(∀K:Hp->Af,hC (.mp r) (SV x) H K=K c)/\Aj c r=some (.map false (Dc f (uE b x)) none)/\Lat H c (λu=>u=r):=by
 have e:∀K:Hp->Af,hC (.mp r) (SV x) H K=IJ H r λy=>kU y λd g=>I3 (SV x) d λq=>match q with
  |none=>K H
  |some (i,_)=>LC H r (.map false (d.eraseIdx i) (C0e g i)) K:= λK=>rfl
 obtain⟨h1,h2⟩:=B0B (x:=x) b 0;cases a:Yl x b 0 with
 |none=>
  rw[a] at h1;refine⟨H,λK=> ?_,by rw[<-h1];exact h,Lat.refl _ _⟩;rw[e,Bf h];show I3 (SV x) (Dc f b) _=_;rw[kfK,a];rfl
 |some p=>
  obtain⟨j,w⟩:=p;rw[a] at h1;refine⟨upd H r (.map false (Dc f (uE b x)) none),λK=> ?_,(BB h).trans rfl,Lat.upd _ _ _ rfl⟩;rw[e,Bf h];show I3 (SV x) (Dc f b) _=_;rw[kfK,a];show LC H r (.map false ((Dc f b).eraseIdx j) none) K=_;rw[Dh,<-h1,Dc,Dc,B9E];rfl
end
def P! {gs:List Cd} {e:vE}:e∈OP gs↔∃c∈gs,e.1=c.id/\e.2∈c.ps:=by
 unfold OP;rw[l3b];constructor
 ·rintro⟨c,hc,he⟩;obtain⟨p,a,rfl⟩:=Ma.1 he;exact⟨c,hc,rfl,a⟩
 ·rintro⟨c,hc,h1,h2⟩;exact⟨c,hc,Ma.2 ⟨e.2,h2,by rw[<-h1]⟩⟩
def tC (gs:List Cd) (p:Option (Option Code)):Row:= .loop 32 [(2,As),(3,gV gs),(5,.ptr 1 0 0),(8,.dk),(16,.it 2),(25,B0S gs),(27,.dk),(28,.dk),(29,.dk)] (ER).2.1 (ER).2.2.1 (ER).2.2.2 p
structure Hs (gs:List Cd) (es:List vE) (b:List (AM×Unit)) (H:Hp):Prop where
 mm:Aj H 0=some (.map false (Dc uS b) none)
 st:Aj H 1=some (c_ CL [.mp 0])
 lp:Aj H 3=some (tC gs (some none))
 wf:Wf H
 nd:(b.map Prod.fst).Nodup
 ky:∀x,x∈b.map Prod.fst↔x∈gs.map Cd.id/\∀e∈es,e.2≠x
section
variable {gs:List Cd} {K:KV} {x:Af}
def C1U {a:Hp} {K:Hp->Af} (h:Aj a 3=some (tC gs none)):E2 a 3 false (some none) K=K (upd a 3 (tC gs (some none))):=OZ h
def B3p:uV (r! L (n+2)) L 3 4 (λq H=>∃b,Hs gs q b H):=by
 intro q s p H K x _ ⟨b,h⟩ w;show Nz (r! L (n+2)) 3 [S s,S p] H K=x;rw[OT h.lp (by kernel_rfl)];have c:(r! L (n+2)).run= λt=>OG (E (L+20)) (r! L (n+1)) t:=rfl;rw[c,jZ,Pb h.lp];have j:Aj (upd H 3 (tC gs none)) 0=some (.map false (Dc uS b) none):=by rw[Ag (by decide)];exact h.mm
 have d:Aj (upd H 3 (tC gs none)) 1=some (c_ CL [.mp 0]):=by rw[Ag (by decide)];exact h.st
 have i:Aj (upd H 3 (tC gs none)) 3=some (tC gs none):=XA1 h.lp;have w1:Wf (upd H 3 (tC gs none)):=Bn h.wf;have k1:∀y,Aj H 4=some y->Aj (upd H 3 (tC gs none)) 4=some y:= λy m=>by rw[Ag (by decide)];exact m
 show AF CA (.ptr 1 0 0) (upd H 3 (tC gs none)) _=_;rw[AP (p:=0) rfl d (by simp)];have u:∀(F:Value->Af),LQ (S p) F=F (SV p):= λF=>id rfl;rw[u];obtain⟨r,d1,d2,g⟩:=B12 (f:=uS) (x:=p) j;show hC (.mp 0) (SV p) (upd H 3 (tC gs none)) _=_;rw[d1];have k:=g.keep w1 _ _ d (by decide);have a:=g.keep w1 _ _ i (by decide);show E2 r 3 false (some none) _=_;rw[C1U a];obtain⟨n1,n2⟩:=A7g (x:=p) b h.nd;refine w _ ⟨uE b p,?_,?_,XA1 a,Bn (g.wf w1),n1,λz=> ?_⟩ λy m=> ?_
 ·rw[Ag (by decide)];exact d2
 ·rw[Ag (by decide)];exact k
 ·rw[n2,h.ky];constructor
  ·rintro⟨⟨h1,h2⟩,v⟩;refine⟨h1,λe he=> ?_⟩;rcases Zs.1 he with he|he
   ·exact h2 e he
   ·rw[Ur] at he;subst he;exact Ne.symm v
  ·rintro⟨h1,h2⟩;exact⟨⟨h1,λe he=>h2 e (List.mem_append_left _ he)⟩,Ne.symm (h2 (s,p) (by simp))⟩
 ·rw[Ag (by decide)];exact g.keep w1 _ _ (k1 y m) (by decide)
def B0p {s:AV->AV->AV->AV->AV->AV->AV->AV->Hp->Af} {w a0 a1 u d2 y A:AV} (R:Vn 6 w w=true) (hn:(gs.map Cd.id).Nodup)
 (m:∀b H,Aj H 0=some (.map false (Dc uS b) none)->Aj H 1=some (c_ CL [.mp 0])->Wf H->Ao H=3->(b.map Prod.fst).Perm (gs.map Cd.id)->s a0 a1 (.ptr 1 0 0) u (.it 2) d2 y A H=some (w,[])):
 ∀(f:Nat) (rem:List Cd) (b:List (AM×Unit)) (H:Hp) (o:Option (Value×AV)) (d1:AV),rem.length<f->(b.map Prod.fst++rem.map Cd.id).Perm (gs.map Cd.id)->Aj H 0=some (.map false (Dc uS b) none)->Aj H 1=some (c_ CL [.mp 0])->Wf H->Ao H=3->Aj H 2=some (.iter (Dc DF (gE rem)) o)->
 Sz (L+20) (r! L n) K s f a0 a1 (.ptr 1 0 0) u (.it 2) d1 d2 y A H=some (w,[]):=by
 intro f
 induction f with
 |zero=>intro rem b H o d1 h;omega
 |succ f ih=>
  intro rem b H o d1 Q i hm C wf r B;rw[lE];unfold S0;refine XM (f:=DF) R B (λe=> ?_) (λa e c t=> ?_)
  ·have J:rem=[]:=by
    cases rem with
    |nil=>rfl
    |cons _ _=>cases e
   subst J;rw[EX,Bj];rw[List.map_nil,Wi] at i;exact m b H hm C wf r i
  ·obtain⟨d,cd,rc,rfl,rfl,rfl,rfl⟩:=A1h t;have M:gE d++gE rc=gE (d++rc):=by simp[gE]
   have g:=Lv (es:=Dc DF (gE d++gE rc)) (o:=some (.string ⟨⟨cd.id⟩⟩,DF cd)) B;have j:Aj (upd H 2 (.iter (Dc DF (gE d++gE rc)) (some (.string ⟨⟨cd.id⟩⟩,DF cd)))) 0=some (.map false (Dc uS b) none):=by rw[Ag (by decide)];exact hm
   have k:Aj (upd H 2 (.iter (Dc DF (gE d++gE rc)) (some (.string ⟨⟨cd.id⟩⟩,DF cd)))) 1=some (c_ CL [.mp 0]):=by rw[Ag (by decide)];exact C
   have w1:Wf (upd H 2 (.iter (Dc DF (gE d++gE rc)) (some (.string ⟨⟨cd.id⟩⟩,DF cd)))):=Bn wf;have n1:Ao (upd H 2 (.iter (Dc DF (gE d++gE rc)) (some (.string ⟨⟨cd.id⟩⟩,DF cd))))=3:=by rw[BC];exact r
   show Cx (.tup [.v (.bool true),S cd.id,DF cd]) 0 _=_;rw[EX,Cy];show Zv (.it 2) (upd H 2 (.iter (Dc DF (gE d++gE rc)) (some (.string ⟨⟨cd.id⟩⟩,DF cd)))) _=_;rw[No g,EX];generalize upd H 2 (.iter (Dc DF (gE d++gE rc)) (some (.string ⟨⟨cd.id⟩⟩,DF cd)))=D at g j k w1 n1;have P:sF (.string ⟨⟨cd.id⟩⟩)=S cd.id:=rfl;have N:∀{K:AV->Af},BZ F4 [] K=K (.agg []):= λ{K}=>id rfl;have O:∀(F:Value->Af),LQ (S cd.id) F=F (SV cd.id):= λF=>id rfl;rw[AP (p:=0) rfl k (by simp),N,P,O];show Mh (.mp 0) (SV cd.id) (uS ()) D _=_;rw[gZ (f:=uS) (v:=()) j];have q:cd.id∉b.map Prod.fst:= λhc=>by
    have h2:=(i.nodup_iff).2 hn;rw[l38] at h2;exact h2.2.2 _ hc cd.id (by simp) rfl
   rw[YG q];rw[M] at g;refine ih (d++rc) (b++[(cd.id,())]) _ (some (.string ⟨⟨cd.id⟩⟩,DF cd)) _ (by simp at Q⊢;omega) ?_ ((BB j).trans rfl) ?_ (Bn w1) (by rw[BC];exact n1) ?_
   ·refine List.Perm.trans ?_ i;simp only[YN,WR,List.map_nil,dW];refine List.Perm.append_left _ ?_;show(cd.id::(d.map Cd.id++rc.map Cd.id)).Perm _;exact List.perm_middle.symm
   ·rw[Ag (by decide)];exact k
   ·rw[Ag (by decide)];exact g
def B2B {a:AV} (r:GOk gs) (hL:40000<L) (hp:∀c∈gs,c.ps.length<100) (R:LA gs a):CS (r! L (n+80)) Uj [a] (DJ (EG gs)):=by
 intro K B;rw[oK];unfold Ua;have C:Rr true depth [a] [a] [] false:=by rcases R with rfl|⟨_,rfl⟩<;>exact λK=>by kernel_rfl
 have of:∀{K:AV->Af},An (r! L (n+79)) L0 [a] [] K=K (.tup [gV gs,Bo true]):= λ{K}=>Ky (λK B=>B6m (n:=n+15) r hL R K B) C;have w0:Vn 6 (DJ (EG gs)) (DJ (EG gs))=true:=SP 6 _ (A9K _);have h8:=r.len;rw[of,F3,F2];have e0:∀{F:AV->Hp->Af},(L4 F4 [] λv4 Z=>Bx CL CA Z λX H7=>E0 CA X v4 H7 λH8=>F X H8)=F (.ptr 1 0 0) [(1,c_ CL [.mp 0]),(0,.map false [] none)]:= λ{F}=>by kernel_rfl
 rw[e0];simp only[BK];rw[Wy];refine B0p (n:=n+79) w0 r.ids (λb H hm N wf d s=> ?_) (L+20) gs [] _ none _ (by omega) (List.Perm.refl _) rfl rfl (AI (AI (AI Fk))) rfl rfl;rw[A8s (n:=n+78),Vw,d];have ab:Ao ((3,tC gs (some none))::H)=4:=rfl;have Y:Wf ((3,tC gs (some none))::H):=by
  have:=AI (x:=tC gs (some none)) wf;rw[d] at this;exact this
 have M:Aj ((3,tC gs (some none))::H) 3=some (tC gs (some none)):=by
  have:=Aw (H:=H) (x:=tC gs (some none)) (by simp[tC]);rw[d] at this;exact this
 have ol:∀u y,Aj H u=some y->Aj ((3,tC gs (some none))::H) u=some y:= λu y t=>by
  have:=A4 (x:=tC gs (some none)) (wf.lt t) t;rw[d] at this;exact this
 have i:∀u y,Aj ((3,tC gs (some none))::H) u=some y->Aj ((4,.iter (Dc DF (gE gs)) none)::(3,tC gs (some none))::H) u=some y:= λu y t=>A4 (x:= .iter (Dc DF (gE gs)) none) (Y.lt t) t;show(r! L (n+79)).call Fb [.yl 3,.iptr [gV gs]] ((3,tC gs (some none))::H) _=_;refine A4H (n:=n+76) (s0:=3) (Q:= λA H=>∃b,Hs gs A b H) w0 h8 hp (by omega) B3p (λA H1 j ⟨b,h⟩ P k=>⟨b,k _ _ (show 0≠4 by decide) h.mm,k _ _ (show 1≠4 by decide) h.st,k _ _ (show 3≠4 by decide) h.lp,P,h.nd,h.ky⟩) (λA H ⟨b,h⟩=>h.wf) ?_ (λdone j V ⟨w,m⟩=> ?_)
 ·refine⟨b,i _ _ (ol _ _ hm),i _ _ (ol _ _ N),i _ _ M,AI Y,s.symm.nodup r.ids,λz=> ?_⟩;rw[s.mem_iff];exact⟨λh=>⟨h,by simp⟩,λh=>h.1⟩
 ·show IJ j 3 _=_;rw[Bf m.lp];show LC j 3 .gone _=_;rw[Dh];have N:Aj (upd j 3 .gone) 1=some (c_ CL [.mp 0]):=by rw[Ag (by decide)];exact m.st
  have J:Aj (upd j 3 .gone) 0=some (.map false (Dc uS w) none):=by rw[Ag (by decide)];exact m.mm
  show AF CA (.ptr 1 0 0) (upd j 3 .gone) _=_;rw[AP (p:=0) rfl N (by simp)];have g:(w.map Prod.fst).Perm (EG gs):=by
   refine(l37 m.nd (tM r.ids)).2 λz=> ?_;rw[m.ky,PA];refine and_congr Iff.rfl ⟨λh c hc hz=> ?_,λh e he=> ?_⟩
   ·exact h (c.id,z) (P!.2 ⟨c,V.mem_iff.2 hc,rfl,hz⟩) rfl
   ·obtain⟨c,hc,h1,h2⟩:=P!.1 he;exact λe'=>h c (V.mem_iff.1 hc) (e'▸h2)
  have aa:w.length<1000:=by
   have h1:=g.length_eq;have h2:=yF (gs:=gs);rw[QI] at h1;omega
  refine mE (n:=n+73) w0 (by omega) (by omega) (Bn m.wf) J g (Dy _) λv H hv O=> ?_;exact B _ _ λbb=>by
   obtain⟨q,hq⟩:=gK (D:=depth-1) (b:=bb) hv O;exact⟨q,hq⟩
end
end
end Go.Abs
end
