import Derived.Test.YtlbhdmbfdcohhaaGreatDoorT21
import Derived.Test.YtlbhdmbfdcohhaaGreatDoorT27
import Derived.Test.YtlbhdmbfdcohhaaGreatDoorT41
set_option linter.all false
set_option maxHeartbeats 100000000
noncomputable section
namespace Go.Abs
open Go.RowKit Go.Proofs
set_option maxRecDepth 100000
section
variable {L n:Nat}
theorem A0Z {k:Nat} (h:k<7):(JN k).length≤44:=by
 have:=HF.1 (show((List.range 7).all λk=>decide ((JN k).length≤44))=true by kernel_rfl) k (Jr.2 h)
 simpa using this
theorem A65 {k:Nat} (h:k<52):(JN k).length≤50:=by
 have:=HF.1 (show((List.range 52).all λk=>decide ((JN k).length≤50))=true by kernel_rfl) k (Jr.2 h)
 simpa using this
theorem A0y {j:Nat} (h:j<54):(exT j).length≤10:=by
 have:=HF.1 (show((List.range 54).all λk=>decide ((exT k).length≤10))=true by kernel_rfl) j (Jr.2 h)
 simpa using this
theorem B8x {i k:Nat} (hi:i<33) (hk:k<7):(cnT i k).length≤60:=by
 have h1:=A57 hi
 have h2:=A0Z hk
 simp only[cnT,F2,Sw,Sx,XA2,K7,OT]
 omega
theorem B85 (ks:List Nat) (h:∀k∈ks,k<7):(ks.flatMap gvT).length≤51*ks.length:=by
 induction ks with
 |nil=>simp
 |cons k ks ih=>
  have h1:=A0Z (h k (by simp))
  have h2:=ih λx hx=>h x (by simp[hx])
  simp only[l00,XA2,K7,gvT,A1y,OT] at h2⊢
  omega
theorem B4e {ts:List (List UInt8)} (h:∀t∈ts,t.length≤10):(ts.flatMap lnT).length≤11*ts.length:=by
 induction ts with
 |nil=>simp
 |cons t ts ih=>
  have h1:=h t (by simp)
  have h2:=ih λu hu=>h u (by simp[hu])
  simp only[l00,XA2,K7,lnT,OT] at h2⊢
  omega
theorem B9U {o a b k:Nat} (ho:o<4) (ha:a<7) (hb:b<7) (h:Sv o a b=some k):k<52:=by
 have:=HF.1 (show((List.range 196).all λj=>(match Sv (j/49) (j/7%7) (j%7) with|some k=>decide (k<52)|none=>true))=true by kernel_rfl) (49*o+7*a+b) (Jr.2 (by omega))
 rw[show(49*o+7*a+b)/49=o by omega,show(49*o+7*a+b)/7%7=a by omega,show(49*o+7*a+b)%7=b by omega,h] at this
 simpa using this
theorem B6u {a e k:Nat} (ha:a<7) (he:e<5) (h:Uf a e=some k):k<52:=by
 have:=HF.1 (show((List.range 35).all λj=>(match Uf (j/5) (j%5) with|some k=>decide (k<52)|none=>true))=true by kernel_rfl) (5*a+e) (Jr.2 (by omega))
 rw[show(5*a+e)/5=a by omega,show(5*a+e)%5=e by omega,h] at this
 simpa using this
section
variable {p:Pr}
theorem Y0 (h:p.Ok):p.ty.length=p.xs.length∧1≤p.xs.length∧p.xs.length≤4:=by
 have h1:=h.k1
 have h3:=h.k3
 have e:(p.x.ty p.ks).length=p.x.nd.length:=by cases p.x<;>rfl
 have e0:p.x.nd.length≤1:=by cases p.x<;>simp[Ex.nd]
 simp only[Pr.ty,Pr.xs,XA2,Et]
 omega
theorem B7B (h:p.Ok):∀k∈p.ty,k<52:=by
 intro k hk
 rcases YD.1 hk with hk|hk
 ·have:=h.k7 k hk;omega
 ·have hx:=h.x
  cases hq:p.x with
  |no=>rw[hq] at hk;simp[Ex.ty] at hk
  |cn i j=>rw[hq] at hk hx;simp[Ex.ty] at hk;have:=hx.2;omega
  |inp j=>rw[hq] at hk hx;simp only[Ex.ty,Zo] at hk;have:=KY h.k7 hx;omega
  |bi op l r j=>rw[hq] at hk hx;simp[Ex.ty] at hk;subst hk;exact B9U (by have:=hx.1;have:=hx.2.1;omega) (KY h.k7 hx.2.2.1) (KY h.k7 hx.2.2.2.1) hx.2.2.2.2
  |po l e j=>rw[hq] at hk hx;simp[Ex.ty] at hk;subst hk;exact B6u (KY h.k7 hx.1) hx.2.1 hx.2.2
theorem I6 (h:p.Ok):p.out<52:=by
 obtain⟨h1,h2,h3⟩:=Y0 h
 exact KY (B7B h) (by omega)
theorem B3S (h:p.Ok):(∀t∈p.ts,t.length<100)∧(p.ts.flatMap lnT).length≤11*p.ks.length+61:=by
 have k3:=h.k3
 have hx:=h.x
 have a1:∀t∈(List.range p.ks.length).map exT,t.length≤10:= λt ht=>by
  obtain⟨j,hj,rfl⟩:=Zp.1 ht
  exact A0y (by have:=Jr.1 hj;omega)
 have a2:(∀t∈p.x.tx,t.length≤60)∧p.x.tx.length≤1:=by
  cases hq:p.x with
  |no=>simp[Ex.tx]
  |cn i j=>rw[hq] at hx;simp[Ex.tx];exact B8x hx.1 hx.2
  |inp j=>rw[hq] at hx;have hj:j<p.ks.length:=hx;simp[Ex.tx];exact l1m (A0y (by omega)) (by decide)
  |bi op l r j=>rw[hq] at hx;have h1:=hx.1;have h2:=hx.2.1;have h3:=hx.2.2.1;have h4:=hx.2.2.2.1;simp[Ex.tx];exact l1m (A0y (by omega)) (by decide)
  |po l e j=>rw[hq] at hx;have h1:=hx.1;have h2:=hx.2.1;simp[Ex.tx];exact l1m (A0y (by omega)) (by decide)
 have a3:(p.x.tx.flatMap lnT).length≤61:=by
  match hq:p.x.tx with
  |[]=>simp
  |[t]=>have:=a2.1 t (by rw[hq];simp);simp[lnT];omega
  |t::u::l=>rw[hq] at a2;simp at a2
 refine⟨λt ht=> ?_,?_⟩
 ·rcases YD.1 ht with ht|ht
  ·have:=a1 t ht;omega
  ·have:=a2.1 t ht;omega
 ·have:=B4e a1
  simp only[Pr.ts,l2g,XA2,XU,List.length_range] at this⊢
  omega
def Pr.txt (p:Pr):List UInt8:=A1v p.id p.ks p.ts p.out
theorem Yz (h:p.Ok):p.txt.length<390:=by
 have k3:=h.k3
 have h1:=B85 p.ks h.k7
 have h2:=(B3S h).2
 have h3:=A65 (I6 h)
 have h4:=A9d p.id
 simp only[Pr.txt,A1v,XA2,K7,OT,PX,C2c]
 omega
abbrev Pr.cs (p:Pr):List AV:=B1 p.id (BJ p.ks) (Cc p.xs) (uu p.out)
theorem A6u (hL:100<L) (h:p.Ok):CS (rt (L+20) (n+44)) E8 [.agg p.cs] (Bo true):=by
 obtain⟨h1,h2,h3⟩:=Y0 h
 have:=h.k3
 have:=h.i1
 have:=h.i2
 exact B3x hL (C25 h) h1 (λk hk=>by have:=h.k7 k hk;omega) (by omega) h2 (by omega) (by omega) (by omega)
theorem B3R (hL:100<L) (h:p.Ok):CS (rt (L+20) (n+46)) E3 [.agg p.cs] (Bo true):=by
 obtain⟨h1,h2,h3⟩:=Y0 h
 have:=h.k3
 have:=h.i1
 have:=h.i2
 exact B2I hL (C24 h) rfl h1 (λk hk=>by have:=h.k7 k hk;omega) (by omega) h2 (by omega) (by omega) (by omega)
theorem B8W (hL:100<L) (h:p.Ok):CS (rt (L+20) (n+45)) Ip [.agg p.cs] (.tup [S p.txt,I 0]):=by
 obtain⟨h1,h2,h3⟩:=Y0 h
 obtain⟨t1,t2⟩:=B3T (L:=L) (n:=n+3) h
 have:=h.k3
 exact B3y hL h.i2 (A6u hL h) (λi hi=>(t2 i hi).1) (B3S h).1 t1 (λk hk=>by have:=h.k7 k hk;omega) (by omega) (by omega) (I6 h)
theorem B8V (hL:100<L) (h:p.Ok):CS (rt (L+20) (n+47)) Fo [.agg p.cs] (.tup [S p.txt,I 0]):=by
 obtain⟨h1,h2,h3⟩:=Y0 h
 obtain⟨t1,t2⟩:=B3T (L:=L) (n:=n+5) h
 have:=h.k3
 exact B2J hL h.i2 (B3R hL h) (λi hi=>(t2 i hi).2) (B3S h).1 t1 (λk hk=>by have:=h.k7 k hk;omega) (by omega) (by omega) (I6 h)
end
end
section
variable {L n:Nat} {K:KV}
theorem B6V {a b:List UInt8} (hL:10<L) (ha:a.length<390) (hb:b.length<390):CS (rt (L+20) (n+7)) E7 [.agg [S a,S b]] (S (GB [a,b])):=by
 intro K hK
 rw[ZU]
 unfold Rg
 rw[Fz (by rfl)]
 have hr:Aq [(A2 [],Row.cells true Bf [S a,S b])] (A2 [])=some (.cells true Bf [S a,S b]):=A1 (H:=[]) (by simp)
 have f0:∀K:AV→Aj,AN 0 (.ptr (A2 []) 0 0) K=K (.ptr (A2 []) 0 0):= λK=>id rfl
 have f1:∀K:AV→Aj,AN 1 (.ptr (A2 []) 0 0) K=K (.ptr (A2 []) 1 0):= λK=>id rfl
 have l0:∀K:AV→Aj,Au Ae (.ptr (A2 []) 0 0) [(A2 [],Row.cells true Bf [S a,S b])] K=K (S a):= λK=>id rfl
 have l1:∀K:AV→Aj,Au Ae (.ptr (A2 []) 1 0) [(A2 [],Row.cells true Bf [S a,S b])] K=K (S b):= λK=>id rfl
 have bs:∀K:KV,FG Ar 1 Ae 2 [(0,1,S a),(1,1,S b)] [(A2 [],Row.cells true Bf [S a,S b])] K=K (.sl 1 1 0 2) ((1,.cells false Ar (AL [a,b]))::[(A2 [],Row.cells true Bf [S a,S b])]):= λK=>id rfl
 rw[f0,l0,f1,l1,bs]
 have hf:OV true depth [.sl 1 1 0 2] [.list 2 (AL [a,b])] ((1,.cells false Ar (AL [a,b]))::[(A2 [],Row.cells true Bf [S a,S b])]) (true||false):=Ax (A26 (e:=Ar) (.inr ⟨1,false,rfl,rfl,rfl⟩) (by decide) (λs:List UInt8=>Value.string ⟨⟨s⟩⟩) [a,b] rfl) Ba
 rw[AT (A9L (L:=L) (n:=n) (l:=[a,b]) (by simp) (by simp;omega) (λs hs=>by simp at hs;rcases hs with rfl|rfl<;>assumption)) hf]
 exact hK _ _ (λb=>⟨false,D1⟩)
end
section
variable {L n:Nat}
theorem B3A {zs:List Int} {H:Hp} {K:AV→Aj} (hL:100<L) (hl:zs.length<100) (hz:∀z∈zs, -10≤z∧z<1090):Ai (rt (L+20) (n+7)) D5 [.list zs.length (EL zs)] H K=K (S (HH zs)):=
 AT (A3D (n:=n+2) hl (by omega) hz) (Ax (q:=false) (q':=false) Pj Ba)
theorem B3o {zs:List (List UInt8)} {H:Hp} {K:AV→Aj} (hL:100<L) (hl:zs.length<100) (hz:∀z∈zs,z.length<390):Ai (rt (L+20) (n+7)) EV [.list zs.length (AL zs)] H K=K (S (GB zs)):=
 AT (A9L (n:=n+1) hl (by omega) hz) (Ax (q:=false) (q':=false) Pj Ba)
theorem B8U {a b:List UInt8} {H:Hp} {K:AV→Aj} (hL:100<L) (ha:a.length<390) (hb:b.length<390):Ai (rt (L+20) (n+7)) E7 [.agg [S a,S b]] H K=K (S (GB [a,b])):=
 AT (q:=false) (B6V (n:=n) (by omega) ha hb) (λK=>by kernel_rfl)
theorem A0D {z:Int} {K:AV→Aj}:Sn 1 Ab 1 [(0,1,I z)] K=K (.list ([z]:List Int).length (EL [z])):=id rfl
theorem B8C {a b c d e f:Int} {K:AV→Aj}:Sn 1 Ab 6 [(0,1,I a),(1,1,I b),(2,1,I c),(3,1,I d),(4,1,I e),(5,1,I f)] K=K (.list ([a,b,c,d,e,f]:List Int).length (EL [a,b,c,d,e,f])):=id rfl
theorem B0v {z:List UInt8} {K:AV→Aj}:Sn 1 Ae 1 [(0,1,S z)] K=K (.list ([z]:List (List UInt8)).length (AL [z])):=id rfl
theorem B9g (a b:List UInt8):Ps [(a,b)]=GB [a,b]:=by simp[Ps]
theorem C4B {K:KV} {x:Aj} {c:Nat} {R0:Row} {cs:List AV} {ts:Tms} {k102:AV→AV→Hp→Aj} (ht:TmsOk ts) (hL:100<L) (hR:R0= .cells true Ak cs) (h28:∀H,Aq H c=some R0→∀K,Au A6 (.ptr c 28 0) H K=K (FJ ts)) {l:List UInt8} (hb:l.length<100000000)
 (hx:∀H',Aq H' c=some R0→Wf H'→k102 (.ptr c 0 0) (S (l++OY ts)) H'=x):∀(f i:Nat) (H:Hp),i≤ts.length→ts.length-i<f→Aq H c=some R0→Wf H→
 NR (L+20) (rt (L+20) (n+7)) K k102 f (.ptr c 0 0) (S (l++OY (ts.take i))) (I i) H=x:=by
 have hlen:=ht.len
 intro f
 induction f with
 |zero=>intro i H _ h;omega
 |succ f ih=>
  intro i H hi hf hc w
  rw[ZF]
  unfold QY Av
  have f26:∀K:AV→Aj,AN 26 (.ptr c 0 0) K=K (.ptr c 26 0):= λK=>id rfl
  have f2:∀K:AV→Aj,AN 2 (.ptr c 26 0) K=K (.ptr c 28 0):= λK=>id rfl
  rw[f26,f2,h28 H hc,Oz]
  by_cases h:i<ts.length
  ·have hr:=ht.rng _ (QN h)
   have hq1:=Up (z:=ts[i].2) (by omega) (by omega)
   have hq2:=Uq ts[i].2
   rw[FL (by omega),Dc,f26,f2,h28 H hc,Tw h,lTm,Bi (cs:=[zI,zS,zS]) rfl]
   have hn0:=A1 (H:=H) (x:= .cells true AQ [zI,zS,zS]) (by simp)
   rw[B8 (vs:=NO ts[i]) hn0 rfl rfl rfl]
   have hr1:=A9 (q:=true) (e:=AQ) (cs:=NO ts[i]) hn0
   have hclt:=w.lt hc
   have hc1:Aq (upd ((A2 H,Row.cells true AQ [zI,zS,zS])::H) (A2 H) (.cells true AQ (NO ts[i]))) c=some R0:=by
    rw[Ap (by omega)];exact AM hclt hc
   have w1:=BH (r:=A2 H) (y:= .cells true AQ (NO ts[i])) (Bj (x:= .cells true AQ [zI,zS,zS]) w)
   generalize upd ((A2 H,Row.cells true AQ [zI,zS,zS])::H) (A2 H) (.cells true AQ (NO ts[i]))=H1 at hr1 hc1 w1
   generalize A2 H=t at hr1
   have g0:∀K:AV→Aj,AN 0 (.ptr t 0 0) K=K (.ptr t 0 0):= λK=>id rfl
   have g1:∀K:AV→Aj,AN 1 (.ptr t 0 0) K=K (.ptr t 1 0):= λK=>id rfl
   have m0:∀K,Au Ab (.ptr t 0 0) H1 K=K (I ts[i].1):= λK=>AK (p:=0) rfl hr1 (show 0<3 by decide)
   have m1:∀K,Au Ay (.ptr t 1 0) H1 K=K (.agg (qa ts[i].2)):= λK=>Fy (p:=1) rfl hr1 (show 3≤3 from OU _)
   have a1:=WN (ts.take i) (λt h=>by have h1:=ht.rng t (l24 h);have:=Up (z:=t.2) (by omega) (by omega);have:=Uq t.2;omega)
   have a2:(ts.take i).length≤6:=by simp;omega
   have a3:=EB [ts[i].1]
   have a4:=EA [qn ts[i].2,qd ts[i].2] (by simp;omega)
   simp only[K7,OT] at a3 a4
   rw[g0,BK,m0,BK,A0D,BK,B3A hL (by simp) (by simp;omega),BK,Bs (by rw[XA2];omega),BK,g1,BK,m1,BK,B8U hL (by omega) (by omega),BK,Bs (by simp only[XA2];omega),BK,Dv (by omega)]
   have e1:l++OY (ts.take i)++HH [ts[i].1]++GB [qn ts[i].2,qd ts[i].2]=l++OY (ts.take (i+1)):=by
    rw[A3x ts h];simp[tmB,B9g]
   rw[e1]
   exact ih (i+1) H1 (by omega) (by omega) hc1 w1
  ·rw[FE (by omega),Bx]
   have:i=ts.length:=by omega
   subst this
   rw[l06]
   exact hx H hc w
end
section
variable {L n:Nat}
section
variable {m:ND} {u o:UD} {ca cb ra rb un pt:List UInt8} {ts:Tms} {ps:List (List UInt8)} {ins nds:AV} {kd id vd pe:Int} {r:RD}
theorem C4D {H:Hp} {K:AV→Aj} (hL:100<L) (hl:ps.length<100) (hz:∀z∈ps,z.length<390):Ai (rt (L+20) (n+7)) EV [DV ps] H K=K (S (GB ps)):=by
 cases ps with
 |nil=>
  refine AT (q:=false) (args':=[AA]) ?_ (λK=>by kernel_rfl)
  exact λK hK=>by
   rw[T4]
   unfold NY Av
   simp only[BW]
   rw[RO]
   unfold LR Av
   have el:∀K,AR Ac AA K=K (I 0):= λK=>_root_.id rfl
   rw[el,FE (by decide),Bx]
   exact hK _ _ (λb=>⟨false,λK=>by kernel_rfl⟩)
 |cons p l=>exact B3o hL hl hz
set_option maxHeartbeats 2000000 in
theorem A8o (hL:100<L) (hm:m.ok) (hkd:kd=1∨kd=2∨kd=3) (ht:TmsOk ts) (hI:Sl ins) (hN:Sl nds) (hp:ps.length≤6) (hpl:∀s∈ps,s.length<390) (hun:un.length<390) (hpt:pt.length<390)
 (hr:r.k=0∨r.k=1∨r.k=2∨r.k=3) (hrl:∀q∈[(r.a1,r.a2),(r.b1,r.b2),(r.c1,r.c2),(r.d1,r.d2)],q.1.length<390∧q.2.length<390) (hv:0≤vd∧vd≤3) (hcl:ca.length<10∧cb.length<10∧ra.length<10∧rb.length<10)
 (hup:PS (rt (L+20) (n+61)) GO [.agg (Cm u)] (.tup [S un,I 0])) (hpp:LS (rt (L+20) (n+61)) Ip [.agg (B1 id ins nds o)] (.tup [S pt,I pe])):
 CS (rt (L+20) (n+62)) MI [.agg (Ee kd m u ca cb (FJ ts) ra rb (DV ps) id ins nds o r vd)] (S (LD kd m un ca cb ts ra rb ps pt (if kd=3 then RN r vd else[]))):=by
 intro K hK
 obtain⟨q1,q2,q3,q4,q5,q6,q7,q8,q9,q10⟩:=hm
 have hT:=FO ts
 have hP:Sl (DV ps):=by cases ps with|nil=>exact .inl rfl|cons p l=>exact .inr ⟨_,_,rfl⟩
 have hlt:=ht.len
 have a1:=EB [kd,m.lab,m.num,m.itm,m.tim,m.day]
 have a2:=EA [un] (by simpa using hun)
 have a3:=EA [ca,cb] (by simp;omega)
 have a4:=EB [(ts.length:Int)]
 have a5:=WN ts (λt h=>by have:=ht.rng t h;have:=Up (z:=t.2) (by omega) (by omega);have:=Uq t.2;omega)
 have a6:=EA [ra,rb] (by simp;omega)
 have a7:=EB [(ps.length:Int)]
 have a8:=EA ps hpl
 have a9:=EA [pt] (by simpa using hpt)
 simp only[K7,OT] at a1 a2 a3 a4 a6 a7 a9
 rw[A1C]
 unfold SO Av
 rw[Fz (Q6 hT hP hI hN)]
 have hc0:=A1 (H:=[]) (x:=J4 kd m u ca cb (FJ ts) ra rb (DV ps) id ins nds o r vd) (by simp)
 have w0:=Bj (x:=J4 kd m u ca cb (FJ ts) ra rb (DV ps) id ins nds o r vd) F8
 generalize ((A2 [],J4 kd m u ca cb (FJ ts) ra rb (DV ps) id ins nds o r vd)::([]:Hp))=H0 at hc0 w0
 generalize A2 []=c at hc0
 have f0:∀{j:Nat} {K:AV→Aj},AN j (.ptr c 0 0) K=K (.ptr c j 0):= λ{j K}=>by rw[fA,KN]
 have g0:∀{K:AV→Aj},AN 0 (.ptr c 26 0) K=K (.ptr c 26 0):=_root_.id rfl
 have g2:∀{K:AV→Aj},AN 2 (.ptr c 26 0) K=K (.ptr c 28 0):=_root_.id rfl
 have g3:∀{K:AV→Aj},AN 3 (.ptr c 26 0) K=K (.ptr c 29 0):=_root_.id rfl
 have nm:∀{zs:List Int} {H:Hp} {K:AV→Aj},zs.length<100→(∀z∈zs, -10≤z∧z<1090)→Ai (rt (L+20) (n+61)) D5 [.list zs.length (EL zs)] H K=K (S (HH zs)):= λh1 h2=>B3A (n:=n+54) hL h1 h2
 have tx:∀{zs:List (List UInt8)} {H:Hp} {K:AV→Aj},zs.length<100→(∀z∈zs,z.length<390)→Ai (rt (L+20) (n+61)) EV [.list zs.length (AL zs)] H K=K (S (GB zs)):= λh1 h2=>B3o (n:=n+54) hL h1 h2
 have rt':∀{a b:List UInt8} {H:Hp} {K:AV→Aj},a.length<390→b.length<390→Ai (rt (L+20) (n+61)) E7 [.agg [S a,S b]] H K=K (S (GB [a,b])):= λh1 h2=>B8U (n:=n+54) hL h1 h2
 simp only[BW]
 rw[f0,cU hc0,hup,CZ,CY]
 simp only[f0,BK,cI0 hc0,cI1 hc0,cI2 hc0,cI3 hc0,cI4 hc0,cI5 hc0,B8C,B0v,g0,g2,cC hc0,cT hc0,Oz,A0D]
 rw[nm (by simp) (by simp only[TA,List.mem_nil_iff,or_false];rintro z (rfl|rfl|rfl|rfl|rfl|rfl)<;>omega),BK,tx (by simp) (by simpa using hun),BK,Bs (by omega),BK,rt' (by omega) (by omega),BK,Bs (by simp only[XA2];omega),BK,nm (by simp) (by simp;omega),BK,Bs (by simp only[XA2];omega),BK]
 have e0:(AV.v (.int .i64 0))=I ((0:Nat):Int):=rfl
 have et:∀(l:List UInt8),S l=S (l++OY (ts.take 0)):= λl=>by rw[show OY (ts.take 0)=[] from rfl,Xn]
 rw[e0,et]
 refine C4B (n:=n+54) ht hL (R0:=J4 kd m u ca cb (FJ ts) ra rb (DV ps) id ins nds o r vd) rfl (λH h K=>cT h) (by simp only[XA2];omega) ?_ (L+20) 0 H0 (by omega) (by omega) hc0 w0
 intro H1 hc1 w1
 have hpp':∀K,Ai (rt (L+20) (n+61)) Ip [.agg (B1 id ins nds o)] H1 K=K (.tup [S pt,I pe]):= λK=>by rw[zO];exact hpp false _ _ (SK hI hN) K
 have txA:∀{H:Hp} {K:AV→Aj},Ai (rt (L+20) (n+61)) EV [DV ps] H K=K (S (GB ps)):=C4D (n:=n+54) hL (by omega) hpl
 simp only[f0,g3,BK,cR hc1,cP hc1,Va,A0D,cPr hc1,hpp',CZ,CY,B0v,txA]
 rw[rt' (by omega) (by omega),BK,Bs (by simp only[XA2];omega),BK,nm (by simp) (by simp;omega),BK,Bs (by simp only[XA2];omega),BK,Bs (by simp only[XA2];omega),BK,tx (by simp) (by simpa using hpt),Bs (by simp only[XA2];omega),cI0 hc1,Do]
 by_cases h3:kd=3
 ·rw[decide_eq_true h3,Dc]
  have jv:∀{j:Nat} {K:AV→Aj},AN j (.ptr (A2 H1) 0 0) K=K (.ptr (A2 H1) j 0):= λ{j K}=>by rw[fA,KN]
  have hn0:=A1 (H:=H1) (x:= .cells true IM [zI,zS,zS,zS,zS,zS,zS,zS,zS]) (by simp)
  have eR:∀{K:AV→Aj},Au C8 (.ptr c 55 0) H1 K=K (.agg r.cs):= λ{K}=>Fy (p:=55) rfl hc1 (show 64≤68 by decide)
  rw[eR,Bi (cs:=[zI,zS,zS,zS,zS,zS,zS,zS,zS]) rfl,B8 (vs:=r.cs) hn0 rfl rfl rfl]
  have hr1:=A9 (q:=true) (e:=IM) (cs:=r.cs) hn0
  have hclt:=w1.lt hc1
  have hc2:Aq (upd ((A2 H1,.cells true IM [zI,zS,zS,zS,zS,zS,zS,zS,zS])::H1) (A2 H1) (.cells true IM r.cs)) c=some (J4 kd m u ca cb (FJ ts) ra rb (DV ps) id ins nds o r vd):=by
   rw[Ap (by omega)];exact AM hclt hc1
  generalize upd ((A2 H1,Row.cells true IM [zI,zS,zS,zS,zS,zS,zS,zS,zS])::H1) (A2 H1) (.cells true IM r.cs)=H2 at hr1 hc2
  generalize A2 H1=rv at hr1 jv
  have l0:∀{K:AV→Aj},Au Ab (.ptr rv 0 0) H2 K=K (I r.k):= λ{K}=>AK (p:=0) rfl hr1 (show 0<9 by decide)
  have l1:∀{K:AV→Aj},Au Ay (.ptr rv 1 0) H2 K=K (.agg [S r.a1,S r.a2]):= λ{K}=>Fy (p:=1) rfl hr1 (show 3≤9 by decide)
  have l3:∀{K:AV→Aj},Au Ay (.ptr rv 3 0) H2 K=K (.agg [S r.b1,S r.b2]):= λ{K}=>Fy (p:=3) rfl hr1 (show 5≤9 by decide)
  have l5:∀{K:AV→Aj},Au Ay (.ptr rv 5 0) H2 K=K (.agg [S r.c1,S r.c2]):= λ{K}=>Fy (p:=5) rfl hr1 (show 7≤9 by decide)
  have l7:∀{K:AV→Aj},Au Ay (.ptr rv 7 0) H2 K=K (.agg [S r.d1,S r.d2]):= λ{K}=>Fy (p:=7) rfl hr1 (show 9≤9 by decide)
  have b1:=EB [r.k]
  have hra:r.a1.length<390∧r.a2.length<390:=hrl (r.a1,r.a2) (by simp)
  have hrb:r.b1.length<390∧r.b2.length<390:=hrl (r.b1,r.b2) (by simp)
  have hrc:r.c1.length<390∧r.c2.length<390:=hrl (r.c1,r.c2) (by simp)
  have hrd:r.d1.length<390∧r.d2.length<390:=hrl (r.d1,r.d2) (by simp)
  have b2:=EA [r.a1,r.a2] (by simp;omega)
  have b3:=EA [r.b1,r.b2] (by simp;omega)
  have b4:=EA [r.c1,r.c2] (by simp;omega)
  have b5:=EA [r.d1,r.d2] (by simp;omega)
  have b6:=EB [vd]
  simp only[K7,OT] at b1 b2 b3 b4 b5 b6
  simp only[jv,f0,BK,l0,l1,l3,l5,l7,cV hc2,A0D]
  rw[nm (by simp) (by simp;omega),BK,Bs (by simp only[XA2];omega),BK,rt' hra.1 hra.2,BK,Bs (by simp only[XA2];omega),BK,rt' hrb.1 hrb.2,BK,Bs (by simp only[XA2];omega),BK,rt' hrc.1 hrc.2,BK,Bs (by simp only[XA2];omega),BK,rt' hrd.1 hrd.2,BK,Bs (by simp only[XA2];omega),BK,nm (by simp) (by simp;omega),BK,Bs (by simp only[XA2];omega),BK]
  rw[if_pos h3] at hK⊢
  have e:LD kd m un ca cb ts ra rb ps pt (RN r vd)=HH [kd,m.lab,m.num,m.itm,m.tim,m.day]++GB [un]++GB [ca,cb]++HH [(ts.length:Int)]++OY ts++GB [ra,rb]++HH [(ps.length:Int)]++GB ps++GB [pt]++HH [r.k]++GB [r.a1,r.a2]++GB [r.b1,r.b2]++GB [r.c1,r.c2]++GB [r.d1,r.d2]++HH [vd]:=by
   unfold LD RN;simp[Ps]
  rw[←e]
  exact hK _ _ (λb=>⟨false,λK=>by kernel_rfl⟩)
 ·rw[decide_eq_false h3,Bx]
  rw[if_neg h3] at hK⊢
  have e:LD kd m un ca cb ts ra rb ps pt []=HH [kd,m.lab,m.num,m.itm,m.tim,m.day]++GB [un]++GB [ca,cb]++HH [(ts.length:Int)]++OY ts++GB [ra,rb]++HH [(ps.length:Int)]++GB ps++GB [pt]:=by
   unfold LD;simp only[B9g,Xn,List.nil_append]
  rw[←e]
  exact hK _ _ (λb=>⟨false,λK=>by kernel_rfl⟩)
end
end
section
variable {L n:Nat}
theorem B7n:PS (rt (L+20) (n+40)) UW [.agg [I 0,AA,AA]] (.tup [S [],I 200]):=B2 (λH K=>by kernel_rfl) (by kernel_rfl)
theorem B7o:PS (rt (L+20) (n+40)) X3 [.agg [I 0,AA,AA]] (.tup [Bo true,Bo false]):=B2 (λH K=>by kernel_rfl) (by kernel_rfl)
section
variable {m:ND} {u o:UD} {ca cb ra rb:List UInt8} {T P ins nds:AV} {kd id vd:Int} {r:RD} {b:List UInt8} {q:Bool}
theorem A8p (hT:Sl T) (hP:Sl P) (hI:Sl ins) (hN:Sl nds) (hb:b.length≤32768)
 (hs:CS (rt (L+20) (n+61)) DZ [.agg (Ee kd m u ca cb T ra rb P id ins nds o r vd)] (.tup [Bo true,Bo q]))
 (hB:CS (rt (L+20) (n+61)) MI [.agg (Ee kd m u ca cb T ra rb P id ins nds o r vd)] (S b)):
 CS (rt (L+20) (n+62)) Kq [.agg (Ee kd m u ca cb T ra rb P id ins nds o r vd)] (.tup [S b,I 0]):=by
 intro K hK
 rw[UC]
 unfold Pf Bh BU Av Gr D3
 rw[Fz (Q6 hT hP hI hN)]
 have hc0:=A1 (H:=[]) (x:=J4 kd m u ca cb T ra rb P id ins nds o r vd) (by simp)
 generalize ((A2 [],J4 kd m u ca cb T ra rb P id ins nds o r vd)::([]:Hp))=H0 at hc0
 generalize A2 []=c at hc0
 have f0:∀{j:Nat} {K:AV→Aj},AN j (.ptr c 0 0) K=K (.ptr c j 0):= λ{j K}=>by rw[fA,KN]
 have hs':∀K,Ai (rt (L+20) (n+61)) DZ [.agg (Ee kd m u ca cb T ra rb P id ins nds o r vd)] H0 K=K (.tup [Bo true,Bo q]):= λK=>AT hs (Tz hT hP hI hN)
 have hB':∀K,Ai (rt (L+20) (n+61)) MI [.agg (Ee kd m u ca cb T ra rb P id ins nds o r vd)] H0 K=K (S b):= λK=>AT hB (Tz hT hP hI hN)
 have lS:∀{K:AV→Aj},AR Ae (S b) K=K (I b.length):= λ{K}=>NH rfl
 rw[cA hc0,hs',CZ,CY,ntT,Bx,cA hc0,hB',f0,cS hc0,B7o (n:=n+21),CZ,CY,f0,cS hc0,B7n (n:=n+21),CZ,CY,lS,D7,decide_eq_false (by omega)]
 simp only[gTF,gT,Cu,ntT,V3]
 rw[Bx]
 exact hK _ _ (λb=>⟨false,λK=>by kernel_rfl⟩)
theorem C6Y {cs:List AV} (hL:40000<L) (h1:cs.all AV.one=true) (hz:cs.length=68) (hfx:∀H,OV true depth [.agg cs] [.agg cs] H false) (hb:b.length≤32768) (hB:CS (rt (L+20) (n+62)) Kq [.agg cs] (.tup [S b,I 0])):CS (rt (L+20) (n+63)) Hh [.agg cs] (S (sha b)):=by
 intro K hK
 rw[Xe]
 unfold SR Av
 rw[Fz h1]
 have hc0:=A1 (H:=[]) (x:= .cells true Ak cs) (by simp)
 generalize ((A2 [],Row.cells true Ak cs)::([]:Hp))=H0 at hc0
 rw[Br rfl hz.symm hc0,AT hB (hfx H0),CZ,CY,Ib]
 show Aw (.v (.bool false)) _ _=_
 rw[Bx]
 have hs:∀K,Ai (rt (L+20) (n+62)) Ov [S b] H0 K=K (S (sha b)):= λK=>AT (B8S (L:=L+20) (n:=n+59) (by omega) (by omega)) (Ax (q:=false) (q':=false) D1 Ba)
 rw[hs]
 exact hK _ _ (λb=>⟨false,λK=>by kernel_rfl⟩)
end
end
section
variable {L n:Nat}
theorem C4v {k:Nat} (hk:k=1∨k=2∨k=3):∀K,eEq GP BinOp.eql (AV.agg (rr k).cs) (AV.agg [zI,zS,zS,zS,zS,zS,zS,zS,zS]) K=K (Bo false):= λK=>by rw[←qO];rcases hk with rfl|rfl|rfl<;>kernel_rfl
theorem B9G {k:Nat} (hk:k=1∨k=2∨k=3):PS (rt (L+20) (n+40)) Qw [.agg (rr k).cs] (Bo true):=by
 rcases hk with rfl|rfl|rfl<;>exact B2 (λH K=>by kernel_rfl) (by as_aux_lemma=>kernel_rfl)
theorem B3w {k:Nat} (hk:k=1∨k=2∨k=3):PS (rt (L+20) (n+40)) GM [.agg (rr k).cs] (Bo true):=by
 rcases hk with rfl|rfl|rfl<;>exact B2 (λH K=>by kernel_rfl) (by as_aux_lemma=>kernel_rfl)
theorem A4F:PS (rt (L+20) (n+40)) GM [.agg r0.cs] (Bo false):=B2 (λH K=>by kernel_rfl) (by kernel_rfl)
end
section
variable {L n:Nat}
structure CB where
 m:ND
 c:Int
 r:Int
 ts:Tms
structure CB.Ok (b:CB):Prop where
 m:b.m.ok
 c1: -80≤b.c
 c2:b.c≤80
 r1:0≤b.r
 r2:b.r≤8
 ts:TmsOk b.ts
inductive Cd where
 |re (b:CB) (u:Nat)
 |co (b:CB) (p:Pr) (ps:List (List UInt8)) (t:Option (Nat×Int))
def Cd.kd:Cd→Int
 | .re _ _=>1
 | .co _ _ _ none=>2
 | .co _ _ _ (some _)=>3
def Cd.ps:Cd→List (List UInt8)
 | .re _ _=>[]
 | .co _ _ ps _=>ps
abbrev cdC (kd:Int) (b:CB) (u:UD) (ps:List (List UInt8)) (id:Int) (ins nds:AV) (o:UD) (r:RD) (vd:Int):List AV:=Ee kd b.m u (qn b.c) (qd b.c) (FJ b.ts) (qn b.r) (qd b.r) (DV ps) id ins nds o r vd
def Cd.cs:Cd→List AV
 | .re b u=>cdC 1 b (uu u) [] 0 AA AA u0 r0 0
 | .co b p ps none=>cdC 2 b (uu p.out) ps p.id (BJ p.ks) (Cc p.xs) (uu p.out) r0 0
 | .co b p ps (some (k,vd))=>cdC 3 b (uu p.out) ps p.id (BJ p.ks) (Cc p.xs) (uu p.out) (rr k) vd
def Cd.body:Cd→List UInt8
 | .re b u=>LD 1 b.m (JN u) (qn b.c) (qd b.c) b.ts (qn b.r) (qd b.r) [] [] []
 | .co b p ps none=>LD 2 b.m (JN p.out) (qn b.c) (qd b.c) b.ts (qn b.r) (qd b.r) ps p.txt []
 | .co b p ps (some (k,vd))=>LD 3 b.m (JN p.out) (qn b.c) (qd b.c) b.ts (qn b.r) (qd b.r) ps p.txt (RN (rr k) vd)
def Cd.Ok:Cd→Prop
 | .re b u=>b.Ok∧u<7
 | .co b p ps t=>b.Ok∧p.Ok∧ps.length=p.ks.length∧(∀s∈ps,s.length=32)∧(match t with|none=>True|some (k,vd)=>(k=1∨k=2∨k=3)∧1≤vd∧vd≤3)
def Cd.id (c:Cd):List UInt8:=sha c.body
theorem Mg (ps:List (List UInt8)):Sl (DV ps):=by cases ps with|nil=>exact .inl rfl|cons p l=>exact .inr ⟨_,_,rfl⟩
theorem Ur {ps:List (List UInt8)} (h:1≤ps.length):DV ps=Ls ps:=by cases ps with|nil=>simp at h|cons p l=>rfl
theorem C4w {k:Nat} (h:k=1∨k=2∨k=3):(rr k).k=0∨(rr k).k=1∨(rr k).k=2∨(rr k).k=3:=by rcases h with rfl|rfl|rfl<;>decide
theorem A8j {k:Nat} (h:k=1∨k=2∨k=3):∀q∈[((rr k).a1,(rr k).a2),((rr k).b1,(rr k).b2),((rr k).c1,(rr k).c2),((rr k).d1,(rr k).d2)],q.1.length<390∧q.2.length<390:=by
 rcases h with rfl|rfl|rfl<;>decide
theorem A4H:∀q∈[(r0.a1,r0.a2),(r0.b1,r0.b2),(r0.c1,r0.c2),(r0.d1,r0.d2)],q.1.length<390∧q.2.length<390:=by decide
section
variable {b:CB} {p:Pr} {ps:List (List UInt8)} {kd:Int} {tail:List UInt8} {un pt:List UInt8}
theorem CB.Ok.cl (h:b.Ok):(qn b.c).length<10∧(qd b.c).length<10∧(qn b.r).length<10∧(qd b.r).length<10:=by
 have h1:=Up h.c1 (show b.c<81 by have:=h.c2;omega)
 have h2:=Up (z:=b.r) (by have:=h.r1;omega) (by have:=h.r2;omega)
 have h3:=Uq b.c
 have h4:=Uq b.r
 omega
theorem A2v (h:b.Ok) (hu:un.length<390) (hp:ps.length≤6) (hpl:∀s∈ps,s.length<390) (hpt:pt.length<390) (ht:tail.length≤4000):(LD kd b.m un (qn b.c) (qd b.c) b.ts (qn b.r) (qd b.r) ps pt tail).length≤32768:=by
 obtain⟨q1,q2,q3,q4⟩:=h.cl
 have l1:=EB [kd,b.m.lab,b.m.num,b.m.itm,b.m.tim,b.m.day]
 have l2:=EA [un] (by simpa using hu)
 have l3:=MR [(qn b.c,qd b.c)] (by simp;omega)
 have l4:=EB [(b.ts.length:Int)]
 have l5:=WN b.ts (λt ht=>by
  have:=h.ts.rng t ht
  have:=Up (z:=t.2) (by omega) (by omega)
  have:=Uq t.2
  omega)
 have l6:=MR [(qn b.r,qd b.r)] (by simp;omega)
 have l7:=EB [(ps.length:Int)]
 have l8:=EA ps hpl
 have l9:=EA [pt] (by simpa using hpt)
 have l0:=h.ts.len
 simp only[LD,XA2,K7,OT] at l1 l2 l3 l4 l5 l6 l7 l8 l9⊢
 omega
theorem B3d {k:Nat} {vd:Int} (h:k=1∨k=2∨k=3):(RN (rr k) vd).length≤4000:=by
 have l1:=EB [(rr k).k]
 have l2:=MR _ (A8j h)
 have l3:=EB [vd]
 simp only[RN,XA2,K7,OT] at l1 l2 l3⊢
 omega
end
section
variable {c:Cd}
theorem KB:c.cs.all AV.one=true:=by
 match c with
 | .re b u=>exact Q6 (FO _) (Mg _) (.inl rfl) (.inl rfl)
 | .co b p ps none=>exact Q6 (FO _) (Mg _) (.inr ⟨_,_,rfl⟩) (.inr ⟨_,_,rfl⟩)
 | .co b p ps (some (k,vd))=>exact Q6 (FO _) (Mg _) (.inr ⟨_,_,rfl⟩) (.inr ⟨_,_,rfl⟩)
theorem CD:c.cs.length=68:=by
 match c with
 | .re b u=>rfl
 | .co b p ps none=>rfl
 | .co b p ps (some (k,vd))=>rfl
theorem Zw (H:Hp):OV true depth [.agg c.cs] [.agg c.cs] H false:=by
 match c with
 | .re b u=>exact Tz (FO _) (Mg _) (.inl rfl) (.inl rfl)
 | .co b p ps none=>exact Tz (FO _) (Mg _) (.inr ⟨_,_,rfl⟩) (.inr ⟨_,_,rfl⟩)
 | .co b p ps (some (k,vd))=>exact Tz (FO _) (Mg _) (.inr ⟨_,_,rfl⟩) (.inr ⟨_,_,rfl⟩)
theorem XI (h:c.Ok):c.body.length≤32768:=by
 match c,h with
 | .re b u,⟨hb,hu⟩=>exact A2v hb (by have:=Fp u;omega) (by simp) (by simp) (by simp) (by simp)
 | .co b p ps none,⟨hb,hp,h1,h2,_⟩=>exact A2v hb (by have:=Fp p.out;omega) (by have:=hp.k3;omega) (λs hs=>by rw[h2 s hs];decide) (Yz hp) (by simp)
 | .co b p ps (some (k,vd)),⟨hb,hp,h1,h2,h3⟩=>exact A2v hb (by have:=Fp p.out;omega) (by have:=hp.k3;omega) (λs hs=>by rw[h2 s hs];decide) (Yz hp) (B3d h3.1)
theorem C3V:RV (rt (L+20) (n+40)) Fo [.agg (B1 0 AA AA u0)] (.tup [S [],I 90]):= λb=>by kernel_rfl
theorem C4E:RV (rt (L+20) (n+40)) Ip [.agg (B1 0 AA AA u0)] (.tup [S [],I 90]):= λb=>by kernel_rfl
theorem B5m (hL:40000<L) (h:c.Ok) (hn:c.ps.Nodup):CS (rt (L+20) (n+63)) Kr [.agg c.cs] (S c.id):=by
 refine C6S hL KB CD Zw (XI h) ?_
 match c,h,hn with
 | .re b u,⟨hb,hu⟩,_=>
  have st:=B0N (L:=L) (n:=n) (o:=u0) hb.m (FO b.ts) (B2G (L:=L) (n:=n+20)).o (Ue L (n+20) u (by omega)).o (A7X (L:=L) (n:=n+16) hb.c1 hb.c2 hb.r1 hb.r2 hb.ts).ls
  exact A80 (n:=n) (ps:=[]) (vd:=0) (kd:=1) (by omega) hb.m (.inl rfl) hb.ts (.inl rfl) (.inl rfl) (by simp) (by simp) (by have:=Fp u;omega) (by simp) (.inl rfl) A4H (by decide) hb.cl st.ls (RC L (n+21) u (by omega)) (C3V (L:=L) (n:=n+21)).ls
 | .co b p ps none,⟨hb,hp,h1,h2,_⟩,hn=>
  have k1:=hp.k1
  have k3:=hp.k3
  have hps:DV ps= .list p.ks.length (AL ps):=by rw[Ur (by omega),Ls,h1]
  have hpa:=(A3v (L:=L) (n:=n+53) (ps:=ps) hn (by omega) (by omega) (by omega) h2).ls
  rw[Ls,h1] at hpa
  have cp:=A0X (L:=L) (n:=n) (kd:=2) (m:=b.m) (ca:=qn b.c) (cb:=qd b.c) (ra:=qn b.r) (rb:=qd b.r) (r:=r0) (vd:=0) (FO b.ts) ⟨_,_,rfl⟩ hpa (B3R (L:=L) (n:=n+13) (by omega) hp).ls
  have st:=B0M (L:=L) (n:=n) hb.m (FO b.ts) ⟨_,_,rfl⟩ ⟨_,_,rfl⟩ ⟨_,_,rfl⟩ cp.ls (Ue L (n+20) p.out (I6 hp)).o (A7X (L:=L) (n:=n+16) hb.c1 hb.c2 hb.r1 hb.r2 hb.ts).ls
  rw[←hps] at st
  exact A80 (n:=n) (ps:=ps) (vd:=0) (kd:=2) (by omega) hb.m (.inr (.inl rfl)) hb.ts (.inr ⟨_,_,rfl⟩) (.inr ⟨_,_,rfl⟩) (by omega) (λs hs=>by rw[h2 s hs];decide) (by have:=Fp p.out;omega) (Yz hp) (.inl rfl) A4H (by decide) hb.cl st.ls (RC L (n+21) _ (I6 hp)) (B8V (L:=L) (n:=n+14) (by omega) hp).ls
 | .co b p ps (some (k,vd)),⟨hb,hp,h1,h2,h3,h4,h5⟩,hn=>
  have k1:=hp.k1
  have k3:=hp.k3
  have hps:DV ps= .list p.ks.length (AL ps):=by rw[Ur (by omega),Ls,h1]
  have hpa:=(A3v (L:=L) (n:=n+53) (ps:=ps) hn (by omega) (by omega) (by omega) h2).ls
  rw[Ls,h1] at hpa
  have cp:=A0X (L:=L) (n:=n) (kd:=3) (m:=b.m) (ca:=qn b.c) (cb:=qd b.c) (ra:=qn b.r) (rb:=qd b.r) (r:=rr k) (vd:=vd) (FO b.ts) ⟨_,_,rfl⟩ hpa (B3R (L:=L) (n:=n+13) (by omega) hp).ls
  have st:=B0L (L:=L) (n:=n) hb.m (FO b.ts) ⟨_,_,rfl⟩ ⟨_,_,rfl⟩ ⟨_,_,rfl⟩ (C4v h3) (B9G (L:=L) (n:=n+20) h3).o h4 h5 (Ue L (n+20) p.out (I6 hp)).o (A7X (L:=L) (n:=n+16) hb.c1 hb.c2 hb.r1 hb.r2 hb.ts).ls cp.ls
  rw[←hps] at st
  exact A80 (n:=n) (ps:=ps) (vd:=vd) (kd:=3) (by omega) hb.m (.inr (.inr rfl)) hb.ts (.inr ⟨_,_,rfl⟩) (.inr ⟨_,_,rfl⟩) (by omega) (λs hs=>by rw[h2 s hs];decide) (by have:=Fp p.out;omega) (Yz hp) (C4w h3) (A8j h3) (by omega) hb.cl st.ls (RC L (n+21) _ (I6 hp)) (B8V (L:=L) (n:=n+14) (by omega) hp).ls
end
end
section
variable {L n:Nat}
section
variable {R:Rt} {K:KV} {ps:List (List UInt8)} {H:Hp} {y:Aj}
theorem B7F {k39:AV→AV→AV→Hp→Aj} {i:Nat} (hi:i<ps.length) (hb:ps.length<100) (hy:K (.tup [Bo false,I ps.length]) H=y) (hk:k39 (Ls ps) (I i) (I i) H=y∨∃m,∃h:m<i,ps[m]'(by omega)=ps[i]):∀(f j:Nat),j≤i→i-j<f→(∀m (_:m<j) (h':m<ps.length),ps[m]≠ps[i])→
 I3 (L+20) R K k39 f (Ls ps) (I i) (I j) H=y:=by
 intro f
 induction f with
 |zero=>intro j _ h;omega
 |succ f ih=>
  intro j hj hf hno
  rw[PJ]
  unfold Ki Av D3
  by_cases h:j<i
  ·rw[FL (by omega),Dc,NK (by omega),BK,Gf,BK,NK hi,BK,Gf,BK,LB]
   by_cases he:ps[j]=ps[i]
   ·rw[decide_eq_true he,BK,Dc,La]
    exact hy
   ·rw[decide_eq_false he,BK,Bx,Dv (by omega)]
    exact ih (j+1) (by omega) (by omega) λm hm hm'=>by
     by_cases hmj:m=j
     ·subst hmj;exact he
     ·exact hno m (by omega) hm'
  ·rw[FE (by omega),Bx]
   obtain rfl:j=i:=by omega
   rcases hk with hk|⟨m,hm,e⟩
   ·exact hk
   ·exact absurd e (hno m hm (by omega))
theorem B7G {k14:AV→Hp→Aj} (hb:ps.length<100) (hL:ps.length<L+20) (hl:∀s∈ps,s.length=32) (hy:K (.tup [Bo false,I ps.length]) H=y):∀(f i:Nat) (v:AV),i≤ps.length→ps.length-i<f→
 (∃t m,i≤t∧∃(h:t<ps.length) (hm:m<t),ps[m]'(by omega)=ps[t])→I4 (L+20) R K k14 f (Ls ps) (I i) v H=y:=by
 intro f
 induction f with
 |zero=>intro i v _ h;omega
 |succ f ih=>
  intro i v hi hf hex
  obtain⟨t,m,h1,h2,h3,h4⟩:=hex
  rw[PK]
  unfold Kj Av D3
  rw[La]
  have h:i<ps.length:=by omega
  rw[FL (by omega),Dc]
  simp only[BW]
  rw[NK h,Gf,NH rfl,hl _ (QN h),Ib]
  rw[show(!decide (((32:Nat):Int)=32))=false from rfl,Bx]
  have e0:(AV.v (.int .i64 0))=I ((0:Nat):Int):=rfl
  rw[e0]
  refine B7F h hb hy ?_ _ 0 (by omega) (by omega) (λm hm _=>by omega)
  by_cases hd:t=i
  ·subst hd;exact .inr ⟨m,h3,h4⟩
  ·left
   rw[Dv (by omega)]
   exact ih (i+1) _ (by omega) (by omega) ⟨t,m,by omega,h2,h3,h4⟩
theorem B1m (h:¬ps.Nodup):∃t m,0≤t∧∃(h:t<ps.length) (hm:m<t),ps[m]'(by omega)=ps[t]:=Classical.byContradiction λhc=>h (by
 rw[List.nodup_iff_pairwise_ne,l20]
 intro i j hi hj hij e
 exact hc ⟨j,i,l1c _,hj,hij,e⟩)
theorem A1r (hn:¬ps.Nodup) (hb:ps.length≤6) (hl:∀s∈ps,s.length=32):CS (rt (L+20) (n+1)) Fs [Ls ps] (.tup [Bo false,I ps.length]):=by
 intro K hK
 rw[QL]
 unfold KW Bh Av D3
 simp only[BW]
 have e0:(AV.v (.int .i64 0))=I ((0:Nat):Int):=rfl
 rw[e0]
 exact B7G (by omega) (by omega) hl (hK _ _ (λb=>⟨false,λK=>by kernel_rfl⟩)) _ 0 _ (by omega) (by omega) (B1m hn)
end
section
variable {m:ND} {u o:UD} {ca cb ra rb:List UInt8} {T P ins nds:AV} {id vd kd:Int} {r:RD} {q:Bool}
theorem A9T (hT:Sl T) (hP:Sl P) (hI:Sl ins) (hN:Sl nds)
 (hs:CS (rt (L+20) (n+61)) DZ [.agg (Ee kd m u ca cb T ra rb P id ins nds o r vd)] (.tup [Bo false,Bo q])):
 CS (rt (L+20) (n+62)) Kq [.agg (Ee kd m u ca cb T ra rb P id ins nds o r vd)] (.tup [S [],I 210]):=by
 intro K hK
 rw[UC]
 unfold Pf Bh BU Av Gr D3
 rw[Fz (Q6 hT hP hI hN)]
 have hc0:=A1 (H:=[]) (x:=J4 kd m u ca cb T ra rb P id ins nds o r vd) (by simp)
 generalize ((A2 [],J4 kd m u ca cb T ra rb P id ins nds o r vd)::([]:Hp))=H0 at hc0
 generalize A2 []=c at hc0
 have hs':∀K,Ai (rt (L+20) (n+61)) DZ [.agg (Ee kd m u ca cb T ra rb P id ins nds o r vd)] H0 K=K (.tup [Bo false,Bo q]):= λK=>AT hs (Tz hT hP hI hN)
 rw[cA hc0,hs',CZ,CY,ntF,Dc]
 exact hK _ _ (λb=>⟨false,λK=>by kernel_rfl⟩)
theorem C4F {cs:List AV} (h1:cs.all AV.one=true) (hz:cs.length=68) (hfx:∀H,OV true depth [.agg cs] [.agg cs] H false) (hB:CS (rt (L+20) (n+62)) Kq [.agg cs] (.tup [S [],I 210])):CS (rt (L+20) (n+63)) Hh [.agg cs] (S []):=by
 intro K hK
 rw[Xe]
 unfold SR Av
 rw[Fz h1]
 have hc0:=A1 (H:=[]) (x:= .cells true Ak cs) (by simp)
 generalize ((A2 [],Row.cells true Ak cs)::([]:Hp))=H0 at hc0
 rw[Br rfl hz.symm hc0,AT hB (hfx H0),CZ,CY,Ib]
 show Aw (.v (.bool true)) _ _=_
 rw[Dc]
 exact hK _ _ (λb=>⟨false,λK=>by kernel_rfl⟩)
end
attribute [local irreducible] Ai rt Zz eBi eEq cnd Go.Abs.Al Go.Abs.Vc Aw
section
variable {m:ND} {u o:UD} {ca cb ra rb:List UInt8} {T P ins nds:AV} {id vd:Int} {r:RD}
theorem A8n (hm:m.ok) (hT:Sl T) (hr:PO (rt (L+20) (n+60)) GM [.agg r0.cs] (Bo false)) {n2:Nat} {c2:List AV} (hP:∃n cs,P= .list n cs) (hN:∃n cs,nds= .list n cs)
 (hp:LS (rt (L+20) (n+60)) Fs [P] (.tup [Bo false,I n2])) (hv:LS (rt (L+20) (n+60)) E8 [.agg (B1 id (.list n2 c2) nds u)] (Bo true))
 (hu:PO (rt (L+20) (n+60)) Eg [.agg (Cm u)] (Bo true)) (hf:LS (rt (L+20) (n+60)) GN [.agg (VP ca cb T ra rb)] (Bo true)):
 CS (rt (L+20) (n+61)) DZ [.agg (Ee 2 m u ca cb T ra rb P id (.list n2 c2) nds u r0 0)] (.tup [Bo false,Bo false]):=by
 intro K hK
 obtain⟨h1,h2,h3,h4,h5,h6,h7,h8,h9,h10⟩:=hm
 obtain⟨n1,c1,rfl⟩:=hP
 obtain⟨n3,c3,rfl⟩:=hN
 have hb:∀{z lo hi:Int},lo≤z→z≤hi→PO (rt (L+20) (n+60)) Dk [I z,I lo,I hi] (Bo true):= λa b=>(Uo a b).o
 rcases hT with rfl|⟨n4,c4,rfl⟩
 all_goals
  rewrite [I9]
  unfold GX Bh BU Av Gr D3
  try rewrite [zO]
  try rewrite [bO]
  try rewrite [qO]
  try rewrite [cO]
  generalize rt (L+20) (n+60)=R at*
  conv=>lhs;whnf
  rewrite [TC ?hc]
  case hc=>decide
  conv=>lhs;whnf
  rewrite [hu]
  conv=>lhs;whnf
  rewrite [(hf) false _ _ ?hq]
  case hq=>exact λK=>by kernel_rfl
  conv=>lhs;whnf
  rewrite [hb h1 (by omega)]
  conv=>lhs;whnf
  rewrite [hb h3 (by omega)]
  conv=>lhs;whnf
  rewrite [hb h5 (by omega)]
  conv=>lhs;whnf
  rewrite [hb h7 (by omega)]
  conv=>lhs;whnf
  rewrite [hb h9 (by omega)]
  conv=>lhs;whnf
  rewrite [F1]
  conv=>lhs;whnf
  rewrite [hr]
  conv=>lhs;whnf
  rewrite [show∀K,eEq GP BinOp.neq (AV.agg [I r0.k,S r0.a1,S r0.a2,S r0.b1,S r0.b2,S r0.c1,S r0.c2,S r0.d1,S r0.d2]) (AV.agg [zI,zS,zS,zS,zS,zS,zS,zS,zS]) K=K (Bo false) from λK=>by rw[←qO];kernel_rfl]
  conv=>lhs;whnf
  rewrite [B47 ?hc]
  case hc=>decide
  conv=>lhs;whnf
  rewrite [F1]
  conv=>lhs;whnf
  rewrite [TC ?hc]
  case hc=>decide
  conv=>lhs;whnf
  rewrite [F1]
  conv=>lhs;whnf
  rewrite [Oy ?hc]
  case hc=>decide
  conv=>lhs;whnf
  rewrite [Of]
  conv=>lhs;whnf
  rewrite [Of]
  conv=>lhs;whnf
  rewrite [(hp) false _ _ ?hq]
  case hq=>exact λK=>by kernel_rfl
  conv=>lhs;whnf
  rewrite [(hv) false _ _ ?hq]
  case hq=>exact λK=>by kernel_rfl
  conv=>lhs;whnf
  exact hK _ _ (λb=>⟨false,λK=>by kernel_rfl⟩)
theorem A8m (hm:m.ok) (hT:Sl T) (hr:PO (rt (L+20) (n+60)) GM [.agg r.cs] (Bo true)) (hv1:1≤vd) (hv2:vd≤3) {n2:Nat} {c2:List AV} (hP:∃n cs,P= .list n cs) (hN:∃n cs,nds= .list n cs)
 (hp:LS (rt (L+20) (n+60)) Fs [P] (.tup [Bo false,I n2])) (hv:LS (rt (L+20) (n+60)) E8 [.agg (B1 id (.list n2 c2) nds u)] (Bo true))
 (hu:PO (rt (L+20) (n+60)) Eg [.agg (Cm u)] (Bo true)) (hf:LS (rt (L+20) (n+60)) GN [.agg (VP ca cb T ra rb)] (Bo true)):
 CS (rt (L+20) (n+61)) DZ [.agg (Ee 3 m u ca cb T ra rb P id (.list n2 c2) nds u r vd)] (.tup [Bo false,Bo true]):=by
 intro K hK
 obtain⟨h1,h2,h3,h4,h5,h6,h7,h8,h9,h10⟩:=hm
 obtain⟨n1,c1,rfl⟩:=hP
 obtain⟨n3,c3,rfl⟩:=hN
 have hb:∀{z lo hi:Int},lo≤z→z≤hi→PO (rt (L+20) (n+60)) Dk [I z,I lo,I hi] (Bo true):= λa b=>(Uo a b).o
 rcases hT with rfl|⟨n4,c4,rfl⟩
 all_goals
  rewrite [I9]
  unfold GX Bh BU Av Gr D3
  try rewrite [zO]
  try rewrite [bO]
  try rewrite [qO]
  try rewrite [cO]
  generalize rt (L+20) (n+60)=R at*
  conv=>lhs;whnf
  rewrite [Oy ?hc]
  case hc=>decide
  conv=>lhs;whnf
  rewrite [hu]
  conv=>lhs;whnf
  rewrite [(hf) false _ _ ?hq]
  case hq=>exact λK=>by kernel_rfl
  conv=>lhs;whnf
  rewrite [hb h1 (by omega)]
  conv=>lhs;whnf
  rewrite [hb h3 (by omega)]
  conv=>lhs;whnf
  rewrite [hb h5 (by omega)]
  conv=>lhs;whnf
  rewrite [hb h7 (by omega)]
  conv=>lhs;whnf
  rewrite [hb h9 (by omega)]
  conv=>lhs;whnf
  rewrite [F1]
  conv=>lhs;whnf
  rewrite [hr]
  conv=>lhs;whnf
  rewrite [hb hv1 hv2]
  conv=>lhs;whnf
  rewrite [F1]
  conv=>lhs;whnf
  rewrite [TC ?hc]
  case hc=>decide
  conv=>lhs;whnf
  rewrite [F1]
  conv=>lhs;whnf
  rewrite [TC ?hc]
  case hc=>decide
  conv=>lhs;whnf
  rewrite [F1]
  conv=>lhs;whnf
  rewrite [Oy ?hc]
  case hc=>decide
  conv=>lhs;whnf
  rewrite [Of]
  conv=>lhs;whnf
  rewrite [(hp) false _ _ ?hq]
  case hq=>exact λK=>by kernel_rfl
  conv=>lhs;whnf
  rewrite [(hv) false _ _ ?hq]
  case hq=>exact λK=>by kernel_rfl
  conv=>lhs;whnf
  exact hK _ _ (λb=>⟨false,λK=>by kernel_rfl⟩)
end
end
section
variable {L n:Nat}
section
variable {c:Cd}
theorem A9g (hL:40000<L) (h:c.Ok) (hn:c.ps.Nodup):CS (rt (L+20) (n+64)) Hh [.agg c.cs] (S c.id):=by
 refine C6Y (n:=n+1) hL KB CD Zw (XI h) ?_
 match c,h,hn with
 | .re b u,⟨hb,hu⟩,_=>
  have st:=B1a (L:=L) (n:=n+1) (o:=u0) hb.m (FO b.ts) (A4F (L:=L) (n:=n+21)).o (B3u (L:=L) (n:=n+21)).o (PW L (n+21) u (by omega)).o (A1u (L:=L) (n:=n+19) hb.c1 hb.c2 hb.r1 hb.r2 (by omega) hb.ts).ls
  exact A8p (n:=n+1) (FO _) (Mg []) (.inl rfl) (.inl rfl) (XI (c:= .re b u) ⟨hb,hu⟩) st (A8o (n:=n) (ps:=[]) (vd:=0) (kd:=1) (by omega) hb.m (.inl rfl) hb.ts (.inl rfl) (.inl rfl) (by simp) (by simp) (by have:=Fp u;omega) (by simp) (.inl rfl) A4H (by decide) hb.cl (RP L (n+21) u (by omega)) (C4E (L:=L) (n:=n+21)).ls)
 | .co b p ps none,⟨hb,hp,h1,h2,h3⟩,hn=>
  have k1:=hp.k1
  have k3:=hp.k3
  have hps:DV ps=Ls ps:=Ur (by omega)
  have hpa:=(A3F (L:=L) (n:=n+60) (ps:=ps) hn (by omega) (by omega) h2).ls
  rw[←hps,h1] at hpa
  have st:=B19 (L:=L) (n:=n+1) hb.m (FO b.ts) (A4F (L:=L) (n:=n+21)).o ⟨_,_,hps⟩ ⟨_,_,rfl⟩ hpa (A6u (L:=L) (n:=n+17) (by omega) hp).ls (PW L (n+21) p.out (I6 hp)).o (A1u (L:=L) (n:=n+19) hb.c1 hb.c2 hb.r1 hb.r2 (by omega) hb.ts).ls
  exact A8p (n:=n+1) (FO _) (Mg ps) (.inr ⟨_,_,rfl⟩) (.inr ⟨_,_,rfl⟩) (XI (c:= .co b p ps none) ⟨hb,hp,h1,h2,h3⟩) st (A8o (n:=n) (ps:=ps) (vd:=0) (kd:=2) (by omega) hb.m (.inr (.inl rfl)) hb.ts (.inr ⟨_,_,rfl⟩) (.inr ⟨_,_,rfl⟩) (by omega) (λs hs=>by rw[h2 s hs];decide) (by have:=Fp p.out;omega) (Yz hp) (.inl rfl) A4H (by decide) hb.cl (RP L (n+21) _ (I6 hp)) (B8W (L:=L) (n:=n+16) (by omega) hp).ls)
 | .co b p ps (some (k,vd)),⟨hb,hp,h1,h2,h3,h4,h5⟩,hn=>
  have k1:=hp.k1
  have k3:=hp.k3
  have hps:DV ps=Ls ps:=Ur (by omega)
  have hpa:=(A3F (L:=L) (n:=n+60) (ps:=ps) hn (by omega) (by omega) h2).ls
  rw[←hps,h1] at hpa
  have st:=B18 (L:=L) (n:=n+1) hb.m (FO b.ts) (B3w (L:=L) (n:=n+21) h3).o h4 h5 ⟨_,_,hps⟩ ⟨_,_,rfl⟩ hpa (A6u (L:=L) (n:=n+17) (by omega) hp).ls (PW L (n+21) p.out (I6 hp)).o (A1u (L:=L) (n:=n+19) hb.c1 hb.c2 hb.r1 hb.r2 (by omega) hb.ts).ls
  exact A8p (n:=n+1) (FO _) (Mg ps) (.inr ⟨_,_,rfl⟩) (.inr ⟨_,_,rfl⟩) (XI (c:= .co b p ps (some (k,vd))) ⟨hb,hp,h1,h2,h3,h4,h5⟩) st (A8o (n:=n) (ps:=ps) (vd:=vd) (kd:=3) (by omega) hb.m (.inr (.inr rfl)) hb.ts (.inr ⟨_,_,rfl⟩) (.inr ⟨_,_,rfl⟩) (by omega) (λs hs=>by rw[h2 s hs];decide) (by have:=Fp p.out;omega) (Yz hp) (C4w h3) (A8j h3) (by omega) hb.cl (RP L (n+21) _ (I6 hp)) (B8W (L:=L) (n:=n+16) (by omega) hp).ls)
theorem B8z (hL:40000<L) (h:c.Ok) (hn:¬c.ps.Nodup):CS (rt (L+20) (n+64)) Hh [.agg c.cs] (S []):=by
 refine C4F (n:=n+1) KB CD Zw ?_
 match c,h,hn with
 | .re b u,_,hn=>exact absurd List.nodup_nil hn
 | .co b p ps none,⟨hb,hp,h1,h2,h3⟩,hn=>
  have k1:=hp.k1
  have k3:=hp.k3
  have hps:DV ps=Ls ps:=Ur (by omega)
  have hpa:=(A1r (L:=L) (n:=n+60) (ps:=ps) hn (by omega) h2).ls
  rw[←hps,h1] at hpa
  have st:=A8n (L:=L) (n:=n+1) hb.m (FO b.ts) (A4F (L:=L) (n:=n+21)).o ⟨_,_,hps⟩ ⟨_,_,rfl⟩ hpa (A6u (L:=L) (n:=n+17) (by omega) hp).ls (PW L (n+21) p.out (I6 hp)).o (A1u (L:=L) (n:=n+19) hb.c1 hb.c2 hb.r1 hb.r2 (by omega) hb.ts).ls
  exact A9T (n:=n+1) (FO _) (Mg ps) (.inr ⟨_,_,rfl⟩) (.inr ⟨_,_,rfl⟩) st
 | .co b p ps (some (k,vd)),⟨hb,hp,h1,h2,h3,h4,h5⟩,hn=>
  have k1:=hp.k1
  have k3:=hp.k3
  have hps:DV ps=Ls ps:=Ur (by omega)
  have hpa:=(A1r (L:=L) (n:=n+60) (ps:=ps) hn (by omega) h2).ls
  rw[←hps,h1] at hpa
  have st:=A8m (L:=L) (n:=n+1) hb.m (FO b.ts) (B3w (L:=L) (n:=n+21) h3).o h4 h5 ⟨_,_,hps⟩ ⟨_,_,rfl⟩ hpa (A6u (L:=L) (n:=n+17) (by omega) hp).ls (PW L (n+21) p.out (I6 hp)).o (A1u (L:=L) (n:=n+19) hb.c1 hb.c2 hb.r1 hb.r2 (by omega) hb.ts).ls
  exact A9T (n:=n+1) (FO _) (Mg ps) (.inr ⟨_,_,rfl⟩) (.inr ⟨_,_,rfl⟩) st
end
end
end Go.Abs
end
