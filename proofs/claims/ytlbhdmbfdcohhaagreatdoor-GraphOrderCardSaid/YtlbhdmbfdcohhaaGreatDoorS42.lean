import Derived.Test.YtlbhdmbfdcohhaaGreatDoorS21
import Derived.Test.YtlbhdmbfdcohhaaGreatDoorS27
import Derived.Test.YtlbhdmbfdcohhaaGreatDoorS41
set_option linter.all false
set_option maxHeartbeats 100000000
noncomputable section
namespace Go.Abs
open Go.RowKit Go.Proofs
set_option maxRecDepth 100000
section
variable {L n:Nat}
theorem A0V {k:Nat} (h:k<7):(JP k).length≤44:=by
 have:=HB.1 (show((List.range 7).all λk=>decide ((JP k).length≤44))=true by kernel_rfl) k (Ju.2 h)
 simpa using this
theorem A6a {k:Nat} (h:k<52):(JP k).length≤50:=by
 have:=HB.1 (show((List.range 52).all λk=>decide ((JP k).length≤50))=true by kernel_rfl) k (Ju.2 h)
 simpa using this
theorem A0v {j:Nat} (h:j<54):(exT j).length≤10:=by
 have:=HB.1 (show((List.range 54).all λk=>decide ((exT k).length≤10))=true by kernel_rfl) j (Ju.2 h)
 simpa using this
theorem B8v {i k:Nat} (hi:i<33) (hk:k<7):(cnT i k).length≤60:=by
 have h1:=A5b hi
 have h2:=A0V hk
 simp only[cnT,Fw,Sv,Sw,Fl,K9,OU]
 omega
theorem B82 (ks:List Nat) (h:∀k∈ks,k<7):(ks.flatMap gvT).length≤51*ks.length:=by
 induction ks with
 |nil=>simp
 |cons k ks ih=>
  have h1:=A0V (h k (by simp))
  have h2:=ih λx hx=>h x (by simp[hx])
  simp only[l00,Fl,K9,gvT,A1v,OU] at h2⊢
  omega
theorem B4f {ts:List (List UInt8)} (h:∀t∈ts,t.length≤10):(ts.flatMap lnT).length≤11*ts.length:=by
 induction ts with
 |nil=>simp
 |cons t ts ih=>
  have h1:=h t (by simp)
  have h2:=ih λu hu=>h u (by simp[hu])
  simp only[l00,Fl,K9,lnT,OU] at h2⊢
  omega
theorem B9W {o a b k:Nat} (ho:o<4) (ha:a<7) (hb:b<7) (h:Su o a b=some k):k<52:=by
 have:=HB.1 (show((List.range 196).all λj=>(match Su (j/49) (j/7%7) (j%7) with|some k=>decide (k<52)|none=>true))=true by kernel_rfl) (49*o+7*a+b) (Ju.2 (by omega))
 rw[show(49*o+7*a+b)/49=o by omega,show(49*o+7*a+b)/7%7=a by omega,show(49*o+7*a+b)%7=b by omega,h] at this
 simpa using this
theorem B6r {a e k:Nat} (ha:a<7) (he:e<5) (h:Uc a e=some k):k<52:=by
 have:=HB.1 (show((List.range 35).all λj=>(match Uc (j/5) (j%5) with|some k=>decide (k<52)|none=>true))=true by kernel_rfl) (5*a+e) (Ju.2 (by omega))
 rw[show(5*a+e)/5=a by omega,show(5*a+e)%5=e by omega,h] at this
 simpa using this
section
variable {p:Pr}
theorem Yw (h:p.Ok):p.ty.length=p.xs.length∧1≤p.xs.length∧p.xs.length≤4:=by
 have h1:=h.k1
 have h3:=h.k3
 have e:(p.x.ty p.ks).length=p.x.nd.length:=by cases p.x<;>rfl
 have e0:p.x.nd.length≤1:=by cases p.x<;>simp[Ex.nd]
 simp only[Pr.ty,Pr.xs,Fl,En]
 omega
theorem B7x (h:p.Ok):∀k∈p.ty,k<52:=by
 intro k hk
 rcases Zi.1 hk with hk|hk
 ·have:=h.k7 k hk;omega
 ·have hx:=h.x
  cases hq:p.x with
  |no=>rw[hq] at hk;simp[Ex.ty] at hk
  |cn i j=>rw[hq] at hk hx;simp[Ex.ty] at hk;have:=hx.2;omega
  |inp j=>rw[hq] at hk hx;simp only[Ex.ty,l2f] at hk;have:=La h.k7 hx;omega
  |bi op l r j=>rw[hq] at hk hx;simp[Ex.ty] at hk;subst hk;exact B9W (by have:=hx.1;have:=hx.2.1;omega) (La h.k7 hx.2.2.1) (La h.k7 hx.2.2.2.1) hx.2.2.2.2
  |po l e j=>rw[hq] at hk hx;simp[Ex.ty] at hk;subst hk;exact B6r (La h.k7 hx.1) hx.2.1 hx.2.2
theorem Iz (h:p.Ok):p.out<52:=by
 obtain⟨h1,h2,h3⟩:=Yw h
 exact La (B7x h) (by omega)
theorem B3V (h:p.Ok):(∀t∈p.ts,t.length<100)∧(p.ts.flatMap lnT).length≤11*p.ks.length+61:=by
 have k3:=h.k3
 have hx:=h.x
 have a1:∀t∈(List.range p.ks.length).map exT,t.length≤10:= λt ht=>by
  obtain⟨j,hj,rfl⟩:=l2a.1 ht
  exact A0v (by have:=Ju.1 hj;omega)
 have a2:(∀t∈p.x.tx,t.length≤60)∧p.x.tx.length≤1:=by
  cases hq:p.x with
  |no=>simp[Ex.tx]
  |cn i j=>rw[hq] at hx;simp[Ex.tx];exact B8v hx.1 hx.2
  |inp j=>rw[hq] at hx;have hj:j<p.ks.length:=hx;simp[Ex.tx];exact l1m (A0v (by omega)) (by decide)
  |bi op l r j=>rw[hq] at hx;have h1:=hx.1;have h2:=hx.2.1;have h3:=hx.2.2.1;have h4:=hx.2.2.2.1;simp[Ex.tx];exact l1m (A0v (by omega)) (by decide)
  |po l e j=>rw[hq] at hx;have h1:=hx.1;have h2:=hx.2.1;simp[Ex.tx];exact l1m (A0v (by omega)) (by decide)
 have a3:(p.x.tx.flatMap lnT).length≤61:=by
  match hq:p.x.tx with
  |[]=>simp
  |[t]=>have:=a2.1 t (by rw[hq];simp);simp[lnT];omega
  |t::u::l=>rw[hq] at a2;simp at a2
 refine⟨λt ht=> ?_,?_⟩
 ·rcases Zi.1 ht with ht|ht
  ·have:=a1 t ht;omega
  ·have:=a2.1 t ht;omega
 ·have:=B4f a1
  simp only[Pr.ts,l2g,Fl,Wv,List.length_range] at this⊢
  omega
def Pr.txt (p:Pr):List UInt8:=A1s p.id p.ks p.ts p.out
theorem Yv (h:p.Ok):p.txt.length<390:=by
 have k3:=h.k3
 have h1:=B82 p.ks h.k7
 have h2:=(B3V h).2
 have h3:=A6a (Iz h)
 have h4:=A9j p.id
 simp only[Pr.txt,A1s,Fl,K9,OU,PX,C2f]
 omega
abbrev Pr.cs (p:Pr):List AV:=B2 p.id (BH p.ks) (Cb p.xs) (uu p.out)
theorem A6z (hL:100<L) (h:p.Ok):CS (rt (L+20) (n+44)) E3 [.agg p.cs] (Bo true):=by
 obtain⟨h1,h2,h3⟩:=Yw h
 have:=h.k3
 have:=h.i1
 have:=h.i2
 exact B3A hL (C27 h) h1 (λk hk=>by have:=h.k7 k hk;omega) (by omega) h2 (by omega) (by omega) (by omega)
theorem B3U (hL:100<L) (h:p.Ok):CS (rt (L+20) (n+46)) Ey [.agg p.cs] (Bo true):=by
 obtain⟨h1,h2,h3⟩:=Yw h
 have:=h.k3
 have:=h.i1
 have:=h.i2
 exact B2L hL (C26 h) rfl h1 (λk hk=>by have:=h.k7 k hk;omega) (by omega) h2 (by omega) (by omega) (by omega)
theorem B8W (hL:100<L) (h:p.Ok):CS (rt (L+20) (n+45)) Il [.agg p.cs] (.tup [S p.txt,I 0]):=by
 obtain⟨h1,h2,h3⟩:=Yw h
 obtain⟨t1,t2⟩:=B3W (L:=L) (n:=n+3) h
 have:=h.k3
 exact B3B hL h.i2 (A6z hL h) (λi hi=>(t2 i hi).1) (B3V h).1 t1 (λk hk=>by have:=h.k7 k hk;omega) (by omega) (by omega) (Iz h)
theorem B8V (hL:100<L) (h:p.Ok):CS (rt (L+20) (n+47)) Fi [.agg p.cs] (.tup [S p.txt,I 0]):=by
 obtain⟨h1,h2,h3⟩:=Yw h
 obtain⟨t1,t2⟩:=B3W (L:=L) (n:=n+5) h
 have:=h.k3
 exact B2M hL h.i2 (B3U hL h) (λi hi=>(t2 i hi).2) (B3V h).1 t1 (λk hk=>by have:=h.k7 k hk;omega) (by omega) (by omega) (Iz h)
end
end
section
variable {L n:Nat} {K:KV}
theorem B6S {a b:List UInt8} (hL:10<L) (ha:a.length<390) (hb:b.length<390):CS (rt (L+20) (n+7)) E2 [.agg [S a,S b]] (S (Gz [a,b])):=by
 intro K hK
 rw[ZP]
 unfold Rg
 rw[Ft (by rfl)]
 have hr:Aq [(A2 [],Row.cells true Bb [S a,S b])] (A2 [])=some (.cells true Bb [S a,S b]):=A1 (H:=[]) (by simp)
 have f0:∀K:AV→Aj,AM 0 (.ptr (A2 []) 0 0) K=K (.ptr (A2 []) 0 0):= λK=>id rfl
 have f1:∀K:AV→Aj,AM 1 (.ptr (A2 []) 0 0) K=K (.ptr (A2 []) 1 0):= λK=>id rfl
 have l0:∀K:AV→Aj,Ar Ae (.ptr (A2 []) 0 0) [(A2 [],Row.cells true Bb [S a,S b])] K=K (S a):= λK=>id rfl
 have l1:∀K:AV→Aj,Ar Ae (.ptr (A2 []) 1 0) [(A2 [],Row.cells true Bb [S a,S b])] K=K (S b):= λK=>id rfl
 have bs:∀K:KV,F3 Au 1 Ae 2 [(0,1,S a),(1,1,S b)] [(A2 [],Row.cells true Bb [S a,S b])] K=K (.sl 1 1 0 2) ((1,.cells false Au (AK [a,b]))::[(A2 [],Row.cells true Bb [S a,S b])]):= λK=>id rfl
 rw[f0,l0,f1,l1,bs]
 have hf:Pu true depth [.sl 1 1 0 2] [.list 2 (AK [a,b])] ((1,.cells false Au (AK [a,b]))::[(A2 [],Row.cells true Bb [S a,S b])]) (true||false):=Ay (A25 (e:=Au) (.inr ⟨1,false,rfl,rfl,rfl⟩) (by decide) (λs:List UInt8=>Value.string ⟨⟨s⟩⟩) [a,b] rfl) Be
 rw[Ba (A9Q (L:=L) (n:=n) (l:=[a,b]) (by simp) (by simp;omega) (λs hs=>by simp at hs;rcases hs with rfl|rfl<;>assumption)) hf]
 exact hK _ _ (λb=>⟨false,D2⟩)
end
section
variable {L n:Nat}
theorem B3D {zs:List Int} {H:Hp} {K:AV→Aj} (hL:100<L) (hl:zs.length<100) (hz:∀z∈zs, -10≤z∧z<1090):Ah (rt (L+20) (n+7)) D5 [.list zs.length (EG zs)] H K=K (S (HD zs)):=
 Ba (A3B (n:=n+2) hl (by omega) hz) (Ay (q:=false) (q':=false) Pj Be)
theorem B3r {zs:List (List UInt8)} {H:Hp} {K:AV→Aj} (hL:100<L) (hl:zs.length<100) (hz:∀z∈zs,z.length<390):Ah (rt (L+20) (n+7)) EP [.list zs.length (AK zs)] H K=K (S (Gz zs)):=
 Ba (A9Q (n:=n+1) hl (by omega) hz) (Ay (q:=false) (q':=false) Pj Be)
theorem B8U {a b:List UInt8} {H:Hp} {K:AV→Aj} (hL:100<L) (ha:a.length<390) (hb:b.length<390):Ah (rt (L+20) (n+7)) E2 [.agg [S a,S b]] H K=K (S (Gz [a,b])):=
 Ba (q:=false) (B6S (n:=n) (by omega) ha hb) (λK=>by kernel_rfl)
theorem A0z {z:Int} {K:AV→Aj}:Sm 1 Ab 1 [(0,1,I z)] K=K (.list ([z]:List Int).length (EG [z])):=id rfl
theorem B8A {a b c d e f:Int} {K:AV→Aj}:Sm 1 Ab 6 [(0,1,I a),(1,1,I b),(2,1,I c),(3,1,I d),(4,1,I e),(5,1,I f)] K=K (.list ([a,b,c,d,e,f]:List Int).length (EG [a,b,c,d,e,f])):=id rfl
theorem B0z {z:List UInt8} {K:AV→Aj}:Sm 1 Ae 1 [(0,1,S z)] K=K (.list ([z]:List (List UInt8)).length (AK [z])):=id rfl
theorem B9g (a b:List UInt8):Ps [(a,b)]=Gz [a,b]:=by simp[Ps]
theorem C4A {K:KV} {x:Aj} {c:Nat} {R0:Row} {cs:List AV} {ts:Tms} {k102:AV→AV→Hp→Aj} (ht:TmsOk ts) (hL:100<L) (hR:R0= .cells true Al cs) (h28:∀H,Aq H c=some R0→∀K,Ar A7 (.ptr c 28 0) H K=K (FC ts)) {l:List UInt8} (hb:l.length<100000000)
 (hx:∀H',Aq H' c=some R0→Wf H'→k102 (.ptr c 0 0) (S (l++OY ts)) H'=x):∀(f i:Nat) (H:Hp),i≤ts.length→ts.length-i<f→Aq H c=some R0→Wf H→
 NR (L+20) (rt (L+20) (n+7)) K k102 f (.ptr c 0 0) (S (l++OY (ts.take i))) (I i) H=x:=by
 have hlen:=ht.len
 intro f
 induction f with
 |zero=>intro i H _ h;omega
 |succ f ih=>
  intro i H hi hf hc w
  rw[ZA]
  unfold QY Av
  have f26:∀K:AV→Aj,AM 26 (.ptr c 0 0) K=K (.ptr c 26 0):= λK=>id rfl
  have f2:∀K:AV→Aj,AM 2 (.ptr c 26 0) K=K (.ptr c 28 0):= λK=>id rfl
  rw[f26,f2,h28 H hc,O0]
  by_cases h:i<ts.length
  ·have hr:=ht.rng _ (QE h)
   have hq1:=Um (z:=ts[i].2) (by omega) (by omega)
   have hq2:=Un ts[i].2
   rw[FW (by omega),De,f26,f2,h28 H hc,Ts h,lTm,Bi (cs:=[zI,zS,zS]) rfl]
   have hn0:=A1 (H:=H) (x:= .cells true AR [zI,zS,zS]) (by simp)
   rw[B7 (vs:=NO ts[i]) hn0 rfl rfl rfl]
   have hr1:=AB (q:=true) (e:=AR) (cs:=NO ts[i]) hn0
   have hclt:=w.lt hc
   have hc1:Aq (upd ((A2 H,Row.cells true AR [zI,zS,zS])::H) (A2 H) (.cells true AR (NO ts[i]))) c=some R0:=by
    rw[Ap (by omega)];exact AS hclt hc
   have w1:=BR (r:=A2 H) (y:= .cells true AR (NO ts[i])) (Br (x:= .cells true AR [zI,zS,zS]) w)
   generalize upd ((A2 H,Row.cells true AR [zI,zS,zS])::H) (A2 H) (.cells true AR (NO ts[i]))=H1 at hr1 hc1 w1
   generalize A2 H=t at hr1
   have g0:∀K:AV→Aj,AM 0 (.ptr t 0 0) K=K (.ptr t 0 0):= λK=>id rfl
   have g1:∀K:AV→Aj,AM 1 (.ptr t 0 0) K=K (.ptr t 1 0):= λK=>id rfl
   have m0:∀K,Ar Ab (.ptr t 0 0) H1 K=K (I ts[i].1):= λK=>AP (p:=0) rfl hr1 (show 0<3 by decide)
   have m1:∀K,Ar Ax (.ptr t 1 0) H1 K=K (.agg (qa ts[i].2)):= λK=>Fs (p:=1) rfl hr1 (show 3≤3 from OV _)
   have a1:=WJ (ts.take i) (λt h=>by have h1:=ht.rng t (l24 h);have:=Um (z:=t.2) (by omega) (by omega);have:=Un t.2;omega)
   have a2:(ts.take i).length≤6:=by simp;omega
   have a3:=E6 [ts[i].1]
   have a4:=E5 [qn ts[i].2,qd ts[i].2] (by simp;omega)
   simp only[K9,OU] at a3 a4
   rw[g0,BN,m0,BN,A0z,BN,B3D hL (by simp) (by simp;omega),BN,Bs (by rw[Fl];omega),BN,g1,BN,m1,BN,B8U hL (by omega) (by omega),BN,Bs (by simp only[Fl];omega),BN,D4 (by omega)]
   have e1:l++OY (ts.take i)++HD [ts[i].1]++Gz [qn ts[i].2,qd ts[i].2]=l++OY (ts.take (i+1)):=by
    rw[A3v ts h];simp[tmB,B9g]
   rw[e1]
   exact ih (i+1) H1 (by omega) (by omega) hc1 w1
  ·rw[FE (by omega),Bz]
   have:i=ts.length:=by omega
   subst this
   rw[l06]
   exact hx H hc w
end
section
variable {L n:Nat}
section
variable {m:ND} {u o:UD} {ca cb ra rb un pt:List UInt8} {ts:Tms} {ps:List (List UInt8)} {ins nds:AV} {kd id vd pe:Int} {r:RD}
theorem C4C {H:Hp} {K:AV→Aj} (hL:100<L) (hl:ps.length<100) (hz:∀z∈ps,z.length<390):Ah (rt (L+20) (n+7)) EP [Ep ps] H K=K (S (Gz ps)):=by
 cases ps with
 |nil=>
  refine Ba (q:=false) (args':=[AA]) ?_ (λK=>by kernel_rfl)
  exact λK hK=>by
   rw[Tz]
   unfold NY Av
   simp only[BX]
   rw[RN]
   unfold XA5 Av
   have el:∀K,AQ Ac AA K=K (I 0):= λK=>_root_.id rfl
   rw[el,FE (by decide),Bz]
   exact hK _ _ (λb=>⟨false,λK=>by kernel_rfl⟩)
 |cons p l=>exact B3r hL hl hz
set_option maxHeartbeats 2000000 in
theorem A8u (hL:100<L) (hm:m.ok) (hkd:kd=1∨kd=2∨kd=3) (ht:TmsOk ts) (hI:Sl ins) (hN:Sl nds) (hp:ps.length≤6) (hpl:∀s∈ps,s.length<390) (hun:un.length<390) (hpt:pt.length<390)
 (hr:r.k=0∨r.k=1∨r.k=2∨r.k=3) (hrl:∀q∈[(r.a1,r.a2),(r.b1,r.b2),(r.c1,r.c2),(r.d1,r.d2)],q.1.length<390∧q.2.length<390) (hv:0≤vd∧vd≤3) (hcl:ca.length<10∧cb.length<10∧ra.length<10∧rb.length<10)
 (hup:PS (rt (L+20) (n+61)) GJ [.agg (Ck u)] (.tup [S un,I 0])) (hpp:LS (rt (L+20) (n+61)) Il [.agg (B2 id ins nds o)] (.tup [S pt,I pe])):
 CS (rt (L+20) (n+62)) MG [.agg (Eb kd m u ca cb (FC ts) ra rb (Ep ps) id ins nds o r vd)] (S (LC kd m un ca cb ts ra rb ps pt (if kd=3 then RM r vd else[]))):=by
 intro K hK
 obtain⟨q1,q2,q3,q4,q5,q6,q7,q8,q9,q10⟩:=hm
 have hT:=FI ts
 have hP:Sl (Ep ps):=by cases ps with|nil=>exact .inl rfl|cons p l=>exact .inr ⟨_,_,rfl⟩
 have hlt:=ht.len
 have a1:=E6 [kd,m.lab,m.num,m.itm,m.tim,m.day]
 have a2:=E5 [un] (by simpa using hun)
 have a3:=E5 [ca,cb] (by simp;omega)
 have a4:=E6 [(ts.length:Int)]
 have a5:=WJ ts (λt h=>by have:=ht.rng t h;have:=Um (z:=t.2) (by omega) (by omega);have:=Un t.2;omega)
 have a6:=E5 [ra,rb] (by simp;omega)
 have a7:=E6 [(ps.length:Int)]
 have a8:=E5 ps hpl
 have a9:=E5 [pt] (by simpa using hpt)
 simp only[K9,OU] at a1 a2 a3 a4 a6 a7 a9
 rw[A1z]
 unfold SM Av
 rw[Ft (Q6 hT hP hI hN)]
 have hc0:=A1 (H:=[]) (x:=J7 kd m u ca cb (FC ts) ra rb (Ep ps) id ins nds o r vd) (by simp)
 have w0:=Br (x:=J7 kd m u ca cb (FC ts) ra rb (Ep ps) id ins nds o r vd) FH
 generalize ((A2 [],J7 kd m u ca cb (FC ts) ra rb (Ep ps) id ins nds o r vd)::([]:Hp))=H0 at hc0 w0
 generalize A2 []=c at hc0
 have f0:∀{j:Nat} {K:AV→Aj},AM j (.ptr c 0 0) K=K (.ptr c j 0):= λ{j K}=>by rw[fA,KF]
 have g0:∀{K:AV→Aj},AM 0 (.ptr c 26 0) K=K (.ptr c 26 0):=_root_.id rfl
 have g2:∀{K:AV→Aj},AM 2 (.ptr c 26 0) K=K (.ptr c 28 0):=_root_.id rfl
 have g3:∀{K:AV→Aj},AM 3 (.ptr c 26 0) K=K (.ptr c 29 0):=_root_.id rfl
 have nm:∀{zs:List Int} {H:Hp} {K:AV→Aj},zs.length<100→(∀z∈zs, -10≤z∧z<1090)→Ah (rt (L+20) (n+61)) D5 [.list zs.length (EG zs)] H K=K (S (HD zs)):= λh1 h2=>B3D (n:=n+54) hL h1 h2
 have tx:∀{zs:List (List UInt8)} {H:Hp} {K:AV→Aj},zs.length<100→(∀z∈zs,z.length<390)→Ah (rt (L+20) (n+61)) EP [.list zs.length (AK zs)] H K=K (S (Gz zs)):= λh1 h2=>B3r (n:=n+54) hL h1 h2
 have rt':∀{a b:List UInt8} {H:Hp} {K:AV→Aj},a.length<390→b.length<390→Ah (rt (L+20) (n+61)) E2 [.agg [S a,S b]] H K=K (S (Gz [a,b])):= λh1 h2=>B8U (n:=n+54) hL h1 h2
 simp only[BX]
 rw[f0,cU hc0,hup,CZ,CY]
 simp only[f0,BN,cI0 hc0,cI1 hc0,cI2 hc0,cI3 hc0,cI4 hc0,cI5 hc0,B8A,B0z,g0,g2,cC hc0,cT hc0,O0,A0z]
 rw[nm (by simp) (by simp only[UJ,List.mem_nil_iff,or_false];rintro z (rfl|rfl|rfl|rfl|rfl|rfl)<;>omega),BN,tx (by simp) (by simpa using hun),BN,Bs (by omega),BN,rt' (by omega) (by omega),BN,Bs (by simp only[Fl];omega),BN,nm (by simp) (by simp;omega),BN,Bs (by simp only[Fl];omega),BN]
 have e0:(AV.v (.int .i64 0))=I ((0:Nat):Int):=rfl
 have et:∀(l:List UInt8),S l=S (l++OY (ts.take 0)):= λl=>by rw[show OY (ts.take 0)=[] from rfl,XR]
 rw[e0,et]
 refine C4A (n:=n+54) ht hL (R0:=J7 kd m u ca cb (FC ts) ra rb (Ep ps) id ins nds o r vd) rfl (λH h K=>cT h) (by simp only[Fl];omega) ?_ (L+20) 0 H0 (by omega) (by omega) hc0 w0
 intro H1 hc1 w1
 have hpp':∀K,Ah (rt (L+20) (n+61)) Il [.agg (B2 id ins nds o)] H1 K=K (.tup [S pt,I pe]):= λK=>by rw[zO];exact hpp false _ _ (SI hI hN) K
 have txA:∀{H:Hp} {K:AV→Aj},Ah (rt (L+20) (n+61)) EP [Ep ps] H K=K (S (Gz ps)):=C4C (n:=n+54) hL (by omega) hpl
 simp only[f0,g3,BN,cR hc1,cP hc1,UW,A0z,cPr hc1,hpp',CZ,CY,B0z,txA]
 rw[rt' (by omega) (by omega),BN,Bs (by simp only[Fl];omega),BN,nm (by simp) (by simp;omega),BN,Bs (by simp only[Fl];omega),BN,Bs (by simp only[Fl];omega),BN,tx (by simp) (by simpa using hpt),Bs (by simp only[Fl];omega),cI0 hc1,Dd]
 by_cases h3:kd=3
 ·rw[decide_eq_true h3,De]
  have jv:∀{j:Nat} {K:AV→Aj},AM j (.ptr (A2 H1) 0 0) K=K (.ptr (A2 H1) j 0):= λ{j K}=>by rw[fA,KF]
  have hn0:=A1 (H:=H1) (x:= .cells true II [zI,zS,zS,zS,zS,zS,zS,zS,zS]) (by simp)
  have eR:∀{K:AV→Aj},Ar C6 (.ptr c 55 0) H1 K=K (.agg r.cs):= λ{K}=>Fs (p:=55) rfl hc1 (show 64≤68 by decide)
  rw[eR,Bi (cs:=[zI,zS,zS,zS,zS,zS,zS,zS,zS]) rfl,B7 (vs:=r.cs) hn0 rfl rfl rfl]
  have hr1:=AB (q:=true) (e:=II) (cs:=r.cs) hn0
  have hclt:=w1.lt hc1
  have hc2:Aq (upd ((A2 H1,.cells true II [zI,zS,zS,zS,zS,zS,zS,zS,zS])::H1) (A2 H1) (.cells true II r.cs)) c=some (J7 kd m u ca cb (FC ts) ra rb (Ep ps) id ins nds o r vd):=by
   rw[Ap (by omega)];exact AS hclt hc1
  generalize upd ((A2 H1,Row.cells true II [zI,zS,zS,zS,zS,zS,zS,zS,zS])::H1) (A2 H1) (.cells true II r.cs)=H2 at hr1 hc2
  generalize A2 H1=rv at hr1 jv
  have l0:∀{K:AV→Aj},Ar Ab (.ptr rv 0 0) H2 K=K (I r.k):= λ{K}=>AP (p:=0) rfl hr1 (show 0<9 by decide)
  have l1:∀{K:AV→Aj},Ar Ax (.ptr rv 1 0) H2 K=K (.agg [S r.a1,S r.a2]):= λ{K}=>Fs (p:=1) rfl hr1 (show 3≤9 by decide)
  have l3:∀{K:AV→Aj},Ar Ax (.ptr rv 3 0) H2 K=K (.agg [S r.b1,S r.b2]):= λ{K}=>Fs (p:=3) rfl hr1 (show 5≤9 by decide)
  have l5:∀{K:AV→Aj},Ar Ax (.ptr rv 5 0) H2 K=K (.agg [S r.c1,S r.c2]):= λ{K}=>Fs (p:=5) rfl hr1 (show 7≤9 by decide)
  have l7:∀{K:AV→Aj},Ar Ax (.ptr rv 7 0) H2 K=K (.agg [S r.d1,S r.d2]):= λ{K}=>Fs (p:=7) rfl hr1 (show 9≤9 by decide)
  have b1:=E6 [r.k]
  have hra:r.a1.length<390∧r.a2.length<390:=hrl (r.a1,r.a2) (by simp)
  have hrb:r.b1.length<390∧r.b2.length<390:=hrl (r.b1,r.b2) (by simp)
  have hrc:r.c1.length<390∧r.c2.length<390:=hrl (r.c1,r.c2) (by simp)
  have hrd:r.d1.length<390∧r.d2.length<390:=hrl (r.d1,r.d2) (by simp)
  have b2:=E5 [r.a1,r.a2] (by simp;omega)
  have b3:=E5 [r.b1,r.b2] (by simp;omega)
  have b4:=E5 [r.c1,r.c2] (by simp;omega)
  have b5:=E5 [r.d1,r.d2] (by simp;omega)
  have b6:=E6 [vd]
  simp only[K9,OU] at b1 b2 b3 b4 b5 b6
  simp only[jv,f0,BN,l0,l1,l3,l5,l7,cV hc2,A0z]
  rw[nm (by simp) (by simp;omega),BN,Bs (by simp only[Fl];omega),BN,rt' hra.1 hra.2,BN,Bs (by simp only[Fl];omega),BN,rt' hrb.1 hrb.2,BN,Bs (by simp only[Fl];omega),BN,rt' hrc.1 hrc.2,BN,Bs (by simp only[Fl];omega),BN,rt' hrd.1 hrd.2,BN,Bs (by simp only[Fl];omega),BN,nm (by simp) (by simp;omega),BN,Bs (by simp only[Fl];omega),BN]
  rw[if_pos h3] at hK⊢
  have e:LC kd m un ca cb ts ra rb ps pt (RM r vd)=HD [kd,m.lab,m.num,m.itm,m.tim,m.day]++Gz [un]++Gz [ca,cb]++HD [(ts.length:Int)]++OY ts++Gz [ra,rb]++HD [(ps.length:Int)]++Gz ps++Gz [pt]++HD [r.k]++Gz [r.a1,r.a2]++Gz [r.b1,r.b2]++Gz [r.c1,r.c2]++Gz [r.d1,r.d2]++HD [vd]:=by
   unfold LC RM;simp[Ps]
  rw[←e]
  exact hK _ _ (λb=>⟨false,λK=>by kernel_rfl⟩)
 ·rw[decide_eq_false h3,Bz]
  rw[if_neg h3] at hK⊢
  have e:LC kd m un ca cb ts ra rb ps pt []=HD [kd,m.lab,m.num,m.itm,m.tim,m.day]++Gz [un]++Gz [ca,cb]++HD [(ts.length:Int)]++OY ts++Gz [ra,rb]++HD [(ps.length:Int)]++Gz ps++Gz [pt]:=by
   unfold LC;simp only[B9g,XR,List.nil_append]
  rw[←e]
  exact hK _ _ (λb=>⟨false,λK=>by kernel_rfl⟩)
end
end
section
variable {L n:Nat}
theorem B7j:PS (rt (L+20) (n+40)) UU [.agg [I 0,AA,AA]] (.tup [S [],I 200]):=B4 (λH K=>by kernel_rfl) (by kernel_rfl)
theorem B7k:PS (rt (L+20) (n+40)) Xx [.agg [I 0,AA,AA]] (.tup [Bo true,Bo false]):=B4 (λH K=>by kernel_rfl) (by kernel_rfl)
section
variable {m:ND} {u o:UD} {ca cb ra rb:List UInt8} {T P ins nds:AV} {kd id vd:Int} {r:RD} {b:List UInt8} {q:Bool}
theorem A8v (hT:Sl T) (hP:Sl P) (hI:Sl ins) (hN:Sl nds) (hb:b.length≤32768)
 (hs:CS (rt (L+20) (n+61)) DW [.agg (Eb kd m u ca cb T ra rb P id ins nds o r vd)] (.tup [Bo true,Bo q]))
 (hB:CS (rt (L+20) (n+61)) MG [.agg (Eb kd m u ca cb T ra rb P id ins nds o r vd)] (S b)):
 CS (rt (L+20) (n+62)) Ks [.agg (Eb kd m u ca cb T ra rb P id ins nds o r vd)] (.tup [S b,I 0]):=by
 intro K hK
 rw[U9]
 unfold Pf Bc BS Av Gb Dr
 rw[Ft (Q6 hT hP hI hN)]
 have hc0:=A1 (H:=[]) (x:=J7 kd m u ca cb T ra rb P id ins nds o r vd) (by simp)
 generalize ((A2 [],J7 kd m u ca cb T ra rb P id ins nds o r vd)::([]:Hp))=H0 at hc0
 generalize A2 []=c at hc0
 have f0:∀{j:Nat} {K:AV→Aj},AM j (.ptr c 0 0) K=K (.ptr c j 0):= λ{j K}=>by rw[fA,KF]
 have hs':∀K,Ah (rt (L+20) (n+61)) DW [.agg (Eb kd m u ca cb T ra rb P id ins nds o r vd)] H0 K=K (.tup [Bo true,Bo q]):= λK=>Ba hs (Tv hT hP hI hN)
 have hB':∀K,Ah (rt (L+20) (n+61)) MG [.agg (Eb kd m u ca cb T ra rb P id ins nds o r vd)] H0 K=K (S b):= λK=>Ba hB (Tv hT hP hI hN)
 have lS:∀{K:AV→Aj},AQ Ae (S b) K=K (I b.length):= λ{K}=>NI rfl
 rw[cA hc0,hs',CZ,CY,ntT,Bz,cA hc0,hB',f0,cS hc0,B7k (n:=n+21),CZ,CY,f0,cS hc0,B7j (n:=n+21),CZ,CY,lS,DM,decide_eq_false (by omega)]
 simp only[gTF,gT,Cz,ntT,WV]
 rw[Bz]
 exact hK _ _ (λb=>⟨false,λK=>by kernel_rfl⟩)
theorem C6R {cs:List AV} (hL:40000<L) (h1:cs.all AV.one=true) (hz:cs.length=68) (hfx:∀H,Pu true depth [.agg cs] [.agg cs] H false) (hb:b.length≤32768) (hB:CS (rt (L+20) (n+62)) Ks [.agg cs] (.tup [S b,I 0])):CS (rt (L+20) (n+63)) Hf [.agg cs] (S (sha b)):=by
 intro K hK
 rw[Xb]
 unfold SP Av
 rw[Ft h1]
 have hc0:=A1 (H:=[]) (x:= .cells true Al cs) (by simp)
 generalize ((A2 [],Row.cells true Al cs)::([]:Hp))=H0 at hc0
 rw[Bq rfl hz.symm hc0,Ba hB (hfx H0),CZ,CY,G6]
 show Aw (.v (.bool false)) _ _=_
 rw[Bz]
 have hs:∀K,Ah (rt (L+20) (n+62)) Ow [S b] H0 K=K (S (sha b)):= λK=>Ba (B8S (L:=L+20) (n:=n+59) (by omega) (by omega)) (Ay (q:=false) (q':=false) D2 Be)
 rw[hs]
 exact hK _ _ (λb=>⟨false,λK=>by kernel_rfl⟩)
end
end
section
variable {L n:Nat}
theorem C4v {k:Nat} (hk:k=1∨k=2∨k=3):∀K,eEq GL BinOp.eql (AV.agg (rr k).cs) (AV.agg [zI,zS,zS,zS,zS,zS,zS,zS,zS]) K=K (Bo false):= λK=>by rw[←qO];rcases hk with rfl|rfl|rfl<;>kernel_rfl
theorem B9H {k:Nat} (hk:k=1∨k=2∨k=3):PS (rt (L+20) (n+40)) Qv [.agg (rr k).cs] (Bo true):=by
 rcases hk with rfl|rfl|rfl<;>exact B4 (λH K=>by kernel_rfl) (by as_aux_lemma=>kernel_rfl)
theorem B3z {k:Nat} (hk:k=1∨k=2∨k=3):PS (rt (L+20) (n+40)) GH [.agg (rr k).cs] (Bo true):=by
 rcases hk with rfl|rfl|rfl<;>exact B4 (λH K=>by kernel_rfl) (by as_aux_lemma=>kernel_rfl)
theorem A4F:PS (rt (L+20) (n+40)) GH [.agg r0.cs] (Bo false):=B4 (λH K=>by kernel_rfl) (by kernel_rfl)
end
section
variable {L n:Nat}
structure CB where
 m:ND
 c:Int
 r:Int
 ts:Tms
structure CB.Ok (b:CB):Prop where
 m:b.m.ok
 c1: -80≤b.c
 c2:b.c≤80
 r1:0≤b.r
 r2:b.r≤8
 ts:TmsOk b.ts
inductive Cd where
 |re (b:CB) (u:Nat)
 |co (b:CB) (p:Pr) (ps:List (List UInt8)) (t:Option (Nat×Int))
def Cd.kd:Cd→Int
 | .re _ _=>1
 | .co _ _ _ none=>2
 | .co _ _ _ (some _)=>3
def Cd.ps:Cd→List (List UInt8)
 | .re _ _=>[]
 | .co _ _ ps _=>ps
abbrev cdC (kd:Int) (b:CB) (u:UD) (ps:List (List UInt8)) (id:Int) (ins nds:AV) (o:UD) (r:RD) (vd:Int):List AV:=Eb kd b.m u (qn b.c) (qd b.c) (FC b.ts) (qn b.r) (qd b.r) (Ep ps) id ins nds o r vd
def Cd.cs:Cd→List AV
 | .re b u=>cdC 1 b (uu u) [] 0 AA AA u0 r0 0
 | .co b p ps none=>cdC 2 b (uu p.out) ps p.id (BH p.ks) (Cb p.xs) (uu p.out) r0 0
 | .co b p ps (some (k,vd))=>cdC 3 b (uu p.out) ps p.id (BH p.ks) (Cb p.xs) (uu p.out) (rr k) vd
def Cd.body:Cd→List UInt8
 | .re b u=>LC 1 b.m (JP u) (qn b.c) (qd b.c) b.ts (qn b.r) (qd b.r) [] [] []
 | .co b p ps none=>LC 2 b.m (JP p.out) (qn b.c) (qd b.c) b.ts (qn b.r) (qd b.r) ps p.txt []
 | .co b p ps (some (k,vd))=>LC 3 b.m (JP p.out) (qn b.c) (qd b.c) b.ts (qn b.r) (qd b.r) ps p.txt (RM (rr k) vd)
def Cd.Ok:Cd→Prop
 | .re b u=>b.Ok∧u<7
 | .co b p ps t=>b.Ok∧p.Ok∧ps.length=p.ks.length∧(∀s∈ps,s.length=32)∧(match t with|none=>True|some (k,vd)=>(k=1∨k=2∨k=3)∧1≤vd∧vd≤3)
def Cd.id (c:Cd):List UInt8:=sha c.body
theorem Mh (ps:List (List UInt8)):Sl (Ep ps):=by cases ps with|nil=>exact .inl rfl|cons p l=>exact .inr ⟨_,_,rfl⟩
theorem Uo {ps:List (List UInt8)} (h:1≤ps.length):Ep ps=Ls ps:=by cases ps with|nil=>simp at h|cons p l=>rfl
theorem C4w {k:Nat} (h:k=1∨k=2∨k=3):(rr k).k=0∨(rr k).k=1∨(rr k).k=2∨(rr k).k=3:=by rcases h with rfl|rfl|rfl<;>decide
theorem A8p {k:Nat} (h:k=1∨k=2∨k=3):∀q∈[((rr k).a1,(rr k).a2),((rr k).b1,(rr k).b2),((rr k).c1,(rr k).c2),((rr k).d1,(rr k).d2)],q.1.length<390∧q.2.length<390:=by
 rcases h with rfl|rfl|rfl<;>decide
theorem A4H:∀q∈[(r0.a1,r0.a2),(r0.b1,r0.b2),(r0.c1,r0.c2),(r0.d1,r0.d2)],q.1.length<390∧q.2.length<390:=by decide
section
variable {b:CB} {p:Pr} {ps:List (List UInt8)} {kd:Int} {tail:List UInt8} {un pt:List UInt8}
theorem CB.Ok.cl (h:b.Ok):(qn b.c).length<10∧(qd b.c).length<10∧(qn b.r).length<10∧(qd b.r).length<10:=by
 have h1:=Um h.c1 (show b.c<81 by have:=h.c2;omega)
 have h2:=Um (z:=b.r) (by have:=h.r1;omega) (by have:=h.r2;omega)
 have h3:=Un b.c
 have h4:=Un b.r
 omega
theorem A2r (h:b.Ok) (hu:un.length<390) (hp:ps.length≤6) (hpl:∀s∈ps,s.length<390) (hpt:pt.length<390) (ht:tail.length≤4000):(LC kd b.m un (qn b.c) (qd b.c) b.ts (qn b.r) (qd b.r) ps pt tail).length≤32768:=by
 obtain⟨q1,q2,q3,q4⟩:=h.cl
 have l1:=E6 [kd,b.m.lab,b.m.num,b.m.itm,b.m.tim,b.m.day]
 have l2:=E5 [un] (by simpa using hu)
 have l3:=MP [(qn b.c,qd b.c)] (by simp;omega)
 have l4:=E6 [(b.ts.length:Int)]
 have l5:=WJ b.ts (λt ht=>by
  have:=h.ts.rng t ht
  have:=Um (z:=t.2) (by omega) (by omega)
  have:=Un t.2
  omega)
 have l6:=MP [(qn b.r,qd b.r)] (by simp;omega)
 have l7:=E6 [(ps.length:Int)]
 have l8:=E5 ps hpl
 have l9:=E5 [pt] (by simpa using hpt)
 have l0:=h.ts.len
 simp only[LC,Fl,K9,OU] at l1 l2 l3 l4 l5 l6 l7 l8 l9⊢
 omega
theorem B3g {k:Nat} {vd:Int} (h:k=1∨k=2∨k=3):(RM (rr k) vd).length≤4000:=by
 have l1:=E6 [(rr k).k]
 have l2:=MP _ (A8p h)
 have l3:=E6 [vd]
 simp only[RM,Fl,K9,OU] at l1 l2 l3⊢
 omega
end
section
variable {c:Cd}
theorem KC:c.cs.all AV.one=true:=by
 match c with
 | .re b u=>exact Q6 (FI _) (Mh _) (.inl rfl) (.inl rfl)
 | .co b p ps none=>exact Q6 (FI _) (Mh _) (.inr ⟨_,_,rfl⟩) (.inr ⟨_,_,rfl⟩)
 | .co b p ps (some (k,vd))=>exact Q6 (FI _) (Mh _) (.inr ⟨_,_,rfl⟩) (.inr ⟨_,_,rfl⟩)
theorem CA:c.cs.length=68:=by
 match c with
 | .re b u=>rfl
 | .co b p ps none=>rfl
 | .co b p ps (some (k,vd))=>rfl
theorem Zq (H:Hp):Pu true depth [.agg c.cs] [.agg c.cs] H false:=by
 match c with
 | .re b u=>exact Tv (FI _) (Mh _) (.inl rfl) (.inl rfl)
 | .co b p ps none=>exact Tv (FI _) (Mh _) (.inr ⟨_,_,rfl⟩) (.inr ⟨_,_,rfl⟩)
 | .co b p ps (some (k,vd))=>exact Tv (FI _) (Mh _) (.inr ⟨_,_,rfl⟩) (.inr ⟨_,_,rfl⟩)
theorem XD (h:c.Ok):c.body.length≤32768:=by
 match c,h with
 | .re b u,⟨hb,hu⟩=>exact A2r hb (by have:=Fj u;omega) (by simp) (by simp) (by simp) (by simp)
 | .co b p ps none,⟨hb,hp,h1,h2,_⟩=>exact A2r hb (by have:=Fj p.out;omega) (by have:=hp.k3;omega) (λs hs=>by rw[h2 s hs];decide) (Yv hp) (by simp)
 | .co b p ps (some (k,vd)),⟨hb,hp,h1,h2,h3⟩=>exact A2r hb (by have:=Fj p.out;omega) (by have:=hp.k3;omega) (λs hs=>by rw[h2 s hs];decide) (Yv hp) (B3g h3.1)
theorem C3V:RV (rt (L+20) (n+40)) Fi [.agg (B2 0 AA AA u0)] (.tup [S [],I 90]):= λb=>by kernel_rfl
theorem C4D:RV (rt (L+20) (n+40)) Il [.agg (B2 0 AA AA u0)] (.tup [S [],I 90]):= λb=>by kernel_rfl
theorem B5l (hL:40000<L) (h:c.Ok) (hn:c.ps.Nodup):CS (rt (L+20) (n+63)) Kt [.agg c.cs] (S c.id):=by
 refine C6M hL KC CA Zq (XD h) ?_
 match c,h,hn with
 | .re b u,⟨hb,hu⟩,_=>
  have st:=B0R (L:=L) (n:=n) (o:=u0) hb.m (FI b.ts) (B2J (L:=L) (n:=n+20)).o (Ub L (n+20) u (by omega)).o (A83 (L:=L) (n:=n+16) hb.c1 hb.c2 hb.r1 hb.r2 hb.ts).ls
  exact A86 (n:=n) (ps:=[]) (vd:=0) (kd:=1) (by omega) hb.m (.inl rfl) hb.ts (.inl rfl) (.inl rfl) (by simp) (by simp) (by have:=Fj u;omega) (by simp) (.inl rfl) A4H (by decide) hb.cl st.ls (RE L (n+21) u (by omega)) (C3V (L:=L) (n:=n+21)).ls
 | .co b p ps none,⟨hb,hp,h1,h2,_⟩,hn=>
  have k1:=hp.k1
  have k3:=hp.k3
  have hps:Ep ps= .list p.ks.length (AK ps):=by rw[Uo (by omega),Ls,h1]
  have hpa:=(A3t (L:=L) (n:=n+53) (ps:=ps) hn (by omega) (by omega) (by omega) h2).ls
  rw[Ls,h1] at hpa
  have cp:=A0T (L:=L) (n:=n) (kd:=2) (m:=b.m) (ca:=qn b.c) (cb:=qd b.c) (ra:=qn b.r) (rb:=qd b.r) (r:=r0) (vd:=0) (FI b.ts) ⟨_,_,rfl⟩ hpa (B3U (L:=L) (n:=n+13) (by omega) hp).ls
  have st:=B0Q (L:=L) (n:=n) hb.m (FI b.ts) ⟨_,_,rfl⟩ ⟨_,_,rfl⟩ ⟨_,_,rfl⟩ cp.ls (Ub L (n+20) p.out (Iz hp)).o (A83 (L:=L) (n:=n+16) hb.c1 hb.c2 hb.r1 hb.r2 hb.ts).ls
  rw[←hps] at st
  exact A86 (n:=n) (ps:=ps) (vd:=0) (kd:=2) (by omega) hb.m (.inr (.inl rfl)) hb.ts (.inr ⟨_,_,rfl⟩) (.inr ⟨_,_,rfl⟩) (by omega) (λs hs=>by rw[h2 s hs];decide) (by have:=Fj p.out;omega) (Yv hp) (.inl rfl) A4H (by decide) hb.cl st.ls (RE L (n+21) _ (Iz hp)) (B8V (L:=L) (n:=n+14) (by omega) hp).ls
 | .co b p ps (some (k,vd)),⟨hb,hp,h1,h2,h3,h4,h5⟩,hn=>
  have k1:=hp.k1
  have k3:=hp.k3
  have hps:Ep ps= .list p.ks.length (AK ps):=by rw[Uo (by omega),Ls,h1]
  have hpa:=(A3t (L:=L) (n:=n+53) (ps:=ps) hn (by omega) (by omega) (by omega) h2).ls
  rw[Ls,h1] at hpa
  have cp:=A0T (L:=L) (n:=n) (kd:=3) (m:=b.m) (ca:=qn b.c) (cb:=qd b.c) (ra:=qn b.r) (rb:=qd b.r) (r:=rr k) (vd:=vd) (FI b.ts) ⟨_,_,rfl⟩ hpa (B3U (L:=L) (n:=n+13) (by omega) hp).ls
  have st:=B0P (L:=L) (n:=n) hb.m (FI b.ts) ⟨_,_,rfl⟩ ⟨_,_,rfl⟩ ⟨_,_,rfl⟩ (C4v h3) (B9H (L:=L) (n:=n+20) h3).o h4 h5 (Ub L (n+20) p.out (Iz hp)).o (A83 (L:=L) (n:=n+16) hb.c1 hb.c2 hb.r1 hb.r2 hb.ts).ls cp.ls
  rw[←hps] at st
  exact A86 (n:=n) (ps:=ps) (vd:=vd) (kd:=3) (by omega) hb.m (.inr (.inr rfl)) hb.ts (.inr ⟨_,_,rfl⟩) (.inr ⟨_,_,rfl⟩) (by omega) (λs hs=>by rw[h2 s hs];decide) (by have:=Fj p.out;omega) (Yv hp) (C4w h3) (A8p h3) (by omega) hb.cl st.ls (RE L (n+21) _ (Iz hp)) (B8V (L:=L) (n:=n+14) (by omega) hp).ls
end
end
section
variable {L n:Nat}
section
variable {R:Rt} {K:KV} {ps:List (List UInt8)} {H:Hp} {y:Aj}
theorem B7B {k39:AV→AV→AV→Hp→Aj} {i:Nat} (hi:i<ps.length) (hb:ps.length<100) (hy:K (.tup [Bo false,I ps.length]) H=y) (hk:k39 (Ls ps) (I i) (I i) H=y∨∃m,∃h:m<i,ps[m]'(by omega)=ps[i]):∀(f j:Nat),j≤i→i-j<f→(∀m (_:m<j) (h':m<ps.length),ps[m]≠ps[i])→
 Ix (L+20) R K k39 f (Ls ps) (I i) (I j) H=y:=by
 intro f
 induction f with
 |zero=>intro j _ h;omega
 |succ f ih=>
  intro j hj hf hno
  rw[PJ]
  unfold Kk Av Dr
  by_cases h:j<i
  ·rw[FW (by omega),De,NL (by omega),BN,Gt,BN,NL hi,BN,Gt,BN,L9]
   by_cases he:ps[j]=ps[i]
   ·rw[decide_eq_true he,BN,De,Lc]
    exact hy
   ·rw[decide_eq_false he,BN,Bz,D4 (by omega)]
    exact ih (j+1) (by omega) (by omega) λm hm hm'=>by
     by_cases hmj:m=j
     ·subst hmj;exact he
     ·exact hno m (by omega) hm'
  ·rw[FE (by omega),Bz]
   obtain rfl:j=i:=by omega
   rcases hk with hk|⟨m,hm,e⟩
   ·exact hk
   ·exact absurd e (hno m hm (by omega))
theorem B7C {k14:AV→Hp→Aj} (hb:ps.length<100) (hL:ps.length<L+20) (hl:∀s∈ps,s.length=32) (hy:K (.tup [Bo false,I ps.length]) H=y):∀(f i:Nat) (v:AV),i≤ps.length→ps.length-i<f→
 (∃t m,i≤t∧∃(h:t<ps.length) (hm:m<t),ps[m]'(by omega)=ps[t])→Iy (L+20) R K k14 f (Ls ps) (I i) v H=y:=by
 intro f
 induction f with
 |zero=>intro i v _ h;omega
 |succ f ih=>
  intro i v hi hf hex
  obtain⟨t,m,h1,h2,h3,h4⟩:=hex
  rw[PK]
  unfold Kl Av Dr
  rw[Lc]
  have h:i<ps.length:=by omega
  rw[FW (by omega),De]
  simp only[BX]
  rw[NL h,Gt,NI rfl,hl _ (QE h),G6]
  rw[show(!decide (((32:Nat):Int)=32))=false from rfl,Bz]
  have e0:(AV.v (.int .i64 0))=I ((0:Nat):Int):=rfl
  rw[e0]
  refine B7B h hb hy ?_ _ 0 (by omega) (by omega) (λm hm _=>by omega)
  by_cases hd:t=i
  ·subst hd;exact .inr ⟨m,h3,h4⟩
  ·left
   rw[D4 (by omega)]
   exact ih (i+1) _ (by omega) (by omega) ⟨t,m,by omega,h2,h3,h4⟩
theorem B1q (h:¬ps.Nodup):∃t m,0≤t∧∃(h:t<ps.length) (hm:m<t),ps[m]'(by omega)=ps[t]:=Classical.byContradiction λhc=>h (by
 rw[List.nodup_iff_pairwise_ne,l20]
 intro i j hi hj hij e
 exact hc ⟨j,i,l1c _,hj,hij,e⟩)
theorem A1o (hn:¬ps.Nodup) (hb:ps.length≤6) (hl:∀s∈ps,s.length=32):CS (rt (L+20) (n+1)) Fm [Ls ps] (.tup [Bo false,I ps.length]):=by
 intro K hK
 rw[QL]
 unfold KY Bc Av Dr
 simp only[BX]
 have e0:(AV.v (.int .i64 0))=I ((0:Nat):Int):=rfl
 rw[e0]
 exact B7C (by omega) (by omega) hl (hK _ _ (λb=>⟨false,λK=>by kernel_rfl⟩)) _ 0 _ (by omega) (by omega) (B1q hn)
end
section
variable {m:ND} {u o:UD} {ca cb ra rb:List UInt8} {T P ins nds:AV} {id vd kd:Int} {r:RD} {q:Bool}
theorem A9Y (hT:Sl T) (hP:Sl P) (hI:Sl ins) (hN:Sl nds)
 (hs:CS (rt (L+20) (n+61)) DW [.agg (Eb kd m u ca cb T ra rb P id ins nds o r vd)] (.tup [Bo false,Bo q])):
 CS (rt (L+20) (n+62)) Ks [.agg (Eb kd m u ca cb T ra rb P id ins nds o r vd)] (.tup [S [],I 210]):=by
 intro K hK
 rw[U9]
 unfold Pf Bc BS Av Gb Dr
 rw[Ft (Q6 hT hP hI hN)]
 have hc0:=A1 (H:=[]) (x:=J7 kd m u ca cb T ra rb P id ins nds o r vd) (by simp)
 generalize ((A2 [],J7 kd m u ca cb T ra rb P id ins nds o r vd)::([]:Hp))=H0 at hc0
 generalize A2 []=c at hc0
 have hs':∀K,Ah (rt (L+20) (n+61)) DW [.agg (Eb kd m u ca cb T ra rb P id ins nds o r vd)] H0 K=K (.tup [Bo false,Bo q]):= λK=>Ba hs (Tv hT hP hI hN)
 rw[cA hc0,hs',CZ,CY,ntF,De]
 exact hK _ _ (λb=>⟨false,λK=>by kernel_rfl⟩)
theorem C4E {cs:List AV} (h1:cs.all AV.one=true) (hz:cs.length=68) (hfx:∀H,Pu true depth [.agg cs] [.agg cs] H false) (hB:CS (rt (L+20) (n+62)) Ks [.agg cs] (.tup [S [],I 210])):CS (rt (L+20) (n+63)) Hf [.agg cs] (S []):=by
 intro K hK
 rw[Xb]
 unfold SP Av
 rw[Ft h1]
 have hc0:=A1 (H:=[]) (x:= .cells true Al cs) (by simp)
 generalize ((A2 [],Row.cells true Al cs)::([]:Hp))=H0 at hc0
 rw[Bq rfl hz.symm hc0,Ba hB (hfx H0),CZ,CY,G6]
 show Aw (.v (.bool true)) _ _=_
 rw[De]
 exact hK _ _ (λb=>⟨false,λK=>by kernel_rfl⟩)
end
attribute [local irreducible] Ah rt Zu eBi eEq cnd Go.Abs.Ak Go.Abs.UY Aw
section
variable {m:ND} {u o:UD} {ca cb ra rb:List UInt8} {T P ins nds:AV} {id vd:Int} {r:RD}
theorem A8t (hm:m.ok) (hT:Sl T) (hr:PO (rt (L+20) (n+60)) GH [.agg r0.cs] (Bo false)) {n2:Nat} {c2:List AV} (hP:∃n cs,P= .list n cs) (hN:∃n cs,nds= .list n cs)
 (hp:LS (rt (L+20) (n+60)) Fm [P] (.tup [Bo false,I n2])) (hv:LS (rt (L+20) (n+60)) E3 [.agg (B2 id (.list n2 c2) nds u)] (Bo true))
 (hu:PO (rt (L+20) (n+60)) Ee [.agg (Ck u)] (Bo true)) (hf:LS (rt (L+20) (n+60)) GI [.agg (VK ca cb T ra rb)] (Bo true)):
 CS (rt (L+20) (n+61)) DW [.agg (Eb 2 m u ca cb T ra rb P id (.list n2 c2) nds u r0 0)] (.tup [Bo false,Bo false]):=by
 intro K hK
 obtain⟨h1,h2,h3,h4,h5,h6,h7,h8,h9,h10⟩:=hm
 obtain⟨n1,c1,rfl⟩:=hP
 obtain⟨n3,c3,rfl⟩:=hN
 have hb:∀{z lo hi:Int},lo≤z→z≤hi→PO (rt (L+20) (n+60)) Dn [I z,I lo,I hi] (Bo true):= λa b=>(Ul a b).o
 rcases hT with rfl|⟨n4,c4,rfl⟩
 all_goals
  rewrite [I3]
  unfold GW Bc BS Av Gb Dr
  try rewrite [zO]
  try rewrite [bO]
  try rewrite [qO]
  try rewrite [cO]
  generalize rt (L+20) (n+60)=R at*
  conv=>lhs;whnf
  rewrite [TA ?hc]
  case hc=>decide
  conv=>lhs;whnf
  rewrite [hu]
  conv=>lhs;whnf
  rewrite [(hf) false _ _ ?hq]
  case hq=>exact λK=>by kernel_rfl
  conv=>lhs;whnf
  rewrite [hb h1 (by omega)]
  conv=>lhs;whnf
  rewrite [hb h3 (by omega)]
  conv=>lhs;whnf
  rewrite [hb h5 (by omega)]
  conv=>lhs;whnf
  rewrite [hb h7 (by omega)]
  conv=>lhs;whnf
  rewrite [hb h9 (by omega)]
  conv=>lhs;whnf
  rewrite [Fv]
  conv=>lhs;whnf
  rewrite [hr]
  conv=>lhs;whnf
  rewrite [show∀K,eEq GL BinOp.neq (AV.agg [I r0.k,S r0.a1,S r0.a2,S r0.b1,S r0.b2,S r0.c1,S r0.c2,S r0.d1,S r0.d2]) (AV.agg [zI,zS,zS,zS,zS,zS,zS,zS,zS]) K=K (Bo false) from λK=>by rw[←qO];kernel_rfl]
  conv=>lhs;whnf
  rewrite [B49 ?hc]
  case hc=>decide
  conv=>lhs;whnf
  rewrite [Fv]
  conv=>lhs;whnf
  rewrite [TA ?hc]
  case hc=>decide
  conv=>lhs;whnf
  rewrite [Fv]
  conv=>lhs;whnf
  rewrite [Oz ?hc]
  case hc=>decide
  conv=>lhs;whnf
  rewrite [Of]
  conv=>lhs;whnf
  rewrite [Of]
  conv=>lhs;whnf
  rewrite [(hp) false _ _ ?hq]
  case hq=>exact λK=>by kernel_rfl
  conv=>lhs;whnf
  rewrite [(hv) false _ _ ?hq]
  case hq=>exact λK=>by kernel_rfl
  conv=>lhs;whnf
  exact hK _ _ (λb=>⟨false,λK=>by kernel_rfl⟩)
theorem A8s (hm:m.ok) (hT:Sl T) (hr:PO (rt (L+20) (n+60)) GH [.agg r.cs] (Bo true)) (hv1:1≤vd) (hv2:vd≤3) {n2:Nat} {c2:List AV} (hP:∃n cs,P= .list n cs) (hN:∃n cs,nds= .list n cs)
 (hp:LS (rt (L+20) (n+60)) Fm [P] (.tup [Bo false,I n2])) (hv:LS (rt (L+20) (n+60)) E3 [.agg (B2 id (.list n2 c2) nds u)] (Bo true))
 (hu:PO (rt (L+20) (n+60)) Ee [.agg (Ck u)] (Bo true)) (hf:LS (rt (L+20) (n+60)) GI [.agg (VK ca cb T ra rb)] (Bo true)):
 CS (rt (L+20) (n+61)) DW [.agg (Eb 3 m u ca cb T ra rb P id (.list n2 c2) nds u r vd)] (.tup [Bo false,Bo true]):=by
 intro K hK
 obtain⟨h1,h2,h3,h4,h5,h6,h7,h8,h9,h10⟩:=hm
 obtain⟨n1,c1,rfl⟩:=hP
 obtain⟨n3,c3,rfl⟩:=hN
 have hb:∀{z lo hi:Int},lo≤z→z≤hi→PO (rt (L+20) (n+60)) Dn [I z,I lo,I hi] (Bo true):= λa b=>(Ul a b).o
 rcases hT with rfl|⟨n4,c4,rfl⟩
 all_goals
  rewrite [I3]
  unfold GW Bc BS Av Gb Dr
  try rewrite [zO]
  try rewrite [bO]
  try rewrite [qO]
  try rewrite [cO]
  generalize rt (L+20) (n+60)=R at*
  conv=>lhs;whnf
  rewrite [Oz ?hc]
  case hc=>decide
  conv=>lhs;whnf
  rewrite [hu]
  conv=>lhs;whnf
  rewrite [(hf) false _ _ ?hq]
  case hq=>exact λK=>by kernel_rfl
  conv=>lhs;whnf
  rewrite [hb h1 (by omega)]
  conv=>lhs;whnf
  rewrite [hb h3 (by omega)]
  conv=>lhs;whnf
  rewrite [hb h5 (by omega)]
  conv=>lhs;whnf
  rewrite [hb h7 (by omega)]
  conv=>lhs;whnf
  rewrite [hb h9 (by omega)]
  conv=>lhs;whnf
  rewrite [Fv]
  conv=>lhs;whnf
  rewrite [hr]
  conv=>lhs;whnf
  rewrite [hb hv1 hv2]
  conv=>lhs;whnf
  rewrite [Fv]
  conv=>lhs;whnf
  rewrite [TA ?hc]
  case hc=>decide
  conv=>lhs;whnf
  rewrite [Fv]
  conv=>lhs;whnf
  rewrite [TA ?hc]
  case hc=>decide
  conv=>lhs;whnf
  rewrite [Fv]
  conv=>lhs;whnf
  rewrite [Oz ?hc]
  case hc=>decide
  conv=>lhs;whnf
  rewrite [Of]
  conv=>lhs;whnf
  rewrite [(hp) false _ _ ?hq]
  case hq=>exact λK=>by kernel_rfl
  conv=>lhs;whnf
  rewrite [(hv) false _ _ ?hq]
  case hq=>exact λK=>by kernel_rfl
  conv=>lhs;whnf
  exact hK _ _ (λb=>⟨false,λK=>by kernel_rfl⟩)
end
end
section
variable {L n:Nat}
section
variable {c:Cd}
theorem A9m (hL:40000<L) (h:c.Ok) (hn:c.ps.Nodup):CS (rt (L+20) (n+64)) Hf [.agg c.cs] (S c.id):=by
 refine C6R (n:=n+1) hL KC CA Zq (XD h) ?_
 match c,h,hn with
 | .re b u,⟨hb,hu⟩,_=>
  have st:=B1d (L:=L) (n:=n+1) (o:=u0) hb.m (FI b.ts) (A4F (L:=L) (n:=n+21)).o (B3x (L:=L) (n:=n+21)).o (PW L (n+21) u (by omega)).o (A1r (L:=L) (n:=n+19) hb.c1 hb.c2 hb.r1 hb.r2 (by omega) hb.ts).ls
  exact A8v (n:=n+1) (FI _) (Mh []) (.inl rfl) (.inl rfl) (XD (c:= .re b u) ⟨hb,hu⟩) st (A8u (n:=n) (ps:=[]) (vd:=0) (kd:=1) (by omega) hb.m (.inl rfl) hb.ts (.inl rfl) (.inl rfl) (by simp) (by simp) (by have:=Fj u;omega) (by simp) (.inl rfl) A4H (by decide) hb.cl (RO L (n+21) u (by omega)) (C4D (L:=L) (n:=n+21)).ls)
 | .co b p ps none,⟨hb,hp,h1,h2,h3⟩,hn=>
  have k1:=hp.k1
  have k3:=hp.k3
  have hps:Ep ps=Ls ps:=Uo (by omega)
  have hpa:=(A3E (L:=L) (n:=n+60) (ps:=ps) hn (by omega) (by omega) h2).ls
  rw[←hps,h1] at hpa
  have st:=B1c (L:=L) (n:=n+1) hb.m (FI b.ts) (A4F (L:=L) (n:=n+21)).o ⟨_,_,hps⟩ ⟨_,_,rfl⟩ hpa (A6z (L:=L) (n:=n+17) (by omega) hp).ls (PW L (n+21) p.out (Iz hp)).o (A1r (L:=L) (n:=n+19) hb.c1 hb.c2 hb.r1 hb.r2 (by omega) hb.ts).ls
  exact A8v (n:=n+1) (FI _) (Mh ps) (.inr ⟨_,_,rfl⟩) (.inr ⟨_,_,rfl⟩) (XD (c:= .co b p ps none) ⟨hb,hp,h1,h2,h3⟩) st (A8u (n:=n) (ps:=ps) (vd:=0) (kd:=2) (by omega) hb.m (.inr (.inl rfl)) hb.ts (.inr ⟨_,_,rfl⟩) (.inr ⟨_,_,rfl⟩) (by omega) (λs hs=>by rw[h2 s hs];decide) (by have:=Fj p.out;omega) (Yv hp) (.inl rfl) A4H (by decide) hb.cl (RO L (n+21) _ (Iz hp)) (B8W (L:=L) (n:=n+16) (by omega) hp).ls)
 | .co b p ps (some (k,vd)),⟨hb,hp,h1,h2,h3,h4,h5⟩,hn=>
  have k1:=hp.k1
  have k3:=hp.k3
  have hps:Ep ps=Ls ps:=Uo (by omega)
  have hpa:=(A3E (L:=L) (n:=n+60) (ps:=ps) hn (by omega) (by omega) h2).ls
  rw[←hps,h1] at hpa
  have st:=B1b (L:=L) (n:=n+1) hb.m (FI b.ts) (B3z (L:=L) (n:=n+21) h3).o h4 h5 ⟨_,_,hps⟩ ⟨_,_,rfl⟩ hpa (A6z (L:=L) (n:=n+17) (by omega) hp).ls (PW L (n+21) p.out (Iz hp)).o (A1r (L:=L) (n:=n+19) hb.c1 hb.c2 hb.r1 hb.r2 (by omega) hb.ts).ls
  exact A8v (n:=n+1) (FI _) (Mh ps) (.inr ⟨_,_,rfl⟩) (.inr ⟨_,_,rfl⟩) (XD (c:= .co b p ps (some (k,vd))) ⟨hb,hp,h1,h2,h3,h4,h5⟩) st (A8u (n:=n) (ps:=ps) (vd:=vd) (kd:=3) (by omega) hb.m (.inr (.inr rfl)) hb.ts (.inr ⟨_,_,rfl⟩) (.inr ⟨_,_,rfl⟩) (by omega) (λs hs=>by rw[h2 s hs];decide) (by have:=Fj p.out;omega) (Yv hp) (C4w h3) (A8p h3) (by omega) hb.cl (RO L (n+21) _ (Iz hp)) (B8W (L:=L) (n:=n+16) (by omega) hp).ls)
theorem B8x (hL:40000<L) (h:c.Ok) (hn:¬c.ps.Nodup):CS (rt (L+20) (n+64)) Hf [.agg c.cs] (S []):=by
 refine C4E (n:=n+1) KC CA Zq ?_
 match c,h,hn with
 | .re b u,_,hn=>exact absurd List.nodup_nil hn
 | .co b p ps none,⟨hb,hp,h1,h2,h3⟩,hn=>
  have k1:=hp.k1
  have k3:=hp.k3
  have hps:Ep ps=Ls ps:=Uo (by omega)
  have hpa:=(A1o (L:=L) (n:=n+60) (ps:=ps) hn (by omega) h2).ls
  rw[←hps,h1] at hpa
  have st:=A8t (L:=L) (n:=n+1) hb.m (FI b.ts) (A4F (L:=L) (n:=n+21)).o ⟨_,_,hps⟩ ⟨_,_,rfl⟩ hpa (A6z (L:=L) (n:=n+17) (by omega) hp).ls (PW L (n+21) p.out (Iz hp)).o (A1r (L:=L) (n:=n+19) hb.c1 hb.c2 hb.r1 hb.r2 (by omega) hb.ts).ls
  exact A9Y (n:=n+1) (FI _) (Mh ps) (.inr ⟨_,_,rfl⟩) (.inr ⟨_,_,rfl⟩) st
 | .co b p ps (some (k,vd)),⟨hb,hp,h1,h2,h3,h4,h5⟩,hn=>
  have k1:=hp.k1
  have k3:=hp.k3
  have hps:Ep ps=Ls ps:=Uo (by omega)
  have hpa:=(A1o (L:=L) (n:=n+60) (ps:=ps) hn (by omega) h2).ls
  rw[←hps,h1] at hpa
  have st:=A8s (L:=L) (n:=n+1) hb.m (FI b.ts) (B3z (L:=L) (n:=n+21) h3).o h4 h5 ⟨_,_,hps⟩ ⟨_,_,rfl⟩ hpa (A6z (L:=L) (n:=n+17) (by omega) hp).ls (PW L (n+21) p.out (Iz hp)).o (A1r (L:=L) (n:=n+19) hb.c1 hb.c2 hb.r1 hb.r2 (by omega) hb.ts).ls
  exact A9Y (n:=n+1) (FI _) (Mh ps) (.inr ⟨_,_,rfl⟩) (.inr ⟨_,_,rfl⟩) st
end
end
end Go.Abs
end
