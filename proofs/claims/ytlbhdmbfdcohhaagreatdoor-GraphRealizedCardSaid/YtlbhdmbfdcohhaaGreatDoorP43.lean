import Derived.Test.YtlbhdmbfdcohhaaGreatDoorP22
import Derived.Test.YtlbhdmbfdcohhaaGreatDoorP26
import Derived.Test.YtlbhdmbfdcohhaaGreatDoorP42
set_option linter.all false
set_option maxHeartbeats 100000000
noncomputable section
namespace Go.Abs
open Go.RowKit Go.Proofs
set_option maxRecDepth 100000
section
variable {L n:Nat}
theorem ZC {k:Nat} (h:k<7):(IQ k).length≤44:=by
 have:=GW.1 (show((List.range 7).all λk=>decide ((IQ k).length≤44))=true by kernel_rfl) k (Iw.2 h)
 simpa using this
theorem A4L {k:Nat} (h:k<52):(IQ k).length≤50:=by
 have:=GW.1 (show((List.range 52).all λk=>decide ((IQ k).length≤50))=true by kernel_rfl) k (Iw.2 h)
 simpa using this
theorem Zf {j:Nat} (h:j<54):(exT j).length≤10:=by
 have:=GW.1 (show((List.range 54).all λk=>decide ((exT k).length≤10))=true by kernel_rfl) j (Iw.2 h)
 simpa using this
theorem B6W {i k:Nat} (hi:i<33) (hk:k<7):(cnT i k).length≤60:=by
 have h1:=A3X hi
 have h2:=ZC hk
 simp only[cnT,EK,Ri,Rj,F5,L0,N2]
 omega
theorem B6w (ks:List Nat) (h:∀k∈ks,k<7):(ks.flatMap Zd).length≤51*ks.length:=by
 induction ks with
 |nil=>simp
 |cons k ks ih=>
  have h1:=ZC (h k (by simp))
  have h2:=ih λx hx=>h x (by simp[hx])
  simp only[l00,F5,L0,Zd,A0d,N2] at h2⊢
  omega
theorem B31 {ts:List (List UInt8)} (h:∀t∈ts,t.length≤10):(ts.flatMap lnT).length≤11*ts.length:=by
 induction ts with
 |nil=>simp
 |cons t ts ih=>
  have h1:=h t (by simp)
  have h2:=ih λu hu=>h u (by simp[hu])
  simp only[l00,F5,L0,lnT,N2] at h2⊢
  omega
theorem B8m {o a b k:Nat} (ho:o<4) (ha:a<7) (hb:b<7) (h:Rh o a b=some k):k<52:=by
 have:=GW.1 (show((List.range 196).all λj=>(match Rh (j/49) (j/7%7) (j%7) with|some k=>decide (k<52)|none=>true))=true by kernel_rfl) (49*o+7*a+b) (Iw.2 (by omega))
 rw[show(49*o+7*a+b)/49=o by omega,show(49*o+7*a+b)/7%7=a by omega,show(49*o+7*a+b)%7=b by omega,h] at this
 simpa using this
theorem B4Y {a e k:Nat} (ha:a<7) (he:e<5) (h:SQ a e=some k):k<52:=by
 have:=GW.1 (show((List.range 35).all λj=>(match SQ (j/5) (j%5) with|some k=>decide (k<52)|none=>true))=true by kernel_rfl) (5*a+e) (Iw.2 (by omega))
 rw[show(5*a+e)/5=a by omega,show(5*a+e)%5=e by omega,h] at this
 simpa using this
section
variable {p:Pr}
theorem Xh (h:p.Ok):p.ty.length=p.xs.length∧1≤p.xs.length∧p.xs.length≤4:=by
 have h1:=h.k1
 have h3:=h.k3
 have e:(p.x.ty p.ks).length=p.x.nd.length:=by cases p.x<;>rfl
 have e0:p.x.nd.length≤1:=by cases p.x<;>simp[Ex.nd]
 simp only[Pr.ty,Pr.xs,F5,D7]
 omega
theorem B65 (h:p.Ok):∀k∈p.ty,k<52:=by
 intro k hk
 rcases l2e.1 hk with hk|hk
 ·have:=h.k7 k hk;omega
 ·have hx:=h.x
  cases hq:p.x with
  |no=>rw[hq] at hk;simp[Ex.ty] at hk
  |cn i j=>rw[hq] at hk hx;simp[Ex.ty] at hk;have:=hx.2;omega
  |inp j=>rw[hq] at hk hx;simp only[Ex.ty,l2f] at hk;have:=JU h.k7 hx;omega
  |bi op l r j=>rw[hq] at hk hx;simp[Ex.ty] at hk;subst hk;exact B8m (by have:=hx.1;have:=hx.2.1;omega) (JU h.k7 hx.2.2.1) (JU h.k7 hx.2.2.2.1) hx.2.2.2.2
  |po l e j=>rw[hq] at hk hx;simp[Ex.ty] at hk;subst hk;exact B4Y (JU h.k7 hx.1) hx.2.1 hx.2.2
theorem Hn (h:p.Ok):p.out<52:=by
 obtain⟨h1,h2,h3⟩:=Xh h
 exact JU (B65 h) (by omega)
theorem B2L (h:p.Ok):(∀t∈p.ts,t.length<100)∧(p.ts.flatMap lnT).length≤11*p.ks.length+61:=by
 have k3:=h.k3
 have hx:=h.x
 have a1:∀t∈(List.range p.ks.length).map exT,t.length≤10:= λt ht=>by
  obtain⟨j,hj,rfl⟩:=l2a.1 ht
  exact Zf (by have:=Iw.1 hj;omega)
 have a2:(∀t∈p.x.tx,t.length≤60)∧p.x.tx.length≤1:=by
  cases hq:p.x with
  |no=>simp[Ex.tx]
  |cn i j=>rw[hq] at hx;simp[Ex.tx];exact B6W hx.1 hx.2
  |inp j=>rw[hq] at hx;have hj:j<p.ks.length:=hx;simp[Ex.tx];exact l1m (Zf (by omega)) (by decide)
  |bi op l r j=>rw[hq] at hx;have h1:=hx.1;have h2:=hx.2.1;have h3:=hx.2.2.1;have h4:=hx.2.2.2.1;simp[Ex.tx];exact l1m (Zf (by omega)) (by decide)
  |po l e j=>rw[hq] at hx;have h1:=hx.1;have h2:=hx.2.1;simp[Ex.tx];exact l1m (Zf (by omega)) (by decide)
 have a3:(p.x.tx.flatMap lnT).length≤61:=by
  match hq:p.x.tx with
  |[]=>simp
  |[t]=>have:=a2.1 t (by rw[hq];simp);simp[lnT];omega
  |t::u::l=>rw[hq] at a2;simp at a2
 refine⟨λt ht=> ?_,?_⟩
 ·rcases l2e.1 ht with ht|ht
  ·have:=a1 t ht;omega
  ·have:=a2.1 t ht;omega
 ·have:=B31 a1
  simp only[Pr.ts,l2g,F5,l1u,List.length_range] at this⊢
  omega
def Pr.txt (p:Pr):List UInt8:=A0a p.id p.ks p.ts p.out
theorem Xg (h:p.Ok):p.txt.length<390:=by
 have k3:=h.k3
 have h1:=B6w p.ks h.k7
 have h2:=(B2L h).2
 have h3:=A4L (Hn h)
 have h4:=A87 p.id
 simp only[Pr.txt,A0a,F5,L0,N2,Oy,C0I]
 omega
abbrev Pr.cs (p:Pr):List AV:=Br p.id (BA p.ks) (BQ p.xs) (uu p.out)
theorem A5a (hL:100<L) (h:p.Ok):CS (rt (L+20) (n+44)) DN [.agg p.cs] (Bo true):=by
 obtain⟨h1,h2,h3⟩:=Xh h
 have:=h.k3
 have:=h.i1
 have:=h.i2
 exact B2r hL (C0B h) h1 (λk hk=>by have:=h.k7 k hk;omega) (by omega) h2 (by omega) (by omega) (by omega)
theorem B2K (hL:100<L) (h:p.Ok):CS (rt (L+20) (n+46)) DF [.agg p.cs] (Bo true):=by
 obtain⟨h1,h2,h3⟩:=Xh h
 have:=h.k3
 have:=h.i1
 have:=h.i2
 exact B1C hL (C0A h) rfl h1 (λk hk=>by have:=h.k7 k hk;omega) (by omega) h2 (by omega) (by omega) (by omega)
theorem B7j (hL:100<L) (h:p.Ok):CS (rt (L+20) (n+45)) GY [.agg p.cs] (.tup [S p.txt,I 0]):=by
 obtain⟨h1,h2,h3⟩:=Xh h
 obtain⟨t1,t2⟩:=B2M (L:=L) (n:=n+3) h
 have:=h.k3
 exact B2s hL h.i2 (A5a hL h) (λi hi=>(t2 i hi).1) (B2L h).1 t1 (λk hk=>by have:=h.k7 k hk;omega) (by omega) (by omega) (Hn h)
theorem B7i (hL:100<L) (h:p.Ok):CS (rt (L+20) (n+47)) E6 [.agg p.cs] (.tup [S p.txt,I 0]):=by
 obtain⟨h1,h2,h3⟩:=Xh h
 obtain⟨t1,t2⟩:=B2M (L:=L) (n:=n+5) h
 have:=h.k3
 exact B1D hL h.i2 (B2K hL h) (λi hi=>(t2 i hi).2) (B2L h).1 t1 (λk hk=>by have:=h.k7 k hk;omega) (by omega) (by omega) (Hn h)
end
end
section
variable {L n:Nat} {K:KV}
theorem B5o {a b:List UInt8} (hL:10<L) (ha:a.length<390) (hb:b.length<390):CS (rt (L+20) (n+7)) DM [.agg [S a,S b]] (S (F7 [a,b])):=by
 intro K hK
 rw[Yz]
 unfold PP
 rw[EG (by rfl)]
 have hr:Aw [(A7 [],Row.cells true AA [S a,S b])] (A7 [])=some (.cells true AA [S a,S b]):=A0 (H:=[]) (by simp)
 have f0:∀K:AV→Am,AH 0 (.ptr (A7 []) 0 0) K=K (.ptr (A7 []) 0 0):= λK=>id rfl
 have f1:∀K:AV→Am,AH 1 (.ptr (A7 []) 0 0) K=K (.ptr (A7 []) 1 0):= λK=>id rfl
 have l0:∀K:AV→Am,Ap Ad (.ptr (A7 []) 0 0) [(A7 [],Row.cells true AA [S a,S b])] K=K (S a):= λK=>id rfl
 have l1:∀K:AV→Am,Ap Ad (.ptr (A7 []) 1 0) [(A7 [],Row.cells true AA [S a,S b])] K=K (S b):= λK=>id rfl
 have bs:∀K:KV,Fp AL 1 Ad 2 [(0,1,S a),(1,1,S b)] [(A7 [],Row.cells true AA [S a,S b])] K=K (.sl 1 1 0 2) ((1,.cells false AL (BB [a,b]))::[(A7 [],Row.cells true AA [S a,S b])]):= λK=>id rfl
 rw[f0,l0,f1,l1,bs]
 have hf:Py true depth [.sl 1 1 0 2] [.list 2 (BB [a,b])] ((1,.cells false AL (BB [a,b]))::[(A7 [],Row.cells true AA [S a,S b])]) (true||false):=Ay (A0U (e:=AL) (.inr ⟨1,false,rfl,rfl,rfl⟩) (by decide) (λs:List UInt8=>Value.string ⟨⟨s⟩⟩) [a,b] rfl) Bl
 rw[AZ (A8B (L:=L) (n:=n) (l:=[a,b]) (by simp) (by simp;omega) (λs hs=>by simp at hs;rcases hs with rfl|rfl<;>assumption)) hf]
 exact hK _ _ (λb=>⟨false,E1⟩)
end
section
variable {L n:Nat}
theorem B2u {zs:List Int} {H:Hp} {K:AV→Am} (hL:100<L) (hl:zs.length<100) (hz:∀z∈zs, -10≤z∧z<1090):Ah (rt (L+20) (n+7)) CU [.list zs.length (D3 zs)] H K=K (S (Gu zs)):=
 AZ (A2x (n:=n+2) hl (by omega) hz) (Ay (q:=false) (q':=false) NM Bl)
theorem B2i {zs:List (List UInt8)} {H:Hp} {K:AV→Am} (hL:100<L) (hl:zs.length<100) (hz:∀z∈zs,z.length<390):Ah (rt (L+20) (n+7)) El [.list zs.length (BB zs)] H K=K (S (F7 zs)):=
 AZ (A8B (n:=n+1) hl (by omega) hz) (Ay (q:=false) (q':=false) NM Bl)
theorem B7h {a b:List UInt8} {H:Hp} {K:AV→Am} (hL:100<L) (ha:a.length<390) (hb:b.length<390):Ah (rt (L+20) (n+7)) DM [.agg [S a,S b]] H K=K (S (F7 [a,b])):=
 AZ (q:=false) (B5o (n:=n) (by omega) ha hb) (λK=>by kernel_rfl)
theorem Zj {z:Int} {K:AV→Am}:QZ 1 Ab 1 [(0,1,I z)] K=K (.list ([z]:List Int).length (D3 [z])):=id rfl
theorem B71 {a b c d e f:Int} {K:AV→Am}:QZ 1 Ab 6 [(0,1,I a),(1,1,I b),(2,1,I c),(3,1,I d),(4,1,I e),(5,1,I f)] K=K (.list ([a,b,c,d,e,f]:List Int).length (D3 [a,b,c,d,e,f])):=id rfl
theorem A9q {z:List UInt8} {K:AV→Am}:QZ 1 Ad 1 [(0,1,S z)] K=K (.list ([z]:List (List UInt8)).length (BB [z])):=id rfl
theorem B7H (a b:List UInt8):NT [(a,b)]=F7 [a,b]:=by simp[NT]
theorem C2O {K:KV} {x:Am} {c:Nat} {R0:Row} {cs:List AV} {ts:YT} {k102:AV→AV→Hp→Am} (ht:TmsOk ts) (hL:100<L) (hR:R0= .cells true Ak cs) (h28:∀H,Aw H c=some R0→∀K,Ap A3 (.ptr c 28 0) H K=K (EY ts)) {l:List UInt8} (hb:l.length<100000000)
 (hx:∀H',Aw H' c=some R0→Wf H'→k102 (.ptr c 0 0) (S (l++N7 ts)) H'=x):∀(f i:Nat) (H:Hp),i≤ts.length→ts.length-i<f→Aw H c=some R0→Wf H→
 My (L+20) (rt (L+20) (n+7)) K k102 f (.ptr c 0 0) (S (l++N7 (ts.take i))) (I i) H=x:=by
 have hlen:=ht.len
 intro f
 induction f with
 |zero=>intro i H _ h;omega
 |succ f ih=>
  intro i H hi hf hc w
  rw[Yk]
  unfold PD Aq
  have f26:∀K:AV→Am,AH 26 (.ptr c 0 0) K=K (.ptr c 26 0):= λK=>id rfl
  have f2:∀K:AV→Am,AH 2 (.ptr c 26 0) K=K (.ptr c 28 0):= λK=>id rfl
  rw[f26,f2,h28 H hc,Ng]
  by_cases h:i<ts.length
  ·have hr:=ht.rng _ (Qu h)
   have hq1:=SZ (z:=ts[i].2) (by omega) (by omega)
   have hq2:=Ta ts[i].2
   rw[FR (by omega),Do,f26,f2,h28 H hc,Si h,lTm,Ba (cs:=[zI,zS,zS]) rfl]
   have hn0:=A0 (H:=H) (x:= .cells true AN [zI,zS,zS]) (by simp)
   rw[B0 (vs:=Mv ts[i]) hn0 rfl rfl rfl]
   have hr1:=A8 (q:=true) (e:=AN) (cs:=Mv ts[i]) hn0
   have hclt:=w.lt hc
   have hc1:Aw (upd ((A7 H,Row.cells true AN [zI,zS,zS])::H) (A7 H) (.cells true AN (Mv ts[i]))) c=some R0:=by
    rw[As (by omega)];exact Bn hclt hc
   have w1:=C7 (r:=A7 H) (y:= .cells true AN (Mv ts[i])) (BP (x:= .cells true AN [zI,zS,zS]) w)
   generalize upd ((A7 H,Row.cells true AN [zI,zS,zS])::H) (A7 H) (.cells true AN (Mv ts[i]))=H1 at hr1 hc1 w1
   generalize A7 H=t at hr1
   have g0:∀K:AV→Am,AH 0 (.ptr t 0 0) K=K (.ptr t 0 0):= λK=>id rfl
   have g1:∀K:AV→Am,AH 1 (.ptr t 0 0) K=K (.ptr t 1 0):= λK=>id rfl
   have m0:∀K,Ap Ab (.ptr t 0 0) H1 K=K (I ts[i].1):= λK=>AW (p:=0) rfl hr1 (show 0<3 by decide)
   have m1:∀K,Ap Ao (.ptr t 1 0) H1 K=K (.agg (qa ts[i].2)):= λK=>EF (p:=1) rfl hr1 (show 3≤3 from NV _)
   have a1:=Vy (ts.take i) (λt h=>by have h1:=ht.rng t (l24 h);have:=SZ (z:=t.2) (by omega) (by omega);have:=Ta t.2;omega)
   have a2:(ts.take i).length≤6:=by simp;omega
   have a3:=DP [ts[i].1]
   have a4:=DO [qn ts[i].2,qd ts[i].2] (by simp;omega)
   simp only[L0,N2] at a3 a4
   rw[g0,BK,m0,BK,Zj,BK,B2u hL (by simp) (by simp;omega),BK,Bj (by rw[F5];omega),BK,g1,BK,m1,BK,B7h hL (by omega) (by omega),BK,Bj (by simp only[F5];omega),BK,DH (by omega)]
   have e1:l++N7 (ts.take i)++Gu [ts[i].1]++F7 [qn ts[i].2,qd ts[i].2]=l++N7 (ts.take (i+1)):=by
    rw[A2m ts h];simp[tmB,B7H]
   rw[e1]
   exact ih (i+1) H1 (by omega) (by omega) hc1 w1
  ·rw[FT (by omega),BC]
   have:i=ts.length:=by omega
   subst this
   rw[l06]
   exact hx H hc w
end
section
variable {L n:Nat}
section
variable {m:ND} {u o:UD} {ca cb ra rb un pt:List UInt8} {ts:YT} {ps:List (List UInt8)} {ins nds:AV} {kd id vd pe:Int} {r:RD}
theorem C2Q {H:Hp} {K:AV→Am} (hL:100<L) (hl:ps.length<100) (hz:∀z∈ps,z.length<390):Ah (rt (L+20) (n+7)) El [FQ ps] H K=K (S (F7 ps)):=by
 cases ps with
 |nil=>
  refine AZ (q:=false) (args':=[AP]) ?_ (λK=>by kernel_rfl)
  exact λK hK=>by
   rw[Sq]
   unfold ME Aq
   simp only[Cm]
   rw[QA]
   unfold KB Aq
   have el:∀K,AM Ae AP K=K (I 0):= λK=>_root_.id rfl
   rw[el,FT (by decide),BC]
   exact hK _ _ (λb=>⟨false,λK=>by kernel_rfl⟩)
 |cons p l=>exact B2i hL hl hz
set_option maxHeartbeats 2000000 in
theorem A7c (hL:100<L) (hm:m.ok) (hkd:kd=1∨kd=2∨kd=3) (ht:TmsOk ts) (hI:Sl ins) (hN:Sl nds) (hp:ps.length≤6) (hpl:∀s∈ps,s.length<390) (hun:un.length<390) (hpt:pt.length<390)
 (hr:r.k=0∨r.k=1∨r.k=2∨r.k=3) (hrl:∀q∈[(r.a1,r.a2),(r.b1,r.b2),(r.c1,r.c2),(r.d1,r.d2)],q.1.length<390∧q.2.length<390) (hv:0≤vd∧vd≤3) (hcl:ca.length<10∧cb.length<10∧ra.length<10∧rb.length<10)
 (hup:PS (rt (L+20) (n+61)) FN [.agg (BW u)] (.tup [S un,I 0])) (hpp:LS (rt (L+20) (n+61)) GY [.agg (Br id ins nds o)] (.tup [S pt,I pe])):
 CS (rt (L+20) (n+62)) Lm [.agg (Dy kd m u ca cb (EY ts) ra rb (FQ ps) id ins nds o r vd)] (S (K0 kd m un ca cb ts ra rb ps pt (if kd=3 then Q9 r vd else[]))):=by
 intro K hK
 obtain⟨q1,q2,q3,q4,q5,q6,q7,q8,q9,q10⟩:=hm
 have hT:=XA1 ts
 have hP:Sl (FQ ps):=by cases ps with|nil=>exact .inl rfl|cons p l=>exact .inr ⟨_,_,rfl⟩
 have hlt:=ht.len
 have a1:=DP [kd,m.lab,m.num,m.itm,m.tim,m.day]
 have a2:=DO [un] (by simpa using hun)
 have a3:=DO [ca,cb] (by simp;omega)
 have a4:=DP [(ts.length:Int)]
 have a5:=Vy ts (λt h=>by have:=ht.rng t h;have:=SZ (z:=t.2) (by omega) (by omega);have:=Ta t.2;omega)
 have a6:=DO [ra,rb] (by simp;omega)
 have a7:=DP [(ps.length:Int)]
 have a8:=DO ps hpl
 have a9:=DO [pt] (by simpa using hpt)
 simp only[L0,N2] at a1 a2 a3 a4 a6 a7 a9
 rw[A0i]
 unfold R5 Aq
 rw[EG (OU hT hP hI hN)]
 have hc0:=A0 (H:=[]) (x:=IA kd m u ca cb (EY ts) ra rb (FQ ps) id ins nds o r vd) (by simp)
 have w0:=BP (x:=IA kd m u ca cb (EY ts) ra rb (FQ ps) id ins nds o r vd) Fw
 generalize ((A7 [],IA kd m u ca cb (EY ts) ra rb (FQ ps) id ins nds o r vd)::([]:Hp))=H0 at hc0 w0
 generalize A7 []=c at hc0
 have f0:∀{j:Nat} {K:AV→Am},AH j (.ptr c 0 0) K=K (.ptr c j 0):= λ{j K}=>by rw[fA,Le]
 have g0:∀{K:AV→Am},AH 0 (.ptr c 26 0) K=K (.ptr c 26 0):=_root_.id rfl
 have g2:∀{K:AV→Am},AH 2 (.ptr c 26 0) K=K (.ptr c 28 0):=_root_.id rfl
 have g3:∀{K:AV→Am},AH 3 (.ptr c 26 0) K=K (.ptr c 29 0):=_root_.id rfl
 have nm:∀{zs:List Int} {H:Hp} {K:AV→Am},zs.length<100→(∀z∈zs, -10≤z∧z<1090)→Ah (rt (L+20) (n+61)) CU [.list zs.length (D3 zs)] H K=K (S (Gu zs)):= λh1 h2=>B2u (n:=n+54) hL h1 h2
 have tx:∀{zs:List (List UInt8)} {H:Hp} {K:AV→Am},zs.length<100→(∀z∈zs,z.length<390)→Ah (rt (L+20) (n+61)) El [.list zs.length (BB zs)] H K=K (S (F7 zs)):= λh1 h2=>B2i (n:=n+54) hL h1 h2
 have rt':∀{a b:List UInt8} {H:Hp} {K:AV→Am},a.length<390→b.length<390→Ah (rt (L+20) (n+61)) DM [.agg [S a,S b]] H K=K (S (F7 [a,b])):= λh1 h2=>B7h (n:=n+54) hL h1 h2
 simp only[Cm]
 rw[f0,cU hc0,hup,CJ,CI]
 simp only[f0,BK,cI0 hc0,cI1 hc0,cI2 hc0,cI3 hc0,cI4 hc0,cI5 hc0,B71,A9q,g0,g2,cC hc0,cT hc0,Ng,Zj]
 rw[nm (by simp) (by simp only[XQ,List.mem_nil_iff,or_false];rintro z (rfl|rfl|rfl|rfl|rfl|rfl)<;>omega),BK,tx (by simp) (by simpa using hun),BK,Bj (by omega),BK,rt' (by omega) (by omega),BK,Bj (by simp only[F5];omega),BK,nm (by simp) (by simp;omega),BK,Bj (by simp only[F5];omega),BK]
 have e0:(AV.v (.int .i64 0))=I ((0:Nat):Int):=rfl
 have et:∀(l:List UInt8),S l=S (l++N7 (ts.take 0)):= λl=>by rw[show N7 (ts.take 0)=[] from rfl,l1o]
 rw[e0,et]
 refine C2O (n:=n+54) ht hL (R0:=IA kd m u ca cb (EY ts) ra rb (FQ ps) id ins nds o r vd) rfl (λH h K=>cT h) (by simp only[F5];omega) ?_ (L+20) 0 H0 (by omega) (by omega) hc0 w0
 intro H1 hc1 w1
 have hpp':∀K,Ah (rt (L+20) (n+61)) GY [.agg (Br id ins nds o)] H1 K=K (.tup [S pt,I pe]):= λK=>by rw[zO];exact hpp false _ _ (Rv hI hN) K
 have txA:∀{H:Hp} {K:AV→Am},Ah (rt (L+20) (n+61)) El [FQ ps] H K=K (S (F7 ps)):=C2Q (n:=n+54) hL (by omega) hpl
 simp only[f0,g3,BK,cR hc1,cP hc1,QU,Zj,cPr hc1,hpp',CJ,CI,A9q,txA]
 rw[rt' (by omega) (by omega),BK,Bj (by simp only[F5];omega),BK,nm (by simp) (by simp;omega),BK,Bj (by simp only[F5];omega),BK,Bj (by simp only[F5];omega),BK,tx (by simp) (by simpa using hpt),Bj (by simp only[F5];omega),cI0 hc1,CG]
 by_cases h3:kd=3
 ·rw[decide_eq_true h3,Do]
  have jv:∀{j:Nat} {K:AV→Am},AH j (.ptr (A7 H1) 0 0) K=K (.ptr (A7 H1) j 0):= λ{j K}=>by rw[fA,Le]
  have hn0:=A0 (H:=H1) (x:= .cells true HK [zI,zS,zS,zS,zS,zS,zS,zS,zS]) (by simp)
  have eR:∀{K:AV→Am},Ap Cj (.ptr c 55 0) H1 K=K (.agg r.cs):= λ{K}=>EF (p:=55) rfl hc1 (show 64≤68 by decide)
  rw[eR,Ba (cs:=[zI,zS,zS,zS,zS,zS,zS,zS,zS]) rfl,B0 (vs:=r.cs) hn0 rfl rfl rfl]
  have hr1:=A8 (q:=true) (e:=HK) (cs:=r.cs) hn0
  have hclt:=w1.lt hc1
  have hc2:Aw (upd ((A7 H1,.cells true HK [zI,zS,zS,zS,zS,zS,zS,zS,zS])::H1) (A7 H1) (.cells true HK r.cs)) c=some (IA kd m u ca cb (EY ts) ra rb (FQ ps) id ins nds o r vd):=by
   rw[As (by omega)];exact Bn hclt hc1
  generalize upd ((A7 H1,Row.cells true HK [zI,zS,zS,zS,zS,zS,zS,zS,zS])::H1) (A7 H1) (.cells true HK r.cs)=H2 at hr1 hc2
  generalize A7 H1=rv at hr1 jv
  have l0:∀{K:AV→Am},Ap Ab (.ptr rv 0 0) H2 K=K (I r.k):= λ{K}=>AW (p:=0) rfl hr1 (show 0<9 by decide)
  have l1:∀{K:AV→Am},Ap Ao (.ptr rv 1 0) H2 K=K (.agg [S r.a1,S r.a2]):= λ{K}=>EF (p:=1) rfl hr1 (show 3≤9 by decide)
  have l3:∀{K:AV→Am},Ap Ao (.ptr rv 3 0) H2 K=K (.agg [S r.b1,S r.b2]):= λ{K}=>EF (p:=3) rfl hr1 (show 5≤9 by decide)
  have l5:∀{K:AV→Am},Ap Ao (.ptr rv 5 0) H2 K=K (.agg [S r.c1,S r.c2]):= λ{K}=>EF (p:=5) rfl hr1 (show 7≤9 by decide)
  have l7:∀{K:AV→Am},Ap Ao (.ptr rv 7 0) H2 K=K (.agg [S r.d1,S r.d2]):= λ{K}=>EF (p:=7) rfl hr1 (show 9≤9 by decide)
  have b1:=DP [r.k]
  have hra:r.a1.length<390∧r.a2.length<390:=hrl (r.a1,r.a2) (by simp)
  have hrb:r.b1.length<390∧r.b2.length<390:=hrl (r.b1,r.b2) (by simp)
  have hrc:r.c1.length<390∧r.c2.length<390:=hrl (r.c1,r.c2) (by simp)
  have hrd:r.d1.length<390∧r.d2.length<390:=hrl (r.d1,r.d2) (by simp)
  have b2:=DO [r.a1,r.a2] (by simp;omega)
  have b3:=DO [r.b1,r.b2] (by simp;omega)
  have b4:=DO [r.c1,r.c2] (by simp;omega)
  have b5:=DO [r.d1,r.d2] (by simp;omega)
  have b6:=DP [vd]
  simp only[L0,N2] at b1 b2 b3 b4 b5 b6
  simp only[jv,f0,BK,l0,l1,l3,l5,l7,cV hc2,Zj]
  rw[nm (by simp) (by simp;omega),BK,Bj (by simp only[F5];omega),BK,rt' hra.1 hra.2,BK,Bj (by simp only[F5];omega),BK,rt' hrb.1 hrb.2,BK,Bj (by simp only[F5];omega),BK,rt' hrc.1 hrc.2,BK,Bj (by simp only[F5];omega),BK,rt' hrd.1 hrd.2,BK,Bj (by simp only[F5];omega),BK,nm (by simp) (by simp;omega),BK,Bj (by simp only[F5];omega),BK]
  rw[if_pos h3] at hK⊢
  have e:K0 kd m un ca cb ts ra rb ps pt (Q9 r vd)=Gu [kd,m.lab,m.num,m.itm,m.tim,m.day]++F7 [un]++F7 [ca,cb]++Gu [(ts.length:Int)]++N7 ts++F7 [ra,rb]++Gu [(ps.length:Int)]++F7 ps++F7 [pt]++Gu [r.k]++F7 [r.a1,r.a2]++F7 [r.b1,r.b2]++F7 [r.c1,r.c2]++F7 [r.d1,r.d2]++Gu [vd]:=by
   unfold K0 Q9;simp[NT]
  rw[←e]
  exact hK _ _ (λb=>⟨false,λK=>by kernel_rfl⟩)
 ·rw[decide_eq_false h3,BC]
  rw[if_neg h3] at hK⊢
  have e:K0 kd m un ca cb ts ra rb ps pt []=Gu [kd,m.lab,m.num,m.itm,m.tim,m.day]++F7 [un]++F7 [ca,cb]++Gu [(ts.length:Int)]++N7 ts++F7 [ra,rb]++Gu [(ps.length:Int)]++F7 ps++F7 [pt]:=by
   unfold K0;simp only[B7H,l1o,List.nil_append]
  rw[←e]
  exact hK _ _ (λb=>⟨false,λK=>by kernel_rfl⟩)
end
end
section
variable {L n:Nat}
theorem B5Q:PS (rt (L+20) (n+40)) T3 [.agg [I 0,AP,AP]] (.tup [S [],I 200]):=Bt (λH K=>by kernel_rfl) (by kernel_rfl)
theorem B5R:PS (rt (L+20) (n+40)) Wg [.agg [I 0,AP,AP]] (.tup [Bo true,Bo false]):=Bt (λH K=>by kernel_rfl) (by kernel_rfl)
section
variable {m:ND} {u o:UD} {ca cb ra rb:List UInt8} {T P ins nds:AV} {kd id vd:Int} {r:RD} {b:List UInt8} {q:Bool}
theorem A7d (hT:Sl T) (hP:Sl P) (hI:Sl ins) (hN:Sl nds) (hb:b.length≤32768)
 (hs:CS (rt (L+20) (n+61)) Du [.agg (Dy kd m u ca cb T ra rb P id ins nds o r vd)] (.tup [Bo true,Bo q]))
 (hB:CS (rt (L+20) (n+61)) Lm [.agg (Dy kd m u ca cb T ra rb P id ins nds o r vd)] (S b)):
 CS (rt (L+20) (n+62)) Jy [.agg (Dy kd m u ca cb T ra rb P id ins nds o r vd)] (.tup [S b,I 0]):=by
 intro K hK
 rw[To]
 unfold NG AR Bu Aq DW Cz
 rw[EG (OU hT hP hI hN)]
 have hc0:=A0 (H:=[]) (x:=IA kd m u ca cb T ra rb P id ins nds o r vd) (by simp)
 generalize ((A7 [],IA kd m u ca cb T ra rb P id ins nds o r vd)::([]:Hp))=H0 at hc0
 generalize A7 []=c at hc0
 have f0:∀{j:Nat} {K:AV→Am},AH j (.ptr c 0 0) K=K (.ptr c j 0):= λ{j K}=>by rw[fA,Le]
 have hs':∀K,Ah (rt (L+20) (n+61)) Du [.agg (Dy kd m u ca cb T ra rb P id ins nds o r vd)] H0 K=K (.tup [Bo true,Bo q]):= λK=>AZ hs (Sk hT hP hI hN)
 have hB':∀K,Ah (rt (L+20) (n+61)) Lm [.agg (Dy kd m u ca cb T ra rb P id ins nds o r vd)] H0 K=K (S b):= λK=>AZ hB (Sk hT hP hI hN)
 have lS:∀{K:AV→Am},AM Ad (S b) K=K (I b.length):= λ{K}=>Mr rfl
 rw[cA hc0,hs',CJ,CI,Xj,BC,cA hc0,hB',f0,cS hc0,B5R (n:=n+21),CJ,CI,f0,cS hc0,B5Q (n:=n+21),CJ,CI,lS,DQ,decide_eq_false (by omega)]
 simp only[gTF,gT,BN,Xj,QC]
 rw[BC]
 exact hK _ _ (λb=>⟨false,λK=>by kernel_rfl⟩)
theorem C4W {cs:List AV} (hL:40000<L) (h1:cs.all AV.one=true) (hz:cs.length=68) (hfx:∀H,Py true depth [.agg cs] [.agg cs] H false) (hb:b.length≤32768) (hB:CS (rt (L+20) (n+62)) Jy [.agg cs] (.tup [S b,I 0])):CS (rt (L+20) (n+63)) Gb [.agg cs] (S (sha b)):=by
 intro K hK
 rw[VG]
 unfold R8 Aq
 rw[EG h1]
 have hc0:=A0 (H:=[]) (x:= .cells true Ak cs) (by simp)
 generalize ((A7 [],Row.cells true Ak cs)::([]:Hp))=H0 at hc0
 rw[Bf rfl hz.symm hc0,AZ hB (hfx H0),CJ,CI,F8]
 show Ar (.v (.bool false)) _ _=_
 rw[BC]
 have hs:∀K,Ah (rt (L+20) (n+62)) Na [S b] H0 K=K (S (sha b)):= λK=>AZ (B7f (L:=L+20) (n:=n+59) (by omega) (by omega)) (Ay (q:=false) (q':=false) E1 Bl)
 rw[hs]
 exact hK _ _ (λb=>⟨false,λK=>by kernel_rfl⟩)
end
end
section
variable {L n:Nat}
theorem C2J {k:Nat} (hk:k=1∨k=2∨k=3):∀K,eEq FO BinOp.eql (AV.agg (rr k).cs) (AV.agg [zI,zS,zS,zS,zS,zS,zS,zS,zS]) K=K (Bo false):= λK=>by rw[←qO];rcases hk with rfl|rfl|rfl<;>kernel_rfl
theorem B88 {k:Nat} (hk:k=1∨k=2∨k=3):PS (rt (L+20) (n+40)) OQ [.agg (rr k).cs] (Bo true):=by
 rcases hk with rfl|rfl|rfl<;>exact Bt (λH K=>by kernel_rfl) (by as_aux_lemma=>kernel_rfl)
theorem B2q {k:Nat} (hk:k=1∨k=2∨k=3):PS (rt (L+20) (n+40)) FL [.agg (rr k).cs] (Bo true):=by
 rcases hk with rfl|rfl|rfl<;>exact Bt (λH K=>by kernel_rfl) (by as_aux_lemma=>kernel_rfl)
theorem A3z:PS (rt (L+20) (n+40)) FL [.agg r0.cs] (Bo false):=Bt (λH K=>by kernel_rfl) (by kernel_rfl)
end
section
variable {L n:Nat}
structure CB where
 m:ND
 c:Int
 r:Int
 ts:YT
structure CB.Ok (b:CB):Prop where
 m:b.m.ok
 c1: -80≤b.c
 c2:b.c≤80
 r1:0≤b.r
 r2:b.r≤8
 ts:TmsOk b.ts
inductive Cd where
 |re (b:CB) (u:Nat)
 |co (b:CB) (p:Pr) (ps:List (List UInt8)) (t:Option (Nat×Int))
def Cd.kd:Cd→Int
 | .re _ _=>1
 | .co _ _ _ none=>2
 | .co _ _ _ (some _)=>3
def Cd.ps:Cd→List (List UInt8)
 | .re _ _=>[]
 | .co _ _ ps _=>ps
abbrev cdC (kd:Int) (b:CB) (u:UD) (ps:List (List UInt8)) (id:Int) (ins nds:AV) (o:UD) (r:RD) (vd:Int):List AV:=Dy kd b.m u (qn b.c) (qd b.c) (EY b.ts) (qn b.r) (qd b.r) (FQ ps) id ins nds o r vd
def Cd.cs:Cd→List AV
 | .re b u=>cdC 1 b (uu u) [] 0 AP AP u0 r0 0
 | .co b p ps none=>cdC 2 b (uu p.out) ps p.id (BA p.ks) (BQ p.xs) (uu p.out) r0 0
 | .co b p ps (some (k,vd))=>cdC 3 b (uu p.out) ps p.id (BA p.ks) (BQ p.xs) (uu p.out) (rr k) vd
def Cd.body:Cd→List UInt8
 | .re b u=>K0 1 b.m (IQ u) (qn b.c) (qd b.c) b.ts (qn b.r) (qd b.r) [] [] []
 | .co b p ps none=>K0 2 b.m (IQ p.out) (qn b.c) (qd b.c) b.ts (qn b.r) (qd b.r) ps p.txt []
 | .co b p ps (some (k,vd))=>K0 3 b.m (IQ p.out) (qn b.c) (qd b.c) b.ts (qn b.r) (qd b.r) ps p.txt (Q9 (rr k) vd)
def Cd.Ok:Cd→Prop
 | .re b u=>b.Ok∧u<7
 | .co b p ps t=>b.Ok∧p.Ok∧ps.length=p.ks.length∧(∀s∈ps,s.length=32)∧(match t with|none=>True|some (k,vd)=>(k=1∨k=2∨k=3)∧1≤vd∧vd≤3)
def Cd.id (c:Cd):List UInt8:=sha c.body
theorem KN (ps:List (List UInt8)):Sl (FQ ps):=by cases ps with|nil=>exact .inl rfl|cons p l=>exact .inr ⟨_,_,rfl⟩
theorem Tb {ps:List (List UInt8)} (h:1≤ps.length):FQ ps=Ls ps:=by cases ps with|nil=>simp at h|cons p l=>rfl
theorem C2K {k:Nat} (h:k=1∨k=2∨k=3):(rr k).k=0∨(rr k).k=1∨(rr k).k=2∨(rr k).k=3:=by rcases h with rfl|rfl|rfl<;>decide
theorem A77 {k:Nat} (h:k=1∨k=2∨k=3):∀q∈[((rr k).a1,(rr k).a2),((rr k).b1,(rr k).b2),((rr k).c1,(rr k).c2),((rr k).d1,(rr k).d2)],q.1.length<390∧q.2.length<390:=by
 rcases h with rfl|rfl|rfl<;>decide
theorem A3B:∀q∈[(r0.a1,r0.a2),(r0.b1,r0.b2),(r0.c1,r0.c2),(r0.d1,r0.d2)],q.1.length<390∧q.2.length<390:=by decide
section
variable {b:CB} {p:Pr} {ps:List (List UInt8)} {kd:Int} {tail:List UInt8} {un pt:List UInt8}
theorem CB.Ok.cl (h:b.Ok):(qn b.c).length<10∧(qd b.c).length<10∧(qn b.r).length<10∧(qd b.r).length<10:=by
 have h1:=SZ h.c1 (show b.c<81 by have:=h.c2;omega)
 have h2:=SZ (z:=b.r) (by have:=h.r1;omega) (by have:=h.r2;omega)
 have h3:=Ta b.c
 have h4:=Ta b.r
 omega
theorem A1g (h:b.Ok) (hu:un.length<390) (hp:ps.length≤6) (hpl:∀s∈ps,s.length<390) (hpt:pt.length<390) (ht:tail.length≤4000):(K0 kd b.m un (qn b.c) (qd b.c) b.ts (qn b.r) (qd b.r) ps pt tail).length≤32768:=by
 obtain⟨q1,q2,q3,q4⟩:=h.cl
 have l1:=DP [kd,b.m.lab,b.m.num,b.m.itm,b.m.tim,b.m.day]
 have l2:=DO [un] (by simpa using hu)
 have l3:=Lw [(qn b.c,qd b.c)] (by simp;omega)
 have l4:=DP [(b.ts.length:Int)]
 have l5:=Vy b.ts (λt ht=>by
  have:=h.ts.rng t ht
  have:=SZ (z:=t.2) (by omega) (by omega)
  have:=Ta t.2
  omega)
 have l6:=Lw [(qn b.r,qd b.r)] (by simp;omega)
 have l7:=DP [(ps.length:Int)]
 have l8:=DO ps hpl
 have l9:=DO [pt] (by simpa using hpt)
 have l0:=h.ts.len
 simp only[K0,F5,L0,N2] at l1 l2 l3 l4 l5 l6 l7 l8 l9⊢
 omega
theorem B27 {k:Nat} {vd:Int} (h:k=1∨k=2∨k=3):(Q9 (rr k) vd).length≤4000:=by
 have l1:=DP [(rr k).k]
 have l2:=Lw _ (A77 h)
 have l3:=DP [vd]
 simp only[Q9,F5,L0,N2] at l1 l2 l3⊢
 omega
end
section
variable {c:Cd}
theorem J9:c.cs.all AV.one=true:=by
 match c with
 | .re b u=>exact OU (XA1 _) (KN _) (.inl rfl) (.inl rfl)
 | .co b p ps none=>exact OU (XA1 _) (KN _) (.inr ⟨_,_,rfl⟩) (.inr ⟨_,_,rfl⟩)
 | .co b p ps (some (k,vd))=>exact OU (XA1 _) (KN _) (.inr ⟨_,_,rfl⟩) (.inr ⟨_,_,rfl⟩)
theorem Cc:c.cs.length=68:=by
 match c with
 | .re b u=>rfl
 | .co b p ps none=>rfl
 | .co b p ps (some (k,vd))=>rfl
theorem XX (H:Hp):Py true depth [.agg c.cs] [.agg c.cs] H false:=by
 match c with
 | .re b u=>exact Sk (XA1 _) (KN _) (.inl rfl) (.inl rfl)
 | .co b p ps none=>exact Sk (XA1 _) (KN _) (.inr ⟨_,_,rfl⟩) (.inr ⟨_,_,rfl⟩)
 | .co b p ps (some (k,vd))=>exact Sk (XA1 _) (KN _) (.inr ⟨_,_,rfl⟩) (.inr ⟨_,_,rfl⟩)
theorem Wv (h:c.Ok):c.body.length≤32768:=by
 match c,h with
 | .re b u,⟨hb,hu⟩=>exact A1g hb (by have:=EA u;omega) (by simp) (by simp) (by simp) (by simp)
 | .co b p ps none,⟨hb,hp,h1,h2,_⟩=>exact A1g hb (by have:=EA p.out;omega) (by have:=hp.k3;omega) (λs hs=>by rw[h2 s hs];decide) (Xg hp) (by simp)
 | .co b p ps (some (k,vd)),⟨hb,hp,h1,h2,h3⟩=>exact A1g hb (by have:=EA p.out;omega) (by have:=hp.k3;omega) (λs hs=>by rw[h2 s hs];decide) (Xg hp) (B27 h3.1)
theorem C2c:RV (rt (L+20) (n+40)) E6 [.agg (Br 0 AP AP u0)] (.tup [S [],I 90]):= λb=>by kernel_rfl
theorem C2R:RV (rt (L+20) (n+40)) GY [.agg (Br 0 AP AP u0)] (.tup [S [],I 90]):= λb=>by kernel_rfl
theorem B40 (hL:40000<L) (h:c.Ok) (hn:c.ps.Nodup):CS (rt (L+20) (n+63)) Jz [.agg c.cs] (S c.id):=by
 refine C4Q hL J9 Cc XX (Wv h) ?_
 match c,h,hn with
 | .re b u,⟨hb,hu⟩,_=>
  have st:=A9L (L:=L) (n:=n) (o:=u0) hb.m (XA1 b.ts) (B1A (L:=L) (n:=n+20)).o (SP L (n+20) u (by omega)).o (A6N (L:=L) (n:=n+16) hb.c1 hb.c2 hb.r1 hb.r2 hb.ts).ls
  exact A6O (n:=n) (ps:=[]) (vd:=0) (kd:=1) (by omega) hb.m (.inl rfl) hb.ts (.inl rfl) (.inl rfl) (by simp) (by simp) (by have:=EA u;omega) (by simp) (.inl rfl) A3B (by decide) hb.cl st.ls (Qv L (n+21) u (by omega)) (C2c (L:=L) (n:=n+21)).ls
 | .co b p ps none,⟨hb,hp,h1,h2,_⟩,hn=>
  have k1:=hp.k1
  have k3:=hp.k3
  have hps:FQ ps= .list p.ks.length (BB ps):=by rw[Tb (by omega),Ls,h1]
  have hpa:=(A2k (L:=L) (n:=n+53) (ps:=ps) hn (by omega) (by omega) (by omega) h2).ls
  rw[Ls,h1] at hpa
  have cp:=ZA (L:=L) (n:=n) (kd:=2) (m:=b.m) (ca:=qn b.c) (cb:=qd b.c) (ra:=qn b.r) (rb:=qd b.r) (r:=r0) (vd:=0) (XA1 b.ts) ⟨_,_,rfl⟩ hpa (B2K (L:=L) (n:=n+13) (by omega) hp).ls
  have st:=A9K (L:=L) (n:=n) hb.m (XA1 b.ts) ⟨_,_,rfl⟩ ⟨_,_,rfl⟩ ⟨_,_,rfl⟩ cp.ls (SP L (n+20) p.out (Hn hp)).o (A6N (L:=L) (n:=n+16) hb.c1 hb.c2 hb.r1 hb.r2 hb.ts).ls
  rw[←hps] at st
  exact A6O (n:=n) (ps:=ps) (vd:=0) (kd:=2) (by omega) hb.m (.inr (.inl rfl)) hb.ts (.inr ⟨_,_,rfl⟩) (.inr ⟨_,_,rfl⟩) (by omega) (λs hs=>by rw[h2 s hs];decide) (by have:=EA p.out;omega) (Xg hp) (.inl rfl) A3B (by decide) hb.cl st.ls (Qv L (n+21) _ (Hn hp)) (B7i (L:=L) (n:=n+14) (by omega) hp).ls
 | .co b p ps (some (k,vd)),⟨hb,hp,h1,h2,h3,h4,h5⟩,hn=>
  have k1:=hp.k1
  have k3:=hp.k3
  have hps:FQ ps= .list p.ks.length (BB ps):=by rw[Tb (by omega),Ls,h1]
  have hpa:=(A2k (L:=L) (n:=n+53) (ps:=ps) hn (by omega) (by omega) (by omega) h2).ls
  rw[Ls,h1] at hpa
  have cp:=ZA (L:=L) (n:=n) (kd:=3) (m:=b.m) (ca:=qn b.c) (cb:=qd b.c) (ra:=qn b.r) (rb:=qd b.r) (r:=rr k) (vd:=vd) (XA1 b.ts) ⟨_,_,rfl⟩ hpa (B2K (L:=L) (n:=n+13) (by omega) hp).ls
  have st:=A9J (L:=L) (n:=n) hb.m (XA1 b.ts) ⟨_,_,rfl⟩ ⟨_,_,rfl⟩ ⟨_,_,rfl⟩ (C2J h3) (B88 (L:=L) (n:=n+20) h3).o h4 h5 (SP L (n+20) p.out (Hn hp)).o (A6N (L:=L) (n:=n+16) hb.c1 hb.c2 hb.r1 hb.r2 hb.ts).ls cp.ls
  rw[←hps] at st
  exact A6O (n:=n) (ps:=ps) (vd:=vd) (kd:=3) (by omega) hb.m (.inr (.inr rfl)) hb.ts (.inr ⟨_,_,rfl⟩) (.inr ⟨_,_,rfl⟩) (by omega) (λs hs=>by rw[h2 s hs];decide) (by have:=EA p.out;omega) (Xg hp) (C2K h3) (A77 h3) (by omega) hb.cl st.ls (Qv L (n+21) _ (Hn hp)) (B7i (L:=L) (n:=n+14) (by omega) hp).ls
end
end
section
variable {L n:Nat}
section
variable {R:Rt} {K:KV} {ps:List (List UInt8)} {H:Hp} {y:Am}
theorem B69 {k39:AV→AV→AV→Hp→Am} {i:Nat} (hi:i<ps.length) (hb:ps.length<100) (hy:K (.tup [Bo false,I ps.length]) H=y) (hk:k39 (Ls ps) (I i) (I i) H=y∨∃m,∃h:m<i,ps[m]'(by omega)=ps[i]):∀(f j:Nat),j≤i→i-j<f→(∀m (_:m<j) (h':m<ps.length),ps[m]≠ps[i])→
 Hj (L+20) R K k39 f (Ls ps) (I i) (I j) H=y:=by
 intro f
 induction f with
 |zero=>intro j _ h;omega
 |succ f ih=>
  intro j hj hf hno
  rw[Oj]
  unfold Jq Aq Cz
  by_cases h:j<i
  ·rw[FR (by omega),Do,Nw (by omega),BK,F3,BK,Nw hi,BK,F3,BK,Kz]
   by_cases he:ps[j]=ps[i]
   ·rw[decide_eq_true he,BK,Do,ML]
    exact hy
   ·rw[decide_eq_false he,BK,BC,DH (by omega)]
    exact ih (j+1) (by omega) (by omega) λm hm hm'=>by
     by_cases hmj:m=j
     ·subst hmj;exact he
     ·exact hno m (by omega) hm'
  ·rw[FT (by omega),BC]
   obtain rfl:j=i:=by omega
   rcases hk with hk|⟨m,hm,e⟩
   ·exact hk
   ·exact absurd e (hno m hm (by omega))
theorem B6a {k14:AV→Hp→Am} (hb:ps.length<100) (hL:ps.length<L+20) (hl:∀s∈ps,s.length=32) (hy:K (.tup [Bo false,I ps.length]) H=y):∀(f i:Nat) (v:AV),i≤ps.length→ps.length-i<f→
 (∃t m,i≤t∧∃(h:t<ps.length) (hm:m<t),ps[m]'(by omega)=ps[t])→Hl (L+20) R K k14 f (Ls ps) (I i) v H=y:=by
 intro f
 induction f with
 |zero=>intro i v _ h;omega
 |succ f ih=>
  intro i v hi hf hex
  obtain⟨t,m,h1,h2,h3,h4⟩:=hex
  rw[Ol]
  unfold Jr Aq Cz
  rw[ML]
  have h:i<ps.length:=by omega
  rw[FR (by omega),Do]
  simp only[Cm]
  rw[Nw h,F3,Mr rfl,hl _ (Qu h),F8]
  rw[show(!decide (((32:Nat):Int)=32))=false from rfl,BC]
  have e0:(AV.v (.int .i64 0))=I ((0:Nat):Int):=rfl
  rw[e0]
  refine B69 h hb hy ?_ _ 0 (by omega) (by omega) (λm hm _=>by omega)
  by_cases hd:t=i
  ·subst hd;exact .inr ⟨m,h3,h4⟩
  ·left
   rw[DH (by omega)]
   exact ih (i+1) _ (by omega) (by omega) ⟨t,m,by omega,h2,h3,h4⟩
theorem B0i (h:¬ps.Nodup):∃t m,0≤t∧∃(h:t<ps.length) (hm:m<t),ps[m]'(by omega)=ps[t]:=Classical.byContradiction λhc=>h (by
 rw[List.nodup_iff_pairwise_ne,l20]
 intro i j hi hj hij e
 exact hc ⟨j,i,l1c _,hj,hij,e⟩)
theorem A06 (hn:¬ps.Nodup) (hb:ps.length≤6) (hl:∀s∈ps,s.length=32):CS (rt (L+20) (n+1)) EC [Ls ps] (.tup [Bo false,I ps.length]):=by
 intro K hK
 rw[Pn]
 unfold JS AR Aq Cz
 simp only[Cm]
 have e0:(AV.v (.int .i64 0))=I ((0:Nat):Int):=rfl
 rw[e0]
 exact B6a (by omega) (by omega) hl (hK _ _ (λb=>⟨false,λK=>by kernel_rfl⟩)) _ 0 _ (by omega) (by omega) (B0i hn)
end
section
variable {m:ND} {u o:UD} {ca cb ra rb:List UInt8} {T P ins nds:AV} {id vd kd:Int} {r:RD} {q:Bool}
theorem A8I (hT:Sl T) (hP:Sl P) (hI:Sl ins) (hN:Sl nds)
 (hs:CS (rt (L+20) (n+61)) Du [.agg (Dy kd m u ca cb T ra rb P id ins nds o r vd)] (.tup [Bo false,Bo q])):
 CS (rt (L+20) (n+62)) Jy [.agg (Dy kd m u ca cb T ra rb P id ins nds o r vd)] (.tup [S [],I 210]):=by
 intro K hK
 rw[To]
 unfold NG AR Bu Aq DW Cz
 rw[EG (OU hT hP hI hN)]
 have hc0:=A0 (H:=[]) (x:=IA kd m u ca cb T ra rb P id ins nds o r vd) (by simp)
 generalize ((A7 [],IA kd m u ca cb T ra rb P id ins nds o r vd)::([]:Hp))=H0 at hc0
 generalize A7 []=c at hc0
 have hs':∀K,Ah (rt (L+20) (n+61)) Du [.agg (Dy kd m u ca cb T ra rb P id ins nds o r vd)] H0 K=K (.tup [Bo false,Bo q]):= λK=>AZ hs (Sk hT hP hI hN)
 rw[cA hc0,hs',CJ,CI,ntF,Do]
 exact hK _ _ (λb=>⟨false,λK=>by kernel_rfl⟩)
theorem C2S {cs:List AV} (h1:cs.all AV.one=true) (hz:cs.length=68) (hfx:∀H,Py true depth [.agg cs] [.agg cs] H false) (hB:CS (rt (L+20) (n+62)) Jy [.agg cs] (.tup [S [],I 210])):CS (rt (L+20) (n+63)) Gb [.agg cs] (S []):=by
 intro K hK
 rw[VG]
 unfold R8 Aq
 rw[EG h1]
 have hc0:=A0 (H:=[]) (x:= .cells true Ak cs) (by simp)
 generalize ((A7 [],Row.cells true Ak cs)::([]:Hp))=H0 at hc0
 rw[Bf rfl hz.symm hc0,AZ hB (hfx H0),CJ,CI,F8]
 show Ar (.v (.bool true)) _ _=_
 rw[Do]
 exact hK _ _ (λb=>⟨false,λK=>by kernel_rfl⟩)
end
attribute [local irreducible] Ah rt Yb eBi eEq cnd Go.Abs.Aj Go.Abs.T8 Ar
section
variable {m:ND} {u o:UD} {ca cb ra rb:List UInt8} {T P ins nds:AV} {id vd:Int} {r:RD}
theorem A7b (hm:m.ok) (hT:Sl T) (hr:PO (rt (L+20) (n+60)) FL [.agg r0.cs] (Bo false)) {n2:Nat} {c2:List AV} (hP:∃n cs,P= .list n cs) (hN:∃n cs,nds= .list n cs)
 (hp:LS (rt (L+20) (n+60)) EC [P] (.tup [Bo false,I n2])) (hv:LS (rt (L+20) (n+60)) DN [.agg (Br id (.list n2 c2) nds u)] (Bo true))
 (hu:PO (rt (L+20) (n+60)) D1 [.agg (BW u)] (Bo true)) (hf:LS (rt (L+20) (n+60)) FM [.agg (Ur ca cb T ra rb)] (Bo true)):
 CS (rt (L+20) (n+61)) Du [.agg (Dy 2 m u ca cb T ra rb P id (.list n2 c2) nds u r0 0)] (.tup [Bo false,Bo false]):=by
 intro K hK
 obtain⟨h1,h2,h3,h4,h5,h6,h7,h8,h9,h10⟩:=hm
 obtain⟨n1,c1,rfl⟩:=hP
 obtain⟨n3,c3,rfl⟩:=hN
 have hb:∀{z lo hi:Int},lo≤z→z≤hi→PO (rt (L+20) (n+60)) CC [I z,I lo,I hi] (Bo true):= λa b=>(SY a b).o
 rcases hT with rfl|⟨n4,c4,rfl⟩
 all_goals
  rewrite [Ht]
  unfold FX AR Bu Aq DW Cz
  try rewrite [zO]
  try rewrite [bO]
  try rewrite [qO]
  try rewrite [cO]
  generalize rt (L+20) (n+60)=R at*
  conv=>lhs;whnf
  rewrite [Sx ?hc]
  case hc=>decide
  conv=>lhs;whnf
  rewrite [hu]
  conv=>lhs;whnf
  rewrite [(hf) false _ _ ?hq]
  case hq=>exact λK=>by kernel_rfl
  conv=>lhs;whnf
  rewrite [hb h1 (by omega)]
  conv=>lhs;whnf
  rewrite [hb h3 (by omega)]
  conv=>lhs;whnf
  rewrite [hb h5 (by omega)]
  conv=>lhs;whnf
  rewrite [hb h7 (by omega)]
  conv=>lhs;whnf
  rewrite [hb h9 (by omega)]
  conv=>lhs;whnf
  rewrite [EJ]
  conv=>lhs;whnf
  rewrite [hr]
  conv=>lhs;whnf
  rewrite [show∀K,eEq FO BinOp.neq (AV.agg [I r0.k,S r0.a1,S r0.a2,S r0.b1,S r0.b2,S r0.c1,S r0.c2,S r0.d1,S r0.d2]) (AV.agg [zI,zS,zS,zS,zS,zS,zS,zS,zS]) K=K (Bo false) from λK=>by rw[←qO];kernel_rfl]
  conv=>lhs;whnf
  rewrite [B2W ?hc]
  case hc=>decide
  conv=>lhs;whnf
  rewrite [EJ]
  conv=>lhs;whnf
  rewrite [Sx ?hc]
  case hc=>decide
  conv=>lhs;whnf
  rewrite [EJ]
  conv=>lhs;whnf
  rewrite [Nc ?hc]
  case hc=>decide
  conv=>lhs;whnf
  rewrite [MN]
  conv=>lhs;whnf
  rewrite [MN]
  conv=>lhs;whnf
  rewrite [(hp) false _ _ ?hq]
  case hq=>exact λK=>by kernel_rfl
  conv=>lhs;whnf
  rewrite [(hv) false _ _ ?hq]
  case hq=>exact λK=>by kernel_rfl
  conv=>lhs;whnf
  exact hK _ _ (λb=>⟨false,λK=>by kernel_rfl⟩)
theorem A7a (hm:m.ok) (hT:Sl T) (hr:PO (rt (L+20) (n+60)) FL [.agg r.cs] (Bo true)) (hv1:1≤vd) (hv2:vd≤3) {n2:Nat} {c2:List AV} (hP:∃n cs,P= .list n cs) (hN:∃n cs,nds= .list n cs)
 (hp:LS (rt (L+20) (n+60)) EC [P] (.tup [Bo false,I n2])) (hv:LS (rt (L+20) (n+60)) DN [.agg (Br id (.list n2 c2) nds u)] (Bo true))
 (hu:PO (rt (L+20) (n+60)) D1 [.agg (BW u)] (Bo true)) (hf:LS (rt (L+20) (n+60)) FM [.agg (Ur ca cb T ra rb)] (Bo true)):
 CS (rt (L+20) (n+61)) Du [.agg (Dy 3 m u ca cb T ra rb P id (.list n2 c2) nds u r vd)] (.tup [Bo false,Bo true]):=by
 intro K hK
 obtain⟨h1,h2,h3,h4,h5,h6,h7,h8,h9,h10⟩:=hm
 obtain⟨n1,c1,rfl⟩:=hP
 obtain⟨n3,c3,rfl⟩:=hN
 have hb:∀{z lo hi:Int},lo≤z→z≤hi→PO (rt (L+20) (n+60)) CC [I z,I lo,I hi] (Bo true):= λa b=>(SY a b).o
 rcases hT with rfl|⟨n4,c4,rfl⟩
 all_goals
  rewrite [Ht]
  unfold FX AR Bu Aq DW Cz
  try rewrite [zO]
  try rewrite [bO]
  try rewrite [qO]
  try rewrite [cO]
  generalize rt (L+20) (n+60)=R at*
  conv=>lhs;whnf
  rewrite [Nc ?hc]
  case hc=>decide
  conv=>lhs;whnf
  rewrite [hu]
  conv=>lhs;whnf
  rewrite [(hf) false _ _ ?hq]
  case hq=>exact λK=>by kernel_rfl
  conv=>lhs;whnf
  rewrite [hb h1 (by omega)]
  conv=>lhs;whnf
  rewrite [hb h3 (by omega)]
  conv=>lhs;whnf
  rewrite [hb h5 (by omega)]
  conv=>lhs;whnf
  rewrite [hb h7 (by omega)]
  conv=>lhs;whnf
  rewrite [hb h9 (by omega)]
  conv=>lhs;whnf
  rewrite [EJ]
  conv=>lhs;whnf
  rewrite [hr]
  conv=>lhs;whnf
  rewrite [hb hv1 hv2]
  conv=>lhs;whnf
  rewrite [EJ]
  conv=>lhs;whnf
  rewrite [Sx ?hc]
  case hc=>decide
  conv=>lhs;whnf
  rewrite [EJ]
  conv=>lhs;whnf
  rewrite [Sx ?hc]
  case hc=>decide
  conv=>lhs;whnf
  rewrite [EJ]
  conv=>lhs;whnf
  rewrite [Nc ?hc]
  case hc=>decide
  conv=>lhs;whnf
  rewrite [MN]
  conv=>lhs;whnf
  rewrite [(hp) false _ _ ?hq]
  case hq=>exact λK=>by kernel_rfl
  conv=>lhs;whnf
  rewrite [(hv) false _ _ ?hq]
  case hq=>exact λK=>by kernel_rfl
  conv=>lhs;whnf
  exact hK _ _ (λb=>⟨false,λK=>by kernel_rfl⟩)
end
end
end Go.Abs
end
