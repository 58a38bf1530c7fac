import Derived.Test.YtlbhdmbfdcohhaaGreatDoorR22
import Derived.Test.YtlbhdmbfdcohhaaGreatDoorR27
import Derived.Test.YtlbhdmbfdcohhaaGreatDoorR43
set_option linter.all false
set_option maxHeartbeats 100000000
noncomputable section
namespace Go.Abs
open Go.RowKit Go.Proofs
set_option maxRecDepth 100000
section
variable {L n:Nat}
theorem A0u {k:Nat} (h:k<7):(Jw k).length≤44:=by
 have:=Hl.1 (show((List.range 7).all λk=>decide ((Jw k).length≤44))=true by kernel_rfl) k (IV.2 h)
 simpa using this
theorem A5K {k:Nat} (h:k<52):(Jw k).length≤50:=by
 have:=Hl.1 (show((List.range 52).all λk=>decide ((Jw k).length≤50))=true by kernel_rfl) k (IV.2 h)
 simpa using this
theorem A04 {j:Nat} (h:j<54):(exT j).length≤10:=by
 have:=Hl.1 (show((List.range 54).all λk=>decide ((exT k).length≤10))=true by kernel_rfl) j (IV.2 h)
 simpa using this
theorem B80 {i k:Nat} (hi:i<33) (hk:k<7):(cnT i k).length≤60:=by
 have h1:=A4Q hi
 have h2:=A0u hk
 simp only[cnT,Fb,RY,RZ,FA,Lj,Ot]
 omega
theorem B7x (ks:List Nat) (h:∀k∈ks,k<7):(ks.flatMap gvT).length≤51*ks.length:=by
 induction ks with
 |nil=>simp
 |cons k ks ih=>
  have h1:=A0u (h k (by simp))
  have h2:=ih λx hx=>h x (by simp[hx])
  simp only[l00,FA,Lj,gvT,A15,Ot] at h2⊢
  omega
theorem B3R {ts:List (List UInt8)} (h:∀t∈ts,t.length≤10):(ts.flatMap lnT).length≤11*ts.length:=by
 induction ts with
 |nil=>simp
 |cons t ts ih=>
  have h1:=h t (by simp)
  have h2:=ih λu hu=>h u (by simp[hu])
  simp only[l00,FA,Lj,lnT,Ot] at h2⊢
  omega
theorem B9p {o a b k:Nat} (ho:o<4) (ha:a<7) (hb:b<7) (h:RX o a b=some k):k<52:=by
 have:=Hl.1 (show((List.range 196).all λj=>(match RX (j/49) (j/7%7) (j%7) with|some k=>decide (k<52)|none=>true))=true by kernel_rfl) (49*o+7*a+b) (IV.2 (by omega))
 rw[show(49*o+7*a+b)/49=o by omega,show(49*o+7*a+b)/7%7=a by omega,show(49*o+7*a+b)%7=b by omega,h] at this
 simpa using this
theorem B5T {a e k:Nat} (ha:a<7) (he:e<5) (h:TB a e=some k):k<52:=by
 have:=Hl.1 (show((List.range 35).all λj=>(match TB (j/5) (j%5) with|some k=>decide (k<52)|none=>true))=true by kernel_rfl) (5*a+e) (IV.2 (by omega))
 rw[show(5*a+e)/5=a by omega,show(5*a+e)%5=e by omega,h] at this
 simpa using this
section
variable {p:Pr}
theorem XS (h:p.Ok):p.ty.length=p.xs.length∧1≤p.xs.length∧p.xs.length≤4:=by
 have h1:=h.k1
 have h3:=h.k3
 have e:(p.x.ty p.ks).length=p.x.nd.length:=by cases p.x<;>rfl
 have e0:p.x.nd.length≤1:=by cases p.x<;>simp[Ex.nd]
 simp only[Pr.ty,Pr.xs,FA,DP]
 omega
theorem B70 (h:p.Ok):∀k∈p.ty,k<52:=by
 intro k hk
 rcases l2e.1 hk with hk|hk
 ·have:=h.k7 k hk;omega
 ·have hx:=h.x
  cases hq:p.x with
  |no=>rw[hq] at hk;simp[Ex.ty] at hk
  |cn i j=>rw[hq] at hk hx;simp[Ex.ty] at hk;have:=hx.2;omega
  |inp j=>rw[hq] at hk hx;simp only[Ex.ty,l2f] at hk;have:=K3 h.k7 hx;omega
  |bi op l r j=>rw[hq] at hk hx;simp[Ex.ty] at hk;subst hk;exact B9p (by have:=hx.1;have:=hx.2.1;omega) (K3 h.k7 hx.2.2.1) (K3 h.k7 hx.2.2.2.1) hx.2.2.2.2
  |po l e j=>rw[hq] at hk hx;simp[Ex.ty] at hk;subst hk;exact B5T (K3 h.k7 hx.1) hx.2.1 hx.2.2
theorem HW (h:p.Ok):p.out<52:=by
 obtain⟨h1,h2,h3⟩:=XS h
 exact K3 (B70 h) (by omega)
theorem B3A (h:p.Ok):(∀t∈p.ts,t.length<100)∧(p.ts.flatMap lnT).length≤11*p.ks.length+61:=by
 have k3:=h.k3
 have hx:=h.x
 have a1:∀t∈(List.range p.ks.length).map exT,t.length≤10:= λt ht=>by
  obtain⟨j,hj,rfl⟩:=l2a.1 ht
  exact A04 (by have:=IV.1 hj;omega)
 have a2:(∀t∈p.x.tx,t.length≤60)∧p.x.tx.length≤1:=by
  cases hq:p.x with
  |no=>simp[Ex.tx]
  |cn i j=>rw[hq] at hx;simp[Ex.tx];exact B80 hx.1 hx.2
  |inp j=>rw[hq] at hx;have hj:j<p.ks.length:=hx;simp[Ex.tx];exact l1m (A04 (by omega)) (by decide)
  |bi op l r j=>rw[hq] at hx;have h1:=hx.1;have h2:=hx.2.1;have h3:=hx.2.2.1;have h4:=hx.2.2.2.1;simp[Ex.tx];exact l1m (A04 (by omega)) (by decide)
  |po l e j=>rw[hq] at hx;have h1:=hx.1;have h2:=hx.2.1;simp[Ex.tx];exact l1m (A04 (by omega)) (by decide)
 have a3:(p.x.tx.flatMap lnT).length≤61:=by
  match hq:p.x.tx with
  |[]=>simp
  |[t]=>have:=a2.1 t (by rw[hq];simp);simp[lnT];omega
  |t::u::l=>rw[hq] at a2;simp at a2
 refine⟨λt ht=> ?_,?_⟩
 ·rcases l2e.1 ht with ht|ht
  ·have:=a1 t ht;omega
  ·have:=a2.1 t ht;omega
 ·have:=B3R a1
  simp only[Pr.ts,l2g,FA,l1u,List.length_range] at this⊢
  omega
def Pr.txt (p:Pr):List UInt8:=A12 p.id p.ks p.ts p.out
theorem XR (h:p.Ok):p.txt.length<390:=by
 have k3:=h.k3
 have h1:=B7x p.ks h.k7
 have h2:=(B3A h).2
 have h3:=A5K (HW h)
 have h4:=A92 p.id
 simp only[Pr.txt,A12,FA,Lj,Ot,Pm,C1J]
 omega
abbrev Pr.cs (p:Pr):List AV:=Bx p.id (BC p.ks) (BU p.xs) (uu p.out)
theorem A69 (hL:100<L) (h:p.Ok):CS (rt (L+20) (n+44)) Eg [.agg p.cs] (Bo true):=by
 obtain⟨h1,h2,h3⟩:=XS h
 have:=h.k3
 have:=h.i1
 have:=h.i2
 exact B3g hL (C1B h) h1 (λk hk=>by have:=h.k7 k hk;omega) (by omega) h2 (by omega) (by omega) (by omega)
theorem B3z (hL:100<L) (h:p.Ok):CS (rt (L+20) (n+46)) DZ [.agg p.cs] (Bo true):=by
 obtain⟨h1,h2,h3⟩:=XS h
 have:=h.k3
 have:=h.i1
 have:=h.i2
 exact B2t hL (C1A h) rfl h1 (λk hk=>by have:=h.k7 k hk;omega) (by omega) h2 (by omega) (by omega) (by omega)
theorem B8p (hL:100<L) (h:p.Ok):CS (rt (L+20) (n+45)) HL [.agg p.cs] (.tup [S p.txt,I 0]):=by
 obtain⟨h1,h2,h3⟩:=XS h
 obtain⟨t1,t2⟩:=B3B (L:=L) (n:=n+3) h
 have:=h.k3
 exact B3h hL h.i2 (A69 hL h) (λi hi=>(t2 i hi).1) (B3A h).1 t1 (λk hk=>by have:=h.k7 k hk;omega) (by omega) (by omega) (HW h)
theorem B8o (hL:100<L) (h:p.Ok):CS (rt (L+20) (n+47)) EM [.agg p.cs] (.tup [S p.txt,I 0]):=by
 obtain⟨h1,h2,h3⟩:=XS h
 obtain⟨t1,t2⟩:=B3B (L:=L) (n:=n+5) h
 have:=h.k3
 exact B2u hL h.i2 (B3z hL h) (λi hi=>(t2 i hi).2) (B3A h).1 t1 (λk hk=>by have:=h.k7 k hk;omega) (by omega) (by omega) (HW h)
end
end
section
variable {L n:Nat} {K:KV}
theorem B6l {a b:List UInt8} (hL:10<L) (ha:a.length<390) (hb:b.length<390):CS (rt (L+20) (n+7)) Ef [.agg [S a,S b]] (S (FZ [a,b])):=by
 intro K hK
 rw[Zs]
 unfold QG
 rw[EY (by rfl)]
 have hr:Ax [(A6 [],Row.cells true AE [S a,S b])] (A6 [])=some (.cells true AE [S a,S b]):=A1 (H:=[]) (by simp)
 have f0:∀K:AV→Al,AN 0 (.ptr (A6 []) 0 0) K=K (.ptr (A6 []) 0 0):= λK=>id rfl
 have f1:∀K:AV→Al,AN 1 (.ptr (A6 []) 0 0) K=K (.ptr (A6 []) 1 0):= λK=>id rfl
 have l0:∀K:AV→Al,Aq Ae (.ptr (A6 []) 0 0) [(A6 [],Row.cells true AE [S a,S b])] K=K (S a):= λK=>id rfl
 have l1:∀K:AV→Al,Aq Ae (.ptr (A6 []) 1 0) [(A6 [],Row.cells true AE [S a,S b])] K=K (S b):= λK=>id rfl
 have bs:∀K:KV,Fh A4 1 Ae 2 [(0,1,S a),(1,1,S b)] [(A6 [],Row.cells true AE [S a,S b])] K=K (.sl 1 1 0 2) ((1,.cells false A4 (Bn [a,b]))::[(A6 [],Row.cells true AE [S a,S b])]):= λK=>id rfl
 rw[f0,l0,f1,l1,bs]
 have hf:OM true depth [.sl 1 1 0 2] [.list 2 (Bn [a,b])] ((1,.cells false A4 (Bn [a,b]))::[(A6 [],Row.cells true AE [S a,S b])]) (true||false):=A2 (A1M (e:=A4) (.inr ⟨1,false,rfl,rfl,rfl⟩) (by decide) (λs:List UInt8=>Value.string ⟨⟨s⟩⟩) [a,b] rfl) Bt
 rw[Bc (A9w (L:=L) (n:=n) (l:=[a,b]) (by simp) (by simp;omega) (λs hs=>by simp at hs;rcases hs with rfl|rfl<;>assumption)) hf]
 exact hK _ _ (λb=>⟨false,Ed⟩)
end
section
variable {L n:Nat}
theorem B3j {zs:List Int} {H:Hp} {K:AV→Al} (hL:100<L) (hl:zs.length<100) (hz:∀z∈zs, -10≤z∧z<1090):Ah (rt (L+20) (n+7)) Di [.list zs.length (Et zs)] H K=K (S (GT zs)):=
 Bc (A3k (n:=n+2) hl (by omega) hz) (A2 (q:=false) (q':=false) OA Bt)
theorem B37 {zs:List (List UInt8)} {H:Hp} {K:AV→Al} (hL:100<L) (hl:zs.length<100) (hz:∀z∈zs,z.length<390):Ah (rt (L+20) (n+7)) E4 [.list zs.length (Bn zs)] H K=K (S (FZ zs)):=
 Bc (A9w (n:=n+1) hl (by omega) hz) (A2 (q:=false) (q':=false) OA Bt)
theorem B8m {a b:List UInt8} {H:Hp} {K:AV→Al} (hL:100<L) (ha:a.length<390) (hb:b.length<390):Ah (rt (L+20) (n+7)) Ef [.agg [S a,S b]] H K=K (S (FZ [a,b])):=
 Bc (q:=false) (B6l (n:=n) (by omega) ha hb) (λK=>by kernel_rfl)
theorem A07 {z:Int} {K:AV→Al}:RN 1 Ab 1 [(0,1,I z)] K=K (.list ([z]:List Int).length (Et [z])):=id rfl
theorem B85 {a b c d e f:Int} {K:AV→Al}:RN 1 Ab 6 [(0,1,I a),(1,1,I b),(2,1,I c),(3,1,I d),(4,1,I e),(5,1,I f)] K=K (.list ([a,b,c,d,e,f]:List Int).length (Et [a,b,c,d,e,f])):=id rfl
theorem B0g {z:List UInt8} {K:AV→Al}:RN 1 Ae 1 [(0,1,S z)] K=K (.list ([z]:List (List UInt8)).length (Bn [z])):=id rfl
theorem B8M (a b:List UInt8):OI [(a,b)]=FZ [a,b]:=by simp[OI]
theorem C3T {K:KV} {x:Al} {c:Nat} {R0:Row} {cs:List AV} {ts:ZQ} {k102:AV→AV→Hp→Al} (ht:TmsOk ts) (hL:100<L) (hR:R0= .cells true Aj cs) (h28:∀H,Ax H c=some R0→∀K,Aq A8 (.ptr c 28 0) H K=K (Fq ts)) {l:List UInt8} (hb:l.length<100000000)
 (hx:∀H',Ax H' c=some R0→Wf H'→k102 (.ptr c 0 0) (S (l++Ox ts)) H'=x):∀(f i:Nat) (H:Hp),i≤ts.length→ts.length-i<f→Ax H c=some R0→Wf H→
 Ni (L+20) (rt (L+20) (n+7)) K k102 f (.ptr c 0 0) (S (l++Ox (ts.take i))) (I i) H=x:=by
 have hlen:=ht.len
 intro f
 induction f with
 |zero=>intro i H _ h;omega
 |succ f ih=>
  intro i H hi hf hc w
  rw[Ze]
  unfold QA Ar
  have f26:∀K:AV→Al,AN 26 (.ptr c 0 0) K=K (.ptr c 26 0):= λK=>id rfl
  have f2:∀K:AV→Al,AN 2 (.ptr c 26 0) K=K (.ptr c 28 0):= λK=>id rfl
  rw[f26,f2,h28 H hc,NS]
  by_cases h:i<ts.length
  ·have hr:=ht.rng _ (QS h)
   have hq1:=TN (z:=ts[i].2) (by omega) (by omega)
   have hq2:=TO ts[i].2
   rw[FW (by omega),Dn,f26,f2,h28 H hc,Tb h,lTm,Bf (cs:=[zI,zS,zS]) rfl]
   have hn0:=A1 (H:=H) (x:= .cells true AQ [zI,zS,zS]) (by simp)
   rw[B7 (vs:=Nf ts[i]) hn0 rfl rfl rfl]
   have hr1:=AC (q:=true) (e:=AQ) (cs:=Nf ts[i]) hn0
   have hclt:=w.lt hc
   have hc1:Ax (upd ((A6 H,Row.cells true AQ [zI,zS,zS])::H) (A6 H) (.cells true AQ (Nf ts[i]))) c=some R0:=by
    rw[Au (by omega)];exact Bj hclt hc
   have w1:=Cj (r:=A6 H) (y:= .cells true AQ (Nf ts[i])) (BE (x:= .cells true AQ [zI,zS,zS]) w)
   generalize upd ((A6 H,Row.cells true AQ [zI,zS,zS])::H) (A6 H) (.cells true AQ (Nf ts[i]))=H1 at hr1 hc1 w1
   generalize A6 H=t at hr1
   have g0:∀K:AV→Al,AN 0 (.ptr t 0 0) K=K (.ptr t 0 0):= λK=>id rfl
   have g1:∀K:AV→Al,AN 1 (.ptr t 0 0) K=K (.ptr t 1 0):= λK=>id rfl
   have m0:∀K,Aq Ab (.ptr t 0 0) H1 K=K (I ts[i].1):= λK=>AY (p:=0) rfl hr1 (show 0<3 by decide)
   have m1:∀K,Aq Ap (.ptr t 1 0) H1 K=K (.agg (qa ts[i].2)):= λK=>EX (p:=1) rfl hr1 (show 3≤3 from O8 _)
   have a1:=Wj (ts.take i) (λt h=>by have h1:=ht.rng t (l24 h);have:=TN (z:=t.2) (by omega) (by omega);have:=TO t.2;omega)
   have a2:(ts.take i).length≤6:=by simp;omega
   have a3:=Ei [ts[i].1]
   have a4:=Eh [qn ts[i].2,qd ts[i].2] (by simp;omega)
   simp only[Lj,Ot] at a3 a4
   rw[g0,BJ,m0,BJ,A07,BJ,B3j hL (by simp) (by simp;omega),BJ,Bp (by rw[FA];omega),BJ,g1,BJ,m1,BJ,B8m hL (by omega) (by omega),BJ,Bp (by simp only[FA];omega),BJ,DS (by omega)]
   have e1:l++Ox (ts.take i)++GT [ts[i].1]++FZ [qn ts[i].2,qd ts[i].2]=l++Ox (ts.take (i+1)):=by
    rw[A3b ts h];simp[tmB,B8M]
   rw[e1]
   exact ih (i+1) H1 (by omega) (by omega) hc1 w1
  ·rw[FX (by omega),BD]
   have:i=ts.length:=by omega
   subst this
   rw[l06]
   exact hx H hc w
end
section
variable {L n:Nat}
section
variable {m:ND} {u o:UD} {ca cb ra rb un pt:List UInt8} {ts:ZQ} {ps:List (List UInt8)} {ins nds:AV} {kd id vd pe:Int} {r:RD}
theorem C3V {H:Hp} {K:AV→Al} (hL:100<L) (hl:ps.length<100) (hz:∀z∈ps,z.length<390):Ah (rt (L+20) (n+7)) E4 [DO ps] H K=K (S (FZ ps)):=by
 cases ps with
 |nil=>
  refine Bc (q:=false) (args':=[AO]) ?_ (λK=>by kernel_rfl)
  exact λK hK=>by
   rw[Tg]
   unfold Np Ar
   simp only[Cp]
   rw[Rw]
   unfold Lt Ar
   have el:∀K,AP Ad AO K=K (I 0):= λK=>_root_.id rfl
   rw[el,FX (by decide),BD]
   exact hK _ _ (λb=>⟨false,λK=>by kernel_rfl⟩)
 |cons p l=>exact B37 hL hl hz
set_option maxHeartbeats 2000000 in
theorem A87 (hL:100<L) (hm:m.ok) (hkd:kd=1∨kd=2∨kd=3) (ht:TmsOk ts) (hI:Sl ins) (hN:Sl nds) (hp:ps.length≤6) (hpl:∀s∈ps,s.length<390) (hun:un.length<390) (hpt:pt.length<390)
 (hr:r.k=0∨r.k=1∨r.k=2∨r.k=3) (hrl:∀q∈[(r.a1,r.a2),(r.b1,r.b2),(r.c1,r.c2),(r.d1,r.d2)],q.1.length<390∧q.2.length<390) (hv:0≤vd∧vd≤3) (hcl:ca.length<10∧cb.length<10∧ra.length<10∧rb.length<10)
 (hup:PS (rt (L+20) (n+61)) Gt [.agg (Cc u)] (.tup [S un,I 0])) (hpp:LS (rt (L+20) (n+61)) HL [.agg (Bx id ins nds o)] (.tup [S pt,I pe])):
 CS (rt (L+20) (n+62)) LQ [.agg (DD kd m u ca cb (Fq ts) ra rb (DO ps) id ins nds o r vd)] (S (Lc kd m un ca cb ts ra rb ps pt (if kd=3 then Rv r vd else[]))):=by
 intro K hK
 obtain⟨q1,q2,q3,q4,q5,q6,q7,q8,q9,q10⟩:=hm
 have hT:=Fw ts
 have hP:Sl (DO ps):=by cases ps with|nil=>exact .inl rfl|cons p l=>exact .inr ⟨_,_,rfl⟩
 have hlt:=ht.len
 have a1:=Ei [kd,m.lab,m.num,m.itm,m.tim,m.day]
 have a2:=Eh [un] (by simpa using hun)
 have a3:=Eh [ca,cb] (by simp;omega)
 have a4:=Ei [(ts.length:Int)]
 have a5:=Wj ts (λt h=>by have:=ht.rng t h;have:=TN (z:=t.2) (by omega) (by omega);have:=TO t.2;omega)
 have a6:=Eh [ra,rb] (by simp;omega)
 have a7:=Ei [(ps.length:Int)]
 have a8:=Eh ps hpl
 have a9:=Eh [pt] (by simpa using hpt)
 simp only[Lj,Ot] at a1 a2 a3 a4 a6 a7 a9
 rw[A19]
 unfold Ss Ar
 rw[EY (PV hT hP hI hN)]
 have hc0:=A1 (H:=[]) (x:=Jj kd m u ca cb (Fq ts) ra rb (DO ps) id ins nds o r vd) (by simp)
 have w0:=BE (x:=Jj kd m u ca cb (Fq ts) ra rb (DO ps) id ins nds o r vd) Fv
 generalize ((A6 [],Jj kd m u ca cb (Fq ts) ra rb (DO ps) id ins nds o r vd)::([]:Hp))=H0 at hc0 w0
 generalize A6 []=c at hc0
 have f0:∀{j:Nat} {K:AV→Al},AN j (.ptr c 0 0) K=K (.ptr c j 0):= λ{j K}=>by rw[fA,Ln]
 have g0:∀{K:AV→Al},AN 0 (.ptr c 26 0) K=K (.ptr c 26 0):=_root_.id rfl
 have g2:∀{K:AV→Al},AN 2 (.ptr c 26 0) K=K (.ptr c 28 0):=_root_.id rfl
 have g3:∀{K:AV→Al},AN 3 (.ptr c 26 0) K=K (.ptr c 29 0):=_root_.id rfl
 have nm:∀{zs:List Int} {H:Hp} {K:AV→Al},zs.length<100→(∀z∈zs, -10≤z∧z<1090)→Ah (rt (L+20) (n+61)) Di [.list zs.length (Et zs)] H K=K (S (GT zs)):= λh1 h2=>B3j (n:=n+54) hL h1 h2
 have tx:∀{zs:List (List UInt8)} {H:Hp} {K:AV→Al},zs.length<100→(∀z∈zs,z.length<390)→Ah (rt (L+20) (n+61)) E4 [.list zs.length (Bn zs)] H K=K (S (FZ zs)):= λh1 h2=>B37 (n:=n+54) hL h1 h2
 have rt':∀{a b:List UInt8} {H:Hp} {K:AV→Al},a.length<390→b.length<390→Ah (rt (L+20) (n+61)) Ef [.agg [S a,S b]] H K=K (S (FZ [a,b])):= λh1 h2=>B8m (n:=n+54) hL h1 h2
 simp only[Cp]
 rw[f0,cU hc0,hup,CW,CV]
 simp only[f0,BJ,cI0 hc0,cI1 hc0,cI2 hc0,cI3 hc0,cI4 hc0,cI5 hc0,B85,B0g,g0,g2,cC hc0,cT hc0,NS,A07]
 rw[nm (by simp) (by simp only[WG,List.mem_nil_iff,or_false];rintro z (rfl|rfl|rfl|rfl|rfl|rfl)<;>omega),BJ,tx (by simp) (by simpa using hun),BJ,Bp (by omega),BJ,rt' (by omega) (by omega),BJ,Bp (by simp only[FA];omega),BJ,nm (by simp) (by simp;omega),BJ,Bp (by simp only[FA];omega),BJ]
 have e0:(AV.v (.int .i64 0))=I ((0:Nat):Int):=rfl
 have et:∀(l:List UInt8),S l=S (l++Ox (ts.take 0)):= λl=>by rw[show Ox (ts.take 0)=[] from rfl,l1o]
 rw[e0,et]
 refine C3T (n:=n+54) ht hL (R0:=Jj kd m u ca cb (Fq ts) ra rb (DO ps) id ins nds o r vd) rfl (λH h K=>cT h) (by simp only[FA];omega) ?_ (L+20) 0 H0 (by omega) (by omega) hc0 w0
 intro H1 hc1 w1
 have hpp':∀K,Ah (rt (L+20) (n+61)) HL [.agg (Bx id ins nds o)] H1 K=K (.tup [S pt,I pe]):= λK=>by rw[zO];exact hpp false _ _ (Sn hI hN) K
 have txA:∀{H:Hp} {K:AV→Al},Ah (rt (L+20) (n+61)) E4 [DO ps] H K=K (S (FZ ps)):=C3V (n:=n+54) hL (by omega) hpl
 simp only[f0,g3,BJ,cR hc1,cP hc1,Xb,A07,cPr hc1,hpp',CW,CV,B0g,txA]
 rw[rt' (by omega) (by omega),BJ,Bp (by simp only[FA];omega),BJ,nm (by simp) (by simp;omega),BJ,Bp (by simp only[FA];omega),BJ,Bp (by simp only[FA];omega),BJ,tx (by simp) (by simpa using hpt),Bp (by simp only[FA];omega),cI0 hc1,Dz]
 by_cases h3:kd=3
 ·rw[decide_eq_true h3,Dn]
  have jv:∀{j:Nat} {K:AV→Al},AN j (.ptr (A6 H1) 0 0) K=K (.ptr (A6 H1) j 0):= λ{j K}=>by rw[fA,Ln]
  have hn0:=A1 (H:=H1) (x:= .cells true Iu [zI,zS,zS,zS,zS,zS,zS,zS,zS]) (by simp)
  have eR:∀{K:AV→Al},Aq Cu (.ptr c 55 0) H1 K=K (.agg r.cs):= λ{K}=>EX (p:=55) rfl hc1 (show 64≤68 by decide)
  rw[eR,Bf (cs:=[zI,zS,zS,zS,zS,zS,zS,zS,zS]) rfl,B7 (vs:=r.cs) hn0 rfl rfl rfl]
  have hr1:=AC (q:=true) (e:=Iu) (cs:=r.cs) hn0
  have hclt:=w1.lt hc1
  have hc2:Ax (upd ((A6 H1,.cells true Iu [zI,zS,zS,zS,zS,zS,zS,zS,zS])::H1) (A6 H1) (.cells true Iu r.cs)) c=some (Jj kd m u ca cb (Fq ts) ra rb (DO ps) id ins nds o r vd):=by
   rw[Au (by omega)];exact Bj hclt hc1
  generalize upd ((A6 H1,Row.cells true Iu [zI,zS,zS,zS,zS,zS,zS,zS,zS])::H1) (A6 H1) (.cells true Iu r.cs)=H2 at hr1 hc2
  generalize A6 H1=rv at hr1 jv
  have l0:∀{K:AV→Al},Aq Ab (.ptr rv 0 0) H2 K=K (I r.k):= λ{K}=>AY (p:=0) rfl hr1 (show 0<9 by decide)
  have l1:∀{K:AV→Al},Aq Ap (.ptr rv 1 0) H2 K=K (.agg [S r.a1,S r.a2]):= λ{K}=>EX (p:=1) rfl hr1 (show 3≤9 by decide)
  have l3:∀{K:AV→Al},Aq Ap (.ptr rv 3 0) H2 K=K (.agg [S r.b1,S r.b2]):= λ{K}=>EX (p:=3) rfl hr1 (show 5≤9 by decide)
  have l5:∀{K:AV→Al},Aq Ap (.ptr rv 5 0) H2 K=K (.agg [S r.c1,S r.c2]):= λ{K}=>EX (p:=5) rfl hr1 (show 7≤9 by decide)
  have l7:∀{K:AV→Al},Aq Ap (.ptr rv 7 0) H2 K=K (.agg [S r.d1,S r.d2]):= λ{K}=>EX (p:=7) rfl hr1 (show 9≤9 by decide)
  have b1:=Ei [r.k]
  have hra:r.a1.length<390∧r.a2.length<390:=hrl (r.a1,r.a2) (by simp)
  have hrb:r.b1.length<390∧r.b2.length<390:=hrl (r.b1,r.b2) (by simp)
  have hrc:r.c1.length<390∧r.c2.length<390:=hrl (r.c1,r.c2) (by simp)
  have hrd:r.d1.length<390∧r.d2.length<390:=hrl (r.d1,r.d2) (by simp)
  have b2:=Eh [r.a1,r.a2] (by simp;omega)
  have b3:=Eh [r.b1,r.b2] (by simp;omega)
  have b4:=Eh [r.c1,r.c2] (by simp;omega)
  have b5:=Eh [r.d1,r.d2] (by simp;omega)
  have b6:=Ei [vd]
  simp only[Lj,Ot] at b1 b2 b3 b4 b5 b6
  simp only[jv,f0,BJ,l0,l1,l3,l5,l7,cV hc2,A07]
  rw[nm (by simp) (by simp;omega),BJ,Bp (by simp only[FA];omega),BJ,rt' hra.1 hra.2,BJ,Bp (by simp only[FA];omega),BJ,rt' hrb.1 hrb.2,BJ,Bp (by simp only[FA];omega),BJ,rt' hrc.1 hrc.2,BJ,Bp (by simp only[FA];omega),BJ,rt' hrd.1 hrd.2,BJ,Bp (by simp only[FA];omega),BJ,nm (by simp) (by simp;omega),BJ,Bp (by simp only[FA];omega),BJ]
  rw[if_pos h3] at hK⊢
  have e:Lc kd m un ca cb ts ra rb ps pt (Rv r vd)=GT [kd,m.lab,m.num,m.itm,m.tim,m.day]++FZ [un]++FZ [ca,cb]++GT [(ts.length:Int)]++Ox ts++FZ [ra,rb]++GT [(ps.length:Int)]++FZ ps++FZ [pt]++GT [r.k]++FZ [r.a1,r.a2]++FZ [r.b1,r.b2]++FZ [r.c1,r.c2]++FZ [r.d1,r.d2]++GT [vd]:=by
   unfold Lc Rv;simp[OI]
  rw[←e]
  exact hK _ _ (λb=>⟨false,λK=>by kernel_rfl⟩)
 ·rw[decide_eq_false h3,BD]
  rw[if_neg h3] at hK⊢
  have e:Lc kd m un ca cb ts ra rb ps pt []=GT [kd,m.lab,m.num,m.itm,m.tim,m.day]++FZ [un]++FZ [ca,cb]++GT [(ts.length:Int)]++Ox ts++FZ [ra,rb]++GT [(ps.length:Int)]++FZ ps++FZ [pt]:=by
   unfold Lc;simp only[B8M,l1o,List.nil_append]
  rw[←e]
  exact hK _ _ (λb=>⟨false,λK=>by kernel_rfl⟩)
end
end
section
variable {L n:Nat}
theorem B6M:PS (rt (L+20) (n+40)) Us [.agg [I 0,AO,AO]] (.tup [S [],I 200]):=B2 (λH K=>by kernel_rfl) (by kernel_rfl)
theorem B6N:PS (rt (L+20) (n+40)) WT [.agg [I 0,AO,AO]] (.tup [Bo true,Bo false]):=B2 (λH K=>by kernel_rfl) (by kernel_rfl)
section
variable {m:ND} {u o:UD} {ca cb ra rb:List UInt8} {T P ins nds:AV} {kd id vd:Int} {r:RD} {b:List UInt8} {q:Bool}
theorem A88 (hT:Sl T) (hP:Sl P) (hI:Sl ins) (hN:Sl nds) (hb:b.length≤32768)
 (hs:CS (rt (L+20) (n+61)) D9 [.agg (DD kd m u ca cb T ra rb P id ins nds o r vd)] (.tup [Bo true,Bo q]))
 (hB:CS (rt (L+20) (n+61)) LQ [.agg (DD kd m u ca cb T ra rb P id ins nds o r vd)] (S b)):
 CS (rt (L+20) (n+62)) JQ [.agg (DD kd m u ca cb T ra rb P id ins nds o r vd)] (.tup [S b,I 0]):=by
 intro K hK
 rw[Ub]
 unfold O3 Ba Bu Ar Ev CK
 rw[EY (PV hT hP hI hN)]
 have hc0:=A1 (H:=[]) (x:=Jj kd m u ca cb T ra rb P id ins nds o r vd) (by simp)
 generalize ((A6 [],Jj kd m u ca cb T ra rb P id ins nds o r vd)::([]:Hp))=H0 at hc0
 generalize A6 []=c at hc0
 have f0:∀{j:Nat} {K:AV→Al},AN j (.ptr c 0 0) K=K (.ptr c j 0):= λ{j K}=>by rw[fA,Ln]
 have hs':∀K,Ah (rt (L+20) (n+61)) D9 [.agg (DD kd m u ca cb T ra rb P id ins nds o r vd)] H0 K=K (.tup [Bo true,Bo q]):= λK=>Bc hs (Td hT hP hI hN)
 have hB':∀K,Ah (rt (L+20) (n+61)) LQ [.agg (DD kd m u ca cb T ra rb P id ins nds o r vd)] H0 K=K (S b):= λK=>Bc hB (Td hT hP hI hN)
 have lS:∀{K:AV→Al},AP Ae (S b) K=K (I b.length):= λ{K}=>MY rfl
 rw[cA hc0,hs',CW,CV,ntT,BD,cA hc0,hB',f0,cS hc0,B6N (n:=n+21),CW,CV,f0,cS hc0,B6M (n:=n+21),CW,CV,lS,Ej,decide_eq_false (by omega)]
 simp only[gTF,gT,Co,ntT,Vk]
 rw[BD]
 exact hK _ _ (λb=>⟨false,λK=>by kernel_rfl⟩)
theorem C6c {cs:List AV} (hL:40000<L) (h1:cs.all AV.one=true) (hz:cs.length=68) (hfx:∀H,OM true depth [.agg cs] [.agg cs] H false) (hb:b.length≤32768) (hB:CS (rt (L+20) (n+62)) JQ [.agg cs] (.tup [S b,I 0])):CS (rt (L+20) (n+63)) GB [.agg cs] (S (sha b)):=by
 intro K hK
 rw[Wz]
 unfold Sw Ar
 rw[EY h1]
 have hc0:=A1 (H:=[]) (x:= .cells true Aj cs) (by simp)
 generalize ((A6 [],Row.cells true Aj cs)::([]:Hp))=H0 at hc0
 rw[Bm rfl hz.symm hc0,Bc hB (hfx H0),CW,CV,GF]
 show Av (.v (.bool false)) _ _=_
 rw[BD]
 have hs:∀K,Ah (rt (L+20) (n+62)) NO [S b] H0 K=K (S (sha b)):= λK=>Bc (B8k (L:=L+20) (n:=n+59) (by omega) (by omega)) (A2 (q:=false) (q':=false) Ed Bt)
 rw[hs]
 exact hK _ _ (λb=>⟨false,λK=>by kernel_rfl⟩)
end
end
section
variable {L n:Nat}
theorem C3O {k:Nat} (hk:k=1∨k=2∨k=3):∀K,eEq Gu BinOp.eql (AV.agg (rr k).cs) (AV.agg [zI,zS,zS,zS,zS,zS,zS,zS,zS]) K=K (Bo false):= λK=>by rw[←qO];rcases hk with rfl|rfl|rfl<;>kernel_rfl
theorem B9b {k:Nat} (hk:k=1∨k=2∨k=3):PS (rt (L+20) (n+40)) PP [.agg (rr k).cs] (Bo true):=by
 rcases hk with rfl|rfl|rfl<;>exact B2 (λH K=>by kernel_rfl) (by as_aux_lemma=>kernel_rfl)
theorem B3f {k:Nat} (hk:k=1∨k=2∨k=3):PS (rt (L+20) (n+40)) Gr [.agg (rr k).cs] (Bo true):=by
 rcases hk with rfl|rfl|rfl<;>exact B2 (λH K=>by kernel_rfl) (by as_aux_lemma=>kernel_rfl)
theorem A4n:PS (rt (L+20) (n+40)) Gr [.agg r0.cs] (Bo false):=B2 (λH K=>by kernel_rfl) (by kernel_rfl)
end
section
variable {L n:Nat}
structure CB where
 m:ND
 c:Int
 r:Int
 ts:ZQ
structure CB.Ok (b:CB):Prop where
 m:b.m.ok
 c1: -80≤b.c
 c2:b.c≤80
 r1:0≤b.r
 r2:b.r≤8
 ts:TmsOk b.ts
inductive Cd where
 |re (b:CB) (u:Nat)
 |co (b:CB) (p:Pr) (ps:List (List UInt8)) (t:Option (Nat×Int))
def Cd.kd:Cd→Int
 | .re _ _=>1
 | .co _ _ _ none=>2
 | .co _ _ _ (some _)=>3
def Cd.ps:Cd→List (List UInt8)
 | .re _ _=>[]
 | .co _ _ ps _=>ps
abbrev cdC (kd:Int) (b:CB) (u:UD) (ps:List (List UInt8)) (id:Int) (ins nds:AV) (o:UD) (r:RD) (vd:Int):List AV:=DD kd b.m u (qn b.c) (qd b.c) (Fq b.ts) (qn b.r) (qd b.r) (DO ps) id ins nds o r vd
def Cd.cs:Cd→List AV
 | .re b u=>cdC 1 b (uu u) [] 0 AO AO u0 r0 0
 | .co b p ps none=>cdC 2 b (uu p.out) ps p.id (BC p.ks) (BU p.xs) (uu p.out) r0 0
 | .co b p ps (some (k,vd))=>cdC 3 b (uu p.out) ps p.id (BC p.ks) (BU p.xs) (uu p.out) (rr k) vd
def Cd.body:Cd→List UInt8
 | .re b u=>Lc 1 b.m (Jw u) (qn b.c) (qd b.c) b.ts (qn b.r) (qd b.r) [] [] []
 | .co b p ps none=>Lc 2 b.m (Jw p.out) (qn b.c) (qd b.c) b.ts (qn b.r) (qd b.r) ps p.txt []
 | .co b p ps (some (k,vd))=>Lc 3 b.m (Jw p.out) (qn b.c) (qd b.c) b.ts (qn b.r) (qd b.r) ps p.txt (Rv (rr k) vd)
def Cd.Ok:Cd→Prop
 | .re b u=>b.Ok∧u<7
 | .co b p ps t=>b.Ok∧p.Ok∧ps.length=p.ks.length∧(∀s∈ps,s.length=32)∧(match t with|none=>True|some (k,vd)=>(k=1∨k=2∨k=3)∧1≤vd∧vd≤3)
def Cd.id (c:Cd):List UInt8:=sha c.body
theorem L5 (ps:List (List UInt8)):Sl (DO ps):=by cases ps with|nil=>exact .inl rfl|cons p l=>exact .inr ⟨_,_,rfl⟩
theorem TP {ps:List (List UInt8)} (h:1≤ps.length):DO ps=Ls ps:=by cases ps with|nil=>simp at h|cons p l=>rfl
theorem C3P {k:Nat} (h:k=1∨k=2∨k=3):(rr k).k=0∨(rr k).k=1∨(rr k).k=2∨(rr k).k=3:=by rcases h with rfl|rfl|rfl<;>decide
theorem A82 {k:Nat} (h:k=1∨k=2∨k=3):∀q∈[((rr k).a1,(rr k).a2),((rr k).b1,(rr k).b2),((rr k).c1,(rr k).c2),((rr k).d1,(rr k).d2)],q.1.length<390∧q.2.length<390:=by
 rcases h with rfl|rfl|rfl<;>decide
theorem A4p:∀q∈[(r0.a1,r0.a2),(r0.b1,r0.b2),(r0.c1,r0.c2),(r0.d1,r0.d2)],q.1.length<390∧q.2.length<390:=by decide
section
variable {b:CB} {p:Pr} {ps:List (List UInt8)} {kd:Int} {tail:List UInt8} {un pt:List UInt8}
theorem CB.Ok.cl (h:b.Ok):(qn b.c).length<10∧(qd b.c).length<10∧(qn b.r).length<10∧(qd b.r).length<10:=by
 have h1:=TN h.c1 (show b.c<81 by have:=h.c2;omega)
 have h2:=TN (z:=b.r) (by have:=h.r1;omega) (by have:=h.r2;omega)
 have h3:=TO b.c
 have h4:=TO b.r
 omega
theorem A2a (h:b.Ok) (hu:un.length<390) (hp:ps.length≤6) (hpl:∀s∈ps,s.length<390) (hpt:pt.length<390) (ht:tail.length≤4000):(Lc kd b.m un (qn b.c) (qd b.c) b.ts (qn b.r) (qd b.r) ps pt tail).length≤32768:=by
 obtain⟨q1,q2,q3,q4⟩:=h.cl
 have l1:=Ei [kd,b.m.lab,b.m.num,b.m.itm,b.m.tim,b.m.day]
 have l2:=Eh [un] (by simpa using hu)
 have l3:=Mb [(qn b.c,qd b.c)] (by simp;omega)
 have l4:=Ei [(b.ts.length:Int)]
 have l5:=Wj b.ts (λt ht=>by
  have:=h.ts.rng t ht
  have:=TN (z:=t.2) (by omega) (by omega)
  have:=TO t.2
  omega)
 have l6:=Mb [(qn b.r,qd b.r)] (by simp;omega)
 have l7:=Ei [(ps.length:Int)]
 have l8:=Eh ps hpl
 have l9:=Eh [pt] (by simpa using hpt)
 have l0:=h.ts.len
 simp only[Lc,FA,Lj,Ot] at l1 l2 l3 l4 l5 l6 l7 l8 l9⊢
 omega
theorem B2W {k:Nat} {vd:Int} (h:k=1∨k=2∨k=3):(Rv (rr k) vd).length≤4000:=by
 have l1:=Ei [(rr k).k]
 have l2:=Mb _ (A82 h)
 have l3:=Ei [vd]
 simp only[Rv,FA,Lj,Ot] at l1 l2 l3⊢
 omega
end
section
variable {c:Cd}
theorem JE:c.cs.all AV.one=true:=by
 match c with
 | .re b u=>exact PV (Fw _) (L5 _) (.inl rfl) (.inl rfl)
 | .co b p ps none=>exact PV (Fw _) (L5 _) (.inr ⟨_,_,rfl⟩) (.inr ⟨_,_,rfl⟩)
 | .co b p ps (some (k,vd))=>exact PV (Fw _) (L5 _) (.inr ⟨_,_,rfl⟩) (.inr ⟨_,_,rfl⟩)
theorem Ct:c.cs.length=68:=by
 match c with
 | .re b u=>rfl
 | .co b p ps none=>rfl
 | .co b p ps (some (k,vd))=>rfl
theorem YS (H:Hp):OM true depth [.agg c.cs] [.agg c.cs] H false:=by
 match c with
 | .re b u=>exact Td (Fw _) (L5 _) (.inl rfl) (.inl rfl)
 | .co b p ps none=>exact Td (Fw _) (L5 _) (.inr ⟨_,_,rfl⟩) (.inr ⟨_,_,rfl⟩)
 | .co b p ps (some (k,vd))=>exact Td (Fw _) (L5 _) (.inr ⟨_,_,rfl⟩) (.inr ⟨_,_,rfl⟩)
theorem Xj (h:c.Ok):c.body.length≤32768:=by
 match c,h with
 | .re b u,⟨hb,hu⟩=>exact A2a hb (by have:=EP u;omega) (by simp) (by simp) (by simp) (by simp)
 | .co b p ps none,⟨hb,hp,h1,h2,_⟩=>exact A2a hb (by have:=EP p.out;omega) (by have:=hp.k3;omega) (λs hs=>by rw[h2 s hs];decide) (XR hp) (by simp)
 | .co b p ps (some (k,vd)),⟨hb,hp,h1,h2,h3⟩=>exact A2a hb (by have:=EP p.out;omega) (by have:=hp.k3;omega) (λs hs=>by rw[h2 s hs];decide) (XR hp) (B2W h3.1)
theorem C3h:RV (rt (L+20) (n+40)) EM [.agg (Bx 0 AO AO u0)] (.tup [S [],I 90]):= λb=>by kernel_rfl
theorem C3W:RV (rt (L+20) (n+40)) HL [.agg (Bx 0 AO AO u0)] (.tup [S [],I 90]):= λb=>by kernel_rfl
theorem B4P (hL:40000<L) (h:c.Ok) (hn:c.ps.Nodup):CS (rt (L+20) (n+63)) JR [.agg c.cs] (S c.id):=by
 refine C65 hL JE Ct YS (Xj h) ?_
 match c,h,hn with
 | .re b u,⟨hb,hu⟩,_=>
  have st:=B0y (L:=L) (n:=n) (o:=u0) hb.m (Fw b.ts) (B2r (L:=L) (n:=n+20)).o (TA L (n+20) u (by omega)).o (A7H (L:=L) (n:=n+16) hb.c1 hb.c2 hb.r1 hb.r2 hb.ts).ls
  exact A7J (n:=n) (ps:=[]) (vd:=0) (kd:=1) (by omega) hb.m (.inl rfl) hb.ts (.inl rfl) (.inl rfl) (by simp) (by simp) (by have:=EP u;omega) (by simp) (.inl rfl) A4p (by decide) hb.cl st.ls (Rk L (n+21) u (by omega)) (C3h (L:=L) (n:=n+21)).ls
 | .co b p ps none,⟨hb,hp,h1,h2,_⟩,hn=>
  have k1:=hp.k1
  have k3:=hp.k3
  have hps:DO ps= .list p.ks.length (Bn ps):=by rw[TP (by omega),Ls,h1]
  have hpa:=(A39 (L:=L) (n:=n+53) (ps:=ps) hn (by omega) (by omega) (by omega) h2).ls
  rw[Ls,h1] at hpa
  have cp:=A0s (L:=L) (n:=n) (kd:=2) (m:=b.m) (ca:=qn b.c) (cb:=qd b.c) (ra:=qn b.r) (rb:=qd b.r) (r:=r0) (vd:=0) (Fw b.ts) ⟨_,_,rfl⟩ hpa (B3z (L:=L) (n:=n+13) (by omega) hp).ls
  have st:=B0x (L:=L) (n:=n) hb.m (Fw b.ts) ⟨_,_,rfl⟩ ⟨_,_,rfl⟩ ⟨_,_,rfl⟩ cp.ls (TA L (n+20) p.out (HW hp)).o (A7H (L:=L) (n:=n+16) hb.c1 hb.c2 hb.r1 hb.r2 hb.ts).ls
  rw[←hps] at st
  exact A7J (n:=n) (ps:=ps) (vd:=0) (kd:=2) (by omega) hb.m (.inr (.inl rfl)) hb.ts (.inr ⟨_,_,rfl⟩) (.inr ⟨_,_,rfl⟩) (by omega) (λs hs=>by rw[h2 s hs];decide) (by have:=EP p.out;omega) (XR hp) (.inl rfl) A4p (by decide) hb.cl st.ls (Rk L (n+21) _ (HW hp)) (B8o (L:=L) (n:=n+14) (by omega) hp).ls
 | .co b p ps (some (k,vd)),⟨hb,hp,h1,h2,h3,h4,h5⟩,hn=>
  have k1:=hp.k1
  have k3:=hp.k3
  have hps:DO ps= .list p.ks.length (Bn ps):=by rw[TP (by omega),Ls,h1]
  have hpa:=(A39 (L:=L) (n:=n+53) (ps:=ps) hn (by omega) (by omega) (by omega) h2).ls
  rw[Ls,h1] at hpa
  have cp:=A0s (L:=L) (n:=n) (kd:=3) (m:=b.m) (ca:=qn b.c) (cb:=qd b.c) (ra:=qn b.r) (rb:=qd b.r) (r:=rr k) (vd:=vd) (Fw b.ts) ⟨_,_,rfl⟩ hpa (B3z (L:=L) (n:=n+13) (by omega) hp).ls
  have st:=B0w (L:=L) (n:=n) hb.m (Fw b.ts) ⟨_,_,rfl⟩ ⟨_,_,rfl⟩ ⟨_,_,rfl⟩ (C3O h3) (B9b (L:=L) (n:=n+20) h3).o h4 h5 (TA L (n+20) p.out (HW hp)).o (A7H (L:=L) (n:=n+16) hb.c1 hb.c2 hb.r1 hb.r2 hb.ts).ls cp.ls
  rw[←hps] at st
  exact A7J (n:=n) (ps:=ps) (vd:=vd) (kd:=3) (by omega) hb.m (.inr (.inr rfl)) hb.ts (.inr ⟨_,_,rfl⟩) (.inr ⟨_,_,rfl⟩) (by omega) (λs hs=>by rw[h2 s hs];decide) (by have:=EP p.out;omega) (XR hp) (C3P h3) (A82 h3) (by omega) hb.cl st.ls (Rk L (n+21) _ (HW hp)) (B8o (L:=L) (n:=n+14) (by omega) hp).ls
end
end
section
variable {L n:Nat}
section
variable {R:Rt} {K:KV} {ps:List (List UInt8)} {H:Hp} {y:Al}
theorem B76 {k39:AV→AV→AV→Hp→Al} {i:Nat} (hi:i<ps.length) (hb:ps.length<100) (hy:K (.tup [Bo false,I ps.length]) H=y) (hk:k39 (Ls ps) (I i) (I i) H=y∨∃m,∃h:m<i,ps[m]'(by omega)=ps[i]):∀(f j:Nat),j≤i→i-j<f→(∀m (_:m<j) (h':m<ps.length),ps[m]≠ps[i])→
 HT (L+20) R K k39 f (Ls ps) (I i) (I j) H=y:=by
 intro f
 induction f with
 |zero=>intro j _ h;omega
 |succ f ih=>
  intro j hj hf hno
  rw[OZ]
  unfold JK Ar CK
  by_cases h:j<i
  ·rw[FW (by omega),Dn,PT (by omega),BJ,FU,BJ,PT hi,BJ,FU,BJ,Nb]
   by_cases he:ps[j]=ps[i]
   ·rw[decide_eq_true he,BJ,Dn,Nv]
    exact hy
   ·rw[decide_eq_false he,BJ,BD,DS (by omega)]
    exact ih (j+1) (by omega) (by omega) λm hm hm'=>by
     by_cases hmj:m=j
     ·subst hmj;exact he
     ·exact hno m (by omega) hm'
  ·rw[FX (by omega),BD]
   obtain rfl:j=i:=by omega
   rcases hk with hk|⟨m,hm,e⟩
   ·exact hk
   ·exact absurd e (hno m hm (by omega))
theorem B77 {k14:AV→Hp→Al} (hb:ps.length<100) (hL:ps.length<L+20) (hl:∀s∈ps,s.length=32) (hy:K (.tup [Bo false,I ps.length]) H=y):∀(f i:Nat) (v:AV),i≤ps.length→ps.length-i<f→
 (∃t m,i≤t∧∃(h:t<ps.length) (hm:m<t),ps[m]'(by omega)=ps[t])→HU (L+20) R K k14 f (Ls ps) (I i) v H=y:=by
 intro f
 induction f with
 |zero=>intro i v _ h;omega
 |succ f ih=>
  intro i v hi hf hex
  obtain⟨t,m,h1,h2,h3,h4⟩:=hex
  rw[Pb]
  unfold JL Ar CK
  rw[Nv]
  have h:i<ps.length:=by omega
  rw[FW (by omega),Dn]
  simp only[Cp]
  rw[PT h,FU,MY rfl,hl _ (QS h),GF]
  rw[show(!decide (((32:Nat):Int)=32))=false from rfl,BD]
  have e0:(AV.v (.int .i64 0))=I ((0:Nat):Int):=rfl
  rw[e0]
  refine B76 h hb hy ?_ _ 0 (by omega) (by omega) (λm hm _=>by omega)
  by_cases hd:t=i
  ·subst hd;exact .inr ⟨m,h3,h4⟩
  ·left
   rw[DS (by omega)]
   exact ih (i+1) _ (by omega) (by omega) ⟨t,m,by omega,h2,h3,h4⟩
theorem B18 (h:¬ps.Nodup):∃t m,0≤t∧∃(h:t<ps.length) (hm:m<t),ps[m]'(by omega)=ps[t]:=Classical.byContradiction λhc=>h (by
 rw[List.nodup_iff_pairwise_ne,l20]
 intro i j hi hj hij e
 exact hc ⟨j,i,l1c _,hj,hij,e⟩)
theorem A0Y (hn:¬ps.Nodup) (hb:ps.length≤6) (hl:∀s∈ps,s.length=32):CS (rt (L+20) (n+1)) ER [Ls ps] (.tup [Bo false,I ps.length]):=by
 intro K hK
 rw[Qq]
 unfold K0 Ba Ar CK
 simp only[Cp]
 have e0:(AV.v (.int .i64 0))=I ((0:Nat):Int):=rfl
 rw[e0]
 exact B77 (by omega) (by omega) hl (hK _ _ (λb=>⟨false,λK=>by kernel_rfl⟩)) _ 0 _ (by omega) (by omega) (B18 hn)
end
section
variable {m:ND} {u o:UD} {ca cb ra rb:List UInt8} {T P ins nds:AV} {id vd kd:Int} {r:RD} {q:Bool}
theorem A9E (hT:Sl T) (hP:Sl P) (hI:Sl ins) (hN:Sl nds)
 (hs:CS (rt (L+20) (n+61)) D9 [.agg (DD kd m u ca cb T ra rb P id ins nds o r vd)] (.tup [Bo false,Bo q])):
 CS (rt (L+20) (n+62)) JQ [.agg (DD kd m u ca cb T ra rb P id ins nds o r vd)] (.tup [S [],I 210]):=by
 intro K hK
 rw[Ub]
 unfold O3 Ba Bu Ar Ev CK
 rw[EY (PV hT hP hI hN)]
 have hc0:=A1 (H:=[]) (x:=Jj kd m u ca cb T ra rb P id ins nds o r vd) (by simp)
 generalize ((A6 [],Jj kd m u ca cb T ra rb P id ins nds o r vd)::([]:Hp))=H0 at hc0
 generalize A6 []=c at hc0
 have hs':∀K,Ah (rt (L+20) (n+61)) D9 [.agg (DD kd m u ca cb T ra rb P id ins nds o r vd)] H0 K=K (.tup [Bo false,Bo q]):= λK=>Bc hs (Td hT hP hI hN)
 rw[cA hc0,hs',CW,CV,ntF,Dn]
 exact hK _ _ (λb=>⟨false,λK=>by kernel_rfl⟩)
theorem C3X {cs:List AV} (h1:cs.all AV.one=true) (hz:cs.length=68) (hfx:∀H,OM true depth [.agg cs] [.agg cs] H false) (hB:CS (rt (L+20) (n+62)) JQ [.agg cs] (.tup [S [],I 210])):CS (rt (L+20) (n+63)) GB [.agg cs] (S []):=by
 intro K hK
 rw[Wz]
 unfold Sw Ar
 rw[EY h1]
 have hc0:=A1 (H:=[]) (x:= .cells true Aj cs) (by simp)
 generalize ((A6 [],Row.cells true Aj cs)::([]:Hp))=H0 at hc0
 rw[Bm rfl hz.symm hc0,Bc hB (hfx H0),CW,CV,GF]
 show Av (.v (.bool true)) _ _=_
 rw[Dn]
 exact hK _ _ (λb=>⟨false,λK=>by kernel_rfl⟩)
end
attribute [local irreducible] Ah rt YV eBi eEq cnd Go.Abs.Ak Go.Abs.Uw Av
section
variable {m:ND} {u o:UD} {ca cb ra rb:List UInt8} {T P ins nds:AV} {id vd:Int} {r:RD}
theorem A86 (hm:m.ok) (hT:Sl T) (hr:PO (rt (L+20) (n+60)) Gr [.agg r0.cs] (Bo false)) {n2:Nat} {c2:List AV} (hP:∃n cs,P= .list n cs) (hN:∃n cs,nds= .list n cs)
 (hp:LS (rt (L+20) (n+60)) ER [P] (.tup [Bo false,I n2])) (hv:LS (rt (L+20) (n+60)) Eg [.agg (Bx id (.list n2 c2) nds u)] (Bo true))
 (hu:PO (rt (L+20) (n+60)) DG [.agg (Cc u)] (Bo true)) (hf:LS (rt (L+20) (n+60)) Gs [.agg (Vo ca cb T ra rb)] (Bo true)):
 CS (rt (L+20) (n+61)) D9 [.agg (DD 2 m u ca cb T ra rb P id (.list n2 c2) nds u r0 0)] (.tup [Bo false,Bo false]):=by
 intro K hK
 obtain⟨h1,h2,h3,h4,h5,h6,h7,h8,h9,h10⟩:=hm
 obtain⟨n1,c1,rfl⟩:=hP
 obtain⟨n3,c3,rfl⟩:=hN
 have hb:∀{z lo hi:Int},lo≤z→z≤hi→PO (rt (L+20) (n+60)) CN [I z,I lo,I hi] (Bo true):= λa b=>(TM a b).o
 rcases hT with rfl|⟨n4,c4,rfl⟩
 all_goals
  rewrite [HZ]
  unfold Gz Ba Bu Ar Ev CK
  try rewrite [zO]
  try rewrite [bO]
  try rewrite [qO]
  try rewrite [cO]
  generalize rt (L+20) (n+60)=R at*
  conv=>lhs;whnf
  rewrite [Tn ?hc]
  case hc=>decide
  conv=>lhs;whnf
  rewrite [hu]
  conv=>lhs;whnf
  rewrite [(hf) false _ _ ?hq]
  case hq=>exact λK=>by kernel_rfl
  conv=>lhs;whnf
  rewrite [hb h1 (by omega)]
  conv=>lhs;whnf
  rewrite [hb h3 (by omega)]
  conv=>lhs;whnf
  rewrite [hb h5 (by omega)]
  conv=>lhs;whnf
  rewrite [hb h7 (by omega)]
  conv=>lhs;whnf
  rewrite [hb h9 (by omega)]
  conv=>lhs;whnf
  rewrite [Fa]
  conv=>lhs;whnf
  rewrite [hr]
  conv=>lhs;whnf
  rewrite [show∀K,eEq Gu BinOp.neq (AV.agg [I r0.k,S r0.a1,S r0.a2,S r0.b1,S r0.b2,S r0.c1,S r0.c2,S r0.d1,S r0.d2]) (AV.agg [zI,zS,zS,zS,zS,zS,zS,zS,zS]) K=K (Bo false) from λK=>by rw[←qO];kernel_rfl]
  conv=>lhs;whnf
  rewrite [B3L ?hc]
  case hc=>decide
  conv=>lhs;whnf
  rewrite [Fa]
  conv=>lhs;whnf
  rewrite [Tn ?hc]
  case hc=>decide
  conv=>lhs;whnf
  rewrite [Fa]
  conv=>lhs;whnf
  rewrite [NQ ?hc]
  case hc=>decide
  conv=>lhs;whnf
  rewrite [Nx]
  conv=>lhs;whnf
  rewrite [Nx]
  conv=>lhs;whnf
  rewrite [(hp) false _ _ ?hq]
  case hq=>exact λK=>by kernel_rfl
  conv=>lhs;whnf
  rewrite [(hv) false _ _ ?hq]
  case hq=>exact λK=>by kernel_rfl
  conv=>lhs;whnf
  exact hK _ _ (λb=>⟨false,λK=>by kernel_rfl⟩)
theorem A85 (hm:m.ok) (hT:Sl T) (hr:PO (rt (L+20) (n+60)) Gr [.agg r.cs] (Bo true)) (hv1:1≤vd) (hv2:vd≤3) {n2:Nat} {c2:List AV} (hP:∃n cs,P= .list n cs) (hN:∃n cs,nds= .list n cs)
 (hp:LS (rt (L+20) (n+60)) ER [P] (.tup [Bo false,I n2])) (hv:LS (rt (L+20) (n+60)) Eg [.agg (Bx id (.list n2 c2) nds u)] (Bo true))
 (hu:PO (rt (L+20) (n+60)) DG [.agg (Cc u)] (Bo true)) (hf:LS (rt (L+20) (n+60)) Gs [.agg (Vo ca cb T ra rb)] (Bo true)):
 CS (rt (L+20) (n+61)) D9 [.agg (DD 3 m u ca cb T ra rb P id (.list n2 c2) nds u r vd)] (.tup [Bo false,Bo true]):=by
 intro K hK
 obtain⟨h1,h2,h3,h4,h5,h6,h7,h8,h9,h10⟩:=hm
 obtain⟨n1,c1,rfl⟩:=hP
 obtain⟨n3,c3,rfl⟩:=hN
 have hb:∀{z lo hi:Int},lo≤z→z≤hi→PO (rt (L+20) (n+60)) CN [I z,I lo,I hi] (Bo true):= λa b=>(TM a b).o
 rcases hT with rfl|⟨n4,c4,rfl⟩
 all_goals
  rewrite [HZ]
  unfold Gz Ba Bu Ar Ev CK
  try rewrite [zO]
  try rewrite [bO]
  try rewrite [qO]
  try rewrite [cO]
  generalize rt (L+20) (n+60)=R at*
  conv=>lhs;whnf
  rewrite [NQ ?hc]
  case hc=>decide
  conv=>lhs;whnf
  rewrite [hu]
  conv=>lhs;whnf
  rewrite [(hf) false _ _ ?hq]
  case hq=>exact λK=>by kernel_rfl
  conv=>lhs;whnf
  rewrite [hb h1 (by omega)]
  conv=>lhs;whnf
  rewrite [hb h3 (by omega)]
  conv=>lhs;whnf
  rewrite [hb h5 (by omega)]
  conv=>lhs;whnf
  rewrite [hb h7 (by omega)]
  conv=>lhs;whnf
  rewrite [hb h9 (by omega)]
  conv=>lhs;whnf
  rewrite [Fa]
  conv=>lhs;whnf
  rewrite [hr]
  conv=>lhs;whnf
  rewrite [hb hv1 hv2]
  conv=>lhs;whnf
  rewrite [Fa]
  conv=>lhs;whnf
  rewrite [Tn ?hc]
  case hc=>decide
  conv=>lhs;whnf
  rewrite [Fa]
  conv=>lhs;whnf
  rewrite [Tn ?hc]
  case hc=>decide
  conv=>lhs;whnf
  rewrite [Fa]
  conv=>lhs;whnf
  rewrite [NQ ?hc]
  case hc=>decide
  conv=>lhs;whnf
  rewrite [Nx]
  conv=>lhs;whnf
  rewrite [(hp) false _ _ ?hq]
  case hq=>exact λK=>by kernel_rfl
  conv=>lhs;whnf
  rewrite [(hv) false _ _ ?hq]
  case hq=>exact λK=>by kernel_rfl
  conv=>lhs;whnf
  exact hK _ _ (λb=>⟨false,λK=>by kernel_rfl⟩)
end
end
end Go.Abs
end
