import Derived.Test.YtlbhdmbfdcohhaaGreatDoorQ21
import Derived.Test.YtlbhdmbfdcohhaaGreatDoorQ26
import Derived.Test.YtlbhdmbfdcohhaaGreatDoorQ42
set_option linter.all false
set_option maxHeartbeats 100000000
noncomputable section
namespace Go.Abs
open Go.RowKit Go.Proofs
set_option maxRecDepth 100000
section
variable {L n:Nat}
theorem A0f {k:Nat} (h:k<7):(Jv k).length≤44:=by
 have:=Hv.1 (show((List.range 7).all λk=>decide ((Jv k).length≤44))=true by kernel_rfl) k (IL.2 h)
 simpa using this
theorem A5C {k:Nat} (h:k<52):(Jv k).length≤50:=by
 have:=Hv.1 (show((List.range 52).all λk=>decide ((Jv k).length≤50))=true by kernel_rfl) k (IL.2 h)
 simpa using this
theorem ZQ {j:Nat} (h:j<54):(exT j).length≤10:=by
 have:=Hv.1 (show((List.range 54).all λk=>decide ((exT k).length≤10))=true by kernel_rfl) j (IL.2 h)
 simpa using this
theorem B7K {i k:Nat} (hi:i<33) (hk:k<7):(cnT i k).length≤60:=by
 have h1:=A4H hi
 have h2:=A0f hk
 simp only[cnT,Ff,RI,RJ,FK,Lf,Od]
 omega
theorem B7l (ks:List Nat) (h:∀k∈ks,k<7):(ks.flatMap ZN).length≤51*ks.length:=by
 induction ks with
 |nil=>simp
 |cons k ks ih=>
  have h1:=A0f (h k (by simp))
  have h2:=ih λx hx=>h x (by simp[hx])
  simp only[l00,FK,Lf,ZN,A0R,Od] at h2⊢
  omega
theorem B3G {ts:List (List UInt8)} (h:∀t∈ts,t.length≤10):(ts.flatMap lnT).length≤11*ts.length:=by
 induction ts with
 |nil=>simp
 |cons t ts ih=>
  have h1:=h t (by simp)
  have h2:=ih λu hu=>h u (by simp[hu])
  simp only[l00,FK,Lf,lnT,Od] at h2⊢
  omega
theorem B92 {o a b k:Nat} (ho:o<4) (ha:a<7) (hb:b<7) (h:RH o a b=some k):k<52:=by
 have:=Hv.1 (show((List.range 196).all λj=>(match RH (j/49) (j/7%7) (j%7) with|some k=>decide (k<52)|none=>true))=true by kernel_rfl) (49*o+7*a+b) (IL.2 (by omega))
 rw[show(49*o+7*a+b)/49=o by omega,show(49*o+7*a+b)/7%7=a by omega,show(49*o+7*a+b)%7=b by omega,h] at this
 simpa using this
theorem B5L {a e k:Nat} (ha:a<7) (he:e<5) (h:Tr a e=some k):k<52:=by
 have:=Hv.1 (show((List.range 35).all λj=>(match Tr (j/5) (j%5) with|some k=>decide (k<52)|none=>true))=true by kernel_rfl) (5*a+e) (IL.2 (by omega))
 rw[show(5*a+e)/5=a by omega,show(5*a+e)%5=e by omega,h] at this
 simpa using this
section
variable {p:Pr}
theorem XG (h:p.Ok):p.ty.length=p.xs.length∧1≤p.xs.length∧p.xs.length≤4:=by
 have h1:=h.k1
 have h3:=h.k3
 have e:(p.x.ty p.ks).length=p.x.nd.length:=by cases p.x<;>rfl
 have e0:p.x.nd.length≤1:=by cases p.x<;>simp[Ex.nd]
 simp only[Pr.ty,Pr.xs,FK,DP]
 omega
theorem B6R (h:p.Ok):∀k∈p.ty,k<52:=by
 intro k hk
 rcases l2e.1 hk with hk|hk
 ·have:=h.k7 k hk;omega
 ·have hx:=h.x
  cases hq:p.x with
  |no=>rw[hq] at hk;simp[Ex.ty] at hk
  |cn i j=>rw[hq] at hk hx;simp[Ex.ty] at hk;have:=hx.2;omega
  |inp j=>rw[hq] at hk hx;simp only[Ex.ty,l2f] at hk;have:=K3 h.k7 hx;omega
  |bi op l r j=>rw[hq] at hk hx;simp[Ex.ty] at hk;subst hk;exact B92 (by have:=hx.1;have:=hx.2.1;omega) (K3 h.k7 hx.2.2.1) (K3 h.k7 hx.2.2.2.1) hx.2.2.2.2
  |po l e j=>rw[hq] at hk hx;simp[Ex.ty] at hk;subst hk;exact B5L (K3 h.k7 hx.1) hx.2.1 hx.2.2
theorem HT (h:p.Ok):p.out<52:=by
 obtain⟨h1,h2,h3⟩:=XG h
 exact K3 (B6R h) (by omega)
theorem B3n (h:p.Ok):(∀t∈p.ts,t.length<100)∧(p.ts.flatMap lnT).length≤11*p.ks.length+61:=by
 have k3:=h.k3
 have hx:=h.x
 have a1:∀t∈(List.range p.ks.length).map exT,t.length≤10:= λt ht=>by
  obtain⟨j,hj,rfl⟩:=l2a.1 ht
  exact ZQ (by have:=IL.1 hj;omega)
 have a2:(∀t∈p.x.tx,t.length≤60)∧p.x.tx.length≤1:=by
  cases hq:p.x with
  |no=>simp[Ex.tx]
  |cn i j=>rw[hq] at hx;simp[Ex.tx];exact B7K hx.1 hx.2
  |inp j=>rw[hq] at hx;have hj:j<p.ks.length:=hx;simp[Ex.tx];exact l1m (ZQ (by omega)) (by decide)
  |bi op l r j=>rw[hq] at hx;have h1:=hx.1;have h2:=hx.2.1;have h3:=hx.2.2.1;have h4:=hx.2.2.2.1;simp[Ex.tx];exact l1m (ZQ (by omega)) (by decide)
  |po l e j=>rw[hq] at hx;have h1:=hx.1;have h2:=hx.2.1;simp[Ex.tx];exact l1m (ZQ (by omega)) (by decide)
 have a3:(p.x.tx.flatMap lnT).length≤61:=by
  match hq:p.x.tx with
  |[]=>simp
  |[t]=>have:=a2.1 t (by rw[hq];simp);simp[lnT];omega
  |t::u::l=>rw[hq] at a2;simp at a2
 refine⟨λt ht=> ?_,?_⟩
 ·rcases l2e.1 ht with ht|ht
  ·have:=a1 t ht;omega
  ·have:=a2.1 t ht;omega
 ·have:=B3G a1
  simp only[Pr.ts,l2g,FK,l1u,List.length_range] at this⊢
  omega
def Pr.txt (p:Pr):List UInt8:=A0N p.id p.ks p.ts p.out
theorem XF (h:p.Ok):p.txt.length<390:=by
 have k3:=h.k3
 have h1:=B7l p.ks h.k7
 have h2:=(B3n h).2
 have h3:=A5C (HT h)
 have h4:=A8R p.id
 simp only[Pr.txt,A0N,FK,Lf,Od,OW,C1l]
 omega
abbrev Pr.cs (p:Pr):List AV:=Bs p.id (BC p.ks) (BR p.xs) (uu p.out)
theorem A61 (hL:100<L) (h:p.Ok):CS (rt (L+20) (n+44)) Ei [.agg p.cs] (Bo true):=by
 obtain⟨h1,h2,h3⟩:=XG h
 have:=h.k3
 have:=h.i1
 have:=h.i2
 exact B33 hL (C1d h) h1 (λk hk=>by have:=h.k7 k hk;omega) (by omega) h2 (by omega) (by omega) (by omega)
theorem B3m (hL:100<L) (h:p.Ok):CS (rt (L+20) (n+46)) DY [.agg p.cs] (Bo true):=by
 obtain⟨h1,h2,h3⟩:=XG h
 have:=h.k3
 have:=h.i1
 have:=h.i2
 exact B2h hL (C1c h) rfl h1 (λk hk=>by have:=h.k7 k hk;omega) (by omega) h2 (by omega) (by omega) (by omega)
theorem B86 (hL:100<L) (h:p.Ok):CS (rt (L+20) (n+45)) HG [.agg p.cs] (.tup [S p.txt,I 0]):=by
 obtain⟨h1,h2,h3⟩:=XG h
 obtain⟨t1,t2⟩:=B3o (L:=L) (n:=n+3) h
 have:=h.k3
 exact B34 hL h.i2 (A61 hL h) (λi hi=>(t2 i hi).1) (B3n h).1 t1 (λk hk=>by have:=h.k7 k hk;omega) (by omega) (by omega) (HT h)
theorem B85 (hL:100<L) (h:p.Ok):CS (rt (L+20) (n+47)) ER [.agg p.cs] (.tup [S p.txt,I 0]):=by
 obtain⟨h1,h2,h3⟩:=XG h
 obtain⟨t1,t2⟩:=B3o (L:=L) (n:=n+5) h
 have:=h.k3
 exact B2i hL h.i2 (B3m hL h) (λi hi=>(t2 i hi).2) (B3n h).1 t1 (λk hk=>by have:=h.k7 k hk;omega) (by omega) (by omega) (HT h)
end
end
section
variable {L n:Nat} {K:KV}
theorem B6b {a b:List UInt8} (hL:10<L) (ha:a.length<390) (hb:b.length<390):CS (rt (L+20) (n+7)) Eh [.agg [S a,S b]] (S (FX [a,b])):=by
 intro K hK
 rw[Zb]
 unfold Qt
 rw[Fa (by rfl)]
 have hr:Au [(A3 [],Row.cells true AB [S a,S b])] (A3 [])=some (.cells true AB [S a,S b]):=Ay (H:=[]) (by simp)
 have f0:∀K:AV→Al,AL 0 (.ptr (A3 []) 0 0) K=K (.ptr (A3 []) 0 0):= λK=>id rfl
 have f1:∀K:AV→Al,AL 1 (.ptr (A3 []) 0 0) K=K (.ptr (A3 []) 1 0):= λK=>id rfl
 have l0:∀K:AV→Al,Aq Ad (.ptr (A3 []) 0 0) [(A3 [],Row.cells true AB [S a,S b])] K=K (S a):= λK=>id rfl
 have l1:∀K:AV→Al,Aq Ad (.ptr (A3 []) 1 0) [(A3 [],Row.cells true AB [S a,S b])] K=K (S b):= λK=>id rfl
 have bs:∀K:KV,Ft AI 1 Ad 2 [(0,1,S a),(1,1,S b)] [(A3 [],Row.cells true AB [S a,S b])] K=K (.sl 1 1 0 2) ((1,.cells false AI (B5 [a,b]))::[(A3 [],Row.cells true AB [S a,S b])]):= λK=>id rfl
 rw[f0,l0,f1,l1,bs]
 have hf:PH true depth [.sl 1 1 0 2] [.list 2 (B5 [a,b])] ((1,.cells false AI (B5 [a,b]))::[(A3 [],Row.cells true AB [S a,S b])]) (true||false):=A0 (A1z (e:=AI) (.inr ⟨1,false,rfl,rfl,rfl⟩) (by decide) (λs:List UInt8=>Value.string ⟨⟨s⟩⟩) [a,b] rfl) Bp
 rw[Be (A9k (L:=L) (n:=n) (l:=[a,b]) (by simp) (by simp;omega) (λs hs=>by simp at hs;rcases hs with rfl|rfl<;>assumption)) hf]
 exact hK _ _ (λb=>⟨false,E5⟩)
end
section
variable {L n:Nat}
theorem B36 {zs:List Int} {H:Hp} {K:AV→Al} (hL:100<L) (hl:zs.length<100) (hz:∀z∈zs, -10≤z∧z<1090):Ah (rt (L+20) (n+7)) Dh [.list zs.length (Ev zs)] H K=K (S (GS zs)):=
 Be (A37 (n:=n+2) hl (by omega) hz) (A0 (q:=false) (q':=false) Qb Bp)
theorem B2U {zs:List (List UInt8)} {H:Hp} {K:AV→Al} (hL:100<L) (hl:zs.length<100) (hz:∀z∈zs,z.length<390):Ah (rt (L+20) (n+7)) E8 [.list zs.length (B5 zs)] H K=K (S (FX zs)):=
 Be (A9k (n:=n+1) hl (by omega) hz) (A0 (q:=false) (q':=false) Qb Bp)
theorem B83 {a b:List UInt8} {H:Hp} {K:AV→Al} (hL:100<L) (ha:a.length<390) (hb:b.length<390):Ah (rt (L+20) (n+7)) Eh [.agg [S a,S b]] H K=K (S (FX [a,b])):=
 Be (q:=false) (B6b (n:=n) (by omega) ha hb) (λK=>by kernel_rfl)
theorem ZT {z:Int} {K:AV→Al}:R9 1 Ab 1 [(0,1,I z)] K=K (.list ([z]:List Int).length (Ev [z])):=id rfl
theorem B7P {a b c d e f:Int} {K:AV→Al}:R9 1 Ab 6 [(0,1,I a),(1,1,I b),(2,1,I c),(3,1,I d),(4,1,I e),(5,1,I f)] K=K (.list ([a,b,c,d,e,f]:List Int).length (Ev [a,b,c,d,e,f])):=id rfl
theorem B02 {z:List UInt8} {K:AV→Al}:R9 1 Ad 1 [(0,1,S z)] K=K (.list ([z]:List (List UInt8)).length (B5 [z])):=id rfl
theorem B8r (a b:List UInt8):O5 [(a,b)]=FX [a,b]:=by simp[O5]
theorem C3A {K:KV} {x:Al} {c:Nat} {R0:Row} {cs:List AV} {ts:ZB} {k102:AV→AV→Hp→Al} (ht:TmsOk ts) (hL:100<L) (hR:R0= .cells true Ai cs) (h28:∀H,Au H c=some R0→∀K,Aq A5 (.ptr c 28 0) H K=K (Fw ts)) {l:List UInt8} (hb:l.length<100000000)
 (hx:∀H',Au H' c=some R0→Wf H'→k102 (.ptr c 0 0) (S (l++Oi ts)) H'=x):∀(f i:Nat) (H:Hp),i≤ts.length→ts.length-i<f→Au H c=some R0→Wf H→
 Na (L+20) (rt (L+20) (n+7)) K k102 f (.ptr c 0 0) (S (l++Oi (ts.take i))) (I i) H=x:=by
 have hlen:=ht.len
 intro f
 induction f with
 |zero=>intro i H _ h;omega
 |succ f ih=>
  intro i H hi hf hc w
  rw[YN]
  unfold Qm Ar
  have f26:∀K:AV→Al,AL 26 (.ptr c 0 0) K=K (.ptr c 26 0):= λK=>id rfl
  have f2:∀K:AV→Al,AL 2 (.ptr c 26 0) K=K (.ptr c 28 0):= λK=>id rfl
  rw[f26,f2,h28 H hc,NI]
  by_cases h:i<ts.length
  ·have hr:=ht.rng _ (Ow h)
   have hq1:=T3 (z:=ts[i].2) (by omega) (by omega)
   have hq2:=T4 ts[i].2
   rw[Ge (by omega),D3,f26,f2,h28 H hc,SN h,lTm,Ba (cs:=[zI,zS,zS]) rfl]
   have hn0:=Ay (H:=H) (x:= .cells true AO [zI,zS,zS]) (by simp)
   rw[B0 (vs:=MX ts[i]) hn0 rfl rfl rfl]
   have hr1:=A9 (q:=true) (e:=AO) (cs:=MX ts[i]) hn0
   have hclt:=w.lt hc
   have hc1:Au (upd ((A3 H,Row.cells true AO [zI,zS,zS])::H) (A3 H) (.cells true AO (MX ts[i]))) c=some R0:=by
    rw[Ap (by omega)];exact Bh hclt hc
   have w1:=BL (r:=A3 H) (y:= .cells true AO (MX ts[i])) (B3 (x:= .cells true AO [zI,zS,zS]) w)
   generalize upd ((A3 H,Row.cells true AO [zI,zS,zS])::H) (A3 H) (.cells true AO (MX ts[i]))=H1 at hr1 hc1 w1
   generalize A3 H=t at hr1
   have g0:∀K:AV→Al,AL 0 (.ptr t 0 0) K=K (.ptr t 0 0):= λK=>id rfl
   have g1:∀K:AV→Al,AL 1 (.ptr t 0 0) K=K (.ptr t 1 0):= λK=>id rfl
   have m0:∀K,Aq Ab (.ptr t 0 0) H1 K=K (I ts[i].1):= λK=>AQ (p:=0) rfl hr1 (show 0<3 by decide)
   have m1:∀K,Aq Ao (.ptr t 1 0) H1 K=K (.agg (qa ts[i].2)):= λK=>EZ (p:=1) rfl hr1 (show 3≤3 from NU _)
   have a1:=VZ (ts.take i) (λt h=>by have h1:=ht.rng t (l24 h);have:=T3 (z:=t.2) (by omega) (by omega);have:=T4 t.2;omega)
   have a2:(ts.take i).length≤6:=by simp;omega
   have a3:=Ek [ts[i].1]
   have a4:=Ej [qn ts[i].2,qd ts[i].2] (by simp;omega)
   simp only[Lf,Od] at a3 a4
   rw[g0,BH,m0,BH,ZT,BH,B36 hL (by simp) (by simp;omega),BH,Bl (by rw[FK];omega),BH,g1,BH,m1,BH,B83 hL (by omega) (by omega),BH,Bl (by simp only[FK];omega),BH,DS (by omega)]
   have e1:l++Oi (ts.take i)++GS [ts[i].1]++FX [qn ts[i].2,qd ts[i].2]=l++Oi (ts.take (i+1)):=by
    rw[A2Z ts h];simp[tmB,B8r]
   rw[e1]
   exact ih (i+1) H1 (by omega) (by omega) hc1 w1
  ·rw[Gf (by omega),B9]
   have:i=ts.length:=by omega
   subst this
   rw[l06]
   exact hx H hc w
end
section
variable {L n:Nat}
section
variable {m:ND} {u o:UD} {ca cb ra rb un pt:List UInt8} {ts:ZB} {ps:List (List UInt8)} {ins nds:AV} {kd id vd pe:Int} {r:RD}
theorem C3C {H:Hp} {K:AV→Al} (hL:100<L) (hl:ps.length<100) (hz:∀z∈ps,z.length<390):Ah (rt (L+20) (n+7)) E8 [Ec ps] H K=K (S (FX ps)):=by
 cases ps with
 |nil=>
  refine Be (q:=false) (args':=[AM]) ?_ (λK=>by kernel_rfl)
  exact λK hK=>by
   rw[SS]
   unfold Nj Ar
   simp only[Cl]
   rw[QZ]
   unfold Ll Ar
   have el:∀K,AN Ae AM K=K (I 0):= λK=>_root_.id rfl
   rw[el,Gf (by decide),B9]
   exact hK _ _ (λb=>⟨false,λK=>by kernel_rfl⟩)
 |cons p l=>exact B2U hL hl hz
set_option maxHeartbeats 2000000 in
theorem A81 (hL:100<L) (hm:m.ok) (hkd:kd=1∨kd=2∨kd=3) (ht:TmsOk ts) (hI:Sl ins) (hN:Sl nds) (hp:ps.length≤6) (hpl:∀s∈ps,s.length<390) (hun:un.length<390) (hpt:pt.length<390)
 (hr:r.k=0∨r.k=1∨r.k=2∨r.k=3) (hrl:∀q∈[(r.a1,r.a2),(r.b1,r.b2),(r.c1,r.c2),(r.d1,r.d2)],q.1.length<390∧q.2.length<390) (hv:0≤vd∧vd≤3) (hcl:ca.length<10∧cb.length<10∧ra.length<10∧rb.length<10)
 (hup:PS (rt (L+20) (n+61)) Gr [.agg (Cb u)] (.tup [S un,I 0])) (hpp:LS (rt (L+20) (n+61)) HG [.agg (Bs id ins nds o)] (.tup [S pt,I pe])):
 CS (rt (L+20) (n+62)) LJ [.agg (DF kd m u ca cb (Fw ts) ra rb (Ec ps) id ins nds o r vd)] (S (KZ kd m un ca cb ts ra rb ps pt (if kd=3 then QY r vd else[]))):=by
 intro K hK
 obtain⟨q1,q2,q3,q4,q5,q6,q7,q8,q9,q10⟩:=hm
 have hT:=F4 ts
 have hP:Sl (Ec ps):=by cases ps with|nil=>exact .inl rfl|cons p l=>exact .inr ⟨_,_,rfl⟩
 have hlt:=ht.len
 have a1:=Ek [kd,m.lab,m.num,m.itm,m.tim,m.day]
 have a2:=Ej [un] (by simpa using hun)
 have a3:=Ej [ca,cb] (by simp;omega)
 have a4:=Ek [(ts.length:Int)]
 have a5:=VZ ts (λt h=>by have:=ht.rng t h;have:=T3 (z:=t.2) (by omega) (by omega);have:=T4 t.2;omega)
 have a6:=Ej [ra,rb] (by simp;omega)
 have a7:=Ek [(ps.length:Int)]
 have a8:=Ej ps hpl
 have a9:=Ej [pt] (by simpa using hpt)
 simp only[Lf,Od] at a1 a2 a3 a4 a6 a7 a9
 rw[A0W]
 unfold Sa Ar
 rw[Fa (PC hT hP hI hN)]
 have hc0:=Ay (H:=[]) (x:=Jf kd m u ca cb (Fw ts) ra rb (Ec ps) id ins nds o r vd) (by simp)
 have w0:=B3 (x:=Jf kd m u ca cb (Fw ts) ra rb (Ec ps) id ins nds o r vd) F3
 generalize ((A3 [],Jf kd m u ca cb (Fw ts) ra rb (Ec ps) id ins nds o r vd)::([]:Hp))=H0 at hc0 w0
 generalize A3 []=c at hc0
 have f0:∀{j:Nat} {K:AV→Al},AL j (.ptr c 0 0) K=K (.ptr c j 0):= λ{j K}=>by rw[fA,K1]
 have g0:∀{K:AV→Al},AL 0 (.ptr c 26 0) K=K (.ptr c 26 0):=_root_.id rfl
 have g2:∀{K:AV→Al},AL 2 (.ptr c 26 0) K=K (.ptr c 28 0):=_root_.id rfl
 have g3:∀{K:AV→Al},AL 3 (.ptr c 26 0) K=K (.ptr c 29 0):=_root_.id rfl
 have nm:∀{zs:List Int} {H:Hp} {K:AV→Al},zs.length<100→(∀z∈zs, -10≤z∧z<1090)→Ah (rt (L+20) (n+61)) Dh [.list zs.length (Ev zs)] H K=K (S (GS zs)):= λh1 h2=>B36 (n:=n+54) hL h1 h2
 have tx:∀{zs:List (List UInt8)} {H:Hp} {K:AV→Al},zs.length<100→(∀z∈zs,z.length<390)→Ah (rt (L+20) (n+61)) E8 [.list zs.length (B5 zs)] H K=K (S (FX zs)):= λh1 h2=>B2U (n:=n+54) hL h1 h2
 have rt':∀{a b:List UInt8} {H:Hp} {K:AV→Al},a.length<390→b.length<390→Ah (rt (L+20) (n+61)) Eh [.agg [S a,S b]] H K=K (S (FX [a,b])):= λh1 h2=>B83 (n:=n+54) hL h1 h2
 simp only[Cl]
 rw[f0,cU hc0,hup,CY,CX]
 simp only[f0,BH,cI0 hc0,cI1 hc0,cI2 hc0,cI3 hc0,cI4 hc0,cI5 hc0,B7P,B02,g0,g2,cC hc0,cT hc0,NI,ZT]
 rw[nm (by simp) (by simp only[Xi,List.mem_nil_iff,or_false];rintro z (rfl|rfl|rfl|rfl|rfl|rfl)<;>omega),BH,tx (by simp) (by simpa using hun),BH,Bl (by omega),BH,rt' (by omega) (by omega),BH,Bl (by simp only[FK];omega),BH,nm (by simp) (by simp;omega),BH,Bl (by simp only[FK];omega),BH]
 have e0:(AV.v (.int .i64 0))=I ((0:Nat):Int):=rfl
 have et:∀(l:List UInt8),S l=S (l++Oi (ts.take 0)):= λl=>by rw[show Oi (ts.take 0)=[] from rfl,l1o]
 rw[e0,et]
 refine C3A (n:=n+54) ht hL (R0:=Jf kd m u ca cb (Fw ts) ra rb (Ec ps) id ins nds o r vd) rfl (λH h K=>cT h) (by simp only[FK];omega) ?_ (L+20) 0 H0 (by omega) (by omega) hc0 w0
 intro H1 hc1 w1
 have hpp':∀K,Ah (rt (L+20) (n+61)) HG [.agg (Bs id ins nds o)] H1 K=K (.tup [S pt,I pe]):= λK=>by rw[zO];exact hpp false _ _ (RW hI hN) K
 have txA:∀{H:Hp} {K:AV→Al},Ah (rt (L+20) (n+61)) E8 [Ec ps] H K=K (S (FX ps)):=C3C (n:=n+54) hL (by omega) hpl
 simp only[f0,g3,BH,cR hc1,cP hc1,Ua,ZT,cPr hc1,hpp',CY,CX,B02,txA]
 rw[rt' (by omega) (by omega),BH,Bl (by simp only[FK];omega),BH,nm (by simp) (by simp;omega),BH,Bl (by simp only[FK];omega),BH,Bl (by simp only[FK];omega),BH,tx (by simp) (by simpa using hpt),Bl (by simp only[FK];omega),cI0 hc1,Dy]
 by_cases h3:kd=3
 ·rw[decide_eq_true h3,D3]
  have jv:∀{j:Nat} {K:AV→Al},AL j (.ptr (A3 H1) 0 0) K=K (.ptr (A3 H1) j 0):= λ{j K}=>by rw[fA,K1]
  have hn0:=Ay (H:=H1) (x:= .cells true Im [zI,zS,zS,zS,zS,zS,zS,zS,zS]) (by simp)
  have eR:∀{K:AV→Al},Aq Cp (.ptr c 55 0) H1 K=K (.agg r.cs):= λ{K}=>EZ (p:=55) rfl hc1 (show 64≤68 by decide)
  rw[eR,Ba (cs:=[zI,zS,zS,zS,zS,zS,zS,zS,zS]) rfl,B0 (vs:=r.cs) hn0 rfl rfl rfl]
  have hr1:=A9 (q:=true) (e:=Im) (cs:=r.cs) hn0
  have hclt:=w1.lt hc1
  have hc2:Au (upd ((A3 H1,.cells true Im [zI,zS,zS,zS,zS,zS,zS,zS,zS])::H1) (A3 H1) (.cells true Im r.cs)) c=some (Jf kd m u ca cb (Fw ts) ra rb (Ec ps) id ins nds o r vd):=by
   rw[Ap (by omega)];exact Bh hclt hc1
  generalize upd ((A3 H1,Row.cells true Im [zI,zS,zS,zS,zS,zS,zS,zS,zS])::H1) (A3 H1) (.cells true Im r.cs)=H2 at hr1 hc2
  generalize A3 H1=rv at hr1 jv
  have l0:∀{K:AV→Al},Aq Ab (.ptr rv 0 0) H2 K=K (I r.k):= λ{K}=>AQ (p:=0) rfl hr1 (show 0<9 by decide)
  have l1:∀{K:AV→Al},Aq Ao (.ptr rv 1 0) H2 K=K (.agg [S r.a1,S r.a2]):= λ{K}=>EZ (p:=1) rfl hr1 (show 3≤9 by decide)
  have l3:∀{K:AV→Al},Aq Ao (.ptr rv 3 0) H2 K=K (.agg [S r.b1,S r.b2]):= λ{K}=>EZ (p:=3) rfl hr1 (show 5≤9 by decide)
  have l5:∀{K:AV→Al},Aq Ao (.ptr rv 5 0) H2 K=K (.agg [S r.c1,S r.c2]):= λ{K}=>EZ (p:=5) rfl hr1 (show 7≤9 by decide)
  have l7:∀{K:AV→Al},Aq Ao (.ptr rv 7 0) H2 K=K (.agg [S r.d1,S r.d2]):= λ{K}=>EZ (p:=7) rfl hr1 (show 9≤9 by decide)
  have b1:=Ek [r.k]
  have hra:r.a1.length<390∧r.a2.length<390:=hrl (r.a1,r.a2) (by simp)
  have hrb:r.b1.length<390∧r.b2.length<390:=hrl (r.b1,r.b2) (by simp)
  have hrc:r.c1.length<390∧r.c2.length<390:=hrl (r.c1,r.c2) (by simp)
  have hrd:r.d1.length<390∧r.d2.length<390:=hrl (r.d1,r.d2) (by simp)
  have b2:=Ej [r.a1,r.a2] (by simp;omega)
  have b3:=Ej [r.b1,r.b2] (by simp;omega)
  have b4:=Ej [r.c1,r.c2] (by simp;omega)
  have b5:=Ej [r.d1,r.d2] (by simp;omega)
  have b6:=Ek [vd]
  simp only[Lf,Od] at b1 b2 b3 b4 b5 b6
  simp only[jv,f0,BH,l0,l1,l3,l5,l7,cV hc2,ZT]
  rw[nm (by simp) (by simp;omega),BH,Bl (by simp only[FK];omega),BH,rt' hra.1 hra.2,BH,Bl (by simp only[FK];omega),BH,rt' hrb.1 hrb.2,BH,Bl (by simp only[FK];omega),BH,rt' hrc.1 hrc.2,BH,Bl (by simp only[FK];omega),BH,rt' hrd.1 hrd.2,BH,Bl (by simp only[FK];omega),BH,nm (by simp) (by simp;omega),BH,Bl (by simp only[FK];omega),BH]
  rw[if_pos h3] at hK⊢
  have e:KZ kd m un ca cb ts ra rb ps pt (QY r vd)=GS [kd,m.lab,m.num,m.itm,m.tim,m.day]++FX [un]++FX [ca,cb]++GS [(ts.length:Int)]++Oi ts++FX [ra,rb]++GS [(ps.length:Int)]++FX ps++FX [pt]++GS [r.k]++FX [r.a1,r.a2]++FX [r.b1,r.b2]++FX [r.c1,r.c2]++FX [r.d1,r.d2]++GS [vd]:=by
   unfold KZ QY;simp[O5]
  rw[←e]
  exact hK _ _ (λb=>⟨false,λK=>by kernel_rfl⟩)
 ·rw[decide_eq_false h3,B9]
  rw[if_neg h3] at hK⊢
  have e:KZ kd m un ca cb ts ra rb ps pt []=GS [kd,m.lab,m.num,m.itm,m.tim,m.day]++FX [un]++FX [ca,cb]++GS [(ts.length:Int)]++Oi ts++FX [ra,rb]++GS [(ps.length:Int)]++FX ps++FX [pt]:=by
   unfold KZ;simp only[B8r,l1o,List.nil_append]
  rw[←e]
  exact hK _ _ (λb=>⟨false,λK=>by kernel_rfl⟩)
end
end
section
variable {L n:Nat}
theorem B6D:PS (rt (L+20) (n+40)) TY [.agg [I 0,AM,AM]] (.tup [S [],I 200]):=Bu (λH K=>by kernel_rfl) (by kernel_rfl)
theorem B6E:PS (rt (L+20) (n+40)) WL [.agg [I 0,AM,AM]] (.tup [Bo true,Bo false]):=Bu (λH K=>by kernel_rfl) (by kernel_rfl)
section
variable {m:ND} {u o:UD} {ca cb ra rb:List UInt8} {T P ins nds:AV} {kd id vd:Int} {r:RD} {b:List UInt8} {q:Bool}
theorem A82 (hT:Sl T) (hP:Sl P) (hI:Sl ins) (hN:Sl nds) (hb:b.length≤32768)
 (hs:CS (rt (L+20) (n+61)) DA [.agg (DF kd m u ca cb T ra rb P id ins nds o r vd)] (.tup [Bo true,Bo q]))
 (hB:CS (rt (L+20) (n+61)) LJ [.agg (DF kd m u ca cb T ra rb P id ins nds o r vd)] (S b)):
 CS (rt (L+20) (n+62)) JP [.agg (DF kd m u ca cb T ra rb P id ins nds o r vd)] (.tup [S b,I 0]):=by
 intro K hK
 rw[TL]
 unfold Oq AU Bw Ar E4 CH
 rw[Fa (PC hT hP hI hN)]
 have hc0:=Ay (H:=[]) (x:=Jf kd m u ca cb T ra rb P id ins nds o r vd) (by simp)
 generalize ((A3 [],Jf kd m u ca cb T ra rb P id ins nds o r vd)::([]:Hp))=H0 at hc0
 generalize A3 []=c at hc0
 have f0:∀{j:Nat} {K:AV→Al},AL j (.ptr c 0 0) K=K (.ptr c j 0):= λ{j K}=>by rw[fA,K1]
 have hs':∀K,Ah (rt (L+20) (n+61)) DA [.agg (DF kd m u ca cb T ra rb P id ins nds o r vd)] H0 K=K (.tup [Bo true,Bo q]):= λK=>Be hs (SP hT hP hI hN)
 have hB':∀K,Ah (rt (L+20) (n+61)) LJ [.agg (DF kd m u ca cb T ra rb P id ins nds o r vd)] H0 K=K (S b):= λK=>Be hB (SP hT hP hI hN)
 have lS:∀{K:AV→Al},AN Ad (S b) K=K (I b.length):= λ{K}=>MS rfl
 rw[cA hc0,hs',CY,CX,ntT,B9,cA hc0,hB',f0,cS hc0,B6E (n:=n+21),CY,CX,f0,cS hc0,B6D (n:=n+21),CY,CX,lS,Ey,decide_eq_false (by omega)]
 simp only[gTF,gT,Ci,ntT,TB]
 rw[B9]
 exact hK _ _ (λb=>⟨false,λK=>by kernel_rfl⟩)
theorem C5Q {cs:List AV} (hL:40000<L) (h1:cs.all AV.one=true) (hz:cs.length=68) (hfx:∀H,PH true depth [.agg cs] [.agg cs] H false) (hb:b.length≤32768) (hB:CS (rt (L+20) (n+62)) JP [.agg cs] (.tup [S b,I 0])):CS (rt (L+20) (n+63)) GA [.agg cs] (S (sha b)):=by
 intro K hK
 rw[Ws]
 unfold Sd Ar
 rw[Fa h1]
 have hc0:=Ay (H:=[]) (x:= .cells true Ai cs) (by simp)
 generalize ((A3 [],Row.cells true Ai cs)::([]:Hp))=H0 at hc0
 rw[Bk rfl hz.symm hc0,Be hB (hfx H0),CY,CX,Hu]
 show As (.v (.bool false)) _ _=_
 rw[B9]
 have hs:∀K,Ah (rt (L+20) (n+62)) NC [S b] H0 K=K (S (sha b)):= λK=>Be (B81 (L:=L+20) (n:=n+59) (by omega) (by omega)) (A0 (q:=false) (q':=false) E5 Bp)
 rw[hs]
 exact hK _ _ (λb=>⟨false,λK=>by kernel_rfl⟩)
end
end
section
variable {L n:Nat}
theorem C3v {k:Nat} (hk:k=1∨k=2∨k=3):∀K,eEq Gs BinOp.eql (AV.agg (rr k).cs) (AV.agg [zI,zS,zS,zS,zS,zS,zS,zS,zS]) K=K (Bo false):= λK=>by rw[←qO];rcases hk with rfl|rfl|rfl<;>kernel_rfl
theorem B8O {k:Nat} (hk:k=1∨k=2∨k=3):PS (rt (L+20) (n+40)) Py [.agg (rr k).cs] (Bo true):=by
 rcases hk with rfl|rfl|rfl<;>exact Bu (λH K=>by kernel_rfl) (by as_aux_lemma=>kernel_rfl)
theorem B32 {k:Nat} (hk:k=1∨k=2∨k=3):PS (rt (L+20) (n+40)) Gp [.agg (rr k).cs] (Bo true):=by
 rcases hk with rfl|rfl|rfl<;>exact Bu (λH K=>by kernel_rfl) (by as_aux_lemma=>kernel_rfl)
theorem A4f:PS (rt (L+20) (n+40)) Gp [.agg r0.cs] (Bo false):=Bu (λH K=>by kernel_rfl) (by kernel_rfl)
end
section
variable {L n:Nat}
structure CB where
 m:ND
 c:Int
 r:Int
 ts:ZB
structure CB.Ok (b:CB):Prop where
 m:b.m.ok
 c1: -80≤b.c
 c2:b.c≤80
 r1:0≤b.r
 r2:b.r≤8
 ts:TmsOk b.ts
inductive Cd where
 |re (b:CB) (u:Nat)
 |co (b:CB) (p:Pr) (ps:List (List UInt8)) (t:Option (Nat×Int))
def Cd.kd:Cd→Int
 | .re _ _=>1
 | .co _ _ _ none=>2
 | .co _ _ _ (some _)=>3
def Cd.ps:Cd→List (List UInt8)
 | .re _ _=>[]
 | .co _ _ ps _=>ps
abbrev cdC (kd:Int) (b:CB) (u:UD) (ps:List (List UInt8)) (id:Int) (ins nds:AV) (o:UD) (r:RD) (vd:Int):List AV:=DF kd b.m u (qn b.c) (qd b.c) (Fw b.ts) (qn b.r) (qd b.r) (Ec ps) id ins nds o r vd
def Cd.cs:Cd→List AV
 | .re b u=>cdC 1 b (uu u) [] 0 AM AM u0 r0 0
 | .co b p ps none=>cdC 2 b (uu p.out) ps p.id (BC p.ks) (BR p.xs) (uu p.out) r0 0
 | .co b p ps (some (k,vd))=>cdC 3 b (uu p.out) ps p.id (BC p.ks) (BR p.xs) (uu p.out) (rr k) vd
def Cd.body:Cd→List UInt8
 | .re b u=>KZ 1 b.m (Jv u) (qn b.c) (qd b.c) b.ts (qn b.r) (qd b.r) [] [] []
 | .co b p ps none=>KZ 2 b.m (Jv p.out) (qn b.c) (qd b.c) b.ts (qn b.r) (qd b.r) ps p.txt []
 | .co b p ps (some (k,vd))=>KZ 3 b.m (Jv p.out) (qn b.c) (qd b.c) b.ts (qn b.r) (qd b.r) ps p.txt (QY (rr k) vd)
def Cd.Ok:Cd→Prop
 | .re b u=>b.Ok∧u<7
 | .co b p ps t=>b.Ok∧p.Ok∧ps.length=p.ks.length∧(∀s∈ps,s.length=32)∧(match t with|none=>True|some (k,vd)=>(k=1∨k=2∨k=3)∧1≤vd∧vd≤3)
def Cd.id (c:Cd):List UInt8:=sha c.body
theorem Lz (ps:List (List UInt8)):Sl (Ec ps):=by cases ps with|nil=>exact .inl rfl|cons p l=>exact .inr ⟨_,_,rfl⟩
theorem T6 {ps:List (List UInt8)} (h:1≤ps.length):Ec ps=Ls ps:=by cases ps with|nil=>simp at h|cons p l=>rfl
theorem C3w {k:Nat} (h:k=1∨k=2∨k=3):(rr k).k=0∨(rr k).k=1∨(rr k).k=2∨(rr k).k=3:=by rcases h with rfl|rfl|rfl<;>decide
theorem A7W {k:Nat} (h:k=1∨k=2∨k=3):∀q∈[((rr k).a1,(rr k).a2),((rr k).b1,(rr k).b2),((rr k).c1,(rr k).c2),((rr k).d1,(rr k).d2)],q.1.length<390∧q.2.length<390:=by
 rcases h with rfl|rfl|rfl<;>decide
theorem A4h:∀q∈[(r0.a1,r0.a2),(r0.b1,r0.b2),(r0.c1,r0.c2),(r0.d1,r0.d2)],q.1.length<390∧q.2.length<390:=by decide
section
variable {b:CB} {p:Pr} {ps:List (List UInt8)} {kd:Int} {tail:List UInt8} {un pt:List UInt8}
theorem CB.Ok.cl (h:b.Ok):(qn b.c).length<10∧(qd b.c).length<10∧(qn b.r).length<10∧(qd b.r).length<10:=by
 have h1:=T3 h.c1 (show b.c<81 by have:=h.c2;omega)
 have h2:=T3 (z:=b.r) (by have:=h.r1;omega) (by have:=h.r2;omega)
 have h3:=T4 b.c
 have h4:=T4 b.r
 omega
theorem A1Z (h:b.Ok) (hu:un.length<390) (hp:ps.length≤6) (hpl:∀s∈ps,s.length<390) (hpt:pt.length<390) (ht:tail.length≤4000):(KZ kd b.m un (qn b.c) (qd b.c) b.ts (qn b.r) (qd b.r) ps pt tail).length≤32768:=by
 obtain⟨q1,q2,q3,q4⟩:=h.cl
 have l1:=Ek [kd,b.m.lab,b.m.num,b.m.itm,b.m.tim,b.m.day]
 have l2:=Ej [un] (by simpa using hu)
 have l3:=LU [(qn b.c,qd b.c)] (by simp;omega)
 have l4:=Ek [(b.ts.length:Int)]
 have l5:=VZ b.ts (λt ht=>by
  have:=h.ts.rng t ht
  have:=T3 (z:=t.2) (by omega) (by omega)
  have:=T4 t.2
  omega)
 have l6:=LU [(qn b.r,qd b.r)] (by simp;omega)
 have l7:=Ek [(ps.length:Int)]
 have l8:=Ej ps hpl
 have l9:=Ej [pt] (by simpa using hpt)
 have l0:=h.ts.len
 simp only[KZ,FK,Lf,Od] at l1 l2 l3 l4 l5 l6 l7 l8 l9⊢
 omega
theorem B2J {k:Nat} {vd:Int} (h:k=1∨k=2∨k=3):(QY (rr k) vd).length≤4000:=by
 have l1:=Ek [(rr k).k]
 have l2:=LU _ (A7W h)
 have l3:=Ek [vd]
 simp only[QY,FK,Lf,Od] at l1 l2 l3⊢
 omega
end
section
variable {c:Cd}
theorem Jg:c.cs.all AV.one=true:=by
 match c with
 | .re b u=>exact PC (F4 _) (Lz _) (.inl rfl) (.inl rfl)
 | .co b p ps none=>exact PC (F4 _) (Lz _) (.inr ⟨_,_,rfl⟩) (.inr ⟨_,_,rfl⟩)
 | .co b p ps (some (k,vd))=>exact PC (F4 _) (Lz _) (.inr ⟨_,_,rfl⟩) (.inr ⟨_,_,rfl⟩)
theorem BM:c.cs.length=68:=by
 match c with
 | .re b u=>rfl
 | .co b p ps none=>rfl
 | .co b p ps (some (k,vd))=>rfl
theorem YC (H:Hp):PH true depth [.agg c.cs] [.agg c.cs] H false:=by
 match c with
 | .re b u=>exact SP (F4 _) (Lz _) (.inl rfl) (.inl rfl)
 | .co b p ps none=>exact SP (F4 _) (Lz _) (.inr ⟨_,_,rfl⟩) (.inr ⟨_,_,rfl⟩)
 | .co b p ps (some (k,vd))=>exact SP (F4 _) (Lz _) (.inr ⟨_,_,rfl⟩) (.inr ⟨_,_,rfl⟩)
theorem WZ (h:c.Ok):c.body.length≤32768:=by
 match c,h with
 | .re b u,⟨hb,hu⟩=>exact A1Z hb (by have:=EU u;omega) (by simp) (by simp) (by simp) (by simp)
 | .co b p ps none,⟨hb,hp,h1,h2,_⟩=>exact A1Z hb (by have:=EU p.out;omega) (by have:=hp.k3;omega) (λs hs=>by rw[h2 s hs];decide) (XF hp) (by simp)
 | .co b p ps (some (k,vd)),⟨hb,hp,h1,h2,h3⟩=>exact A1Z hb (by have:=EU p.out;omega) (by have:=hp.k3;omega) (λs hs=>by rw[h2 s hs];decide) (XF hp) (B2J h3.1)
theorem C2X:RV (rt (L+20) (n+40)) ER [.agg (Bs 0 AM AM u0)] (.tup [S [],I 90]):= λb=>by kernel_rfl
theorem C3D:RV (rt (L+20) (n+40)) HG [.agg (Bs 0 AM AM u0)] (.tup [S [],I 90]):= λb=>by kernel_rfl
theorem B4D (hL:40000<L) (h:c.Ok) (hn:c.ps.Nodup):CS (rt (L+20) (n+63)) JQ [.agg c.cs] (S c.id):=by
 refine C5L hL Jg BM YC (WZ h) ?_
 match c,h,hn with
 | .re b u,⟨hb,hu⟩,_=>
  have st:=B0k (L:=L) (n:=n) (o:=u0) hb.m (F4 b.ts) (B2f (L:=L) (n:=n+20)).o (Tq L (n+20) u (by omega)).o (A7B (L:=L) (n:=n+16) hb.c1 hb.c2 hb.r1 hb.r2 hb.ts).ls
  exact A7D (n:=n) (ps:=[]) (vd:=0) (kd:=1) (by omega) hb.m (.inl rfl) hb.ts (.inl rfl) (.inl rfl) (by simp) (by simp) (by have:=EU u;omega) (by simp) (.inl rfl) A4h (by decide) hb.cl st.ls (QQ L (n+21) u (by omega)) (C2X (L:=L) (n:=n+21)).ls
 | .co b p ps none,⟨hb,hp,h1,h2,_⟩,hn=>
  have k1:=hp.k1
  have k3:=hp.k3
  have hps:Ec ps= .list p.ks.length (B5 ps):=by rw[T6 (by omega),Ls,h1]
  have hpa:=(A2W (L:=L) (n:=n+53) (ps:=ps) hn (by omega) (by omega) (by omega) h2).ls
  rw[Ls,h1] at hpa
  have cp:=A0d (L:=L) (n:=n) (kd:=2) (m:=b.m) (ca:=qn b.c) (cb:=qd b.c) (ra:=qn b.r) (rb:=qd b.r) (r:=r0) (vd:=0) (F4 b.ts) ⟨_,_,rfl⟩ hpa (B3m (L:=L) (n:=n+13) (by omega) hp).ls
  have st:=B0j (L:=L) (n:=n) hb.m (F4 b.ts) ⟨_,_,rfl⟩ ⟨_,_,rfl⟩ ⟨_,_,rfl⟩ cp.ls (Tq L (n+20) p.out (HT hp)).o (A7B (L:=L) (n:=n+16) hb.c1 hb.c2 hb.r1 hb.r2 hb.ts).ls
  rw[←hps] at st
  exact A7D (n:=n) (ps:=ps) (vd:=0) (kd:=2) (by omega) hb.m (.inr (.inl rfl)) hb.ts (.inr ⟨_,_,rfl⟩) (.inr ⟨_,_,rfl⟩) (by omega) (λs hs=>by rw[h2 s hs];decide) (by have:=EU p.out;omega) (XF hp) (.inl rfl) A4h (by decide) hb.cl st.ls (QQ L (n+21) _ (HT hp)) (B85 (L:=L) (n:=n+14) (by omega) hp).ls
 | .co b p ps (some (k,vd)),⟨hb,hp,h1,h2,h3,h4,h5⟩,hn=>
  have k1:=hp.k1
  have k3:=hp.k3
  have hps:Ec ps= .list p.ks.length (B5 ps):=by rw[T6 (by omega),Ls,h1]
  have hpa:=(A2W (L:=L) (n:=n+53) (ps:=ps) hn (by omega) (by omega) (by omega) h2).ls
  rw[Ls,h1] at hpa
  have cp:=A0d (L:=L) (n:=n) (kd:=3) (m:=b.m) (ca:=qn b.c) (cb:=qd b.c) (ra:=qn b.r) (rb:=qd b.r) (r:=rr k) (vd:=vd) (F4 b.ts) ⟨_,_,rfl⟩ hpa (B3m (L:=L) (n:=n+13) (by omega) hp).ls
  have st:=B0i (L:=L) (n:=n) hb.m (F4 b.ts) ⟨_,_,rfl⟩ ⟨_,_,rfl⟩ ⟨_,_,rfl⟩ (C3v h3) (B8O (L:=L) (n:=n+20) h3).o h4 h5 (Tq L (n+20) p.out (HT hp)).o (A7B (L:=L) (n:=n+16) hb.c1 hb.c2 hb.r1 hb.r2 hb.ts).ls cp.ls
  rw[←hps] at st
  exact A7D (n:=n) (ps:=ps) (vd:=vd) (kd:=3) (by omega) hb.m (.inr (.inr rfl)) hb.ts (.inr ⟨_,_,rfl⟩) (.inr ⟨_,_,rfl⟩) (by omega) (λs hs=>by rw[h2 s hs];decide) (by have:=EU p.out;omega) (XF hp) (C3w h3) (A7W h3) (by omega) hb.cl st.ls (QQ L (n+21) _ (HT hp)) (B85 (L:=L) (n:=n+14) (by omega) hp).ls
end
end
section
variable {L n:Nat}
section
variable {R:Rt} {K:KV} {ps:List (List UInt8)} {H:Hp} {y:Al}
theorem B6V {k39:AV→AV→AV→Hp→Al} {i:Nat} (hi:i<ps.length) (hb:ps.length<100) (hy:K (.tup [Bo false,I ps.length]) H=y) (hk:k39 (Ls ps) (I i) (I i) H=y∨∃m,∃h:m<i,ps[m]'(by omega)=ps[i]):∀(f j:Nat),j≤i→i-j<f→(∀m (_:m<j) (h':m<ps.length),ps[m]≠ps[i])→
 HR (L+20) R K k39 f (Ls ps) (I i) (I j) H=y:=by
 intro f
 induction f with
 |zero=>intro j _ h;omega
 |succ f ih=>
  intro j hj hf hno
  rw[OL]
  unfold JJ Ar CH
  by_cases h:j<i
  ·rw[Ge (by omega),D3,PA (by omega),BH,ET,BH,PA hi,BH,ET,BH,JR]
   by_cases he:ps[j]=ps[i]
   ·rw[decide_eq_true he,BH,D3,Np]
    exact hy
   ·rw[decide_eq_false he,BH,B9,DS (by omega)]
    exact ih (j+1) (by omega) (by omega) λm hm hm'=>by
     by_cases hmj:m=j
     ·subst hmj;exact he
     ·exact hno m (by omega) hm'
  ·rw[Gf (by omega),B9]
   obtain rfl:j=i:=by omega
   rcases hk with hk|⟨m,hm,e⟩
   ·exact hk
   ·exact absurd e (hno m hm (by omega))
theorem B6W {k14:AV→Hp→Al} (hb:ps.length<100) (hL:ps.length<L+20) (hl:∀s∈ps,s.length=32) (hy:K (.tup [Bo false,I ps.length]) H=y):∀(f i:Nat) (v:AV),i≤ps.length→ps.length-i<f→
 (∃t m,i≤t∧∃(h:t<ps.length) (hm:m<t),ps[m]'(by omega)=ps[t])→HS (L+20) R K k14 f (Ls ps) (I i) v H=y:=by
 intro f
 induction f with
 |zero=>intro i v _ h;omega
 |succ f ih=>
  intro i v hi hf hex
  obtain⟨t,m,h1,h2,h3,h4⟩:=hex
  rw[OM]
  unfold JK Ar CH
  rw[Np]
  have h:i<ps.length:=by omega
  rw[Ge (by omega),D3]
  simp only[Cl]
  rw[PA h,ET,MS rfl,hl _ (Ow h),Hu]
  rw[show(!decide (((32:Nat):Int)=32))=false from rfl,B9]
  have e0:(AV.v (.int .i64 0))=I ((0:Nat):Int):=rfl
  rw[e0]
  refine B6V h hb hy ?_ _ 0 (by omega) (by omega) (λm hm _=>by omega)
  by_cases hd:t=i
  ·subst hd;exact .inr ⟨m,h3,h4⟩
  ·left
   rw[DS (by omega)]
   exact ih (i+1) _ (by omega) (by omega) ⟨t,m,by omega,h2,h3,h4⟩
theorem B0S (h:¬ps.Nodup):∃t m,0≤t∧∃(h:t<ps.length) (hm:m<t),ps[m]'(by omega)=ps[t]:=Classical.byContradiction λhc=>h (by
 rw[List.nodup_iff_pairwise_ne,l20]
 intro i j hi hj hij e
 exact hc ⟨j,i,l1c _,hj,hij,e⟩)
theorem A0J (hn:¬ps.Nodup) (hb:ps.length≤6) (hl:∀s∈ps,s.length=32):CS (rt (L+20) (n+1)) EW [Ls ps] (.tup [Bo false,I ps.length]):=by
 intro K hK
 rw[PW]
 unfold Ky AU Ar CH
 simp only[Cl]
 have e0:(AV.v (.int .i64 0))=I ((0:Nat):Int):=rfl
 rw[e0]
 exact B6W (by omega) (by omega) hl (hK _ _ (λb=>⟨false,λK=>by kernel_rfl⟩)) _ 0 _ (by omega) (by omega) (B0S hn)
end
section
variable {m:ND} {u o:UD} {ca cb ra rb:List UInt8} {T P ins nds:AV} {id vd kd:Int} {r:RD} {q:Bool}
theorem A9r (hT:Sl T) (hP:Sl P) (hI:Sl ins) (hN:Sl nds)
 (hs:CS (rt (L+20) (n+61)) DA [.agg (DF kd m u ca cb T ra rb P id ins nds o r vd)] (.tup [Bo false,Bo q])):
 CS (rt (L+20) (n+62)) JP [.agg (DF kd m u ca cb T ra rb P id ins nds o r vd)] (.tup [S [],I 210]):=by
 intro K hK
 rw[TL]
 unfold Oq AU Bw Ar E4 CH
 rw[Fa (PC hT hP hI hN)]
 have hc0:=Ay (H:=[]) (x:=Jf kd m u ca cb T ra rb P id ins nds o r vd) (by simp)
 generalize ((A3 [],Jf kd m u ca cb T ra rb P id ins nds o r vd)::([]:Hp))=H0 at hc0
 generalize A3 []=c at hc0
 have hs':∀K,Ah (rt (L+20) (n+61)) DA [.agg (DF kd m u ca cb T ra rb P id ins nds o r vd)] H0 K=K (.tup [Bo false,Bo q]):= λK=>Be hs (SP hT hP hI hN)
 rw[cA hc0,hs',CY,CX,ntF,D3]
 exact hK _ _ (λb=>⟨false,λK=>by kernel_rfl⟩)
theorem C3E {cs:List AV} (h1:cs.all AV.one=true) (hz:cs.length=68) (hfx:∀H,PH true depth [.agg cs] [.agg cs] H false) (hB:CS (rt (L+20) (n+62)) JP [.agg cs] (.tup [S [],I 210])):CS (rt (L+20) (n+63)) GA [.agg cs] (S []):=by
 intro K hK
 rw[Ws]
 unfold Sd Ar
 rw[Fa h1]
 have hc0:=Ay (H:=[]) (x:= .cells true Ai cs) (by simp)
 generalize ((A3 [],Row.cells true Ai cs)::([]:Hp))=H0 at hc0
 rw[Bk rfl hz.symm hc0,Be hB (hfx H0),CY,CX,Hu]
 show As (.v (.bool true)) _ _=_
 rw[D3]
 exact hK _ _ (λb=>⟨false,λK=>by kernel_rfl⟩)
end
attribute [local irreducible] Ah rt YF eBi eEq cnd Go.Abs.Ak Go.Abs.Uc As
section
variable {m:ND} {u o:UD} {ca cb ra rb:List UInt8} {T P ins nds:AV} {id vd:Int} {r:RD}
theorem A80 (hm:m.ok) (hT:Sl T) (hr:PO (rt (L+20) (n+60)) Gp [.agg r0.cs] (Bo false)) {n2:Nat} {c2:List AV} (hP:∃n cs,P= .list n cs) (hN:∃n cs,nds= .list n cs)
 (hp:LS (rt (L+20) (n+60)) EW [P] (.tup [Bo false,I n2])) (hv:LS (rt (L+20) (n+60)) Ei [.agg (Bs id (.list n2 c2) nds u)] (Bo true))
 (hu:PO (rt (L+20) (n+60)) DH [.agg (Cb u)] (Bo true)) (hf:LS (rt (L+20) (n+60)) Gq [.agg (Va ca cb T ra rb)] (Bo true)):
 CS (rt (L+20) (n+61)) DA [.agg (DF 2 m u ca cb T ra rb P id (.list n2 c2) nds u r0 0)] (.tup [Bo false,Bo false]):=by
 intro K hK
 obtain⟨h1,h2,h3,h4,h5,h6,h7,h8,h9,h10⟩:=hm
 obtain⟨n1,c1,rfl⟩:=hP
 obtain⟨n3,c3,rfl⟩:=hN
 have hb:∀{z lo hi:Int},lo≤z→z≤hi→PO (rt (L+20) (n+60)) CL [I z,I lo,I hi] (Bo true):= λa b=>(T2 a b).o
 rcases hT with rfl|⟨n4,c4,rfl⟩
 all_goals
  rewrite [HW]
  unfold Gy AU Bw Ar E4 CH
  try rewrite [zO]
  try rewrite [bO]
  try rewrite [qO]
  try rewrite [cO]
  generalize rt (L+20) (n+60)=R at*
  conv=>lhs;whnf
  rewrite [SY ?hc]
  case hc=>decide
  conv=>lhs;whnf
  rewrite [hu]
  conv=>lhs;whnf
  rewrite [(hf) false _ _ ?hq]
  case hq=>exact λK=>by kernel_rfl
  conv=>lhs;whnf
  rewrite [hb h1 (by omega)]
  conv=>lhs;whnf
  rewrite [hb h3 (by omega)]
  conv=>lhs;whnf
  rewrite [hb h5 (by omega)]
  conv=>lhs;whnf
  rewrite [hb h7 (by omega)]
  conv=>lhs;whnf
  rewrite [hb h9 (by omega)]
  conv=>lhs;whnf
  rewrite [XA1]
  conv=>lhs;whnf
  rewrite [hr]
  conv=>lhs;whnf
  rewrite [show∀K,eEq Gs BinOp.neq (AV.agg [I r0.k,S r0.a1,S r0.a2,S r0.b1,S r0.b2,S r0.c1,S r0.c2,S r0.d1,S r0.d2]) (AV.agg [zI,zS,zS,zS,zS,zS,zS,zS,zS]) K=K (Bo false) from λK=>by rw[←qO];kernel_rfl]
  conv=>lhs;whnf
  rewrite [B3A ?hc]
  case hc=>decide
  conv=>lhs;whnf
  rewrite [XA1]
  conv=>lhs;whnf
  rewrite [SY ?hc]
  case hc=>decide
  conv=>lhs;whnf
  rewrite [XA1]
  conv=>lhs;whnf
  rewrite [NH ?hc]
  case hc=>decide
  conv=>lhs;whnf
  rewrite [Nr]
  conv=>lhs;whnf
  rewrite [Nr]
  conv=>lhs;whnf
  rewrite [(hp) false _ _ ?hq]
  case hq=>exact λK=>by kernel_rfl
  conv=>lhs;whnf
  rewrite [(hv) false _ _ ?hq]
  case hq=>exact λK=>by kernel_rfl
  conv=>lhs;whnf
  exact hK _ _ (λb=>⟨false,λK=>by kernel_rfl⟩)
theorem A7Z (hm:m.ok) (hT:Sl T) (hr:PO (rt (L+20) (n+60)) Gp [.agg r.cs] (Bo true)) (hv1:1≤vd) (hv2:vd≤3) {n2:Nat} {c2:List AV} (hP:∃n cs,P= .list n cs) (hN:∃n cs,nds= .list n cs)
 (hp:LS (rt (L+20) (n+60)) EW [P] (.tup [Bo false,I n2])) (hv:LS (rt (L+20) (n+60)) Ei [.agg (Bs id (.list n2 c2) nds u)] (Bo true))
 (hu:PO (rt (L+20) (n+60)) DH [.agg (Cb u)] (Bo true)) (hf:LS (rt (L+20) (n+60)) Gq [.agg (Va ca cb T ra rb)] (Bo true)):
 CS (rt (L+20) (n+61)) DA [.agg (DF 3 m u ca cb T ra rb P id (.list n2 c2) nds u r vd)] (.tup [Bo false,Bo true]):=by
 intro K hK
 obtain⟨h1,h2,h3,h4,h5,h6,h7,h8,h9,h10⟩:=hm
 obtain⟨n1,c1,rfl⟩:=hP
 obtain⟨n3,c3,rfl⟩:=hN
 have hb:∀{z lo hi:Int},lo≤z→z≤hi→PO (rt (L+20) (n+60)) CL [I z,I lo,I hi] (Bo true):= λa b=>(T2 a b).o
 rcases hT with rfl|⟨n4,c4,rfl⟩
 all_goals
  rewrite [HW]
  unfold Gy AU Bw Ar E4 CH
  try rewrite [zO]
  try rewrite [bO]
  try rewrite [qO]
  try rewrite [cO]
  generalize rt (L+20) (n+60)=R at*
  conv=>lhs;whnf
  rewrite [NH ?hc]
  case hc=>decide
  conv=>lhs;whnf
  rewrite [hu]
  conv=>lhs;whnf
  rewrite [(hf) false _ _ ?hq]
  case hq=>exact λK=>by kernel_rfl
  conv=>lhs;whnf
  rewrite [hb h1 (by omega)]
  conv=>lhs;whnf
  rewrite [hb h3 (by omega)]
  conv=>lhs;whnf
  rewrite [hb h5 (by omega)]
  conv=>lhs;whnf
  rewrite [hb h7 (by omega)]
  conv=>lhs;whnf
  rewrite [hb h9 (by omega)]
  conv=>lhs;whnf
  rewrite [XA1]
  conv=>lhs;whnf
  rewrite [hr]
  conv=>lhs;whnf
  rewrite [hb hv1 hv2]
  conv=>lhs;whnf
  rewrite [XA1]
  conv=>lhs;whnf
  rewrite [SY ?hc]
  case hc=>decide
  conv=>lhs;whnf
  rewrite [XA1]
  conv=>lhs;whnf
  rewrite [SY ?hc]
  case hc=>decide
  conv=>lhs;whnf
  rewrite [XA1]
  conv=>lhs;whnf
  rewrite [NH ?hc]
  case hc=>decide
  conv=>lhs;whnf
  rewrite [Nr]
  conv=>lhs;whnf
  rewrite [(hp) false _ _ ?hq]
  case hq=>exact λK=>by kernel_rfl
  conv=>lhs;whnf
  rewrite [(hv) false _ _ ?hq]
  case hq=>exact λK=>by kernel_rfl
  conv=>lhs;whnf
  exact hK _ _ (λb=>⟨false,λK=>by kernel_rfl⟩)
end
end
section
variable {L n:Nat}
section
variable {c:Cd}
theorem A8U (hL:40000<L) (h:c.Ok) (hn:c.ps.Nodup):CS (rt (L+20) (n+64)) GA [.agg c.cs] (S c.id):=by
 refine C5Q (n:=n+1) hL Jg BM YC (WZ h) ?_
 match c,h,hn with
 | .re b u,⟨hb,hu⟩,_=>
  have st:=B0G (L:=L) (n:=n+1) (o:=u0) hb.m (F4 b.ts) (A4f (L:=L) (n:=n+21)).o (B30 (L:=L) (n:=n+21)).o (OV L (n+21) u (by omega)).o (A0M (L:=L) (n:=n+19) hb.c1 hb.c2 hb.r1 hb.r2 (by omega) hb.ts).ls
  exact A82 (n:=n+1) (F4 _) (Lz []) (.inl rfl) (.inl rfl) (WZ (c:= .re b u) ⟨hb,hu⟩) st (A81 (n:=n) (ps:=[]) (vd:=0) (kd:=1) (by omega) hb.m (.inl rfl) hb.ts (.inl rfl) (.inl rfl) (by simp) (by simp) (by have:=EU u;omega) (by simp) (.inl rfl) A4h (by decide) hb.cl (Ra L (n+21) u (by omega)) (C3D (L:=L) (n:=n+21)).ls)
 | .co b p ps none,⟨hb,hp,h1,h2,h3⟩,hn=>
  have k1:=hp.k1
  have k3:=hp.k3
  have hps:Ec ps=Ls ps:=T6 (by omega)
  have hpa:=(A39 (L:=L) (n:=n+60) (ps:=ps) hn (by omega) (by omega) h2).ls
  rw[←hps,h1] at hpa
  have st:=B0F (L:=L) (n:=n+1) hb.m (F4 b.ts) (A4f (L:=L) (n:=n+21)).o ⟨_,_,hps⟩ ⟨_,_,rfl⟩ hpa (A61 (L:=L) (n:=n+17) (by omega) hp).ls (OV L (n+21) p.out (HT hp)).o (A0M (L:=L) (n:=n+19) hb.c1 hb.c2 hb.r1 hb.r2 (by omega) hb.ts).ls
  exact A82 (n:=n+1) (F4 _) (Lz ps) (.inr ⟨_,_,rfl⟩) (.inr ⟨_,_,rfl⟩) (WZ (c:= .co b p ps none) ⟨hb,hp,h1,h2,h3⟩) st (A81 (n:=n) (ps:=ps) (vd:=0) (kd:=2) (by omega) hb.m (.inr (.inl rfl)) hb.ts (.inr ⟨_,_,rfl⟩) (.inr ⟨_,_,rfl⟩) (by omega) (λs hs=>by rw[h2 s hs];decide) (by have:=EU p.out;omega) (XF hp) (.inl rfl) A4h (by decide) hb.cl (Ra L (n+21) _ (HT hp)) (B86 (L:=L) (n:=n+16) (by omega) hp).ls)
 | .co b p ps (some (k,vd)),⟨hb,hp,h1,h2,h3,h4,h5⟩,hn=>
  have k1:=hp.k1
  have k3:=hp.k3
  have hps:Ec ps=Ls ps:=T6 (by omega)
  have hpa:=(A39 (L:=L) (n:=n+60) (ps:=ps) hn (by omega) (by omega) h2).ls
  rw[←hps,h1] at hpa
  have st:=B0E (L:=L) (n:=n+1) hb.m (F4 b.ts) (B32 (L:=L) (n:=n+21) h3).o h4 h5 ⟨_,_,hps⟩ ⟨_,_,rfl⟩ hpa (A61 (L:=L) (n:=n+17) (by omega) hp).ls (OV L (n+21) p.out (HT hp)).o (A0M (L:=L) (n:=n+19) hb.c1 hb.c2 hb.r1 hb.r2 (by omega) hb.ts).ls
  exact A82 (n:=n+1) (F4 _) (Lz ps) (.inr ⟨_,_,rfl⟩) (.inr ⟨_,_,rfl⟩) (WZ (c:= .co b p ps (some (k,vd))) ⟨hb,hp,h1,h2,h3,h4,h5⟩) st (A81 (n:=n) (ps:=ps) (vd:=vd) (kd:=3) (by omega) hb.m (.inr (.inr rfl)) hb.ts (.inr ⟨_,_,rfl⟩) (.inr ⟨_,_,rfl⟩) (by omega) (λs hs=>by rw[h2 s hs];decide) (by have:=EU p.out;omega) (XF hp) (C3w h3) (A7W h3) (by omega) hb.cl (Ra L (n+21) _ (HT hp)) (B86 (L:=L) (n:=n+16) (by omega) hp).ls)
theorem B7M (hL:40000<L) (h:c.Ok) (hn:¬c.ps.Nodup):CS (rt (L+20) (n+64)) GA [.agg c.cs] (S []):=by
 refine C3E (n:=n+1) Jg BM YC ?_
 match c,h,hn with
 | .re b u,_,hn=>exact absurd List.nodup_nil hn
 | .co b p ps none,⟨hb,hp,h1,h2,h3⟩,hn=>
  have k1:=hp.k1
  have k3:=hp.k3
  have hps:Ec ps=Ls ps:=T6 (by omega)
  have hpa:=(A0J (L:=L) (n:=n+60) (ps:=ps) hn (by omega) h2).ls
  rw[←hps,h1] at hpa
  have st:=A80 (L:=L) (n:=n+1) hb.m (F4 b.ts) (A4f (L:=L) (n:=n+21)).o ⟨_,_,hps⟩ ⟨_,_,rfl⟩ hpa (A61 (L:=L) (n:=n+17) (by omega) hp).ls (OV L (n+21) p.out (HT hp)).o (A0M (L:=L) (n:=n+19) hb.c1 hb.c2 hb.r1 hb.r2 (by omega) hb.ts).ls
  exact A9r (n:=n+1) (F4 _) (Lz ps) (.inr ⟨_,_,rfl⟩) (.inr ⟨_,_,rfl⟩) st
 | .co b p ps (some (k,vd)),⟨hb,hp,h1,h2,h3,h4,h5⟩,hn=>
  have k1:=hp.k1
  have k3:=hp.k3
  have hps:Ec ps=Ls ps:=T6 (by omega)
  have hpa:=(A0J (L:=L) (n:=n+60) (ps:=ps) hn (by omega) h2).ls
  rw[←hps,h1] at hpa
  have st:=A7Z (L:=L) (n:=n+1) hb.m (F4 b.ts) (B32 (L:=L) (n:=n+21) h3).o h4 h5 ⟨_,_,hps⟩ ⟨_,_,rfl⟩ hpa (A61 (L:=L) (n:=n+17) (by omega) hp).ls (OV L (n+21) p.out (HT hp)).o (A0M (L:=L) (n:=n+19) hb.c1 hb.c2 hb.r1 hb.r2 (by omega) hb.ts).ls
  exact A9r (n:=n+1) (F4 _) (Lz ps) (.inr ⟨_,_,rfl⟩) (.inr ⟨_,_,rfl⟩) st
end
end
end Go.Abs
end
