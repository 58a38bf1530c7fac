import Derived.Test.YtlbhdmbfdcohhaaGreatDoorP43
import Derived.Test.YtlbhdmbfdcohhaaGreatDoorP45
set_option linter.all false
set_option maxHeartbeats 100000000
noncomputable section
namespace Go.Abs
open Go.RowKit Go.Proofs
set_option maxRecDepth 100000
section
variable {L n:Nat}
def exO (ks:List Nat) (q a13 b4 k7 e5 l r:Nat):Ex:=match q with
 |0=> .cn (X0 a13 b4) k7
 |1=> .inp l
 |6=>match SQ (ks.getD l 0) e5 with
  |some k=> .po l e5 k
  |none=> .no
 |7=> .no
 |q=>match Rh (q-2) (ks.getD l 0) (ks.getD r 0) with
  |some k=> .bi (q+1) l r k
  |none=> .no
def exM (ks:List Nat) (y0 y1 y2 y3:Int):Ex:=exO ks (pk y0 8).toNat (pk y1 13).toNat (pk y2 4).toNat (pk y3 7).toNat (pk y2 5).toNat (pk y1 ks.length).toNat (pk y2 ks.length).toNat
theorem B3z {ks:List Nat} {q a13 b4 k7 e5 l r:Nat} (h:2≤q) (h':q<6):exO ks q a13 b4 k7 e5 l r=match Rh (q-2) (ks.getD l 0) (ks.getD r 0) with
 |some k=> .bi (q+1) l r k
 |none=> .no:=by
 obtain rfl|rfl|rfl|rfl:q=2∨q=3∨q=4∨q=5:=by omega
 all_goals rfl
theorem A5G {a b:Nat} (ha:a<13) (hb:b<4):X0 a b<33:=by
 have:=GW.1 (show((List.range 52).all λi=>decide (X0 (i/4) (i%4)<33))=true by kernel_rfl) (4*a+b) (Iw.2 (by omega))
 rw[show(4*a+b)/4=a by omega,show(4*a+b)%4=b by omega] at this
 simpa using this
theorem Kk {c m:Int} (h:0<m):∃k:Nat,pk c m=k∧(k:Int)<m∧(pk c m).toNat=k:=by
 have:=DI (c:=c) h
 exact⟨(pk c m).toNat,by omega,by omega,rfl⟩
theorem C1i {ks:List Nat} {y0 y1 y2 y3:Int} (h1:1≤ks.length):(exM ks y0 y1 y2 y3).Ok ks:=by
 obtain⟨q, -,h2,e0⟩:=Kk (c:=y0) (m:=8) (by decide)
 obtain⟨a, -,ha,ea⟩:=Kk (c:=y1) (m:=13) (by decide)
 obtain⟨b, -,hb,eb⟩:=Kk (c:=y2) (m:=4) (by decide)
 obtain⟨k, -,hk,ek⟩:=Kk (c:=y3) (m:=7) (by decide)
 obtain⟨e, -,he,ee⟩:=Kk (c:=y2) (m:=5) (by decide)
 obtain⟨l, -,hl,el⟩:=Kk (c:=y1) (m:=ks.length) (by omega)
 obtain⟨r, -,hr,er⟩:=Kk (c:=y2) (m:=ks.length) (by omega)
 unfold exM
 rw[e0,ea,eb,ek,ee,el,er]
 by_cases hq:2≤q∧q<6
 ·rw[B3z hq.1 hq.2]
  cases hu:Rh (q-2) (ks.getD l 0) (ks.getD r 0) with
  |none=>exact trivial
  |some k=>exact⟨by omega,by omega,by omega,by omega,hu⟩
 ·obtain rfl|rfl|rfl|rfl:q=0∨q=1∨q=6∨q=7:=by omega
  ·exact⟨A5G (by omega) (by omega),by omega⟩
  ·show l<ks.length;omega
  ·show(match SQ (ks.getD l 0) e with
    |some k=>Ex.po l e k
    |none=> .no).Ok ks
   cases hu:SQ (ks.getD l 0) e with
   |none=>exact trivial
   |some k=>exact⟨by omega,by omega,hu⟩
  ·exact trivial
section
variable {K:KV} {x:Am} {ins:List Int} {id:Int} {ks us:List Nat} {xs:List Nd} {v w u:AV} {b r z m:Nat} {H H':Hp} {y0 y1 y2 y3:Int}
theorem A8z {ks:List Nat} (h:1≤ks.length):Oa ks=BA ks:=by cases ks with|nil=>simp at h|cons _ _=>rfl
theorem A8S {xs:List Nd} (h:1≤xs.length):ndL xs=BQ xs:=by cases xs with|nil=>simp at h|cons _ _=>rfl
theorem Md.proc (h:Md b r z ins id ks xs us v w u H) (h1:1≤ks.length) (h2:1≤xs.length) {D:Nat} {bb:Bool}:∃q,Fx bb (D+2) (.agg (Br id v w u0)) (.agg (Br id (BA ks) (BQ xs) u0)) H q:=by
 obtain⟨q1,e1⟩:=Xz (D:=D) (b:=bb) h.sv h.nv
 obtain⟨q2,e2⟩:=B3l (D:=D) (b:=bb) h.sw h.nw
 rw[A8z h1] at e1
 rw[A8S h2] at e2
 exact⟨_,OH (D:=D+1) (Ay (q:=false) E1 (Ay e1 (Ay e2 (J6 (b:=bb) (D:=D+1) (H:=H) (λx:Value=>x) [.int .i64 u0.p0,.int .i64 u0.q0,.int .i64 u0.p1,.int .i64 u0.q1,.int .i64 u0.p2,.int .i64 u0.q2,.int .i64 u0.p3,.int .i64 u0.q3,.int .i64 u0.p4,.int .i64 u0.q4,.int .i64 u0.p5,.int .i64 u0.q5,.int .i64 u0.p6,.int .i64 u0.q6,
  .string ⟨⟨u0.fn⟩⟩,.string ⟨⟨u0.fd⟩⟩,.string ⟨⟨u0.on⟩⟩,.string ⟨⟨u0.od⟩⟩,.int .i64 u0.kd,.int .i64 u0.sc]))))⟩
theorem C0N {y:Nd} {D:Nat} {b:Bool} {H:Hp}:Fx b (D+1) (.agg y.cs) (.agg y.cs) H false:= λK=>by cases D<;>cases b<;>kernel_rfl
theorem Md.ty (h:Md b r z ins id ks (JL ks) ks v w u H) (h1:1≤ks.length) {y:Nd} {t:AV} (hT:CS (rt (L+20) (n+42)) BU [.agg (Br id (BA ks) (BQ (JL ks)) u0),.agg y.cs,I ks.length,Oa ks] t) {K:AV→Am}:
 Ah (rt (L+20) (n+42)) BU [.agg (Br id v w u0),.agg y.cs,I ks.length,u] H K=K t:=by
 obtain⟨q1,e1⟩:=h.proc h1 (by rw[D7];exact h1) (D:=depth-2) (bb:=true)
 obtain⟨q2,e2⟩:=B7D (b:=true) h.su h.nu
 exact AZ hT (Ay e1 (Ay (C0N (D:=depth-1)) (Ay (q:=false) E1 (Ay e2 Bl))))
end
end
section
variable {L n:Nat}
section
variable {K:KV} {x:Am} {ins:List Int} {id:Int} {ks us:List Nat} {xs:List Nd} {v w u:AV} {b r z m:Nat} {H H':Hp} {y0 y1 y2 y3:Int}
theorem C37 {a1 i4 j5:AV} {k49:AV→AV→AV→Hp→Am} (h:Md b r z ins id ks (JL ks) ks v w u H) (k1:1≤ks.length) (k3:ks.length≤3) (k7:∀k∈ks,k<7) (i0:IM y0) (i1:IM y1) (i2:IM y2) (i3:IM y3)
 (hfin:∀w' u' H',Md b r z ins id ks (JL ks++(exM ks y0 y1 y2 y3).nd) (ks++(exM ks y0 y1 y2 y3).ty ks) v w' u' H'→k49 (.ptr z 0 0) (.ptr r 0 0) u' H'=x) (f:Nat):
 Iu (L+20) (rt (L+20) (n+42)) K k49 (f+2) a1 (.list 1 [I y0,I y1,I y2,I y3]) (Bo true) (.ptr b 0 0) (.ptr z 0 0) (.ptr r 0 0) i4 u j5 (I ((0:Nat):Int)) H=x:=by
 have ex:∀w' u' H',Md b r z ins id ks (JL ks++(exM ks y0 y1 y2 y3).nd) (ks++(exM ks y0 y1 y2 y3).ty ks) v w' u' H'→Iu (L+20) (rt (L+20) (n+42)) K k49 (f+1) a1 (.list 1 [I y0,I y1,I y2,I y3]) (Bo true) (.ptr b 0 0) (.ptr z 0 0) (.ptr r 0 0) i4 u' j5 (I ((0+1:Nat):Int)) H'=x:=by
  intro w' u' H' hh
  rw[Nl]
  unfold JH AR Bu Aq DW Cz
  have el:∀{K:AV→Am},AM GO (.list 1 [I y0,I y1,I y2,I y3]) K=K (I ((1:Nat):Int)):= λ{K}=>_root_.id rfl
  rw[el,FT (by omega)]
  simp only[gTF,BN,QC]
  rw[BC]
  exact hfin w' u' H' hh
 rw[Nl]
 unfold JH AR Bu Aq DW Cz
 have el:∀{K:AV→Am},AM GO (.list 1 [I y0,I y1,I y2,I y3]) K=K (I ((1:Nat):Int)):= λ{K}=>_root_.id rfl
 have e14:(AV.v (.int .i64 14))=I ((14:Nat):Int):=rfl
 have hw:=h.sw
 rw[D7] at hw
 rw[el,FR (by omega),e14]
 simp only[gT,BN,Ux,h.ld2,IJ (t:=Ax) rfl hw]
 rw[FR (by omega),BN,Un,Do]
 refine HW λk76 h76=> ?_
 refine HW λk80 h80=> ?_
 have hk80:∀w' u' H',Md b r z ins id ks (JL ks++(exM ks y0 y1 y2 y3).nd) (ks++(exM ks y0 y1 y2 y3).ty ks) v w' u' H'→k80 u' H'=x:=by
  intro w' u' H' hh
  rw[h80,h76]
  have ad:∀{K:AV→Am},Go.Abs.Aj Ab .add (I ((0:Nat):Int)) (.v (.int .i64 1)) K=K (I ((0+1:Nat):Int)):= λ{K}=>DH (by omega)
  simp only[ad]
  exact ex w' u' H' hh
 clear h76 h80 ex hfin
 have ia0:∀{K:AV→Am},B1 GO (.list 1 [I y0,I y1,I y2,I y3]) (I ((0:Nat):Int)) K=K (.iptr [I y0,I y1,I y2,I y3]):= λ{K}=>_root_.id rfl
 have ld0:∀{H} {K:AV→Am},Ap BX (.iptr [I y0,I y1,I y2,I y3]) H K=K (.agg [I y0,I y1,I y2,I y3]):= λ{H K}=>_root_.id rfl
 obtain⟨H1,e1,m1,w1,kp1⟩:=DZ (e:=Fs) (zs:=[zI,zI,zI,zI]) (vs:=[I y0,I y1,I y2,I y3]) h.wf rfl
 rw[ia0,ld0,Ba (cs:=[zI,zI,zI,zI]) rfl,B0 (cs:=[zI,zI,zI,zI]) (vs:=[I y0,I y1,I y2,I y3]) (A0 (by simp)) rfl rfl rfl,←e1]
 have o4:=h.oth
 have h1:=h.grow w1 λs x hs=>(kp1 s x hs).1
 generalize A7 H=q4 at m1 o4
 clear kp1 e1
 have hw1:=h1.sw
 rw[D7] at hw1
 rw[h1.ld2,IJ (t:=Ax) rfl hw1]
 have y4:∀{H2:Hp} {K:AV→Am},Aw H2 q4=some (.cells true Fs [I y0,I y1,I y2,I y3])→(B1 BX (.ptr q4 0 0) (.v (.int .i64 0)) λp=>Ap Ab p H2 K)=K (I y0):= λ{H2 K} hl=>by
  rw[Dx (z:=0) 0 rfl rfl (by decide),AW (p:=0) rfl hl (by simp)];rfl
 have y41:∀{H2:Hp} {K:AV→Am},Aw H2 q4=some (.cells true Fs [I y0,I y1,I y2,I y3])→(B1 BX (.ptr q4 0 0) (.v (.int .i64 1)) λp=>Ap Ab p H2 K)=K (I y1):= λ{H2 K} hl=>by
  rw[Dx (z:=1) 1 rfl rfl (by decide),AW (p:=1) rfl hl (by simp)];rfl
 have y42:∀{H2:Hp} {K:AV→Am},Aw H2 q4=some (.cells true Fs [I y0,I y1,I y2,I y3])→(B1 BX (.ptr q4 0 0) (.v (.int .i64 2)) λp=>Ap Ab p H2 K)=K (I y2):= λ{H2 K} hl=>by
  rw[Dx (z:=2) 2 rfl rfl (by decide),AW (p:=2) rfl hl (by simp)];rfl
 have y43:∀{H2:Hp} {K:AV→Am},Aw H2 q4=some (.cells true Fs [I y0,I y1,I y2,I y3])→(B1 BX (.ptr q4 0 0) (.v (.int .i64 3)) λp=>Ap Ab p H2 K)=K (I y3):= λ{H2 K} hl=>by
  rw[Dx (z:=3) 3 rfl rfl (by decide),AW (p:=3) rfl hl (by simp)];rfl
 obtain⟨q,pq,hq,eq⟩:=Kk (c:=y0) (m:=8) (by decide)
 obtain⟨a13,pa,ha,ea⟩:=Kk (c:=y1) (m:=13) (by decide)
 obtain⟨b4,pb,hb,eb⟩:=Kk (c:=y2) (m:=4) (by decide)
 obtain⟨k7',pk7,hk,ek⟩:=Kk (c:=y3) (m:=7) (by decide)
 obtain⟨e5,pe,he,ee⟩:=Kk (c:=y2) (m:=5) (by decide)
 obtain⟨l,pl,hl,el⟩:=Kk (c:=y1) (m:=ks.length) (by omega)
 obtain⟨rr,pr,hr,er⟩:=Kk (c:=y2) (m:=ks.length) (by omega)
 have hpk0:∀H K,Ah (rt (L+20) (n+42)) BH [I y0,.v (.int .i64 8)] H K=K (I (q:Int)):=by rw[←pq];exact JJ (n:=n+41) i0 (by decide) (by decide)
 have hpk13:∀H K,Ah (rt (L+20) (n+42)) BH [I y1,.v (.int .i64 13)] H K=K (I (a13:Int)):=by rw[←pa];exact JJ (n:=n+41) i1 (by decide) (by decide)
 have hpk4:∀H K,Ah (rt (L+20) (n+42)) BH [I y2,.v (.int .i64 4)] H K=K (I (b4:Int)):=by rw[←pb];exact JJ (n:=n+41) i2 (by decide) (by decide)
 have hpk5:∀H K,Ah (rt (L+20) (n+42)) BH [I y2,.v (.int .i64 5)] H K=K (I (e5:Int)):=by rw[←pe];exact JJ (n:=n+41) i2 (by decide) (by decide)
 have hpkl:∀H K,Ah (rt (L+20) (n+42)) BH [I y1,I ks.length] H K=K (I (l:Int)):=by rw[←pl];exact JJ (n:=n+41) i1 (by omega) (by omega)
 have hpkr:∀H K,Ah (rt (L+20) (n+42)) BH [I y2,I ks.length] H K=K (I (rr:Int)):=by rw[←pr];exact JJ (n:=n+41) i2 (by omega) (by omega)
 have hun:∀H K,Ah (rt (L+20) (n+42)) E3 [I y3] H K=K (.agg (BW (uu k7'))):=by rw[←ek];exact A79 (n:=n) i3
 have hex:exM ks y0 y1 y2 y3=exO ks q a13 b4 k7' e5 l rr:=by unfold exM;rw[eq,ea,eb,ek,ee,el,er]
 rw[hex] at hk80
 clear hex pq pa pb pk7 pe pl pr eq ea eb ek ee el er
 have bd:∀{z:Int} {K:AV→Am},Bg AE [(0,1,I z)] K=K (.agg (Nd.mk z [] [] u0 0 0 0).cs):= λ{z K}=>_root_.id rfl
 have ad:∀{K:AV→Am},Go.Abs.Aj Ab .add (.v (.int .i64 1)) (I (q:Int)) K=K (I ((q+1:Nat):Int)):= λ{K}=>by
  rw[Co,Ca (by omega) (by omega)];rw[show(1:Int)+(q:Int)=((q+1:Nat):Int) by omega]
 rw[y4 m1,hpk0,ad,bd]
 obtain⟨H2,e2,m2,w2,kp2⟩:=DZ (e:=AF) (zs:=(Nd.mk 0 [] [] u0 0 0 0).cs) (vs:=(Nd.mk ((q+1:Nat):Int) [] [] u0 0 0 0).cs) h1.wf rfl
 rw[Ba (cs:=(Nd.mk 0 [] [] u0 0 0 0).cs) rfl,B0 (cs:=(Nd.mk 0 [] [] u0 0 0 0).cs) (vs:=(Nd.mk ((q+1:Nat):Int) [] [] u0 0 0 0).cs) (A0 (by simp)) rfl rfl rfl,←e2]
 have o:=h1.oth
 have h2:=h1.grow w2 λs x hs=>(kp2 s x hs).1
 obtain⟨m4,nqm⟩:=kp2 _ _ m1
 generalize A7 H1=m at m2 o nqm
 clear kp2 e2
 refine HW λk101 h101=> ?_
 have tail:∀(nd:Nd) (Hm:Hp) (U:UD) (e:Int),Md b r z ins id ks (JL ks) ks v w u Hm→Aw Hm m=some (.cells true AF nd.cs)→
  CS (rt (L+20) (n+42)) BU [.agg (Br id (BA ks) (BQ (JL ks)) u0),.agg nd.cs,I ks.length,Oa ks] (.tup [.agg (BW U),I e])→
  (e=0∧nd.op≠8→∃k,U=uu k∧(exO ks q a13 b4 k7' e5 l rr).nd=[nd]∧(exO ks q a13 b4 k7' e5 l rr).ty ks=[k])→(¬(e=0∧nd.op≠8)→(exO ks q a13 b4 k7' e5 l rr).nd=[]∧(exO ks q a13 b4 k7' e5 l rr).ty ks=[])→k101 Hm=x:=by
  intro nd Hm U e hm mm hT hg hbad
  have lp:∀{K},Ap A5 (.ptr r 0 0) Hm K=K (.agg (Br id v w u0)):= λ{K}=>Bf rfl rfl hm.hr
  have ln:∀{K},Ap AE (.ptr m 0 0) Hm K=K (.agg nd.cs):= λ{K}=>Bf rfl rfl mm
  rw[h101]
  simp only[lp,ln,hm.ty k1 hT]
  obtain⟨H3,e3,m3,w3,kp3⟩:=DZ (e:=Av) (zs:=En) (vs:=BW U) hm.wf rfl
  rw[CJ,CI,Ba (cs:=En) rfl,B0 (cs:=En) (vs:=BW U) (A0 (by simp)) rfl rfl rfl,←e3]
  have o3:=hm.oth
  have h3:=hm.grow w3 λs x hs=>(kp3 s x hs).1
  obtain⟨m5, -⟩:=kp3 _ _ mm
  generalize A7 Hm=q3 at m3 o3
  clear kp3 e3
  have ln3:∀{K},Ap AE (.ptr m 0 0) H3 K=K (.agg nd.cs):= λ{K}=>Bf rfl rfl m5
  have lo3:∀{K},Ap Ab (.ptr m 0 0) H3 K=K (I nd.op):= λ{K}=>AW (p:=0) rfl m5 (show 0<26 by decide)
  rw[CG]
  by_cases he0:e=0
  ·rw[decide_eq_true he0]
   simp only[gT,BN,Xj,Ux,lo3,F8,Un,QC]
   by_cases h8:nd.op=8
   ·obtain⟨g1,g2⟩:=hbad λhh=>hh.2 h8
    rw[decide_eq_true h8]
    show Ar (Bo false) _ _=_
    rw[BC]
    refine hk80 w u H3 ?_
    rw[g1,g2,l1o,l1o]
    exact h3
   ·obtain⟨k,rfl,g1,g2⟩:=hg ⟨he0,h8⟩
    rw[decide_eq_false h8]
    show Ar (Bo true) _ _=_
    obtain⟨w',H4,a1,a2,a3,a4⟩:=h3.w1 nd (by rw[D7];omega)
    obtain⟨u',H5,b1,b2⟩:=a3.u1 k (by omega)
    have lu:∀{K},Ap Ag (.ptr q3 0 0) (Go.Abs.upd H4 r (Gj id v w' u0)) K=K (.agg (BW (uu k))):= λ{K}=>Bf rfl rfl (a4 _ _ o3.r o3.w m3)
    rw[Do,h3.ld2,ln3,C4h,a1,a2,lu,B11,b1]
    refine hk80 w' u' H5 ?_
    rw[g1,g2]
    exact b2
  ·obtain⟨g1,g2⟩:=hbad λhh=>he0 hh.1
   rw[decide_eq_false he0]
   simp only[gTF,BN,gU,QC]
   rw[BC]
   refine hk80 w u H3 ?_
   rw[g1,g2,l1o,l1o]
   exact h3
 clear h101 hk80
 have lo:∀{K},Ap Ab (.ptr m 0 0) H2 K=K (I ((q+1:Nat):Int)):= λ{K}=>AW (p:=0) rfl m2 (show 0<26 by decide)
 rw[Ux,lo]
 refine HW λk145 h145=> ?_
 have h145':∀H,k145 H=k101 H:= λH=>by rw[h145]
 clear h145
 have sm:∀{cs:List AV} {Hx:Hp},Aw Hx q4=some (.cells true Fs [I y0,I y1,I y2,I y3])→Aw (Go.Abs.upd Hx m (.cells true AF cs)) q4=some (.cells true Fs [I y0,I y1,I y2,I y3]):= λhl=>by rw[As nqm];exact hl
 rw[CG]
 by_cases hq26:2≤q∧q<6
 ·have hT:=A8G (L:=L) (n:=n) (id:=id) (o:=u0) (xs:=JL ks) (op:=q+1) k1 k3 k7 (show l<ks.length by omega) (show rr<ks.length by omega) (by omega) (by omega)
  rw[show q+1-3=q-2 by omega] at hT
  rw[decide_eq_false (by omega),BC,CG,decide_eq_false (by omega),BC,CG,decide_eq_false (by omega),BC,CG,decide_eq_false (by omega),BC,
   y41 m4,hpkl,Ux,E9 m2 (show 24<26 by decide) rfl rfl rfl,y42 (sm m4),hpkr,Ux,E9 (A8 m2) (show 25<26 by decide) rfl rfl rfl,h145']
  have hx:=B3z (ks:=ks) (a13:=a13) (b4:=b4) (k7:=k7') (e5:=e5) (l:=l) (r:=rr) hq26.1 hq26.2
  have hm:=(h2.upd o (.cells true AF ((Nd.mk ((q+1:Nat):Int) [] [] u0 0 0 0).cs.set 24 (I (l:Int))))).upd o (.cells true AF (((Nd.mk ((q+1:Nat):Int) [] [] u0 0 0 0).cs.set 24 (I (l:Int))).set 25 (I (rr:Int))))
  cases hu:Rh (q-2) (ks.getD l 0) (ks.getD rr 0) with
  |none=>
   rw[hu] at hT hx
   exact tail (biN (q+1) l rr) _ u0 90 hm (A8 (A8 m2)) hT (λhh=>absurd hh.1 (by decide)) (λ_=>by rw[hx];exact⟨rfl,rfl⟩)
  |some k=>
   rw[hu] at hT hx
   refine tail (biN (q+1) l rr) _ (uu k) 0 hm (A8 (A8 m2)) hT (λ_=>⟨k,rfl,by rw[hx];exact⟨rfl,rfl⟩⟩) (λhh=>absurd ⟨rfl,?_⟩ hh)
   show((q+1:Nat):Int)≠8
   omega
 ·obtain rfl|rfl|rfl|rfl:q=0∨q=1∨q=6∨q=7:=by omega
  ·have ia1:∀{K:AV→Am},B1 BX (.ptr q4 0 0) (.v (.int .i64 1)) K=K (.ptr q4 1 0):= λ{K}=>Dx (z:=1) 1 rfl rfl (by decide)
   have ia2:∀{K:AV→Am},B1 BX (.ptr q4 0 0) (.v (.int .i64 2)) K=K (.ptr q4 2 0):= λ{K}=>Dx (z:=2) 2 rfl rfl (by decide)
   have d1:∀{K:AV→Am},Ap Ab (.ptr q4 1 0) H2 K=K (I y1):= λ{K}=>AW (p:=1) rfl m4 (by simp)
   have d2:∀{K:AV→Am},Ap Ab (.ptr q4 2 0) H2 K=K (I y2):= λ{K}=>AW (p:=2) rfl m4 (by simp)
   have sb:∀{K:AV→Am},Go.Abs.Aj Ab .sub (I (a13:Int)) (.v (.int .i64 6)) K=K (I ((a13:Int)-6)):= λ{K}=>by rw[GN,Ca (by omega) (by omega)]
   have ad4:∀{K:AV→Am},Go.Abs.Aj Ab .add (.v (.int .i64 1)) (I (b4:Int)) K=K (I (1+(b4:Int))):= λ{K}=>by rw[Co,Ca (by omega) (by omega)]
   have hof:∀H K,Ah (rt (L+20) (n+42)) E4 [I ((a13:Int)-6),I (1+(b4:Int))] H K=K (.tup [.agg (Vi (X0 a13 b4)),I 0]):=by
    have:=C0n L (n+2) (4*a13+b4) (by omega)
    rw[show(4*a13+b4)/4=a13 by omega,show(4*a13+b4)%4=b4 by omega] at this
    exact this
   have hT:=A50 (L:=L) (n:=n) (id:=id) (o:=u0) (xs:=JL ks) (ks:=ks) (at_:=ks.length) (w:=Oa ks) (A5G (a:=a13) (b:=b4) (by omega) (by omega)) (show k7'<7 by omega)
   rw[decide_eq_true (by rfl),Do]
   simp only[ia1,ia2,d1,d2,hpk13,hpk4,sb,ad4,hof,CJ,CI,Ux,BK]
   rw[X6 (vs:=Vi (X0 a13 b4)) m2 (show 1+2≤26 by decide) rfl rfl,BN,y43 (sm m4),hun,X6 (vs:=BW (uu k7')) (A8 m2) (show 3+20≤26 by decide) rfl rfl,h145']
   have hm:=(h2.upd o (.cells true AF (splice (Nd.mk ((0+1:Nat):Int) [] [] u0 0 0 0).cs 1 (Vi (X0 a13 b4))))).upd o (.cells true AF (splice (splice (Nd.mk ((0+1:Nat):Int) [] [] u0 0 0 0).cs 1 (Vi (X0 a13 b4))) 3 (BW (uu k7'))))
   exact tail (cnN (X0 a13 b4) k7') _ (uu k7') 0 hm (A8 (A8 m2)) hT (λ_=>⟨k7',rfl,rfl,rfl⟩) (λhh=>absurd ⟨rfl,show(1:Int)≠8 by decide⟩ hh)
  ·have hT:=TN (L:=L) (n:=n+39) (id:=id) (o:=u0) (xs:=JL ks) (ks:=ks) (i:=l) (by omega) (by omega) (at_:=ks.length) (w:=Oa ks)
   have eg:ks[l]'(by omega)=ks.getD l 0:=by simp[List.getD,Jw (show l<ks.length by omega)]
   rw[eg] at hT
   rw[decide_eq_false (by decide),BC,CG,decide_eq_true (by rfl),Do,y41 m4,h2.ld1,IJ (t:=Al) rfl h2.sv,hpkl,Ux,E9 m2 (show 23<26 by decide) rfl rfl rfl,h145']
   have hm:=h2.upd o (.cells true AF ((Nd.mk ((1+1:Nat):Int) [] [] u0 0 0 0).cs.set 23 (I (l:Int))))
   exact tail (Uj l) _ (uu (ks.getD l 0)) 0 hm (A8 m2) hT (λ_=>⟨ks.getD l 0,rfl,rfl,rfl⟩) (λhh=>absurd ⟨rfl,show(2:Int)≠8 by decide⟩ hh)
  ·have hT:=A8F (L:=L) (n:=n) (id:=id) (o:=u0) (xs:=JL ks) k1 k3 k7 (show l<ks.length by omega) (show e5<5 by omega)
   have bs5:∀{Hx:Hp} {K:KV},Fp CK 1 Ab 5 [(0,1,(AV.v (.int .i64 2))),(1,1,(AV.v (.int .i64 (-1)))),(2,1,(AV.v (.int .i64 3))),(3,1,(AV.v (.int .i64 (-2)))),(4,1,(AV.v (.int .i64 1)))] Hx K=K (.sl 1 (A7 Hx) 0 5) ((A7 Hx,.cells false CK [I 2,I (-1),I 3,I (-2),I 1])::Hx):= λ{Hx K}=>by
    have e:Fp CK 1 Ab 5 [(0,1,(AV.v (.int .i64 2))),(1,1,(AV.v (.int .i64 (-1)))),(2,1,(AV.v (.int .i64 3))),(3,1,(AV.v (.int .i64 (-2)))),(4,1,(AV.v (.int .i64 1)))] Hx K=Ij Hx (λs=>K (.sl 1 s 0 5) ((s,.cells false CK [I 2,I (-1),I 3,I (-2),I 1])::Hx)):=_root_.id rfl
    rw[e,Cg]
   have ia5:∀{s:Nat} {K:AV→Am},B1 Af (.sl 1 s 0 5) (I (e5:Int)) K=K (.ptr s e5 0):= λ{s K}=>by
    have e1:B1 Af (.sl 1 s 0 5) (I (e5:Int)) K=iN (e5:Int) λm=>ck (Nat.blt m 5) (fN (Nat.add 0 (Nat.mul m 1)) λp=>K (.ptr s p 0)):=_root_.id rfl
    rw[e1,JM,DX]
    have h3:Nat.blt e5 5=true:=by rw[TS];omega
    rw[h3]
    show K (.ptr s (0+e5*1) 0)=_
    rw[Le,l28]
   have gd:([I 2,I (-1),I 3,I (-2),I 1]:List AV).getD e5 .dk=I (X4 e5):=by
    obtain rfl|rfl|rfl|rfl|rfl:e5=0∨e5=1∨e5=2∨e5=3∨e5=4:=by omega
    all_goals rfl
   rw[decide_eq_false (by decide),BC,CG,decide_eq_false (by decide),BC,CG,decide_eq_true (by rfl),Do,y41 m4,hpkl,Ux,E9 m2 (show 24<26 by decide) rfl rfl rfl,bs5]
   have m3:=A8 (q:=true) (e:=AF) (cs:=(Nd.mk ((6+1:Nat):Int) [] [] u0 0 0 0).cs.set 24 (I (l:Int))) m2
   have h3:=h2.upd o (.cells true AF ((Nd.mk ((6+1:Nat):Int) [] [] u0 0 0 0).cs.set 24 (I (l:Int))))
   have s3:=sm (cs:=(Nd.mk ((6+1:Nat):Int) [] [] u0 0 0 0).cs.set 24 (I (l:Int))) m4
   generalize Go.Abs.upd H2 m (.cells true AF ((Nd.mk ((6+1:Nat):Int) [] [] u0 0 0 0).cs.set 24 (I (l:Int))))=H3 at m3 h3 s3
   have w4:=BP (x:= .cells false CK [I 2,I (-1),I 3,I (-2),I 1]) h3.wf
   have k4:∀s x,Aw H3 s=some x→Aw ((A7 H3,.cells false CK [I 2,I (-1),I 3,I (-2),I 1])::H3) s=some x:= λs x hs=>Bn (h3.wf.lt hs) hs
   have h4:=h3.grow w4 k4
   have m4':=k4 _ _ m3
   have s4:=k4 _ _ s3
   have n4:=A0 (H:=H3) (x:= .cells false CK [I 2,I (-1),I 3,I (-2),I 1]) (by simp)
   generalize ((A7 H3,Row.cells false CK [I 2,I (-1),I 3,I (-2),I 1])::H3)=H4 at h4 m4' s4 n4
   rw[y42 s4,hpk5,ia5,AW (p:=e5) rfl n4 (show e5<5 by omega),gd,Ux,E9 m4' (show 23<26 by decide) rfl rfl rfl,h145']
   have hm:=h4.upd o (.cells true AF (((Nd.mk ((6+1:Nat):Int) [] [] u0 0 0 0).cs.set 24 (I (l:Int))).set 23 (I (X4 e5))))
   have hx:exO ks 6 a13 b4 k7' e5 l rr=match SQ (ks.getD l 0) e5 with
    |some k=> .po l e5 k
    |none=> .no:=rfl
   cases hu:SQ (ks.getD l 0) e5 with
   |none=>
    rw[hu] at hT hx
    exact tail (poN l e5) _ u0 90 hm (A8 m4') hT (λhh=>absurd hh.1 (by decide)) (λ_=>by rw[hx];exact⟨rfl,rfl⟩)
   |some k=>
    rw[hu] at hT hx
    exact tail (poN l e5) _ (uu k) 0 hm (A8 m4') hT (λ_=>⟨k,rfl,by rw[hx];exact⟨rfl,rfl⟩⟩) (λhh=>absurd ⟨rfl,show(7:Int)≠8 by decide⟩ hh)
  ·have g7:=JU k7 (show l<ks.length by omega)
   have he:=GW.1 (show((List.range 7).all λk=>decide ((usq k).2=0∨(usq k).2=70))=true by kernel_rfl) (ks.getD l 0) (Iw.2 g7)
   have hT:=B5M (L:=L) (n:=n) (id:=id) (o:=u0) (xs:=JL ks) (of_decide_eq_true he) k1 k3 (show l<ks.length by omega) (C2P L (n+1) _ g7).o
   rw[decide_eq_false (by decide),BC,CG,decide_eq_false (by decide),BC,CG,decide_eq_false (by decide),BC,CG,decide_eq_true (by rfl),Do,y41 m4,hpkl,Ux,E9 m2 (show 24<26 by decide) rfl rfl rfl,h145']
   have hm:=h2.upd o (.cells true AF ((Nd.mk ((7+1:Nat):Int) [] [] u0 0 0 0).cs.set 24 (I (l:Int))))
   by_cases h0:(usq (ks.getD l 0)).2=0
   ·rw[if_pos h0] at hT
    exact tail (sqN l) _ _ 0 hm (A8 m2) hT (λhh=>absurd rfl hh.2) (λ_=>⟨rfl,rfl⟩)
   ·rw[if_neg h0] at hT
    exact tail (sqN l) _ u0 90 hm (A8 m2) hT (λhh=>absurd rfl hh.2) (λ_=>⟨rfl,rfl⟩)
end
end
section
variable {L n:Nat}
abbrev Y4:=Option (Int×Int×Int×Int)
def exY (ks:List Nat):Y4→Ex
 |none=> .no
 |some (a,b,c,d)=>exM ks a b c d
def yA:Y4→AV
 |none=>AP
 |some (a,b,c,d)=> .list 1 [I a,I b,I c,I d]
def yI:Y4→Prop
 |none=>True
 |some (a,b,c,d)=>IM a∧IM b∧IM c∧IM d
def Za (ins:List Int) (count:Int) (y:Y4):Pr:=⟨1+(pk count 900).toNat,ksM ins ((pk count 3).toNat+1),exY (ksM ins ((pk count 3).toNat+1)) y⟩
section
variable {K:KV} {x:Am} {ins:List Int} {id:Int} {ks us:List Nat} {xs:List Nd} {v w u:AV} {b r z m:Nat} {H H':Hp} {count:Int} {y:Y4}
theorem A93 (h:ins.length=3):(ksM ins ((pk count 3).toNat+1)).length=(pk count 3).toNat+1∧(pk count 3).toNat<3:=by
 have pr:=DI (c:=count) (n:=3) (by decide)
 unfold ksM
 rw[l1u,l0g]
 omega
theorem B7y {i:Nat}:∀k∈ksM ins i,k<7:=by
 intro k hk
 obtain⟨c,_,rfl⟩:=l2a.1 hk
 have pr:=DI (c:=c) (n:=7) (by decide)
 omega
theorem A7i (h:ins.length=3):(Za ins count y).Ok:=by
 have pr:=DI (c:=count) (n:=900) (by decide)
 obtain⟨h1,h2⟩:=A93 (count:=count) h
 have h3:(Za ins count y).ks.length=(pk count 3).toNat+1:=h1
 refine⟨by show 1≤1+_;omega,by show 1+_<950;omega,by rw[h3];omega,by rw[h3];omega,B7y,?_⟩
 match y with
 |none=>exact trivial
 |some (a,b,c,d)=>exact C1i (by show 1≤(ksM ins ((pk count 3).toNat+1)).length;rw[h1];omega)
theorem B2J (sv:B3 H Av 20 v ks.length (ks.flatMap FE)) (nv:ks=[]→v=AP) (sw:B3 H AF 26 w xs.length (xs.flatMap ndC)) (nw:xs=[]→w=AP) (h1:1≤ks.length) (h2:1≤xs.length) {D:Nat} {bb:Bool} {o:UD}:∃q,Fx bb (D+2) (.agg (Br id v w o)) (.agg (Br id (BA ks) (BQ xs) o)) H q:=by
 obtain⟨q1,e1⟩:=Xz (D:=D) (b:=bb) sv nv
 obtain⟨q2,e2⟩:=B3l (D:=D) (b:=bb) sw nw
 rw[A8z h1] at e1
 rw[A8S h2] at e2
 exact⟨_,OH (D:=D+1) (Ay (q:=false) E1 (Ay e1 (Ay e2 (J6 (b:=bb) (D:=D+1) (H:=H) (λx:Value=>x) [.int .i64 o.p0,.int .i64 o.q0,.int .i64 o.p1,.int .i64 o.q1,.int .i64 o.p2,.int .i64 o.q2,.int .i64 o.p3,.int .i64 o.q3,.int .i64 o.p4,.int .i64 o.q4,.int .i64 o.p5,.int .i64 o.q5,.int .i64 o.p6,.int .i64 o.q6,
  .string ⟨⟨o.fn⟩⟩,.string ⟨⟨o.fd⟩⟩,.string ⟨⟨o.on⟩⟩,.string ⟨⟨o.od⟩⟩,.int .i64 o.kd,.int .i64 o.sc]))))⟩
theorem A2A {o:UD} (h1:AV.one v=true) (h2:AV.one w=true):(Br id v w o).all AV.one=true:=by
 show(true&&(AV.one v&&(AV.one w&&true)))=true
 rw[h1,h2];rfl
theorem C0O (h:Md b r z ins id ks xs us v w u H) (h1:1≤ks.length) (h2:1≤xs.length) (h3:us.length=xs.length) (h4:us.length<1000) (hK:∀v0 H0,(∀b,∃q,Fx b depth v0 (.agg (Br id (BA ks) (BQ xs) (uu (us.getD (xs.length-1) 0)))) H0 q)→K v0 H0=x):
 (AM Al u λv38=>
  Go.Abs.Aj Ab .sub v38 (AV.v (.int .i64 1)) λv39=>
  B1 Al u v39 λv40=>
  Ap Ag v40 H λv41=>
  AH 3 (.ptr r 0 0) λv42=>
  Cb Ag v42 v41 H λH43=>
  Ap A5 (.ptr r 0 0) H43 λv45=>
  Cb A5 (.ptr z 0 0) v45 H43 λH46=>
  Ap A5 (.ptr z 0 0) H46 λv48=>
  K v48 H46)=x:=by
 have hlt:us.length-1<us.length:=by omega
 obtain⟨a,g1,g2⟩:=A8y h.su hlt
 have eg:us[us.length-1]=us.getD (xs.length-1) 0:=by rw[←h3];simp[List.getD,Jw hlt]
 rw[eg] at g2
 generalize us.getD (xs.length-1) 0=k at g2 hK
 obtain⟨cs,c1,c2⟩:=h.hz
 rw[IJ (t:=Al) rfl h.su,A2q (by omega) (by omega),g1,g2,Ux,X6 (vs:=BW (uu k)) h.hr (show 3+20≤23 by decide) rfl rfl]
 have r1:=A8 (q:=true) (e:=B4) (cs:=Br id v w (uu k)) h.hr
 have z1:Aw (Go.Abs.upd H r (Gj id v w (uu k))) z=some (.cells true B4 cs):=by rw[As h.zr];exact c2
 have es:splice (Br id v w u0) 3 (BW (uu k))=Br id v w (uu k):=rfl
 rw[es,Bf (cs:=Br id v w (uu k)) rfl rfl r1,B0 z1 (by rw[c1];rfl) (by rw[c1];rfl) (A2A (B3.one h.sv) (B3.one h.sw)),Bf (cs:=Br id v w (uu k)) rfl rfl (A8 z1)]
 refine hK _ _ λq=> ?_
 refine B2J (D:=depth-2) (h.sv.kp λs x hs hl=> ?_) h.nv (h.sw.kp λs x hs hl=> ?_) h.nw h1 h2
 ·have:=h.av s hs
  rw[As this.2.2.1,As this.2.1];exact hl
 ·have:=h.aw s hs
  rw[As this.2.2.1,As this.2.1];exact hl
theorem B2w (hL:100<L) (hi:ins.length=3) (hi64:∀c∈ins,IM c) (hc:IM count) (hy:yI y):
 CS (rt (L+20) (n+43)) NN [.agg (D3 ins),I count,yA y,Bo true] (.agg (Br (Za ins count y).id (BA (Za ins count y).ks) (BQ (Za ins count y).xs) (uu (Za ins count y).out))):=by
 intro K hK
 have hp:=A7i (count:=count) (y:=y) hi
 obtain⟨p1,p2,p3⟩:=Xh hp
 obtain⟨l1,l2⟩:=A93 (count:=count) hi
 have pr:=DI (c:=count) (n:=900) (by decide)
 rw[A0l]
 unfold RB Aq
 have k1:∀H K,Ah (rt (L+20) (n+42)) BH [I count,.v (.int .i64 900)] H K=K (I (pk count 900)):=JJ (n:=n+41) hc (by decide) (by decide)
 have eid:((Za ins count y).id:Int)=1+pk count 900:=by show((1+(pk count 900).toNat:Nat):Int)=_;omega
 have ad:∀{K:AV→Am},Go.Abs.Aj Ab .add (.v (.int .i64 1)) (I (pk count 900)) K=K (I ((Za ins count y).id:Int)):= λ{K}=>by rw[Co,Ca (by omega) (by omega),eid]
 have bd:∀{i:Int} {K:AV→Am},Bg A5 [(0,1,I i)] K=K (.agg (Br i AP AP u0)):= λ{i K}=>_root_.id rfl
 rw[EG (A2H ins)]
 have hb:=A0 (H:=[]) (x:= .cells true Q8 (D3 ins)) (by simp)
 have w0:=BP (x:= .cells true Q8 (D3 ins)) Fw
 generalize ((A7 [],Row.cells true Q8 (D3 ins))::([]:Hp))=H0 at hb w0
 generalize A7 []=b at hb
 rw[Ba (cs:=Br 0 AP AP u0) rfl]
 have hz:=A0 (H:=H0) (x:= .cells true B4 (Br 0 AP AP u0)) (by simp)
 have b1:=Bn (x:= .cells true B4 (Br 0 AP AP u0)) (w0.lt hb) hb
 have w1:=BP (x:= .cells true B4 (Br 0 AP AP u0)) w0
 generalize ((A7 H0,Row.cells true B4 (Br 0 AP AP u0))::H0)=H1 at hz w1 b1
 generalize A7 H0=z at hz
 rw[k1,ad,bd,Ba (cs:=Br 0 AP AP u0) rfl]
 obtain⟨H2,e2,r2,w2,kp⟩:=DZ (e:=B4) (zs:=Br 0 AP AP u0) (vs:=Br (Za ins count y).id AP AP u0) w1 rfl
 rw[B0 (cs:=Br 0 AP AP u0) (vs:=Br (Za ins count y).id AP AP u0) (A0 (by simp)) rfl rfl rfl,←e2]
 obtain⟨b2,nbr⟩:=kp _ _ b1
 obtain⟨z2,nzr⟩:=kp _ _ hz
 generalize A7 H1=r at r2 nbr nzr
 have no:∀{s:Nat} {P:Prop},Bh AP s→P:= λ⟨_,_,_,h⟩=>by cases h
 have h0:Md b r z ins (Za ins count y).id (ksM ins 0) [] [] AP AP AP H2:=⟨b2,r2,⟨_,rfl,z2⟩,.inl ⟨rfl,rfl,rfl⟩,λ_=>rfl,.inl ⟨rfl,rfl,rfl⟩,λ_=>rfl,.inl ⟨rfl,rfl,rfl⟩,λ_=>rfl,nbr,nzr,λ_=>no,λ_=>no,λ_=>no,w2⟩
 simp only[Cm]
 refine C35 hL hi hi64 hc (λv H hh=> ?_) (L+20) 0 AP H2 (by omega) (by omega) h0
 refine C36 (n:=n) hL (by rw[l1];omega) (λw u H hh=> ?_) (L+20) 0 AP AP H (by omega) (by omega) hh
 have fin:∀w' u' H',Md b r z ins (Za ins count y).id (Za ins count y).ks (Za ins count y).xs (Za ins count y).ty v w' u' H'→_:= λw' u' H' hh'=>C0O (K:=K) hh' hp.k1 p2 p1 (by omega) hK
 match y with
 |none=>
  show Iu (L+20) (rt (L+20) (n+42)) K _ ((L+19)+1) _ AP _ _ _ _ _ _ _ _ H=_
  rw[Nl]
  unfold JH AR Bu Aq DW Cz
  have el:∀{K:AV→Am},AM GO AP K=K (I ((0:Nat):Int)):= λ{K}=>_root_.id rfl
  have e0:(AV.v (.int .i64 0))=I ((0:Nat):Int):=rfl
  rw[el,e0,FT (by omega)]
  simp only[gTF,BN,QC]
  rw[BC]
  refine fin w u H ?_
  show Md b r z ins _ _ (JL _++[]) (_++[]) v w u H
  rw[l1o,l1o]
  exact hh
 |some (y0,y1,y2,y3)=>
  exact C37 (n:=n) hh (by rw[l1];omega) (by rw[l1];omega) B7y hy.1 hy.2.1 hy.2.2.1 hy.2.2.2 (λw' u' H' hh'=>fin w' u' H' hh') (L+18)
end
end
section
variable {L n:Nat}
def PL (H:Hp) (l:List (List UInt8)) (a:AV):Prop:=SA l a∨B3 H AL 1 a l.length (BB l)
section
variable {H H':Hp} {l:List (List UInt8)} {a:AV} {K:AV→Am}
theorem PL.len (h:PL H l a):AM Ae a K=K (I l.length):=by
 rcases h with h|h
 ·exact h.len
 ·exact IJ (t:=Ae) rfl h
theorem B1V {i:Nat} (h:B3 H AL 1 a l.length (BB l)) (hi:i<l.length):(B1 Ae a (I i) λp=>Ap Ad p H K)=K (S l[i]):=by
 rcases h with⟨_,h2,_⟩|⟨r,q,rfl,h2,h3⟩
 ·omega
 ·have e1:∀K:AV→Am,B1 Ae (.sl 1 r 0 l.length) (I (i:Int)) K=iN (i:Int) λm=>ck (Nat.blt m l.length) (fN (Nat.add 0 (Nat.mul m 1)) λp=>K (.ptr r p 0)):= λK=>_root_.id rfl
  rw[e1,JM,DX]
  have h3:Nat.blt i l.length=true:=by rw[TS];exact hi
  rw[h3]
  show Ap Ad (.ptr r (0+i*1) 0) H K=_
  rw[Le,l28,AW rfl h2 (by simp[BB];exact hi),LI hi]
theorem PL.at (h:PL H l a) {i:Nat} (hi:i<l.length):(B1 Ae a (I i) λp=>Ap Ad p H K)=K (S l[i]):=by
 rcases h with h|h
 ·rw[h.ia hi,F3]
 ·exact B1V h hi
theorem PL.at2 (h:PL H l a) {i:Nat} (hi:i<l.length):∃p,(∀K:AV→Am,B1 Ae a (I i) K=K p)∧∀K:AV→Am,Ap Ad p H K=K (S l[i]):=by
 rcases h with h|h
 ·exact⟨_,λK=>h.ia hi,λK=>F3⟩
 ·rcases h with⟨_,h2,_⟩|⟨r,q,rfl,h2,h3⟩
  ·omega
  ·refine⟨.ptr r i 0,λK=> ?_,λK=>by rw[AW rfl h2 (by simp[BB];exact hi),LI hi]⟩
   have e1:∀K:AV→Am,B1 Ae (.sl 1 r 0 l.length) (I (i:Int)) K=iN (i:Int) λm=>ck (Nat.blt m l.length) (fN (Nat.add 0 (Nat.mul m 1)) λp=>K (.ptr r p 0)):= λK=>_root_.id rfl
   rw[e1,JM,DX]
   have h3:Nat.blt i l.length=true:=by rw[TS];exact hi
   rw[h3]
   show K (.ptr r (0+i*1) 0)=_
   rw[Le,l28]
theorem PL.kp (h:PL H l a) (k:∀s x,Aw H s=some x→Aw H' s=some x):PL H' l a:=by
 rcases h with h|h
 ·exact .inl h
 ·exact .inr (h.kp λs x _=>k s x)
end
def YA (H:Hp) (y:Y4) (a:AV):Prop:=∀H',(∀s x,Aw H s=some x→Aw H' s=some x)→∃q,Fx true depth a (yA y) H' q
def VC (i:Int) (p:List UInt8) (ps:List (List UInt8)):List UInt8:=ps.foldl (λp q=>if q=p then A1K (-1-i) else p) p
def psM (x1:Int) (l:List (List UInt8)):Nat→List (List UInt8)
 |0=>[]
 |i+1=>psM x1 l i++[VC i (if h:i<l.length then l[i] else A1K (pk (x1.tdiv 3) 1000+i)) (psM x1 l i)]
theorem V8 {x1:Int} {l:List (List UInt8)}:∀i,(psM x1 l i).length=i:=by
 intro i
 induction i with
 |zero=>rfl
 |succ i ih=>simp[psM,ih]
theorem A5f (c:Int):(A1K c).length=32:=Tg _ 8
theorem B0g {i:Int}:∀(ps:List (List UInt8)) (p:List UInt8),p.length=32→(VC i p ps).length=32:=by
 intro ps
 induction ps with
 |nil=>intro p h;exact h
 |cons q ps ih=>
  intro p h
  show(VC i (if q=p then A1K (-1-i) else p) ps).length=32
  by_cases hq:q=p
  ·rw[if_pos hq];exact ih _ (A5f _)
  ·rw[if_neg hq];exact ih _ h
theorem C0z {x1:Int} {l:List (List UInt8)} (hl:∀s∈l,s.length=32):∀i,∀s∈psM x1 l i,s.length=32:=by
 intro i
 induction i with
 |zero=>intro s hs;simp[psM] at hs
 |succ i ih=>
  intro s hs
  rcases l2e.1 hs with hs|hs
  ·exact ih s hs
  ·rw[l2f] at hs;subst hs
   apply B0g
   by_cases h:i<l.length
   ·rw[dif_pos h];exact hl _ (Qu h)
   ·rw[dif_neg h];exact A5f _
theorem K7 {a b:Int} (h:IM a) (hb:1≤b):IM (a.tdiv b):=by
 unfold IM at h⊢
 by_cases h0:0≤a
 ·have h1:=Int.tdiv_nonneg h0 (by omega:0≤b)
  have h2:a.tdiv b≤a:=Int.tdiv_le_self b h0
  omega
 ·have e:a.tdiv b= -((-a).tdiv b):=by rw[Int.neg_tdiv,Int.neg_neg]
  have h1:=Int.tdiv_nonneg (by omega:0≤ -a) (by omega:0≤b)
  have h2:(-a).tdiv b≤ -a:=Int.tdiv_le_self b (by omega)
  omega
theorem XN {a b:Int} {K:AV→Am} (h:IM a) (hb:1≤b):Go.Abs.Aj Ab .quo (I a) (.v (.int .i64 b)) K=K (I (a.tdiv b)):=by
 have h1:=K7 h hb
 rw[B3V (by omega),Ca h1.1 h1.2]
structure Mc (H0:Hp) (b1 b2 r z:Nat) (X F:List AV) (H:Hp):Prop where
 h1:Aw H b1=some (.cells true Gx X)
 h2:Aw H b2=some (.cells true Gx F)
 hz:∃cs,cs.length=68∧Aw H z=some (.cells true Ak cs)
 wf:Wf H
 n1:b1≠r
 n2:b2≠r
 nz:z≠r
 f1:A7 H0≤b1
 f2:A7 H0≤b2
 f3:A7 H0≤r
 f4:A7 H0≤z
 w0:Wf H0
 kp:∀s x,Aw H0 s=some x→Aw H s=some x
section
variable {K:KV} {x:Am} {H0 H H':Hp} {b1 b2 r z:Nat} {X F:List AV} {ps l:List (List UInt8)} {v a3:AV} {cR:AV→List AV}
theorem Mc.upd (h:Mc H0 b1 b2 r z X F H) (y:Row):Mc H0 b1 b2 r z X F (upd H r y):=by
 obtain⟨cs,c1,c2⟩:=h.hz
 exact⟨by rw[As h.n1];exact h.h1,by rw[As h.n2];exact h.h2,⟨cs,c1,by rw[As h.nz];exact c2⟩,C7 h.wf,h.n1,h.n2,h.nz,h.f1,h.f2,h.f3,h.f4,h.w0,λs x hs=>by
  have:=h.w0.lt hs
  have:=h.f3
  rw[As (by omega)];exact h.kp s x hs⟩
structure Pl (H0:Hp) (b1 b2 r z:Nat) (X F:List AV) (cR:AV→List AV) (ps:List (List UInt8)) (v:AV) (H:Hp):Prop where
 mc:Mc H0 b1 b2 r z X F H
 hr:Aw H r=some (.cells true Ak (cR v))
 sv:B3 H AL 1 v ps.length (BB ps)
 nv:ps=[]→v=AP
 fr:∀s,Bh v s→A7 H0≤s∧s≠b1∧s≠b2∧s≠r∧s≠z
structure CR (cR:AV→List AV) (ks:List Nat):Prop where
 len:∀v,(cR v).length=68
 set:∀v v',(cR v).set 31 v'=cR v'
 get:∀v,(cR v).getD 31 .dk=v
 ins:∀v,(cR v).getD 33 .dk=BA ks
theorem C2V {k154:AV→AV→AV→AV→AV→AV→AV→Hp→Am} {ks:List Nat} (hL:40000<L) (hc:CR cR ks) {i:Nat} (hi:i<3) (hh:Pl H0 b1 b2 r z X F cR ps v H) (hb:ps.length≤3):
 ∀(f k:Nat) (p:List UInt8),k≤ps.length→ps.length-k<f→k154 a3 (.ptr b1 0 0) (.ptr z 0 0) (.ptr r 0 0) (I i) (S (VC i p (ps.drop k))) (I ps.length) H=x→
 Mz (L+20) (rt (L+20) (n+43)) K k154 f a3 (.ptr b1 0 0) (.ptr z 0 0) (.ptr r 0 0) (I i) (S p) (I k) H=x:=by
 intro f
 induction f with
 |zero=>intro k p _ h;omega
 |succ f ih=>
  intro k p hk hf hx
  rw[Yl]
  unfold PE Aq
  have l31:∀{K},Ap Ae (.ptr r 31 0) H K=K v:= λ{K}=>by rw[AW (p:=31) rfl hh.hr (by rw[hc.len];decide),hc.get]
  rw[Ux,l31,IJ (t:=Ae) rfl hh.sv]
  by_cases h:k<ps.length
  ·rw[FR (by omega),Do]
   simp only[Cm]
   have ad:∀{K:AV→Am},Go.Abs.Aj Ab .add (I k) (.v (.int .i64 1)) K=K (I ((k+1:Nat):Int)):= λ{K}=>DH (by omega)
   have sb:∀{K:AV→Am},Go.Abs.Aj Ab .sub (.v (.int .i64 (-1))) (I (i:Int)) K=K (I (-1-(i:Int))):= λ{K}=>by rw[GN,Ca (by omega) (by omega)]
   have pa:∀{K:AV→Am},Ah (rt (L+20) (n+43)) Fm [I (-1-(i:Int))] H K=K (S (A1K (-1-(i:Int)))):= λ{K}=>A07 (n:=n+23) hL (by omega) (by omega) H K
   have ed:ps.drop k=ps[k]::ps.drop (k+1):=l11 h
   rw[ed] at hx
   have hx':k154 a3 (.ptr b1 0 0) (.ptr z 0 0) (.ptr r 0 0) (I i) (S (VC i (if ps[k]=p then A1K (-1-i) else p) (ps.drop (k+1)))) (I ps.length) H=x:=hx
   rw[Ux,l31,B1V hh.sv h,Kz]
   by_cases hq:ps[k]=p
   ·rw[decide_eq_true hq,Do,sb,pa,ad]
    rw[if_pos hq] at hx'
    exact ih (k+1) _ (by omega) (by omega) hx'
   ·rw[decide_eq_false hq,BC,ad]
    rw[if_neg hq] at hx'
    exact ih (k+1) _ (by omega) (by omega) hx'
  ·have:k=ps.length:=by omega
   subst this
   rw[List.drop_length] at hx
   rw[FT (by omega),BC]
   exact hx
theorem C2W {k108:AV→AV→AV→Hp→Am} {ks:List Nat} {x0 x1 x2 x3 x4 x5:Int} (hL:40000<L) (hc:CR cR ks) (h1:IM x1) (hks:ks.length≤3) (hl:PL H0 l a3) (hb:l.length<1000) (h32:∀s∈l,s.length=32)
 (hfin:∀v H,Pl H0 b1 b2 r z [I x0,I x1,I x2,I x3,I x4,I x5] F cR (psM x1 l ks.length) v H→k108 (.ptr b1 0 0) (.ptr z 0 0) (.ptr r 0 0) H=x):
 ∀(f i:Nat) (v d0 d1:AV) (H:Hp),i≤ks.length→ks.length-i<f→Pl H0 b1 b2 r z [I x0,I x1,I x2,I x3,I x4,I x5] F cR (psM x1 l i) v H→
 M0 (L+20) (rt (L+20) (n+43)) K k108 f a3 (.ptr b1 0 0) (.ptr z 0 0) (.ptr r 0 0) (I i) d0 d1 H=x:=by
 intro f
 induction f with
 |zero=>intro i v d0 d1 H _ h;omega
 |succ f ih=>
  intro i v d0 d1 H hi hf hh
  rw[Ym]
  unfold PF AR Aq Cz
  have l33:∀{K},Ap Al (.ptr r 33 0) H K=K (BA ks):= λ{K}=>by rw[AW (p:=33) rfl hh.hr (by rw[hc.len];decide),hc.ins]
  have fa:∀{K:AV→Am},AH 1 (.ptr r 32 0) K=K (.ptr r 33 0):= λ{K}=>by rw[fA]
  rw[Ux,fa,l33,Nh]
  by_cases h:i<ks.length
  ·have pr:=DI (c:=x1.tdiv 3) (n:=1000) (by decide)
   have ia:∀{K:AV→Am},B1 Bi (.ptr b1 0 0) (.v (.int .i64 1)) K=K (.ptr b1 1 0):= λ{K}=>Dx (z:=1) 1 rfl rfl (by decide)
   have d1:∀{K:AV→Am},Ap Ab (.ptr b1 1 0) H K=K (I x1):= λ{K}=>AW (p:=1) rfl hh.mc.h1 (by simp)
   have pk1:∀{H K},Ah (rt (L+20) (n+43)) Bw [I (x1.tdiv 3),.v (.int .i64 1000)] H K=K (I (pk (x1.tdiv 3) 1000)):= λ{H K}=>JI (n:=n+42) (K7 h1 (by decide)) (by decide) (by decide) H K
   have ad:∀{K:AV→Am},Go.Abs.Aj Ab .add (I (pk (x1.tdiv 3) 1000)) (I (i:Int)) K=K (I (pk (x1.tdiv 3) 1000+i)):= λ{K}=>by rw[Co,Ca (by omega) (by omega)]
   have pa:∀{K:AV→Am},Ah (rt (L+20) (n+43)) Fm [I (pk (x1.tdiv 3) 1000+i)] H K=K (S (A1K (pk (x1.tdiv 3) 1000+i))):= λ{K}=>A07 (n:=n+23) hL (by omega) (by omega) H K
   rw[FR (by omega),Do,ia,d1,XN h1 (by decide),pk1,ad,pa]
   refine HW λk132 h132=> ?_
   have hk:∀p:List UInt8,p=(if h:i<l.length then l[i] else A1K (pk (x1.tdiv 3) 1000+i))→k132 (S p) H=x:=by
    intro p hp
    rw[h132]
    simp only[Cm]
    refine C2V hL hc (by omega) hh (by rw[V8];omega) (L+20) 0 p (by omega) (by rw[V8];omega) ?_
    rw[l1n]
    have l31:∀{K},Ap Ae (.ptr r 31 0) H K=K v:= λ{K}=>by rw[AW (p:=31) rfl hh.hr (by rw[hc.len];decide),hc.get]
    obtain⟨v',H',a1,a2,a3',a4,a5,a6⟩:=A68 (ie:=Ad) (i2:=Ae) (ys:=BB [VC i p (psM x1 l i)]) hh.sv hh.mc.wf rfl rfl (by decide) rfl (λ_=>rfl) (by rw[V8];show(i+1)*16≤_;omega) (by rw[V8];omega)
    obtain⟨cs,c1,c2⟩:=hh.mc.hz
    have hr':=a5 _ _ hh.hr λe=>(hh.fr _ e).2.2.2.1 rfl
    have q1:=hh.mc.wf.lt hh.mc.h1
    have q2:=hh.mc.wf.lt hh.mc.h2
    have q3:=hh.mc.wf.lt hh.hr
    have q4:=hh.mc.wf.lt c2
    have q0:=hh.mc.f1
    rw[Ux,l31,Ww,a1,Ux,E9 hr' (by rw[hc.len];decide) rfl (B3.cell a2) (B3.one a2),hc.set,DH (by omega)]
    have ps1:psM x1 l (i+1)=psM x1 l i++[VC i p (psM x1 l i)]:=by rw[hp];rfl
    refine ih (i+1) v' _ _ _ (by omega) (by omega) ⟨?_,A8 hr',?_,λe=> ?_,λs hs=> ?_⟩
    ·refine⟨by rw[As hh.mc.n1];exact a5 _ _ hh.mc.h1 (λe=>(hh.fr _ e).2.1 rfl),by rw[As hh.mc.n2];exact a5 _ _ hh.mc.h2 (λe=>(hh.fr _ e).2.2.1 rfl),⟨cs,c1,by rw[As hh.mc.nz];exact a5 _ _ c2 (λe=>(hh.fr _ e).2.2.2.2 rfl)⟩,C7 a3',hh.mc.n1,hh.mc.n2,hh.mc.nz,hh.mc.f1,hh.mc.f2,hh.mc.f3,hh.mc.f4,hh.mc.w0,λs x hs=> ?_⟩
     have g1:=hh.mc.w0.lt hs
     have g2:=hh.mc.f3
     rw[As (by omega)]
     exact a5 _ _ (hh.mc.kp s x hs) (λe=>by have:=(hh.fr _ e).1;omega)
    ·rw[ps1,F5]
     have:BB (psM x1 l i++[VC i p (psM x1 l i)])=BB (psM x1 l i)++BB [VC i p (psM x1 l i)]:=by simp[BB]
     rw[this]
     refine B3.kp a2 λs x hs hl=> ?_
     have:=a6 s hs
     rw[As (by omega)];exact hl
    ·rw[ps1] at e;simp at e
    ·have:=a6 s hs
     omega
   clear h132
   have hpl:=hl.kp hh.mc.kp
   rw[hpl.len]
   by_cases h3:i<l.length
   ·obtain⟨p,g1,g2⟩:=hpl.at2 h3
    have e32:∀{K:AV→Am},Go.Abs.Aj Ab .eql (I ((l[i].length:Nat):Int)) (.v (.int .i64 32)) K=K (Bo true):= λ{K}=>by
     rw[CG,h32 _ (Qu h3)];rfl
    rw[FR (by omega)]
    simp only[gT,BN,g1,g2,Mr (t:=Ad) rfl,e32,Un]
    rw[Do]
    exact hk _ (by rw[dif_pos h3])
   ·rw[FT (by omega)]
    simp only[gTF,BN,QC]
    rw[BC]
    exact hk _ (by rw[dif_neg h3])
  ·have:i=ks.length:=by omega
   subst this
   rw[FT (by omega),BC]
   exact hfin v H hh
end
end
end Go.Abs
end
