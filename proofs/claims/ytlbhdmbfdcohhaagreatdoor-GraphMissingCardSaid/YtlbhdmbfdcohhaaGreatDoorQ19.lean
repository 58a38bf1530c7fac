import Derived.Test.YtlbhdmbfdcohhaaGreatDoorQ18
set_option linter.all false
set_option maxHeartbeats 100000000
noncomputable section
namespace Go.Abs
open Go.RowKit Go.Proofs
set_option maxRecDepth 100000
section
theorem C1K {b:Bool} {D:Nat} {H:Hp} {sz s o n:Nat} {q:Bool} {e:TypeId} {cs cs':List AV} {q':Bool} (hl:Au H s=some (.cells q e cs)) (hn:o+n*sz≤cs.length) (h:PH b D ((cs.drop o).take (n*sz)) cs' H q'):Fx b (D+1) (.sl sz s o n) (.list n cs') H true:= λK=>by
 have e1:IZ b H (D+1) (.sl sz s o n) K=Ks H s λx=>Ma x λ_ cs=>FU (Nat.mul n sz) (Dg o cs) λc=>HK (IZ b H D) c λ_ c'=>K true (.list n c'):=rfl
 rw[e1,Cm hl]
 have e2:(Ma (.cells q e cs) λ_ cs=>FU (Nat.mul n sz) (Dg o cs) λc=>HK (IZ b H D) c λ_ c'=>K true (.list n c'))=FU (n*sz) (Dg o cs) λc=>HK (IZ b H D) c λ_ c'=>K true (.list n c'):=rfl
 rw[e2,Ct,MM _ _ _ (by simp;omega),h]
theorem B4l {H:Hp} {r o n e:Nat} {q:Bool} {cs:List AV} {K:Nat→List AV→Al} (hl:Au H r=some (.cells q e cs)) (hn:o+n≤cs.length):VA H (.sl 1 r o n) K=K n ((cs.drop o).take n):=by
 have:VA H (.sl 1 r o n) K=Ks H r λx=>Ma x λ_ cs=>FU (Nat.mul n 1) (Dg o cs) λc=>K n c:=rfl
 rw[this,Cm hl]
 show FU (Nat.mul n 1) (Dg o cs) (λc=>K n c)=_
 have e:Nat.mul n 1=n:=l28 n
 rw[e,Ct,MM _ _ _ (by simp;omega)]
theorem A8B {n r e:Nat} (a b:Nat) {q:Bool} {cs:List AV} {lo hi:Option AV} {H:Hp} {K:AV→Al} (hlo:∀K:Nat→Al,R7 lo 0 K=K a) (hhi:∀K:Nat→Al,R7 hi n K=K b) (hl:Au H r=some (.cells q e cs)) (hn:n≤cs.length) (h1:a≤b) (h2:b≤n):A6F n 1 (.ptr r 0 0) lo hi H K=K (.sl 1 r a (b-a)):=by
 have e1:A6F n 1 (.ptr r 0 0) lo hi H K=Ks H r λy=>Ma y λ_ cs=>Ia cs 0 λcl=>ck (Nat.ble (Nat.add 0 (Nat.mul n 1)) cl) (R7 lo 0 λl=>R7 hi n λh=>ck (Nat.ble l h&&Nat.ble h n) (fN (Nat.add 0 (Nat.mul l 1)) λo'=>fN (Nat.sub h l) λm=>K (.sl 1 r o' m))):=rfl
 rw[e1,Cm hl]
 show Ia cs 0 _=_
 rw[CA,hlo,hhi,DL,DL]
 have f1:Nat.ble (Nat.add 0 (Nat.mul n 1)) (0+cs.length)=true:=by rw[XS];show 0+n*1≤_;omega
 have f2:(Nat.ble a b&&Nat.ble b n)=true:=by simp only[Jp,XS];omega
 have f3:Nat.add 0 (Nat.mul a 1)=a:=by show 0+a*1=a;omega
 rw[f1,f2,f3];rfl
theorem C26 {r o n m e:Nat} {q:Bool} {cs ys:List AV} {src:AV} {H:Hp} {K:KV} (hs:∀K:Nat→List AV→Al,VA H src K=K m ys) (hy:ys.length=m) (hm:m≤n) (hn:0<n) (h1:ys.all AV.one=true) (hk:Wc 1 src=true) (hl:Au H r=some (.cells q e cs)) (ho:o+m≤cs.length):B1t 1 (.sl 1 r o n) src H K=K (I m) (upd H r (.cells q e (splice cs o ys))):=by
 unfold B1t
 rw[hs,CA]
 have f1:(Nat.beq (0+ys.length) (Nat.mul m 1)&&(Nat.beq 1 1&&(Nat.blt 0 n&&(Nat.ble m n&&(Qs ys&&Wc 1 src)))))=true:=by
  have:Nat.mul m 1=m:=l28 m
  rw[FZ,h1,hk,hy,this,K1,l29]
  simp only[l16,l1b,l29,Jp,TU,XS]
  omega
 simp only[f1]
 show Ks H r _=_
 rw[Cm hl]
 show EL o ys cs _=_
 rw[KO _ _ _ _ (by omega),D8];rfl
theorem Lat.upd_new {H H':Hp} {r:Nat} {y:Row} {P:Nat→Prop} (k:Lat H H' P) (hr:A3 H≤r):Lat H (Go.Abs.upd H' r y) P:=
 ⟨λw=>BL (k.wf w),by rw[Cr];exact k.nx,λw s x hs hn=>by rw[Ap (by have:=w.lt hs;omega)];exact k.keep w s x hs hn⟩
theorem Lat.new {H H':Hp} {y:Row} {P:Nat→Prop} (k:Lat H H' P):Lat H ((A3 H',y)::H') P:=k.trans (Lat.cons H' y P) (λ_ _ h=>h) (λ_ _ h=>h)
theorem Lat.upd_old {H H':Hp} {r:Nat} {y:Row} {P:Nat→Prop} (k:Lat H H' P) (hr:P r):Lat H (Go.Abs.upd H' r y) P:=k.trans (Lat.upd H' r y hr) (λ_ _ h=>h) (λ_ _ h=>h)
def Chk (H:Hp) (v:AV) (l:List UInt8):Prop:=v=SQ l∨∃r o q e cs,v= .sl 1 r o l.length∧Au H r=some (.cells q e cs)∧o+l.length≤cs.length∧(cs.drop o).take l.length=Ke l
theorem B7n {b:Bool} {D:Nat} {H:Hp} (l:List UInt8):PH b D (Ke l) (Ke l) H false:=Kb (λb:UInt8=>Value.int .u8 (b.toNat:Int)) l
theorem Chk.fx {H:Hp} {v:AV} {l:List UInt8} (h:Chk H v l):∃q,Fx true depth v (SQ l) H q:=by
 rcases h with rfl|⟨r,o,q,e,cs,rfl,h1,h2,h3⟩
 ·exact⟨_,Qb⟩
 ·exact⟨_,C1K h1 (by omega) (by rw[l28,h3];exact B7n l)⟩
variable {L n:Nat} {K:KV} {x:Al}
theorem C5Z (s:S8) (k w:BitVec 32):(CZ [s.h+PM s.e [6,11,25]+((s.e&&&s.f)^^^(~~~s.e&&&s.g))+k+w+(PM s.a [2,13,22]+((s.a&&&s.b)^^^(s.a&&&s.c)^^^(s.b&&&s.c))),s.a,s.b,s.c,s.d+(s.h+PM s.e [6,11,25]+((s.e&&&s.f)^^^(~~~s.e&&&s.g))+k+w),s.e,s.f,s.g])=CZ (rnd s k w).l:=by
 have e1:PM s.e [6,11,25]=IQ s.e 6^^^IQ s.e 11^^^IQ s.e 25:=by simp[PM]
 have e2:PM s.a [2,13,22]=IQ s.a 2^^^IQ s.a 13^^^IQ s.a 22:=by simp[PM]
 rw[e1,e2,B2L]
theorem C2p {k:AV→AV→AV→AV→AV→Hp→Al} {ws:List (BitVec 32)} {s0:S8} {H0:Hp} {r2 r8:Nat} {v0 w5:AV} (hws:ws.length=64) (hL:100<L) (h2:A3 H0≤r2) (h8:A3 H0≤r8) (h28:r2≠r8)
 (hx:∀q8 e8 H,Au H r8=some (.cells q8 e8 (CZ (YK ws s0 64).l))→Lat H0 H (λ_=>False)→Wf H→k v0 (.ptr r2 0 0) (.ptr r8 0 0) (arr kk) (I 64) H=x):
 ∀(f i:Nat) (q2:Bool) (e2:Nat) (q8:Bool) (e8:Nat) (H:Hp),i≤64→64-i<f→Au H r2=some (.cells q2 e2 (CZ ws))→Au H r8=some (.cells q8 e8 (CZ (YK ws s0 i).l))→Lat H0 H (λ_=>False)→Wf H→
  GF L (rt L (n+2)) K k f v0 (.ptr r2 0 0) (.ptr r8 0 0) (arr kk) (I i) w5 H=x:=by
 intro f
 induction f with
 |zero=>intro i _ _ _ _ H _ h;omega
 |succ f ih=>
  intro i q2 e2 q8 e8 H hi hf hr2 hr8 hla hw
  rw[Rb]
  unfold IR Ar
  rw[Dx,Er]
  by_cases h:i<64
  ·rw[if_pos (by simp;omega)]
   generalize hs:YK ws s0 i=s at hr8
   have g0:(CZ s.l).getD 0 .dk=W s.a:=id rfl
   have g1:(CZ s.l).getD 1 .dk=W s.b:=id rfl
   have g2:(CZ s.l).getD 2 .dk=W s.c:=id rfl
   have g4:(CZ s.l).getD 4 .dk=W s.e:=id rfl
   have g5:(CZ s.l).getD 5 .dk=W s.f:=id rfl
   have g6:(CZ s.l).getD 6 .dk=W s.g:=id rfl
   have g7:(CZ s.l).getD 7 .dk=W s.h:=id rfl
   have gw:(CZ ws).getD i .dk=W (ws.getD i 0):=Kg (by omega)
   have i0:= λK=>DE (t:=AC) (s:=r8) (z:=0) 0 (K:=K) rfl rfl (by decide)
   have i1:= λK=>DE (t:=AC) (s:=r8) (z:=1) 1 (K:=K) rfl rfl (by decide)
   have i2:= λK=>DE (t:=AC) (s:=r8) (z:=2) 2 (K:=K) rfl rfl (by decide)
   have i4:= λK=>DE (t:=AC) (s:=r8) (z:=4) 4 (K:=K) rfl rfl (by decide)
   have i5:= λK=>DE (t:=AC) (s:=r8) (z:=5) 5 (K:=K) rfl rfl (by decide)
   have i6:= λK=>DE (t:=AC) (s:=r8) (z:=6) 6 (K:=K) rfl rfl (by decide)
   have i7:= λK=>DE (t:=AC) (s:=r8) (z:=7) 7 (K:=K) rfl rfl (by decide)
   have iw:= λK=>DE (t:=BF) (s:=r2) (z:=(i:Int)) i (K:=K) rfl rfl h
   have l8:(CZ s.l).length=8:=rfl
   have lw:(CZ ws).length=64:=by rw[FG,hws]
   have j1:∀K,R9 1 Ab 3 [(0,1,.v (.int .i64 6)),(1,1,.v (.int .i64 11)),(2,1,.v (.int .i64 25))] K=K (.list 3 (TV [6,11,25])):= λK=>B8c 6 11 25 K
   have j2:∀K,R9 1 Ab 3 [(0,1,.v (.int .i64 2)),(1,1,.v (.int .i64 13)),(2,1,.v (.int .i64 22))] K=K (.list 3 (TV [2,13,22])):= λK=>B8c 2 13 22 K
   have m1:∀w K,Ah (rt L (n+2)) DD [W w,.list 3 (TV [6,11,25])] H K=K (W (PM w [6,11,25])):= λw K=>A4q (ks:=[6,11,25]) (by decide) (by decide) (by omega)
   have m2:∀w K,Ah (rt L (n+2)) DD [W w,.list 3 (TV [2,13,22])] H K=K (W (PM w [2,13,22])):= λw K=>A4q (ks:=[2,13,22]) (by decide) (by decide) (by omega)
   have la:= λ(k:Nat) hk K=>AQ (t:=An) (p:=k) (K:=K) rfl hr8 hk
   have lb1:= λ(k:Nat) hk K=>AQ (t:=An) (p:=k) (K:=K) rfl hr2 hk
   have ki:∀K,SM BF An (arr kk) (I i) K=K (W (kk.getD i 0)):= λK=>by
    unfold arr
    rw[A9W i rfl rfl rfl h (by rw[FG,A8o];decide),B8j h]
   simp(disch:=omega) only[LW,Ug,i0,i1,i2,i4,i5,i6,i7,iw,la,lb1,g0,g1,g2,g4,g5,g6,g7,gw,ki,j1,j2,m1,m2,R8,A3C,MU,A3w]
   rw[A8B 1 8 (λK=>rfl) (λK=>rfl) hr8 (by omega) (by decide) (by decide),LW,A8B 0 7 (λK=>rfl) (λK=>rfl) hr8 (by omega) (by decide) (by decide),LW]
   rw[C26 (λK=>B4l hr8 (by omega)) rfl (by decide) (by decide) rfl rfl hr8 (by rw[l8];decide),Ug]
   clear la lb1 j1 j2 m1 m2
   have hr83:=A9 (q:=q8) (e:=e8) (cs:=CZ [s.a,s.a,s.b,s.c,s.d,s.e,s.f,s.g]) hr8
   have hr23:Au (upd H r8 (.cells q8 e8 (CZ [s.a,s.a,s.b,s.c,s.d,s.e,s.f,s.g]))) r2=some (.cells q2 e2 (CZ ws)):=by rw[Ap h28];exact hr2
   have hw3:=BL (r:=r8) (y:= .cells q8 e8 (CZ [s.a,s.a,s.b,s.c,s.d,s.e,s.f,s.g])) hw
   have hla3:=hla.upd_new (y:= .cells q8 e8 (CZ [s.a,s.a,s.b,s.c,s.d,s.e,s.f,s.g])) h8
   have hsp:splice (CZ s.l) 1 (((CZ s.l).drop 0).take (7-0))=CZ [s.a,s.a,s.b,s.c,s.d,s.e,s.f,s.g]:=id rfl
   rw[hsp]
   generalize upd H r8 (.cells q8 e8 (CZ [s.a,s.a,s.b,s.c,s.d,s.e,s.f,s.g]))=H3 at hr83 hr23 hw3 hla3
   rw[AQ rfl hr83 (by show 4<8;decide)]
   have g3:(CZ [s.a,s.a,s.b,s.c,s.d,s.e,s.f,s.g]).getD 4 .dk=W s.d:=id rfl
   rw[g3,MU,E1 hr83 (by show 0<8;decide) rfl rfl rfl,E1 (A9 hr83) (by rw[List.length_set];show 4<8;decide) rfl rfl rfl,Cv,Ca (by omega) (by omega),OI]
   have hr':YK ws s0 (i+1)=rnd s (kk.getD i 0) (ws.getD i 0):=by rw[←hs];rfl
   have hst:∀a d:BitVec 32,((CZ [s.a,s.a,s.b,s.c,s.d,s.e,s.f,s.g]).set 0 (W a)).set 4 (W d)=CZ [a,s.a,s.b,s.c,d,s.e,s.f,s.g]:= λ_ _=>id rfl
   refine ih (i+1) q2 e2 q8 e8 _ (by omega) (by omega) ?_ ?_ ((hla3.upd_new h8).upd_new h8) (BL (BL hw3))
   ·rw[Ap h28,Ap h28];exact hr23
   ·rw[hr',←C5Z,←hst]
    exact A9 (A9 hr83)
  ·rw[if_neg (by simp;omega)]
   have:i=64:=by omega
   subst this
   exact hx _ _ _ hr8 hla hw
theorem C2q {k:Hp→Al} {a b:List (BitVec 32)} {H0:Hp} {s0 r8:Nat} {q0:Bool} {e0:Nat} {v2 v3 v4:AV} (ha:a.length=8) (hb:b.length=8) (h08:s0≠r8)
 (hx:∀H,Au H s0=some (.cells q0 e0 (CZ (Xf a b 8)))→Lat H0 H (λt=>t=s0)→Wf H→k H=x):
 ∀(f i:Nat) (q8:Bool) (e8:Nat) (H:Hp),i≤8→8-i<f→Au H s0=some (.cells q0 e0 (CZ (Xf a b i++a.drop i)))→Au H r8=some (.cells q8 e8 (CZ b))→Lat H0 H (λt=>t=s0)→Wf H→
  GG L (rt L n) K k f (.ptr s0 0 0) v2 (.ptr r8 0 0) v3 v4 (I i) H=x:=by
 intro f
 induction f with
 |zero=>intro i _ _ H _ h;omega
 |succ f ih=>
  intro i q8 e8 H hi hf hr0 hr8 hla hw
  rw[Re]
  unfold IS Ar
  rw[Dx,Er]
  by_cases h:i<8
  ·rw[if_pos (by simp;omega)]
   have hl0:(CZ (Xf a b i++a.drop i)).length=8:=by rw[FG,FK,PF,l0t,ha];omega
   have hlb:(CZ b).length=8:=by rw[FG,hb]
   have ga:(CZ (Xf a b i++a.drop i)).getD i .dk=W (a.getD i 0):=by
    rw[Kg (by rw[FG] at hl0;omega)]
    congr 1
    rw[Th,Th,l0n (by rw[PF];omega),PF,Nat.sub_self,l0d,Nat.add_zero]
   have gb:(CZ b).getD i .dk=W (b.getD i 0):=Kg (by omega)
   have ia:= λK=>DE (t:=AC) (s:=s0) (z:=(i:Int)) i (K:=K) rfl rfl h
   have ib:= λK=>DE (t:=AC) (s:=r8) (z:=(i:Int)) i (K:=K) rfl rfl h
   have la:= λK=>AQ (t:=An) (p:=i) (K:=K) rfl hr0 (by omega)
   have lb:= λK=>AQ (t:=An) (p:=i) (K:=K) rfl hr8 (by omega)
   simp only[Hf,LW,ia,ib,la,lb,ga,gb,MU]
   rw[E1 hr0 (by omega) rfl rfl rfl,Ug,Cv,Ca (by omega) (by omega),OI]
   have hst:(CZ (Xf a b i++a.drop i)).set i (W (a.getD i 0+b.getD i 0))=CZ (Xf a b (i+1)++a.drop (i+1)):=by
    rw[A3L,l0k]
    have:a.drop i=a.getD i 0::a.drop (i+1):=by rw[l11 (by omega),Th,Ka (by omega)];rfl
    rw[this]
    unfold CZ
    rw[Zt,Zt,List.set_append_right _ _ (by rw[l1u,PF];omega),l1u,PF,Nat.sub_self]
    rfl
   refine ih (i+1) q8 e8 _ (by omega) (by omega) ?_ ?_ (hla.upd_old rfl) (BL hw)
   ·rw[←hst];exact A9 hr0
   ·rw[Ap (Ne.symm h08)];exact hr8
  ·rw[if_neg (by simp;omega)]
   have:i=8:=by omega
   subst this
   rw[List.drop_of_length_le (by omega),l1o] at hr0
   exact hx _ hr0 hla hw
theorem C50 {s:S8} {l:List UInt8} {H:Hp} {s0:Nat} {q0:Bool} {e0:Nat} {c:AV} (hl:l.length=64) (hL:100<L) (hw:Wf H) (hr:Au H s0=some (.cells q0 e0 (CZ s.l))) (hc:Chk H c l)
 (hx:∀H',Au H' s0=some (.cells q0 e0 (CZ (blk s l).l))→Lat H H' (λt=>t=s0)→Wf H'→K (.tup []) H'=x):(rt L (n+4)).call J8 [.ptr s0 0 0,c] H K=x:=by
 rw[Sk]
 unfold J2 Ar
 simp only[Cl]
 obtain⟨q,hq⟩:=hc.fx
 rw[Be (A7U (n:=n) hl hL) (A0 hq Bp)]
 have h0:=hw.lt hr
 rw[Ba (cs:=CZ (List.replicate 64 0)) rfl]
 unfold arr
 have hn1:=Ay (H:=H) (x:= .cells true Cq (CZ (List.replicate 64 0))) (by simp)
 rw[B0 hn1 (by rw[FG,FG,OK];rfl) (by rw[FG];rfl) (Ul _),Hf]
 have hn2:=A9 (q:=true) (e:=Cq) (cs:=CZ (Lc l 48)) hn1
 have hr2:Au (upd ((A3 H,.cells true Cq (CZ (List.replicate 64 0)))::H) (A3 H) (.cells true Cq (CZ (Lc l 48)))) s0=some (.cells q0 e0 (CZ s.l)):=by
  rw[Ap (by omega)];exact Bh h0 hr
 have hw2:=BL (r:=A3 H) (y:= .cells true Cq (CZ (Lc l 48))) (B3 (x:= .cells true Cq (CZ (List.replicate 64 0))) hw)
 have hla2:=((Lat.refl H (λ_=>False)).new (y:= .cells true Cq (CZ (List.replicate 64 0)))).upd_new (r:=A3 H) (y:= .cells true Cq (CZ (Lc l 48))) (NU _)
 generalize upd ((A3 H,.cells true Cq (CZ (List.replicate 64 0)))::H) (A3 H) (.cells true Cq (CZ (Lc l 48)))=H2 at hn2 hr2 hw2 hla2
 rw[Bk rfl rfl hr2,Ba (cs:=CZ (List.replicate 8 0)) rfl]
 have hn3:=Ay (H:=H2) (x:= .cells true Br (CZ (List.replicate 8 0))) (by simp)
 rw[B0 (vs:=CZ s.l) hn3 rfl rfl (Ul _)]
 have h2lt:=hw2.lt hn2
 have h0lt:=hw2.lt hr2
 have hn4:=A9 (q:=true) (e:=Br) (cs:=CZ s.l) hn3
 have hr4:Au (upd ((A3 H2,.cells true Br (CZ (List.replicate 8 0)))::H2) (A3 H2) (.cells true Br (CZ s.l))) (A3 H)=some (.cells true Cq (CZ (Lc l 48))):=by
  rw[Ap (by omega)];exact Bh h2lt hn2
 have hw4:=BL (r:=A3 H2) (y:= .cells true Br (CZ s.l)) (B3 (x:= .cells true Br (CZ (List.replicate 8 0))) hw2)
 have hla4:=(hla2.new (y:= .cells true Br (CZ (List.replicate 8 0)))).upd_new (r:=A3 H2) (y:= .cells true Br (CZ s.l)) (by omega)
 generalize upd ((A3 H2,.cells true Br (CZ (List.replicate 8 0)))::H2) (A3 H2) (.cells true Br (CZ s.l))=H4 at hn4 hr4 hw4 hla4
 have hg:∀K:AV→Al,Aq BF (AV.iptr gl0) H4 K=K (arr kk):= λK=>by kernel_rfl
 rw[hg]
 refine C2p (n:=n+1) (ws:=Lc l 48) (s0:=s) (H0:=H) (by rw[OK]) hL (NU _) (by omega) (by omega) ?_ L 0 true _ true _ H4 (by omega) (by omega) hr4 hn4 hla4 hw4
 intro q8 e8 H5 hr8 hla5 hw5
 have hr05:=hla5.keep hw s0 _ hr (λh=>h)
 refine C2q (a:=s.l) (b:=(YK (Lc l 48) s 64).l) (H0:=H) rfl rfl (by omega) ?_ L 0 q8 e8 H5 (by omega) (by omega) hr05 hr8 ⟨hla5.wf,hla5.nx,λw t x ht _=>hla5.keep w t x ht (λh=>h)⟩ hw5
 intro H6 hr6 hla6 hw6
 exact hx H6 hr6 hla6 hw6
end
section
def Za (l:List UInt8) (n:Nat):List UInt8:=l++List.replicate (n-l.length) 0
theorem B3u {l:List UInt8} {n:Nat} (h:l.length≤n):(Za l n).length=n:=by simp[Za];omega
theorem B3t {l:List UInt8} {n k:Nat} (w:UInt8) (hk:l.length=k) (h:k<n):(Ke (Za l n)).set k (By w)=Ke (Za (l++[w]) n):=by
 subst hk
 have e:n-l.length=(n-(l.length+1))+1:=by omega
 simp[Za,Ke,e,l17,List.set_append_right]
theorem B0P {l:List UInt8} {n:Nat} (h:l.length=n):Za l n=l:=by simp[Za,h]
theorem B5m (w:BitVec 32) {j:Nat} (h:j<4):(wb w).take (j+1)=(wb w).take j++[UInt8.ofNat (w>>>(24-8*j)).toNat]:=by
 have:j=0∨j=1∨j=2∨j=3:=by omega
 rcases this with rfl|rfl|rfl|rfl<;>simp[wb,BitVec.toNat_ushiftRight,Nat.shiftRight_eq_div_pow]
theorem B8F (w:BitVec 32):(wb w).length=4:=rfl
variable {L n:Nat} {K:KV} {x:Al}
theorem C2b {k:AV→AV→AV→AV→AV→AV→Hp→Al} {w:BitVec 32} {b:List UInt8} {i r e:Nat} {q:Bool} {v51 v52:AV} (hi:i<8) (hb:b.length=4*i)
 (hx:∀H,Au H r=some (.cells q e (Ke (Za (b++wb w) 32)))→k (.ptr r 0 0) (I i) (W w) v51 v52 (I 4) H=x):
 ∀(f j:Nat) (H:Hp),j≤4→4-j<f→Au H r=some (.cells q e (Ke (Za (b++(wb w).take j) 32)))→Gi L (rt L n) K k f (.ptr r 0 0) (I i) (W w) v51 v52 (I j) H=x:=by
 intro f
 induction f with
 |zero=>intro j H _ h;omega
 |succ f ih=>
  intro j H hj hf hr
  rw[QH]
  unfold I6 Ar
  rw[Dx,Er]
  by_cases h:j<4
  ·rw[if_pos (by simp;omega)]
   have e1:(4:Int)*(i:Int)+(j:Int)=((4*i+j:Nat):Int):=by omega
   have e2:(24:Int)-8*(j:Int)=((24-8*j:Nat):Int):=by omega
   simp(disch:=omega) only[NK,Cv,GE,Ca,e1,e2,A3A,HJ (z:=((24-8*j:Nat):Int)) (k:=24-8*j) rfl (by omega)]
   have hl:(b++(wb w).take j).length=4*i+j:=by rw[FK,hb,l0g,B8F];omega
   rw[DE (4*i+j) rfl rfl (by omega),E1 hr (by rw[Ns,B3u (by omega)];omega) rfl rfl rfl,B3t _ hl (by omega),l0k,←B5m w h,OI]
   exact ih (j+1) _ (by omega) (by omega) (A9 hr)
  ·rw[if_neg (by simp;omega)]
   have:j=4:=by omega
   subst this
   exact hx _ hr
theorem C2c {k:AV→Hp→Al} {s:S8} {r e:Nat} {q:Bool} {w0 w1 w5:AV} (hL:10<L) (hx:∀H,Au H r=some (.cells q e (Ke (TE s.l 8)))→k (.ptr r 0 0) H=x):
 ∀(f i:Nat) (w0 w1 w5:AV) (H:Hp),i≤8→8-i<f→Au H r=some (.cells q e (Ke (Za (TE s.l i) 32)))→Gj L (rt L n) K k f (.ptr r 0 0) w0 w1 (arr s.l) (I i) w5 H=x:=by
 intro f
 induction f with
 |zero=>intro i _ _ _ H _ h;omega
 |succ f ih=>
  intro i w0 w1 w5 H hi hf hr
  rw[QI]
  unfold I7 Ar
  rw[Dx,Er]
  by_cases h:i<8
  ·rw[if_pos (by simp;omega)]
   simp only[Cl]
   unfold arr
   rw[A9W i rfl rfl rfl h (by show 8≤8;decide),Kg (show i<s.l.length from h)]
   refine C2b (b:=TE s.l i) h (TC _ _) ?_ L 0 H (by omega) (by omega) (by simpa using hr)
   intro H hr
   rw[Cv,Ca (by omega) (by omega),OI]
   exact ih (i+1) _ _ _ H (by omega) (by omega) hr
  ·rw[if_neg (by simp;omega)]
   have:i=8:=by omega
   subst this
   rw[B0P (TC _ _)] at hr
   exact hx _ hr
theorem B2H {s:S8} (hL:10<L):CS (rt L (n+1)) Fk [arr s.l] (S (TE s.l 8)):=by
 intro K hK
 rw[Rn]
 unfold IY Ar
 simp only[Cl]
 unfold arr
 rw[Fa (Ul _),Ba (cs:=Ke (Za (TE s.l 0) 32)) rfl]
 have hr1:Au ((A3 [(A3 [],Row.cells true Br (CZ s.l))],Row.cells true RN (Ke (Za (TE s.l 0) 32)))::[(A3 [],Row.cells true Br (CZ s.l))]) (A3 [])=some (.cells true Br (CZ s.l)):=id rfl
 rw[Bk rfl rfl hr1]
 refine C2c (w0:= .dk) (w1:= .dk) (w5:= .dk) hL ?_ L 0 _ _ _ _ (by omega) (by omega) (Ay (by simp))
 intro H hr
 have hl:(Ke (TE s.l 8)).length=32:=by rw[Ns,TC]
 rw[A8B 0 32 (λK=>rfl) (λK=>rfl) hr (by omega) (by decide) (by decide),A9Y (e:=RN) (.inr ⟨_,_,rfl,hr,by omega⟩)]
 exact hK _ _ (λb=>⟨false,E5⟩)
end
section
theorem B1j {t:TI} {e r o m:Nat} {x y z:Int} (a b c:Nat) {K:AV→Al} (hd:t.d= .slice e 1) (hx:x=a) (hy:y=b) (hz:z=c) (h1:a≤b) (h2:b≤c) (h3:c≤m):El t (.sl 1 r o m) (some (I x)) (some (I y)) (some (I z)) K=K (.sl 1 r (o+a) (b-a)):=by
 subst hx hy hz
 have e1:El t (.sl 1 r o m) (some (I a)) (some (I b)) (some (I c)) K=iN (a:Int) λl=>iN (b:Int) λh=>iN (c:Int) λx=>ck (Nat.ble l h&&(Nat.ble h x&&Nat.ble x m)) (fN (Nat.add o (Nat.mul l 1)) λo'=>fN (Nat.sub h l) λn=>K (.sl 1 r o' n)):=by
  obtain⟨_,_,d,z⟩:=t;simp only at hd;subst hd;rfl
 rw[e1,J6,J6,J6]
 have f1:(Nat.ble a b&&(Nat.ble b c&&Nat.ble c m))=true:=by simp only[Jp,XS];omega
 have f2:Nat.add o (Nat.mul a 1)=o+a:=by show o+a*1=_;omega
 rw[f1,f2,DL,DL];rfl
theorem A8z {t:TI} {e r o m:Nat} {x:Int} (a:Nat) {K:AV→Al} (hd:t.d= .slice e 1) (hx:x=a) (h1:a≤m):El t (.sl 1 r o m) (some (I x)) none none K=K (.sl 1 r (o+a) (m-a)):=by
 subst hx
 have e1:El t (.sl 1 r o m) (some (I a)) none none K=iN (a:Int) λl=>fN m λh=>fN m λx=>ck (Nat.ble l h&&(Nat.ble h x&&Nat.ble x m)) (fN (Nat.add o (Nat.mul l 1)) λo'=>fN (Nat.sub h l) λn=>K (.sl 1 r o' n)):=by
  obtain⟨_,_,d,z⟩:=t;simp only at hd;subst hd;rfl
 rw[e1,J6,DL,DL]
 have f1:(Nat.ble a m&&(Nat.ble m m&&Nat.ble m m))=true:=by simp only[Jp,XS];omega
 have f2:Nat.add o (Nat.mul a 1)=o+a:=by show o+a*1=_;omega
 rw[f1,f2,DL,DL];rfl
theorem C21 {x y:Int} (h:x≤y) {K:AV→Al}:eMM true (I x) (I y) K=K (I x):=by
 have:eMM true (I x) (I y) K=ck (decide (IntKind.i64=IntKind.i64)) (@Bool.rec (λ_=>Al) (K (I y)) (K (I x)) (Zu x y)):=rfl
 rw[this,J5,decide_eq_true h];rfl
theorem B7G {ty sz r o m:Nat} {H:Hp} {K:KV}:CU ty (.sl sz r o m) H K=K (.ptr (A3 H) 0 0) ((A3 H,.cells true ty [.sl sz r o m])::H):=by
 unfold CU
 rw[Da,FZ,BW];rfl
theorem R5 {b:Bool} {K:AV→Al}:F2 .not (Bo b) K=K (Bo (!b)):=by cases b<;>rfl
variable {L n:Nat} {K:KV} {x:Al}
def lpS (c0 c2 c3 c4 c5 c6 c34 c35 c36:AV) (p:Option (Option Code)):Row:= .loop 40 [(0,c0),(2,c2),(3,c3),(4,c4),(5,c5),(6,c6),(34,c34),(35,c35),(36,c36)] (En).2.1 (En).2.2.1 (En).2.2.2 p
theorem B6m {c0 c2 c4 c5 c6 c34 c35 c36 c:AV} {H:Hp} {s r0:Nat} {q0:Bool} {e0:Nat} {t:S8} {l:List UInt8} (hl:l.length=64) (hL:100<L) (hw:Wf H) (hr:Au H r0=some (.cells q0 e0 (CZ t.l))) (hc:Chk H c l) (hs:Au H s=some (lpS c0 c2 (.ptr r0 0 0) c4 c5 c6 c34 c35 c36 (some none))) (hcs:∀s',Bb c s'→s'≠s) (h0s:r0≠s)
 (hx:∀H',Au H' r0=some (.cells q0 e0 (CZ (blk t l).l))→Au H' s=some (lpS c0 c2 (.ptr r0 0 0) c4 c5 c6 c34 c35 c36 (some none))→(∀u y,Au H u=some y→u≠r0→u≠s→Au H' u=some y)→Wf H'→K (Bo true) H'=x):
 Eb (E L) (rt L (n+5)) (.yl s) [c] H K=x:=by
 show Qg (rt L (n+5)) s [c] H K=x
 rw[Uk hs (by kernel_rfl)]
 have hrun:(rt L (n+5)).run= λcf=>Tn (E L) (rt L (n+4)) cf:=rfl
 rw[hrun,YX,Up hs]
 have hw1:=BL (r:=s) (y:=lpS c0 c2 (.ptr r0 0 0) c4 c5 c6 c34 c35 c36 none) hw
 have hr1:Au (upd H s (lpS c0 c2 (.ptr r0 0 0) c4 c5 c6 c34 c35 c36 none)) r0=some (.cells q0 e0 (CZ t.l)):=by rw[Ap h0s];exact hr
 have hs1:Au (upd H s (lpS c0 c2 (.ptr r0 0 0) c4 c5 c6 c34 c35 c36 none)) s=some (lpS c0 c2 (.ptr r0 0 0) c4 c5 c6 c34 c35 c36 none):=Iy hs
 have hc1:Chk (upd H s (lpS c0 c2 (.ptr r0 0 0) c4 c5 c6 c34 c35 c36 none)) c l:=by
  rcases hc with h|⟨r,o,q,e,cs,h1,h2,h3,h4⟩
  ·exact .inl h
  ·refine .inr ⟨r,o,q,e,cs,h1,?_,h3,h4⟩
   rw[Ap (hcs r ⟨_,_,_,h1⟩)];exact h2
 refine C50 hl hL hw1 hr1 hc1 ?_
 intro H' ha hb hc
 have hs2:=hb.keep hw1 s _ hs1 (λh=>h0s h.symm)
 show Fb H' s false (some none) _=_
 unfold lpS at hs2
 rw[Uo hs2]
 refine hx _ ?_ (Iy hs2) ?_ (BL hc)
 ·rw[Ap h0s];exact ha
 ·intro u y hu h1 h2
  rw[Ap h2]
  refine hb.keep hw1 u y ?_ h1
  rw[Ap h2];exact hu
theorem C1Q {k:Hp→Al} {c0 c2 c4 c5 c6 c34 c35 c36:AV} {s r0 r1 r2 rm m e1 e2 em:Nat} {q0 q1 q2 qm:Bool} {e0:Nat} {l:List UInt8} (hL:100<L) (hm:l.length=64*m) (hl:l.length<200000000000)
 (d0:r0≠s) (d1:r1≠s) (d2:r2≠s) (dm:rm≠s) (d10:r1≠r0) (d20:r2≠r0) (dm0:rm≠r0)
 (hx:∀H,Au H r0=some (.cells q0 e0 (CZ (VC l m).l))→Au H s=some (lpS c0 c2 (.ptr r0 0 0) c4 c5 c6 c34 c35 c36 (some none))→Wf H→k H=x):
 ∀(f i:Nat) (H:Hp),i≤m→m-i<f→Au H r0=some (.cells q0 e0 (CZ (VC l i).l))→Au H s=some (lpS c0 c2 (.ptr r0 0 0) c4 c5 c6 c34 c35 c36 (some none))→
  Au H r1=some (.cells q1 e1 [.sl 1 rm 0 l.length])→Au H r2=some (.cells q2 e2 [I 64])→Au H rm=some (.cells qm em (Ke l))→Wf H→
  Dj L (rt L (n+5)) K k f (.yl s) (.ptr r1 0 0) (.ptr r2 0 0) (I ((64*i:Nat):Int)) H=x:=by
 intro f
 induction f with
 |zero=>intro i H _ h;omega
 |succ f ih=>
  intro i H hi hf h0 hs h1 h2 hrm hw
  rw[Kj]
  unfold E2
  have l1:∀K,Aq A8 (.ptr r1 0 0) H K=K (.sl 1 rm 0 l.length):= λK=>AQ (p:=0) rfl h1 (by simp)
  have l2:∀K,Aq Ab (.ptr r2 0 0) H K=K (I 64):= λK=>AQ (p:=0) rfl h2 (by decide)
  have ln:∀k o K,AN A8 (.sl 1 rm o k) K=K (I k):= λ_ _ _=>id rfl
  rw[l1,ln,Dx,Er]
  by_cases h:i<m
  ·rw[if_pos (by simp;omega)]
   have e3:∀K,El A8 (.sl 1 rm 0 l.length) (some (I ((64*i:Nat):Int))) none none K=K (.sl 1 rm (0+64*i) (l.length-64*i)):= λK=>A8z _ rfl rfl (by omega)
   have e4:((64*i:Nat):Int)+64=((64*(i+1):Nat):Int):=by omega
   have e5:∀K,El A8 (.sl 1 rm 0 l.length) (some (I ((64*i:Nat):Int))) (some (I ((64*(i+1):Nat):Int))) (some (I ((64*(i+1):Nat):Int))) K=K (.sl 1 rm (0+64*i) (64*(i+1)-64*i)):= λK=>B1j _ _ _ rfl rfl rfl rfl (by omega) (by omega) (by omega)
   have e6:64*(i+1)-64*i=64:=by omega
   simp(disch:=omega) only[LW,l1,l2,e3,ln,C21,Cv,Ca,e4,e5,e6,K1]
   refine B6m (l:=(l.drop (64*i)).take 64) (by simp;omega) hL hw h0 (.inr ⟨rm,64*i,qm,em,Ke l,?_,hrm,?_,?_⟩) hs ?_ d0 ?_
   ·have:((l.drop (64*i)).take 64).length=64:=by simp;omega
    rw[this]
   ·have:((l.drop (64*i)).take 64).length=64:=by simp;omega
    rw[this,Ns];omega
   ·have:((l.drop (64*i)).take 64).length=64:=by simp;omega
    rw[this];unfold Ke;rw[List.map_take,List.map_drop]
   ·rintro s' ⟨_,_,_,hh⟩
    injection hh with _ hh
    subst hh;exact dm
   ·intro H' h0' hs' hk hw'
    have l2':∀K,Aq Ab (.ptr r2 0 0) H' K=K (I 64):= λK=>AQ (p:=0) rfl (hk r2 _ h2 d20 d2) (by decide)
    rw[R5,Er,if_neg (by simp),l2',Cv,Ca (by omega) (by omega),e4]
    exact ih (i+1) H' (by omega) (by omega) h0' hs' (hk r1 _ h1 d10 d1) (hk r2 _ h2 d20 d2) (hk rm _ hrm dm0 dm) hw'
  ·rw[if_neg (by simp;omega)]
   have:i=m:=by omega
   subst this
   exact hx _ h0 hs hw
end
section
variable {L n:Nat} {K:KV} {x:Al}
theorem B4T {H:Hp} {v:AV} {l:List UInt8} {r0:Nat} {y:Row} (b:UInt8) (h:B1 H AS 1 v l.length (Ke l)) (w:Wf H) (hn:l.length<1000000000000) (h0:Au H r0=some y) (hd:¬Bb v r0):
 ∃v' H',(∀K:KV,(Ft AS 1 AD 1 [(0,1,By b)] H λv1 H1=>Ea AS 1 AD A8 v v1 H1 K)=K v' H')∧B1 H' AS 1 v' (l++[b]).length (Ke (l++[b]))∧Wf H'∧Au H' r0=some y∧¬Bb v' r0:=by
 obtain⟨v',H',h1,h2,h3,h4,h5,h6⟩:=B4U b h w hn
 exact⟨v',H',h1,h2,h3,h5 r0 y h0 hd,λhh=>by have:=h6 r0 hh;have:=w.lt h0;omega⟩
theorem C3j {k:AV→AV→AV→AV→AV→AV→AV→AV→Hp→Al} {s:List UInt8} {r0:Nat} {y:Row} {w0 w1 w2 w4 w5 w6 w7 w8:AV} (hs:s.length<100000000000) (hx:∀v H,B1 H AS 1 v (pre s).length (Ke (pre s))→Wf H→Au H r0=some y→¬Bb v r0→k w0 w1 w2 v w5 w6 w7 w8 H=x):
 ∀(f j:Nat) (v:AV) (H:Hp),j≤VN s.length→VN s.length-j<f→B1 H AS 1 v (s++[128]++List.replicate j 0).length (Ke (s++[128]++List.replicate j 0))→Wf H→Au H r0=some y→¬Bb v r0→
  Nq L (rt L n) K k f w0 w1 w2 v w4 w5 w6 w7 w8 H=x:=by
 intro f
 induction f with
 |zero=>intro j v H _ h;omega
 |succ f ih=>
  intro j v H hj hf hv hw h0 hd
  rw[Zz]
  unfold QJ Ar
  have hlen:(s++[128]++List.replicate j (0:UInt8)).length=s.length+1+j:=by simp;omega
  have hz:VN s.length<64:=by unfold VN;omega
  rw[I5 rfl hv,Ud (by decide),Hu,Er]
  have hm:((s++[128]++List.replicate j (0:UInt8)).length:Int).tmod 64=(((s.length+1+j)%64:Nat):Int):=by rw[hlen];exact(Int.ofNat_tmod _ _).symm
  rw[hm]
  by_cases h:j=VN s.length
  ·subst h
   have:(s.length+1+VN s.length)%64=56:=by unfold VN;omega
   rw[this]
   simp only[l14,decide_eq_false_iff_not]
   rw[if_neg (by simp)]
   exact hx _ _ hv hw h0 hd
  ·have hne:(s.length+1+j)%64≠56:=by unfold VN at h hj;omega
   rw[if_pos (by simp;omega)]
   obtain⟨v',H',h1,h2,h3,h4,h5⟩:=B4T (0:UInt8) hv hw (by omega) h0 hd
   have e:(AV.v (.int .u8 0))=By 0:=rfl
   rw[e]
   rw[h1]
   refine ih (j+1) v' H' (by omega) (by omega) ?_ h3 h4 h5
   rw[List.replicate_succ',←l0k]
   exact h2
theorem C3k {k:AV→AV→AV→AV→AV→AV→AV→AV→Hp→Al} {s:List UInt8} {r0:Nat} {y:Row} {w1 w2 w5 w6 w7 w8:AV} (hs:s.length<100000000000) (hx:∀v w H,B1 H AS 1 v (ext s).length (Ke (ext s))→Wf H→Au H r0=some y→¬Bb v r0→k (S s) w1 w2 v w w5 w7 w8 H=x):
 ∀(f i:Nat) (l:List UInt8) (v:AV) (H:Hp),i≤8→i<f→l++Tu s.length i=ext s→B1 H AS 1 v l.length (Ke l)→Wf H→Au H r0=some y→¬Bb v r0→
  Kv L (rt L n) K k f (S s) w1 w2 v (I ((i:Int)-1)) w5 w6 w7 w8 H=x:=by
 have hz:VN s.length<64:=by unfold VN;omega
 intro f
 induction f with
 |zero=>intro i l v H _ h;omega
 |succ f ih=>
  intro i l v H hi hf hl hv hw h0 hd
  have hll:l.length≤s.length+1+64+8:=by
   have:=congrArg List.length hl
   simp[ext,pre,A32] at this
   omega
  rw[Z8]
  unfold QK Ar
  rw[LV,Er]
  cases i with
  |zero=>
   rw[if_neg (by simp)]
   have:l=ext s:=by simpa [Tu] using hl
   subst this
   exact hx _ _ _ hv hw h0 hd
  |succ i=>
   rw[if_pos (by simp)]
   have e1:((i+1:Nat):Int)-1=(i:Int):=by omega
   rw[e1]
   rw[MS rfl,NK,NK,Ca (by omega) (by omega),Ca (by omega) (by omega)]
   have e2:(8:Int)*(s.length:Int)=((8*s.length:Nat):Int):=by omega
   have e3:(8:Int)*(i:Int)=((8*i:Nat):Int):=by omega
   rw[e2,e3,A1R (by omega)]
   rw[A6O rfl]
   obtain⟨v',H',h1,h2,h3,h4,h5⟩:=B4T (V2 s.length i) hv hw (by omega) h0 hd
   simp(disch:=omega) only[GE,Ca]
   have h1:=h1 (λv37 H36=>Kv L (rt L n) K k f (S s) w1 w2 v37 (I ((i:Int)-1)) w5 w6 w7 w8 H36)
   unfold V2 at h1
   rw[h1]
   refine ih i (l++[V2 s.length i]) v' H' (by omega) (by omega) ?_ h2 h3 h4 h5
   rw[l0k]
   exact hl
theorem A9o {R:Rt} {N g:Nat} {cap:List AV} {t:Tm} {ps:Array Tmp} {as' bd:Code} {H:Hp} {K:Option (Option Code)→Hp→Al}:Xv R N (.fn (.func g) [] cap) t ps as' bd H K=R.call g (.yl (A3 H)::cap) ((A3 H,.loop N t ps as' bd (some none))::H) λ_ H2=>Ks H2 (A3 H) λx=>UX x λ_ _ _ _ _ pend=>Oe H2 (A3 H) .gone λH3=>K pend H3:=by
 have e:Xv R N (.fn (.func g) [] cap) t ps as' bd H K=HM H λs=>R.call g (.yl s::cap) ((s,.loop N t ps as' bd (some none))::H) λ_ H2=>Ks H2 s λx=>UX x λ_ _ _ _ _ pend=>Oe H2 s .gone λH3=>K pend H3:=rfl
 rw[e,BW]
theorem C3u {s:List UInt8} (hs:s.length<100000000000) (hL:s.length+200<L):CS (rt L (n+8)) O2 [S s] (S (sha s)):=by
 intro K hK
 rw[A1a]
 unfold Ss Ar
 simp only[Cl]
 have hiv:∀K:AV→Al,Bi AC [(0,1,(AV.v (.int .u32 1779033703))),(1,1,(AV.v (.int .u32 3144134277))),(2,1,(AV.v (.int .u32 1013904242))),(3,1,(AV.v (.int .u32 2773480762))),(4,1,(AV.v (.int .u32 1359893119))),(5,1,(AV.v (.int .u32 2600822924))),(6,1,(AV.v (.int .u32 528734635))),(7,1,(AV.v (.int .u32 1541459225)))] K=K (.agg (CZ iv.l)):= λK=>by kernel_rfl
 rw[hiv,Ba (cs:=CZ (List.replicate 8 0)) rfl]
 have hn0:=Ay (H:=[]) (x:= .cells true Br (CZ (List.replicate 8 0))) (by simp)
 rw[B0 (vs:=CZ iv.l) hn0 rfl rfl (Ul _)]
 have hr0:=A9 (q:=true) (e:=Br) (cs:=CZ iv.l) hn0
 have hw0:=BL (r:=A3 []) (y:= .cells true Br (CZ iv.l)) (B3 (x:= .cells true Br (CZ (List.replicate 8 0))) F3)
 generalize upd ((A3 [],.cells true Br (CZ (List.replicate 8 0)))::[]) (A3 []) (.cells true Br (CZ iv.l))=H0 at hr0 hw0
 have hs2b:∀K:KV,B1l AS (S s) H0 K=K (.sl 1 (A3 H0) 0 s.length) ((A3 H0,.cells false AS (Ke s))::H0):= λK=>by
  have e:B1l AS (S s) H0 K=Ia s 0 λn=>V9 s λcs=>HM H0 λr=>K (.sl 1 r 0 n) ((r,.cells false AS cs)::H0):=rfl
  rw[e,CA,Uy,BW,K1];rfl
 rw[hs2b]
 have hlt:=hw0.lt hr0
 have hr1:=Bh (x:= .cells false AS (Ke s)) hlt hr0
 have hw1:=B3 (x:= .cells false AS (Ke s)) hw0
 have hv1:=OJ (H:=H0) (e:=AS) (n:=s.length) (cs:=Ke s) (Ns s)
 have e:(AV.v (.int .u8 128))=By 128:=rfl
 obtain⟨v',H',h1,h2,h3,h4,h5⟩:=B4T (128:UInt8) hv1 hw1 (by omega) hr1 (λ⟨_,_,_,hh⟩=>by injection hh with _ hh;omega)
 rw[e,h1]
 have hz:VN s.length<64:=by unfold VN;omega
 refine C3j hs ?_ L 0 v' H' (by omega) (by omega) (by simpa using h2) h3 h4 h5
 intro v H hv hw hr hd
 refine C3k hs ?_ L 8 (pre s) v H (by omega) (by omega) rfl hv hw hr hd
 intro v w H hv hw hr hd
 obtain⟨m,hm,hm2⟩:=A9P s
 rcases hv with⟨_,h,_⟩|⟨rm,qm,rfl,hrm,hlm⟩
 ·simp[ext] at h
 have hdm:rm≠A3 []:= λh=>hd ⟨_,_,_,by rw[h]⟩
 rw[Nt]
 unfold Gb Ar
 simp only[Cl]
 rw[B7G,A8P rfl]
 have hr2:=Bh (x:= .cells true K9 [.sl 1 rm 0 (ext s).length]) (hw.lt hr) hr
 have hrm2:=Bh (x:= .cells true K9 [.sl 1 rm 0 (ext s).length]) (hw.lt hrm) hrm
 have hb2:=Ay (H:=H) (x:= .cells true K9 [.sl 1 rm 0 (ext s).length]) (by simp)
 have hw2:=B3 (x:= .cells true K9 [.sl 1 rm 0 (ext s).length]) hw
 have a1:=hw.lt hr
 have a2:=hw.lt hrm
 have a3:=hw2.lt hb2
 generalize ((A3 H,Row.cells true K9 [.sl 1 rm 0 (ext s).length])::H)=Ha at hr2 hrm2 hb2 hw2 a3
 have hr3:=Bh (x:= .cells true CV [I 64]) (hw2.lt hr2) hr2
 have hrm3:=Bh (x:= .cells true CV [I 64]) (hw2.lt hrm2) hrm2
 have hb3:=Bh (x:= .cells true CV [I 64]) (hw2.lt hb2) hb2
 have hc3:=Ay (H:=Ha) (x:= .cells true CV [I 64]) (by simp)
 have hw3:=B3 (x:= .cells true CV [I 64]) hw2
 have a4:=hw2.lt hr2
 have a5:=hw2.lt hrm2
 have a6:=hw3.lt hc3
 generalize ((A3 Ha,Row.cells true CV [I 64])::Ha)=Hb at hr3 hrm3 hb3 hc3 hw3 a6
 have l2:∀K,Aq Ab (.ptr (A3 Ha) 0 0) Hb K=K (I 64):= λK=>AQ (p:=0) rfl hc3 (by decide)
 rw[l2,Dx,Er,if_neg (by decide),A9o,KI]
 unfold EF Ar
 simp only[Cl]
 have a7:=hw3.lt hr3
 have a8:=hw3.lt hrm3
 have a9:=hw3.lt hb3
 refine C1Q (n:=n+1) (m:=m) (l:=ext s) (s:=A3 Hb) (r0:=A3 []) (r1:=A3 H) (r2:=A3 Ha) (rm:=rm) (by omega) hm (by omega) (by omega) (by omega) (by omega) (by omega) (by omega) (by omega) hdm ?_ L 0 _ (by omega) (by omega) (Bh a7 hr3) (Ay (x:=lpS (S s) (AV.v (.string ⟨⟨[]⟩⟩)) (.ptr (A3 []) 0 0) (.sl 1 rm 0 (ext s).length) _ _ _ _ _ (some none)) (by simp[lpS])) (Bh a9 hb3) (Bh a6 hc3) (Bh a8 hrm3) (B3 hw3)
 intro H4 h0 hs4 hw4
 rw[Cm hs4]
 show Oe H4 (A3 Hb) .gone _=_
 rw[D8]
 show Aq AC (.ptr (A3 []) 0 0) (upd H4 (A3 Hb) .gone) _=_
 have h0':Au (upd H4 (A3 Hb) .gone) (A3 [])=some (.cells true Br (CZ (VC (ext s) m).l)):=by rw[Ap (by omega)];exact h0
 rw[Bk rfl rfl h0']
 have hsd:∀K,Ah (rt L (n+7)) Fk [.agg (CZ (VC (ext s) m).l)] (upd H4 (A3 Hb) .gone) K=K (S (TE (VC (ext s) m).l 8)):= λK=>Be (B2H (L:=L) (n:=n+6) (by omega)) (A0 (Pn (Kb (λx:BitVec 32=>Value.int .u32 (x.toNat:Int)) _)) Bp)
 show Ah (rt L (n+7)) Fk [.agg (CZ (VC (ext s) m).l)] (upd H4 (A3 Hb) .gone) _=_
 rw[hsd]
 have e:TE (VC (ext s) m).l 8=sha s:=by
  unfold sha
  have:(ext s).length/64=m:=by omega
  rw[this]
 rw[e]
 exact hK _ _ (λb=>⟨false,E5⟩)
end
end Go.Abs
end
