import Derived.Test.YtlbhdmbfdcohhaaGreatDoorP19
set_option linter.all false
set_option maxHeartbeats 100000000
noncomputable section
namespace Go.Abs
open Go.RowKit Go.Proofs
set_option maxRecDepth 100000
section
theorem C19 {b:Bool} {D:Nat} {H:Hp} {sz s o n:Nat} {q:Bool} {e:TypeId} {cs cs':List AV} {q':Bool} (hl:Aw H s=some (.cells q e cs)) (hn:o+n*sz≤cs.length) (h:Py b D ((cs.drop o).take (n*sz)) cs' H q'):Fx b (D+1) (.sl sz s o n) (.list n cs') H true:= λK=>by
 have e1:I8 b H (D+1) (.sl sz s o n) K=Lf H s λx=>L2 x λ_ cs=>F2 (Nat.mul n sz) (Da o cs) λc=>Hf (I8 b H D) c λ_ c'=>K true (.list n c'):=rfl
 rw[e1,C6 hl]
 have e2:(L2 (.cells q e cs) λ_ cs=>F2 (Nat.mul n sz) (Da o cs) λc=>Hf (I8 b H D) c λ_ c'=>K true (.list n c'))=F2 (n*sz) (Da o cs) λc=>Hf (I8 b H D) c λ_ c'=>K true (.list n c'):=rfl
 rw[e2,Ct,Mj _ _ _ (by simp;omega),h]
theorem B3I {H:Hp} {r o n e:Nat} {q:Bool} {cs:List AV} {K:Nat→List AV→Am} (hl:Aw H r=some (.cells q e cs)) (hn:o+n≤cs.length):Vb H (.sl 1 r o n) K=K n ((cs.drop o).take n):=by
 have:Vb H (.sl 1 r o n) K=Lf H r λx=>L2 x λ_ cs=>F2 (Nat.mul n 1) (Da o cs) λc=>K n c:=rfl
 rw[this,C6 hl]
 show F2 (Nat.mul n 1) (Da o cs) (λc=>K n c)=_
 have e:Nat.mul n 1=n:=l28 n
 rw[e,Ct,Mj _ _ _ (by simp;omega)]
theorem A7Q {n r e:Nat} (a b:Nat) {q:Bool} {cs:List AV} {lo hi:Option AV} {H:Hp} {K:AV→Am} (hlo:∀K:Nat→Am,QW lo 0 K=K a) (hhi:∀K:Nat→Am,QW hi n K=K b) (hl:Aw H r=some (.cells q e cs)) (hn:n≤cs.length) (h1:a≤b) (h2:b≤n):A5P n 1 (.ptr r 0 0) lo hi H K=K (.sl 1 r a (b-a)):=by
 have e1:A5P n 1 (.ptr r 0 0) lo hi H K=Lf H r λy=>L2 y λ_ cs=>Hw cs 0 λcl=>ck (Nat.ble (Nat.add 0 (Nat.mul n 1)) cl) (QW lo 0 λl=>QW hi n λh=>ck (Nat.ble l h&&Nat.ble h n) (fN (Nat.add 0 (Nat.mul l 1)) λo'=>fN (Nat.sub h l) λm=>K (.sl 1 r o' m))):=rfl
 rw[e1,C6 hl]
 show Hw cs 0 _=_
 rw[C4,hlo,hhi,DX,DX]
 have f1:Nat.ble (Nat.add 0 (Nat.mul n 1)) (0+cs.length)=true:=by rw[Xu];show 0+n*1≤_;omega
 have f2:(Nat.ble a b&&Nat.ble b n)=true:=by simp only[Iv,Xu];omega
 have f3:Nat.add 0 (Nat.mul a 1)=a:=by show 0+a*1=a;omega
 rw[f1,f2,f3];rfl
theorem C1p {r o n m e:Nat} {q:Bool} {cs ys:List AV} {src:AV} {H:Hp} {K:KV} (hs:∀K:Nat→List AV→Am,Vb H src K=K m ys) (hy:ys.length=m) (hm:m≤n) (hn:0<n) (h1:ys.all AV.one=true) (hk:V2 1 src=true) (hl:Aw H r=some (.cells q e cs)) (ho:o+m≤cs.length):B0S 1 (.sl 1 r o n) src H K=K (I m) (upd H r (.cells q e (splice cs o ys))):=by
 unfold B0S
 rw[hs,C4]
 have f1:(Nat.beq (0+ys.length) (Nat.mul m 1)&&(Nat.beq 1 1&&(Nat.blt 0 n&&(Nat.ble m n&&(PK ys&&V2 1 src)))))=true:=by
  have:Nat.mul m 1=m:=l28 m
  rw[G9,h1,hk,hy,this,Le,l29]
  simp only[l16,l1b,l29,Iv,TS,Xu]
  omega
 simp only[f1]
 show Lf H r _=_
 rw[C6 hl]
 show EH o ys cs _=_
 rw[Mk _ _ _ _ (by omega),Ez];rfl
theorem Lat.upd_new {H H':Hp} {r:Nat} {y:Row} {P:Nat→Prop} (k:Lat H H' P) (hr:A7 H≤r):Lat H (Go.Abs.upd H' r y) P:=
 ⟨λw=>C7 (k.wf w),by rw[Ee];exact k.nx,λw s x hs hn=>by rw[As (by have:=w.lt hs;omega)];exact k.keep w s x hs hn⟩
theorem Lat.new {H H':Hp} {y:Row} {P:Nat→Prop} (k:Lat H H' P):Lat H ((A7 H',y)::H') P:=k.trans (Lat.cons H' y P) (λ_ _ h=>h) (λ_ _ h=>h)
theorem Lat.upd_old {H H':Hp} {r:Nat} {y:Row} {P:Nat→Prop} (k:Lat H H' P) (hr:P r):Lat H (Go.Abs.upd H' r y) P:=k.trans (Lat.upd H' r y hr) (λ_ _ h=>h) (λ_ _ h=>h)
def Chk (H:Hp) (v:AV) (l:List UInt8):Prop:=v=Sm l∨∃r o q e cs,v= .sl 1 r o l.length∧Aw H r=some (.cells q e cs)∧o+l.length≤cs.length∧(cs.drop o).take l.length=JA l
theorem B6y {b:Bool} {D:Nat} {H:Hp} (l:List UInt8):Py b D (JA l) (JA l) H false:=J6 (λb:UInt8=>Value.int .u8 (b.toNat:Int)) l
theorem Chk.fx {H:Hp} {v:AV} {l:List UInt8} (h:Chk H v l):∃q,Fx true depth v (Sm l) H q:=by
 rcases h with rfl|⟨r,o,q,e,cs,rfl,h1,h2,h3⟩
 ·exact⟨_,NM⟩
 ·exact⟨_,C19 h1 (by omega) (by rw[l28,h3];exact B6y l)⟩
variable {L n:Nat} {K:KV} {x:Am}
theorem C55 (s:S8) (k w:BitVec 32):(CM [s.h+Pe s.e [6,11,25]+((s.e&&&s.f)^^^(~~~s.e&&&s.g))+k+w+(Pe s.a [2,13,22]+((s.a&&&s.b)^^^(s.a&&&s.c)^^^(s.b&&&s.c))),s.a,s.b,s.c,s.d+(s.h+Pe s.e [6,11,25]+((s.e&&&s.f)^^^(~~~s.e&&&s.g))+k+w),s.e,s.f,s.g])=CM (rnd s k w).l:=by
 have e1:Pe s.e [6,11,25]=I0 s.e 6^^^I0 s.e 11^^^I0 s.e 25:=by simp[Pe]
 have e2:Pe s.a [2,13,22]=I0 s.a 2^^^I0 s.a 13^^^I0 s.a 22:=by simp[Pe]
 rw[e1,e2,B29]
theorem C1F {k:AV→AV→AV→AV→AV→Hp→Am} {ws:List (BitVec 32)} {s0:S8} {H0:Hp} {r2 r8:Nat} {v0 w5:AV} (hws:ws.length=64) (hL:100<L) (h2:A7 H0≤r2) (h8:A7 H0≤r8) (h28:r2≠r8)
 (hx:∀q8 e8 H,Aw H r8=some (.cells q8 e8 (CM (Yh ws s0 64).l))→Lat H0 H (λ_=>False)→Wf H→k v0 (.ptr r2 0 0) (.ptr r8 0 0) (arr kk) (I 64) H=x):
 ∀(f i:Nat) (q2:Bool) (e2:Nat) (q8:Bool) (e8:Nat) (H:Hp),i≤64→64-i<f→Aw H r2=some (.cells q2 e2 (CM ws))→Aw H r8=some (.cells q8 e8 (CM (Yh ws s0 i).l))→Lat H0 H (λ_=>False)→Wf H→
  Gg L (rt L (n+2)) K k f v0 (.ptr r2 0 0) (.ptr r8 0 0) (arr kk) (I i) w5 H=x:=by
 intro f
 induction f with
 |zero=>intro i _ _ _ _ H _ h;omega
 |succ f ih=>
  intro i q2 e2 q8 e8 H hi hf hr2 hr8 hla hw
  rw[QD]
  unfold I2 Aq
  rw[Dj,DV]
  by_cases h:i<64
  ·rw[if_pos (by simp;omega)]
   generalize hs:Yh ws s0 i=s at hr8
   have g0:(CM s.l).getD 0 .dk=W s.a:=id rfl
   have g1:(CM s.l).getD 1 .dk=W s.b:=id rfl
   have g2:(CM s.l).getD 2 .dk=W s.c:=id rfl
   have g4:(CM s.l).getD 4 .dk=W s.e:=id rfl
   have g5:(CM s.l).getD 5 .dk=W s.f:=id rfl
   have g6:(CM s.l).getD 6 .dk=W s.g:=id rfl
   have g7:(CM s.l).getD 7 .dk=W s.h:=id rfl
   have gw:(CM ws).getD i .dk=W (ws.getD i 0):=JD (by omega)
   have i0:= λK=>Dx (t:=AB) (s:=r8) (z:=0) 0 (K:=K) rfl rfl (by decide)
   have i1:= λK=>Dx (t:=AB) (s:=r8) (z:=1) 1 (K:=K) rfl rfl (by decide)
   have i2:= λK=>Dx (t:=AB) (s:=r8) (z:=2) 2 (K:=K) rfl rfl (by decide)
   have i4:= λK=>Dx (t:=AB) (s:=r8) (z:=4) 4 (K:=K) rfl rfl (by decide)
   have i5:= λK=>Dx (t:=AB) (s:=r8) (z:=5) 5 (K:=K) rfl rfl (by decide)
   have i6:= λK=>Dx (t:=AB) (s:=r8) (z:=6) 6 (K:=K) rfl rfl (by decide)
   have i7:= λK=>Dx (t:=AB) (s:=r8) (z:=7) 7 (K:=K) rfl rfl (by decide)
   have iw:= λK=>Dx (t:=BE) (s:=r2) (z:=(i:Int)) i (K:=K) rfl rfl h
   have l8:(CM s.l).length=8:=rfl
   have lw:(CM ws).length=64:=by rw[XA2,hws]
   have j1:∀K,QZ 1 Ab 3 [(0,1,.v (.int .i64 6)),(1,1,.v (.int .i64 11)),(2,1,.v (.int .i64 25))] K=K (.list 3 (Tx [6,11,25])):= λK=>B7o 6 11 25 K
   have j2:∀K,QZ 1 Ab 3 [(0,1,.v (.int .i64 2)),(1,1,.v (.int .i64 13)),(2,1,.v (.int .i64 22))] K=K (.list 3 (Tx [2,13,22])):= λK=>B7o 2 13 22 K
   have m1:∀w K,Ah (rt L (n+2)) Dw [W w,.list 3 (Tx [6,11,25])] H K=K (W (Pe w [6,11,25])):= λw K=>A3J (ks:=[6,11,25]) (by decide) (by decide) (by omega)
   have m2:∀w K,Ah (rt L (n+2)) Dw [W w,.list 3 (Tx [2,13,22])] H K=K (W (Pe w [2,13,22])):= λw K=>A3J (ks:=[2,13,22]) (by decide) (by decide) (by omega)
   have la:= λ(k:Nat) hk K=>AW (t:=An) (p:=k) (K:=K) rfl hr8 hk
   have lb1:= λ(k:Nat) hk K=>AW (t:=An) (p:=k) (K:=K) rfl hr2 hk
   have ki:∀K,Sh BE An (arr kk) (I i) K=K (W (kk.getD i 0)):= λK=>by
    unfold arr
    rw[A9k i rfl rfl rfl h (by rw[XA2,A7E];decide),B7z h]
   simp(disch:=omega) only[Ly,TC,i0,i1,i2,i4,i5,i6,i7,iw,la,lb1,g0,g1,g2,g4,g5,g6,g7,gw,ki,j1,j2,m1,m2,QX,A2X,Mt,A2R]
   rw[A7Q 1 8 (λK=>rfl) (λK=>rfl) hr8 (by omega) (by decide) (by decide),Ly,A7Q 0 7 (λK=>rfl) (λK=>rfl) hr8 (by omega) (by decide) (by decide),Ly]
   rw[C1p (λK=>B3I hr8 (by omega)) rfl (by decide) (by decide) rfl rfl hr8 (by rw[l8];decide),TC]
   clear la lb1 j1 j2 m1 m2
   have hr83:=A8 (q:=q8) (e:=e8) (cs:=CM [s.a,s.a,s.b,s.c,s.d,s.e,s.f,s.g]) hr8
   have hr23:Aw (upd H r8 (.cells q8 e8 (CM [s.a,s.a,s.b,s.c,s.d,s.e,s.f,s.g]))) r2=some (.cells q2 e2 (CM ws)):=by rw[As h28];exact hr2
   have hw3:=C7 (r:=r8) (y:= .cells q8 e8 (CM [s.a,s.a,s.b,s.c,s.d,s.e,s.f,s.g])) hw
   have hla3:=hla.upd_new (y:= .cells q8 e8 (CM [s.a,s.a,s.b,s.c,s.d,s.e,s.f,s.g])) h8
   have hsp:splice (CM s.l) 1 (((CM s.l).drop 0).take (7-0))=CM [s.a,s.a,s.b,s.c,s.d,s.e,s.f,s.g]:=id rfl
   rw[hsp]
   generalize upd H r8 (.cells q8 e8 (CM [s.a,s.a,s.b,s.c,s.d,s.e,s.f,s.g]))=H3 at hr83 hr23 hw3 hla3
   rw[AW rfl hr83 (by show 4<8;decide)]
   have g3:(CM [s.a,s.a,s.b,s.c,s.d,s.e,s.f,s.g]).getD 4 .dk=W s.d:=id rfl
   rw[g3,Mt,E9 hr83 (by show 0<8;decide) rfl rfl rfl,E9 (A8 hr83) (by rw[List.length_set];show 4<8;decide) rfl rfl rfl,Co,Ca (by omega) (by omega),Of]
   have hr':Yh ws s0 (i+1)=rnd s (kk.getD i 0) (ws.getD i 0):=by rw[←hs];rfl
   have hst:∀a d:BitVec 32,((CM [s.a,s.a,s.b,s.c,s.d,s.e,s.f,s.g]).set 0 (W a)).set 4 (W d)=CM [a,s.a,s.b,s.c,d,s.e,s.f,s.g]:= λ_ _=>id rfl
   refine ih (i+1) q2 e2 q8 e8 _ (by omega) (by omega) ?_ ?_ ((hla3.upd_new h8).upd_new h8) (C7 (C7 hw3))
   ·rw[As h28,As h28];exact hr23
   ·rw[hr',←C55,←hst]
    exact A8 (A8 hr83)
  ·rw[if_neg (by simp;omega)]
   have:i=64:=by omega
   subst this
   exact hx _ _ _ hr8 hla hw
theorem C1G {k:Hp→Am} {a b:List (BitVec 32)} {H0:Hp} {s0 r8:Nat} {q0:Bool} {e0:Nat} {v2 v3 v4:AV} (ha:a.length=8) (hb:b.length=8) (h08:s0≠r8)
 (hx:∀H,Aw H s0=some (.cells q0 e0 (CM (W8 a b 8)))→Lat H0 H (λt=>t=s0)→Wf H→k H=x):
 ∀(f i:Nat) (q8:Bool) (e8:Nat) (H:Hp),i≤8→8-i<f→Aw H s0=some (.cells q0 e0 (CM (W8 a b i++a.drop i)))→Aw H r8=some (.cells q8 e8 (CM b))→Lat H0 H (λt=>t=s0)→Wf H→
  Gh L (rt L n) K k f (.ptr s0 0 0) v2 (.ptr r8 0 0) v3 v4 (I i) H=x:=by
 intro f
 induction f with
 |zero=>intro i _ _ H _ h;omega
 |succ f ih=>
  intro i q8 e8 H hi hf hr0 hr8 hla hw
  rw[QE]
  unfold I3 Aq
  rw[Dj,DV]
  by_cases h:i<8
  ·rw[if_pos (by simp;omega)]
   have hl0:(CM (W8 a b i++a.drop i)).length=8:=by rw[XA2,F5,OX,l0t,ha];omega
   have hlb:(CM b).length=8:=by rw[XA2,hb]
   have ga:(CM (W8 a b i++a.drop i)).getD i .dk=W (a.getD i 0):=by
    rw[JD (by rw[XA2] at hl0;omega)]
    congr 1
    rw[Tw,Tw,l0n (by rw[OX];omega),OX,Nat.sub_self,l0d,Nat.add_zero]
   have gb:(CM b).getD i .dk=W (b.getD i 0):=JD (by omega)
   have ia:= λK=>Dx (t:=AB) (s:=s0) (z:=(i:Int)) i (K:=K) rfl rfl h
   have ib:= λK=>Dx (t:=AB) (s:=r8) (z:=(i:Int)) i (K:=K) rfl rfl h
   have la:= λK=>AW (t:=An) (p:=i) (K:=K) rfl hr0 (by omega)
   have lb:= λK=>AW (t:=An) (p:=i) (K:=K) rfl hr8 (by omega)
   simp only[GA,Ly,ia,ib,la,lb,ga,gb,Mt]
   rw[E9 hr0 (by omega) rfl rfl rfl,TC,Co,Ca (by omega) (by omega),Of]
   have hst:(CM (W8 a b i++a.drop i)).set i (W (a.getD i 0+b.getD i 0))=CM (W8 a b (i+1)++a.drop (i+1)):=by
    rw[A36,l0k]
    have:a.drop i=a.getD i 0::a.drop (i+1):=by rw[l11 (by omega),Tw,Jw (by omega)];rfl
    rw[this]
    unfold CM
    rw[l01,l01,List.set_append_right _ _ (by rw[l1u,OX];omega),l1u,OX,Nat.sub_self]
    rfl
   refine ih (i+1) q8 e8 _ (by omega) (by omega) ?_ ?_ (hla.upd_old rfl) (C7 hw)
   ·rw[←hst];exact A8 hr0
   ·rw[As (Ne.symm h08)];exact hr8
  ·rw[if_neg (by simp;omega)]
   have:i=8:=by omega
   subst this
   rw[List.drop_of_length_le (by omega),l1o] at hr0
   exact hx _ hr0 hla hw
theorem C4b {s:S8} {l:List UInt8} {H:Hp} {s0:Nat} {q0:Bool} {e0:Nat} {c:AV} (hl:l.length=64) (hL:100<L) (hw:Wf H) (hr:Aw H s0=some (.cells q0 e0 (CM s.l))) (hc:Chk H c l)
 (hx:∀H',Aw H' s0=some (.cells q0 e0 (CM (blk s l).l))→Lat H H' (λt=>t=s0)→Wf H'→K (.tup []) H'=x):(rt L (n+4)).call Je [.ptr s0 0 0,c] H K=x:=by
 rw[RG]
 unfold IZ Aq
 simp only[Cm]
 obtain⟨q,hq⟩:=hc.fx
 rw[AZ (A75 (n:=n) hl hL) (Ay hq Bl)]
 have h0:=hw.lt hr
 rw[Ba (cs:=CM (List.replicate 64 0)) rfl]
 unfold arr
 have hn1:=A0 (H:=H) (x:= .cells true Ck (CM (List.replicate 64 0))) (by simp)
 rw[B0 hn1 (by rw[XA2,XA2,Oh];rfl) (by rw[XA2];rfl) (TH _),GA]
 have hn2:=A8 (q:=true) (e:=Ck) (cs:=CM (K3 l 48)) hn1
 have hr2:Aw (upd ((A7 H,.cells true Ck (CM (List.replicate 64 0)))::H) (A7 H) (.cells true Ck (CM (K3 l 48)))) s0=some (.cells q0 e0 (CM s.l)):=by
  rw[As (by omega)];exact Bn h0 hr
 have hw2:=C7 (r:=A7 H) (y:= .cells true Ck (CM (K3 l 48))) (BP (x:= .cells true Ck (CM (List.replicate 64 0))) hw)
 have hla2:=((Lat.refl H (λ_=>False)).new (y:= .cells true Ck (CM (List.replicate 64 0)))).upd_new (r:=A7 H) (y:= .cells true Ck (CM (K3 l 48))) (NV _)
 generalize upd ((A7 H,.cells true Ck (CM (List.replicate 64 0)))::H) (A7 H) (.cells true Ck (CM (K3 l 48)))=H2 at hn2 hr2 hw2 hla2
 rw[Bf rfl rfl hr2,Ba (cs:=CM (List.replicate 8 0)) rfl]
 have hn3:=A0 (H:=H2) (x:= .cells true Bq (CM (List.replicate 8 0))) (by simp)
 rw[B0 (vs:=CM s.l) hn3 rfl rfl (TH _)]
 have h2lt:=hw2.lt hn2
 have h0lt:=hw2.lt hr2
 have hn4:=A8 (q:=true) (e:=Bq) (cs:=CM s.l) hn3
 have hr4:Aw (upd ((A7 H2,.cells true Bq (CM (List.replicate 8 0)))::H2) (A7 H2) (.cells true Bq (CM s.l))) (A7 H)=some (.cells true Ck (CM (K3 l 48))):=by
  rw[As (by omega)];exact Bn h2lt hn2
 have hw4:=C7 (r:=A7 H2) (y:= .cells true Bq (CM s.l)) (BP (x:= .cells true Bq (CM (List.replicate 8 0))) hw2)
 have hla4:=(hla2.new (y:= .cells true Bq (CM (List.replicate 8 0)))).upd_new (r:=A7 H2) (y:= .cells true Bq (CM s.l)) (by omega)
 generalize upd ((A7 H2,.cells true Bq (CM (List.replicate 8 0)))::H2) (A7 H2) (.cells true Bq (CM s.l))=H4 at hn4 hr4 hw4 hla4
 have hg:∀K:AV→Am,Ap BE (AV.iptr gl0) H4 K=K (arr kk):= λK=>by kernel_rfl
 rw[hg]
 refine C1F (n:=n+1) (ws:=K3 l 48) (s0:=s) (H0:=H) (by rw[Oh]) hL (NV _) (by omega) (by omega) ?_ L 0 true _ true _ H4 (by omega) (by omega) hr4 hn4 hla4 hw4
 intro q8 e8 H5 hr8 hla5 hw5
 have hr05:=hla5.keep hw s0 _ hr (λh=>h)
 refine C1G (a:=s.l) (b:=(Yh (K3 l 48) s 64).l) (H0:=H) rfl rfl (by omega) ?_ L 0 q8 e8 H5 (by omega) (by omega) hr05 hr8 ⟨hla5.wf,hla5.nx,λw t x ht _=>hla5.keep w t x ht (λh=>h)⟩ hw5
 intro H6 hr6 hla6 hw6
 exact hx H6 hr6 hla6 hw6
end
section
def Yx (l:List UInt8) (n:Nat):List UInt8:=l++List.replicate (n-l.length) 0
theorem B2R {l:List UInt8} {n:Nat} (h:l.length≤n):(Yx l n).length=n:=by simp[Yx];omega
theorem B2Q {l:List UInt8} {n k:Nat} (w:UInt8) (hk:l.length=k) (h:k<n):(JA (Yx l n)).set k (By w)=JA (Yx (l++[w]) n):=by
 subst hk
 have e:n-l.length=(n-(l.length+1))+1:=by omega
 simp[Yx,JA,e,l17,List.set_append_right]
theorem B0f {l:List UInt8} {n:Nat} (h:l.length=n):Yx l n=l:=by simp[Yx,h]
theorem B4B (w:BitVec 32) {j:Nat} (h:j<4):(wb w).take (j+1)=(wb w).take j++[UInt8.ofNat (w>>>(24-8*j)).toNat]:=by
 have:j=0∨j=1∨j=2∨j=3:=by omega
 rcases this with rfl|rfl|rfl|rfl<;>simp[wb,BitVec.toNat_ushiftRight,Nat.shiftRight_eq_div_pow]
theorem B80 (w:BitVec 32):(wb w).length=4:=rfl
variable {L n:Nat} {K:KV} {x:Am}
theorem C1s {k:AV→AV→AV→AV→AV→AV→Hp→Am} {w:BitVec 32} {b:List UInt8} {i r e:Nat} {q:Bool} {v51 v52:AV} (hi:i<8) (hb:b.length=4*i)
 (hx:∀H,Aw H r=some (.cells q e (JA (Yx (b++wb w) 32)))→k (.ptr r 0 0) (I i) (W w) v51 v52 (I 4) H=x):
 ∀(f j:Nat) (H:Hp),j≤4→4-j<f→Aw H r=some (.cells q e (JA (Yx (b++(wb w).take j) 32)))→FG L (rt L n) K k f (.ptr r 0 0) (I i) (W w) v51 v52 (I j) H=x:=by
 intro f
 induction f with
 |zero=>intro j H _ h;omega
 |succ f ih=>
  intro j H hj hf hr
  rw[Qn]
  unfold Ie Aq
  rw[Dj,DV]
  by_cases h:j<4
  ·rw[if_pos (by simp;omega)]
   have e1:(4:Int)*(i:Int)+(j:Int)=((4*i+j:Nat):Int):=by omega
   have e2:(24:Int)-8*(j:Int)=((24-8*j:Nat):Int):=by omega
   simp(disch:=omega) only[Ni,Co,GN,Ca,e1,e2,A2V,He (z:=((24-8*j:Nat):Int)) (k:=24-8*j) rfl (by omega)]
   have hl:(b++(wb w).take j).length=4*i+j:=by rw[F5,hb,l0g,B80];omega
   rw[Dx (4*i+j) rfl rfl (by omega),E9 hr (by rw[MO,B2R (by omega)];omega) rfl rfl rfl,B2Q _ hl (by omega),l0k,←B4B w h,Of]
   exact ih (j+1) _ (by omega) (by omega) (A8 hr)
  ·rw[if_neg (by simp;omega)]
   have:j=4:=by omega
   subst this
   exact hx _ hr
theorem C1t {k:AV→Hp→Am} {s:S8} {r e:Nat} {q:Bool} {w0 w1 w5:AV} (hL:10<L) (hx:∀H,Aw H r=some (.cells q e (JA (Th s.l 8)))→k (.ptr r 0 0) H=x):
 ∀(f i:Nat) (w0 w1 w5:AV) (H:Hp),i≤8→8-i<f→Aw H r=some (.cells q e (JA (Yx (Th s.l i) 32)))→FH L (rt L n) K k f (.ptr r 0 0) w0 w1 (arr s.l) (I i) w5 H=x:=by
 intro f
 induction f with
 |zero=>intro i _ _ _ H _ h;omega
 |succ f ih=>
  intro i w0 w1 w5 H hi hf hr
  rw[Qo]
  unfold Ig Aq
  rw[Dj,DV]
  by_cases h:i<8
  ·rw[if_pos (by simp;omega)]
   simp only[Cm]
   unfold arr
   rw[A9k i rfl rfl rfl h (by show 8≤8;decide),JD (show i<s.l.length from h)]
   refine C1s (b:=Th s.l i) h (Tg _ _) ?_ L 0 H (by omega) (by omega) (by simpa using hr)
   intro H hr
   rw[Co,Ca (by omega) (by omega),Of]
   exact ih (i+1) _ _ _ H (by omega) (by omega) hr
  ·rw[if_neg (by simp;omega)]
   have:i=8:=by omega
   subst this
   rw[B0f (Tg _ _)] at hr
   exact hx _ hr
theorem B24 {s:S8} (hL:10<L):CS (rt L (n+1)) EN [arr s.l] (S (Th s.l 8)):=by
 intro K hK
 rw[QL]
 unfold I7 Aq
 simp only[Cm]
 unfold arr
 rw[EG (TH _),Ba (cs:=JA (Yx (Th s.l 0) 32)) rfl]
 have hr1:Aw ((A7 [(A7 [],Row.cells true Bq (CM s.l))],Row.cells true Ro (JA (Yx (Th s.l 0) 32)))::[(A7 [],Row.cells true Bq (CM s.l))]) (A7 [])=some (.cells true Bq (CM s.l)):=id rfl
 rw[Bf rfl rfl hr1]
 refine C1t (w0:= .dk) (w1:= .dk) (w5:= .dk) hL ?_ L 0 _ _ _ _ (by omega) (by omega) (A0 (by simp))
 intro H hr
 have hl:(JA (Th s.l 8)).length=32:=by rw[MO,Tg]
 rw[A7Q 0 32 (λK=>rfl) (λK=>rfl) hr (by omega) (by decide) (by decide),A9m (e:=Ro) (.inr ⟨_,_,rfl,hr,by omega⟩)]
 exact hK _ _ (λb=>⟨false,E1⟩)
end
section
theorem B0I {t:TI} {e r o m:Nat} {x y z:Int} (a b c:Nat) {K:AV→Am} (hd:t.d= .slice e 1) (hx:x=a) (hy:y=b) (hz:z=c) (h1:a≤b) (h2:b≤c) (h3:c≤m):Ei t (.sl 1 r o m) (some (I x)) (some (I y)) (some (I z)) K=K (.sl 1 r (o+a) (b-a)):=by
 subst hx hy hz
 have e1:Ei t (.sl 1 r o m) (some (I a)) (some (I b)) (some (I c)) K=iN (a:Int) λl=>iN (b:Int) λh=>iN (c:Int) λx=>ck (Nat.ble l h&&(Nat.ble h x&&Nat.ble x m)) (fN (Nat.add o (Nat.mul l 1)) λo'=>fN (Nat.sub h l) λn=>K (.sl 1 r o' n)):=by
  obtain⟨_,_,d,z⟩:=t;simp only at hd;subst hd;rfl
 rw[e1,JM,JM,JM]
 have f1:(Nat.ble a b&&(Nat.ble b c&&Nat.ble c m))=true:=by simp only[Iv,Xu];omega
 have f2:Nat.add o (Nat.mul a 1)=o+a:=by show o+a*1=_;omega
 rw[f1,f2,DX,DX];rfl
theorem A7O {t:TI} {e r o m:Nat} {x:Int} (a:Nat) {K:AV→Am} (hd:t.d= .slice e 1) (hx:x=a) (h1:a≤m):Ei t (.sl 1 r o m) (some (I x)) none none K=K (.sl 1 r (o+a) (m-a)):=by
 subst hx
 have e1:Ei t (.sl 1 r o m) (some (I a)) none none K=iN (a:Int) λl=>fN m λh=>fN m λx=>ck (Nat.ble l h&&(Nat.ble h x&&Nat.ble x m)) (fN (Nat.add o (Nat.mul l 1)) λo'=>fN (Nat.sub h l) λn=>K (.sl 1 r o' n)):=by
  obtain⟨_,_,d,z⟩:=t;simp only at hd;subst hd;rfl
 rw[e1,JM,DX,DX]
 have f1:(Nat.ble a m&&(Nat.ble m m&&Nat.ble m m))=true:=by simp only[Iv,Xu];omega
 have f2:Nat.add o (Nat.mul a 1)=o+a:=by show o+a*1=_;omega
 rw[f1,f2,DX,DX];rfl
theorem C1m {x y:Int} (h:x≤y) {K:AV→Am}:eMM true (I x) (I y) K=K (I x):=by
 have:eMM true (I x) (I y) K=ck (decide (IntKind.i64=IntKind.i64)) (@Bool.rec (λ_=>Am) (K (I y)) (K (I x)) (YL x y)):=rfl
 rw[this,Jc,decide_eq_true h];rfl
theorem B6S {ty sz r o m:Nat} {H:Hp} {K:KV}:Dg ty (.sl sz r o m) H K=K (.ptr (A7 H) 0 0) ((A7 H,.cells true ty [.sl sz r o m])::H):=by
 unfold Dg
 rw[Dq,G9,Cg];rfl
theorem A2S {b:Bool} {K:AV→Am}:EP .not (Bo b) K=K (Bo (!b)):=by cases b<;>rfl
variable {L n:Nat} {K:KV} {x:Am}
def lpS (c0 c2 c3 c4 c5 c6 c34 c35 c36:AV) (p:Option (Option Code)):Row:= .loop 40 [(0,c0),(2,c2),(3,c3),(4,c4),(5,c5),(6,c6),(34,c34),(35,c35),(36,c36)] (DS).2.1 (DS).2.2.1 (DS).2.2.2 p
theorem B5A {c0 c2 c4 c5 c6 c34 c35 c36 c:AV} {H:Hp} {s r0:Nat} {q0:Bool} {e0:Nat} {t:S8} {l:List UInt8} (hl:l.length=64) (hL:100<L) (hw:Wf H) (hr:Aw H r0=some (.cells q0 e0 (CM t.l))) (hc:Chk H c l) (hs:Aw H s=some (lpS c0 c2 (.ptr r0 0 0) c4 c5 c6 c34 c35 c36 (some none))) (hcs:∀s',Bh c s'→s'≠s) (h0s:r0≠s)
 (hx:∀H',Aw H' r0=some (.cells q0 e0 (CM (blk t l).l))→Aw H' s=some (lpS c0 c2 (.ptr r0 0 0) c4 c5 c6 c34 c35 c36 (some none))→(∀u y,Aw H u=some y→u≠r0→u≠s→Aw H' u=some y)→Wf H'→K (Bo true) H'=x):
 Em (E L) (rt L (n+5)) (.yl s) [c] H K=x:=by
 show SM (rt L (n+5)) s [c] H K=x
 rw[A2c hs (by kernel_rfl)]
 have hrun:(rt L (n+5)).run= λcf=>Vk (E L) (rt L (n+4)) cf:=rfl
 rw[hrun,Yu,A2w hs]
 have hw1:=C7 (r:=s) (y:=lpS c0 c2 (.ptr r0 0 0) c4 c5 c6 c34 c35 c36 none) hw
 have hr1:Aw (upd H s (lpS c0 c2 (.ptr r0 0 0) c4 c5 c6 c34 c35 c36 none)) r0=some (.cells q0 e0 (CM t.l)):=by rw[As h0s];exact hr
 have hs1:Aw (upd H s (lpS c0 c2 (.ptr r0 0 0) c4 c5 c6 c34 c35 c36 none)) s=some (lpS c0 c2 (.ptr r0 0 0) c4 c5 c6 c34 c35 c36 none):=RU hs
 have hc1:Chk (upd H s (lpS c0 c2 (.ptr r0 0 0) c4 c5 c6 c34 c35 c36 none)) c l:=by
  rcases hc with h|⟨r,o,q,e,cs,h1,h2,h3,h4⟩
  ·exact .inl h
  ·refine .inr ⟨r,o,q,e,cs,h1,?_,h3,h4⟩
   rw[As (hcs r ⟨_,_,_,h1⟩)];exact h2
 refine C4b hl hL hw1 hr1 hc1 ?_
 intro H' ha hb hc
 have hs2:=hb.keep hw1 s _ hs1 (λh=>h0s h.symm)
 show Gf H' s false (some none) _=_
 unfold lpS at hs2
 rw[A2v hs2]
 refine hx _ ?_ (RU hs2) ?_ (C7 hc)
 ·rw[As h0s];exact ha
 ·intro u y hu h1 h2
  rw[As h2]
  refine hb.keep hw1 u y ?_ h1
  rw[As h2];exact hu
theorem C1d {k:Hp→Am} {c0 c2 c4 c5 c6 c34 c35 c36:AV} {s r0 r1 r2 rm m e1 e2 em:Nat} {q0 q1 q2 qm:Bool} {e0:Nat} {l:List UInt8} (hL:100<L) (hm:l.length=64*m) (hl:l.length<200000000000)
 (d0:r0≠s) (d1:r1≠s) (d2:r2≠s) (dm:rm≠s) (d10:r1≠r0) (d20:r2≠r0) (dm0:rm≠r0)
 (hx:∀H,Aw H r0=some (.cells q0 e0 (CM (Vd l m).l))→Aw H s=some (lpS c0 c2 (.ptr r0 0 0) c4 c5 c6 c34 c35 c36 (some none))→Wf H→k H=x):
 ∀(f i:Nat) (H:Hp),i≤m→m-i<f→Aw H r0=some (.cells q0 e0 (CM (Vd l i).l))→Aw H s=some (lpS c0 c2 (.ptr r0 0 0) c4 c5 c6 c34 c35 c36 (some none))→
  Aw H r1=some (.cells q1 e1 [.sl 1 rm 0 l.length])→Aw H r2=some (.cells q2 e2 [I 64])→Aw H rm=some (.cells qm em (JA l))→Wf H→
  CW L (rt L (n+5)) K k f (.yl s) (.ptr r1 0 0) (.ptr r2 0 0) (I ((64*i:Nat):Int)) H=x:=by
 intro f
 induction f with
 |zero=>intro i H _ h;omega
 |succ f ih=>
  intro i H hi hf h0 hs h1 h2 hrm hw
  rw[JG]
  unfold Eg
  have l1:∀K,Ap A6 (.ptr r1 0 0) H K=K (.sl 1 rm 0 l.length):= λK=>AW (p:=0) rfl h1 (by simp)
  have l2:∀K,Ap Ab (.ptr r2 0 0) H K=K (I 64):= λK=>AW (p:=0) rfl h2 (by decide)
  have ln:∀k o K,AM A6 (.sl 1 rm o k) K=K (I k):= λ_ _ _=>id rfl
  rw[l1,ln,Dj,DV]
  by_cases h:i<m
  ·rw[if_pos (by simp;omega)]
   have e3:∀K,Ei A6 (.sl 1 rm 0 l.length) (some (I ((64*i:Nat):Int))) none none K=K (.sl 1 rm (0+64*i) (l.length-64*i)):= λK=>A7O _ rfl rfl (by omega)
   have e4:((64*i:Nat):Int)+64=((64*(i+1):Nat):Int):=by omega
   have e5:∀K,Ei A6 (.sl 1 rm 0 l.length) (some (I ((64*i:Nat):Int))) (some (I ((64*(i+1):Nat):Int))) (some (I ((64*(i+1):Nat):Int))) K=K (.sl 1 rm (0+64*i) (64*(i+1)-64*i)):= λK=>B0I _ _ _ rfl rfl rfl rfl (by omega) (by omega) (by omega)
   have e6:64*(i+1)-64*i=64:=by omega
   simp(disch:=omega) only[Ly,l1,l2,e3,ln,C1m,Co,Ca,e4,e5,e6,Le]
   refine B5A (l:=(l.drop (64*i)).take 64) (by simp;omega) hL hw h0 (.inr ⟨rm,64*i,qm,em,JA l,?_,hrm,?_,?_⟩) hs ?_ d0 ?_
   ·have:((l.drop (64*i)).take 64).length=64:=by simp;omega
    rw[this]
   ·have:((l.drop (64*i)).take 64).length=64:=by simp;omega
    rw[this,MO];omega
   ·have:((l.drop (64*i)).take 64).length=64:=by simp;omega
    rw[this];unfold JA;rw[List.map_take,List.map_drop]
   ·rintro s' ⟨_,_,_,hh⟩
    injection hh with _ hh
    subst hh;exact dm
   ·intro H' h0' hs' hk hw'
    have l2':∀K,Ap Ab (.ptr r2 0 0) H' K=K (I 64):= λK=>AW (p:=0) rfl (hk r2 _ h2 d20 d2) (by decide)
    rw[A2S,DV,if_neg (by simp),l2',Co,Ca (by omega) (by omega),e4]
    exact ih (i+1) H' (by omega) (by omega) h0' hs' (hk r1 _ h1 d10 d1) (hk r2 _ h2 d20 d2) (hk rm _ hrm dm0 dm) hw'
  ·rw[if_neg (by simp;omega)]
   have:i=m:=by omega
   subst this
   exact hx _ h0 hs hw
end
section
variable {L n:Nat} {K:KV} {x:Am}
theorem B4e {H:Hp} {v:AV} {l:List UInt8} {r0:Nat} {y:Row} (b:UInt8) (h:B3 H AS 1 v l.length (JA l)) (w:Wf H) (hn:l.length<1000000000000) (h0:Aw H r0=some y) (hd:¬Bh v r0):
 ∃v' H',(∀K:KV,(Fp AS 1 AD 1 [(0,1,By b)] H λv1 H1=>Ea AS 1 AD A6 v v1 H1 K)=K v' H')∧B3 H' AS 1 v' (l++[b]).length (JA (l++[b]))∧Wf H'∧Aw H' r0=some y∧¬Bh v' r0:=by
 obtain⟨v',H',h1,h2,h3,h4,h5,h6⟩:=B4f b h w hn
 exact⟨v',H',h1,h2,h3,h5 r0 y h0 hd,λhh=>by have:=h6 r0 hh;have:=w.lt h0;omega⟩
theorem C2x {k:AV→AV→AV→AV→AV→AV→AV→AV→Hp→Am} {s:List UInt8} {r0:Nat} {y:Row} {w0 w1 w2 w4 w5 w6 w7 w8:AV} (hs:s.length<100000000000) (hx:∀v H,B3 H AS 1 v (pre s).length (JA (pre s))→Wf H→Aw H r0=some y→¬Bh v r0→k w0 w1 w2 v w5 w6 w7 w8 H=x):
 ∀(f j:Nat) (v:AV) (H:Hp),j≤Vm s.length→Vm s.length-j<f→B3 H AS 1 v (s++[128]++List.replicate j 0).length (JA (s++[128]++List.replicate j 0))→Wf H→Aw H r0=some y→¬Bh v r0→
  MM L (rt L n) K k f w0 w1 w2 v w4 w5 w6 w7 w8 H=x:=by
 intro f
 induction f with
 |zero=>intro j v H _ h;omega
 |succ f ih=>
  intro j v H hj hf hv hw h0 hd
  rw[YP]
  unfold Qp Aq
  have hlen:(s++[128]++List.replicate j (0:UInt8)).length=s.length+1+j:=by simp;omega
  have hz:Vm s.length<64:=by unfold Vm;omega
  rw[IJ rfl hv,T9 (by decide),F8,DV]
  have hm:((s++[128]++List.replicate j (0:UInt8)).length:Int).tmod 64=(((s.length+1+j)%64:Nat):Int):=by rw[hlen];exact(Int.ofNat_tmod _ _).symm
  rw[hm]
  by_cases h:j=Vm s.length
  ·subst h
   have:(s.length+1+Vm s.length)%64=56:=by unfold Vm;omega
   rw[this]
   simp only[l14,decide_eq_false_iff_not]
   rw[if_neg (by simp)]
   exact hx _ _ hv hw h0 hd
  ·have hne:(s.length+1+j)%64≠56:=by unfold Vm at h hj;omega
   rw[if_pos (by simp;omega)]
   obtain⟨v',H',h1,h2,h3,h4,h5⟩:=B4e (0:UInt8) hv hw (by omega) h0 hd
   have e:(AV.v (.int .u8 0))=By 0:=rfl
   rw[e]
   rw[h1]
   refine ih (j+1) v' H' (by omega) (by omega) ?_ h3 h4 h5
   rw[List.replicate_succ',←l0k]
   exact h2
theorem C2y {k:AV→AV→AV→AV→AV→AV→AV→AV→Hp→Am} {s:List UInt8} {r0:Nat} {y:Row} {w1 w2 w5 w6 w7 w8:AV} (hs:s.length<100000000000) (hx:∀v w H,B3 H AS 1 v (ext s).length (JA (ext s))→Wf H→Aw H r0=some y→¬Bh v r0→k (S s) w1 w2 v w w5 w7 w8 H=x):
 ∀(f i:Nat) (l:List UInt8) (v:AV) (H:Hp),i≤8→i<f→l++XA7 s.length i=ext s→B3 H AS 1 v l.length (JA l)→Wf H→Aw H r0=some y→¬Bh v r0→
  JP L (rt L n) K k f (S s) w1 w2 v (I ((i:Int)-1)) w5 w6 w7 w8 H=x:=by
 have hz:Vm s.length<64:=by unfold Vm;omega
 intro f
 induction f with
 |zero=>intro i l v H _ h;omega
 |succ f ih=>
  intro i l v H hi hf hl hv hw h0 hd
  have hll:l.length≤s.length+1+64+8:=by
   have:=congrArg List.length hl
   simp[ext,pre,A2p] at this
   omega
  rw[YQ]
  unfold Qq Aq
  rw[Lx,DV]
  cases i with
  |zero=>
   rw[if_neg (by simp)]
   have:l=ext s:=by simpa [XA7] using hl
   subst this
   exact hx _ _ _ hv hw h0 hd
  |succ i=>
   rw[if_pos (by simp)]
   have e1:((i+1:Nat):Int)-1=(i:Int):=by omega
   rw[e1]
   rw[Mr rfl,Ni,Ni,Ca (by omega) (by omega),Ca (by omega) (by omega)]
   have e2:(8:Int)*(s.length:Int)=((8*s.length:Nat):Int):=by omega
   have e3:(8:Int)*(i:Int)=((8*i:Nat):Int):=by omega
   rw[e2,e3,A1a (by omega)]
   rw[A5X rfl]
   obtain⟨v',H',h1,h2,h3,h4,h5⟩:=B4e (US s.length i) hv hw (by omega) h0 hd
   simp(disch:=omega) only[GN,Ca]
   have h1:=h1 (λv37 H36=>JP L (rt L n) K k f (S s) w1 w2 v37 (I ((i:Int)-1)) w5 w6 w7 w8 H36)
   unfold US at h1
   rw[h1]
   refine ih i (l++[US s.length i]) v' H' (by omega) (by omega) ?_ h2 h3 h4 h5
   rw[l0k]
   exact hl
theorem A8E {R:Rt} {N g:Nat} {cap:List AV} {t:Tm} {ps:Array Tmp} {as' bd:Code} {H:Hp} {K:Option (Option Code)→Hp→Am}:WN R N (.fn (.func g) [] cap) t ps as' bd H K=R.call g (.yl (A7 H)::cap) ((A7 H,.loop N t ps as' bd (some none))::H) λ_ H2=>Lf H2 (A7 H) λx=>Up x λ_ _ _ _ _ pend=>Qf H2 (A7 H) .gone λH3=>K pend H3:=by
 have e:WN R N (.fn (.func g) [] cap) t ps as' bd H K=Ij H λs=>R.call g (.yl s::cap) ((s,.loop N t ps as' bd (some none))::H) λ_ H2=>Lf H2 s λx=>Up x λ_ _ _ _ _ pend=>Qf H2 s .gone λH3=>K pend H3:=rfl
 rw[e,Cg]
theorem C2I {s:List UInt8} (hs:s.length<100000000000) (hL:s.length+200<L):CS (rt L (n+8)) NQ [S s] (S (sha s)):=by
 intro K hK
 rw[A0w]
 unfold RL Aq
 simp only[Cm]
 have hiv:∀K:AV→Am,Bg AB [(0,1,(AV.v (.int .u32 1779033703))),(1,1,(AV.v (.int .u32 3144134277))),(2,1,(AV.v (.int .u32 1013904242))),(3,1,(AV.v (.int .u32 2773480762))),(4,1,(AV.v (.int .u32 1359893119))),(5,1,(AV.v (.int .u32 2600822924))),(6,1,(AV.v (.int .u32 528734635))),(7,1,(AV.v (.int .u32 1541459225)))] K=K (.agg (CM iv.l)):= λK=>by kernel_rfl
 rw[hiv,Ba (cs:=CM (List.replicate 8 0)) rfl]
 have hn0:=A0 (H:=[]) (x:= .cells true Bq (CM (List.replicate 8 0))) (by simp)
 rw[B0 (vs:=CM iv.l) hn0 rfl rfl (TH _)]
 have hr0:=A8 (q:=true) (e:=Bq) (cs:=CM iv.l) hn0
 have hw0:=C7 (r:=A7 []) (y:= .cells true Bq (CM iv.l)) (BP (x:= .cells true Bq (CM (List.replicate 8 0))) Fw)
 generalize upd ((A7 [],.cells true Bq (CM (List.replicate 8 0)))::[]) (A7 []) (.cells true Bq (CM iv.l))=H0 at hr0 hw0
 have hs2b:∀K:KV,B0J AS (S s) H0 K=K (.sl 1 (A7 H0) 0 s.length) ((A7 H0,.cells false AS (JA s))::H0):= λK=>by
  have e:B0J AS (S s) H0 K=Hw s 0 λn=>Va s λcs=>Ij H0 λr=>K (.sl 1 r 0 n) ((r,.cells false AS cs)::H0):=rfl
  rw[e,C4,TT,Cg,Le];rfl
 rw[hs2b]
 have hlt:=hw0.lt hr0
 have hr1:=Bn (x:= .cells false AS (JA s)) hlt hr0
 have hw1:=BP (x:= .cells false AS (JA s)) hw0
 have hv1:=Og (H:=H0) (e:=AS) (n:=s.length) (cs:=JA s) (MO s)
 have e:(AV.v (.int .u8 128))=By 128:=rfl
 obtain⟨v',H',h1,h2,h3,h4,h5⟩:=B4e (128:UInt8) hv1 hw1 (by omega) hr1 (λ⟨_,_,_,hh⟩=>by injection hh with _ hh;omega)
 rw[e,h1]
 have hz:Vm s.length<64:=by unfold Vm;omega
 refine C2x hs ?_ L 0 v' H' (by omega) (by omega) (by simpa using h2) h3 h4 h5
 intro v H hv hw hr hd
 refine C2y hs ?_ L 8 (pre s) v H (by omega) (by omega) rfl hv hw hr hd
 intro v w H hv hw hr hd
 obtain⟨m,hm,hm2⟩:=A9e s
 rcases hv with⟨_,h,_⟩|⟨rm,qm,rfl,hrm,hlm⟩
 ·simp[ext] at h
 have hdm:rm≠A7 []:= λh=>hd ⟨_,_,_,by rw[h]⟩
 rw[MP]
 unfold FB Aq
 simp only[Cm]
 rw[B6S,B3U rfl]
 have hr2:=Bn (x:= .cells true Kc [.sl 1 rm 0 (ext s).length]) (hw.lt hr) hr
 have hrm2:=Bn (x:= .cells true Kc [.sl 1 rm 0 (ext s).length]) (hw.lt hrm) hrm
 have hb2:=A0 (H:=H) (x:= .cells true Kc [.sl 1 rm 0 (ext s).length]) (by simp)
 have hw2:=BP (x:= .cells true Kc [.sl 1 rm 0 (ext s).length]) hw
 have a1:=hw.lt hr
 have a2:=hw.lt hrm
 have a3:=hw2.lt hb2
 generalize ((A7 H,Row.cells true Kc [.sl 1 rm 0 (ext s).length])::H)=Ha at hr2 hrm2 hb2 hw2 a3
 have hr3:=Bn (x:= .cells true CK [I 64]) (hw2.lt hr2) hr2
 have hrm3:=Bn (x:= .cells true CK [I 64]) (hw2.lt hrm2) hrm2
 have hb3:=Bn (x:= .cells true CK [I 64]) (hw2.lt hb2) hb2
 have hc3:=A0 (H:=Ha) (x:= .cells true CK [I 64]) (by simp)
 have hw3:=BP (x:= .cells true CK [I 64]) hw2
 have a4:=hw2.lt hr2
 have a5:=hw2.lt hrm2
 have a6:=hw3.lt hc3
 generalize ((A7 Ha,Row.cells true CK [I 64])::Ha)=Hb at hr3 hrm3 hb3 hc3 hw3 a6
 have l2:∀K,Ap Ab (.ptr (A7 Ha) 0 0) Hb K=K (I 64):= λK=>AW (p:=0) rfl hc3 (by decide)
 rw[l2,Dj,DV,if_neg (by decide),A8E,Km]
 unfold Et Aq
 simp only[Cm]
 have a7:=hw3.lt hr3
 have a8:=hw3.lt hrm3
 have a9:=hw3.lt hb3
 refine C1d (n:=n+1) (m:=m) (l:=ext s) (s:=A7 Hb) (r0:=A7 []) (r1:=A7 H) (r2:=A7 Ha) (rm:=rm) (by omega) hm (by omega) (by omega) (by omega) (by omega) (by omega) (by omega) (by omega) hdm ?_ L 0 _ (by omega) (by omega) (Bn a7 hr3) (A0 (x:=lpS (S s) (AV.v (.string ⟨⟨[]⟩⟩)) (.ptr (A7 []) 0 0) (.sl 1 rm 0 (ext s).length) _ _ _ _ _ (some none)) (by simp[lpS])) (Bn a9 hb3) (Bn a6 hc3) (Bn a8 hrm3) (BP hw3)
 intro H4 h0 hs4 hw4
 rw[C6 hs4]
 show Qf H4 (A7 Hb) .gone _=_
 rw[Ez]
 show Ap AB (.ptr (A7 []) 0 0) (upd H4 (A7 Hb) .gone) _=_
 have h0':Aw (upd H4 (A7 Hb) .gone) (A7 [])=some (.cells true Bq (CM (Vd (ext s) m).l)):=by rw[As (by omega)];exact h0
 rw[Bf rfl rfl h0']
 have hsd:∀K,Ah (rt L (n+7)) EN [.agg (CM (Vd (ext s) m).l)] (upd H4 (A7 Hb) .gone) K=K (S (Th (Vd (ext s) m).l 8)):= λK=>AZ (B24 (L:=L) (n:=n+6) (by omega)) (Ay (OH (J6 (λx:BitVec 32=>Value.int .u32 (x.toNat:Int)) _)) Bl)
 show Ah (rt L (n+7)) EN [.agg (CM (Vd (ext s) m).l)] (upd H4 (A7 Hb) .gone) _=_
 rw[hsd]
 have e:Th (Vd (ext s) m).l 8=sha s:=by
  unfold sha
  have:(ext s).length/64=m:=by omega
  rw[this]
 rw[e]
 exact hK _ _ (λb=>⟨false,E1⟩)
end
end Go.Abs
end
